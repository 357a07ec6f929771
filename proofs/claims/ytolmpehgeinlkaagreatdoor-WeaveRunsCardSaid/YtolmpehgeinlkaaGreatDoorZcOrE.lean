/- The document's operation: Next, Gap; a word at a phase; the kinds four, seq. -/
import Derived.Test.YtolmpehgeinlkaaGreatDoorZcOrD
namespace Go.Proofs.YtolmpehgeinlkaaGreatDoor
open Go.RowKit
open Go.Lib (hid)
attribute [local go_sem] Oper.semAt_some
set_option maxHeartbeats 1000000
set_option maxRecDepth 100000
abbrev QOrE0 (a0:Nat) (a1:Kc) (w':World):Prop:=w'.cell? ⟨a0,16,none⟩=some (.int .u32 a1.A)∧w'.cell? ⟨a0,17,none⟩=some (.int .u32 a1.B)
abbrev QOrE1 (a0:Nat) (a1:Kc) (a2 a3:Nat) (a4:Int) (w':World):Prop:=w'.cell? ⟨a0,16,none⟩=some (.int .u32 a1.A)∧w'.cell? ⟨a2,a3,none⟩=some (.int .u32 a4)
theorem sh_wrap64 {z:Int} (h0:0≤z) (h1:z<18446744073709551616):IntKind.u64.wrap z=z:=by
 simp only[IntKind.wrap,IntKind.signed,IntKind.bits];simp;omega
theorem step01 (a m:Int) (w:World) (ha:0≤a∧a<4294967296) (hm:0<m∧m<4294967296):Calls Tryz.prog 155 #[.int .u32 a,.int .u32 1,.int .u32 m] w fun e w'=>e=.returned (.int .u32 (Kc.incR a m))∧w'=w:=by
 obtain⟨ha0,ha1⟩:=ha;obtain⟨hm0,hm1⟩:=hm;have m0:(m==0)=false:=by simp;omega
 have m1:¬ m=0:=by omega
 have e1:IntKind.u64.wrap a=a:=sh_wrap64 (by omega) (by omega);have e2:IntKind.u64.wrap (a+1)=a+1:=sh_wrap64 (by omega) (by omega);have e3:IntKind.u64.wrap m=m:=sh_wrap64 (by omega) (by omega);have t1:(a+1).tmod m=(a+1)%m:=Int.tmod_eq_emod_of_nonneg (by omega);have q0:=Int.emod_nonneg (a+1) m1;have q1:=Int.emod_lt_of_pos (a+1) hm0;have e4:IntKind.u64.wrap ((a+1)%m)=(a+1)%m:=sh_wrap64 q0 (by omega);have e5:IntKind.u32.wrap ((a+1)%m)=(a+1)%m:=sh_wrap32 q0 (by omega);have e6:IntKind.u64.wrap 1=1:=by decide
 unfold Kc.incR;go_enter Tryz.func155,Tryz.ntmps155;go_wp2_with fail;go_ret;exact⟨rfl,rfl⟩
theorem next01 (a m:Int) (w:World) (ha:0≤a∧a<4294967296) (hm:0<m∧m<4294967296):Calls Tryz.prog 130 #[.int .u32 a,.int .u32 m] w fun e w'=>e=.returned (.int .u32 (Kc.incR a m))∧w'=w:=by
 have HST:=hid fun W=>step01 a m W ha hm
 clear ha hm;go_enter Tryz.func130,Tryz.ntmps130;go_wp2_with fail;refine(HST.out _).mono ?_;rintro e w1 ⟨rfl,rfl⟩;go_wp2_with fail;go_ret;exact⟨rfl,rfl⟩
theorem gap01 (a b m:Int) (w:World) (ha:0≤a∧a<4294967296) (hb:0≤b∧b<4294967296) (hm:0<m∧m<4294967296):Calls Tryz.prog 131 #[.int .u32 a,.int .u32 b,.int .u32 m] w fun e w'=>e=.returned (.int .u32 (Kc.gapR a b m))∧Below w.heap.size w w':=by
 obtain⟨ha0,ha1⟩:=ha;obtain⟨hb0,hb1⟩:=hb;obtain⟨hm0,hm1⟩:=hm;have m0:(m==0)=false:=by simp;omega
 have m1:¬ m=0:=by omega
 have t1:a.tmod m=a%m:=Int.tmod_eq_emod_of_nonneg ha0;have t2:b.tmod m=b%m:=Int.tmod_eq_emod_of_nonneg hb0;have a0:=Int.emod_nonneg a m1;have a1:=Int.emod_lt_of_pos a hm0;have b0:=Int.emod_nonneg b m1;have b1:=Int.emod_lt_of_pos b hm0;have e1:IntKind.u32.wrap (a%m)=a%m:=sh_wrap32 a0 (by omega);have e2:IntKind.u32.wrap (b%m)=b%m:=sh_wrap32 b0 (by omega);have e3:IntKind.u64.wrap (a%m)=a%m:=sh_wrap64 a0 (by omega);have e4:IntKind.u64.wrap (b%m)=b%m:=sh_wrap64 b0 (by omega);have e5:IntKind.u64.wrap m=m:=sh_wrap64 (by omega) (by omega);have e6:IntKind.u64.wrap (b%m+m)=b%m+m:=sh_wrap64 (by omega) (by omega);have e7:IntKind.u64.wrap (b%m+m - a%m)=b%m+m - a%m:=sh_wrap64 (by omega) (by omega);have t3:(b%m+m - a%m).tmod m=(b%m+m - a%m)%m:=Int.tmod_eq_emod_of_nonneg (by omega);have q0:=Int.emod_nonneg (b%m+m - a%m) m1;have q1:=Int.emod_lt_of_pos (b%m+m - a%m) hm0;have e8:IntKind.u64.wrap ((b%m+m - a%m)%m)=(b%m+m - a%m)%m:=sh_wrap64 q0 (by omega);have e9:IntKind.u32.wrap ((b%m+m - a%m)%m)=(b%m+m - a%m)%m:=sh_wrap32 q0 (by omega);unfold Kc.gapR;obtain⟨Q,hQ⟩:∃ x,(b%m+m - a%m)%m=x:=⟨_,rfl⟩;rw[hQ] at t3 q0 q1 e8 e9 ⊢;clear hQ;go_enter Tryz.func131,Tryz.ntmps131;go_wp2_with fail;have HBd:=hid (Below.refl w.heap.size w).drew;refine rgn (S:=(fun _:World=>True)) (trivial) fun wd hw9 hHeld=>?_
 rw[hw9] at HBd;clear hw9;refine tk4 0 1 2 3 ?_;refine tk4 4 5 6 7 ?_;refine tk4 8 9 10 11 ?_;refine tk4 12 13 14 15 ?_;refine tkH 16 ?_;refine dnH ?_;go_wp2_with fail;go_ret;exact⟨rfl,HBd.out⟩
section
variable (yb lb cap:Nat) (o:Ob) (c:Kc) (rv:Value) (l:List Int)
theorem word_go_AB (frm q:Nat):(c.word l frm (·.go q)).1.A=c.A∧(c.word l frm (·.go q)).1.B=c.B:=by
 rw[Kc.word_eq]
 split <;> exact⟨rfl,rfl⟩
theorem word_fin_AB (frm:Nat):(c.word l frm (·.fin 0)).1.A=c.A∧(c.word l frm (·.fin 0)).1.B=c.B:=by
 rw[Kc.word_eq]
 split <;> exact⟨rfl,rfl⟩
theorem word_rgo (B LL CC:Nat) (z:Int) (Hd frm:Nat) (q:Nat) (w:World) (h:SR w yb lb cap o c rv l) (hBB:c.base=B) (hLL:B+LL=l.length) (hk:isK o.k=true) (hH:headZ o=(Hd:Int)) (hH5:Hd≤5) (hz:0≤z∧z≤20) (hfrm:frm=Hd+z.toNat*c.wd) (hj:frm+c.i<LL) (hi2:c.i<1000) (hwi:c.wr=true→c.i<c.rc.length) (hrl:c.rc.length≤1000000):
  Calls Tryz.prog 125 #[.pointer (some ⟨yb,0,none⟩),.slice (some ⟨lb,B,none⟩) LL CC,.int .u32 z,.int .i64 (q:Int)] w (DidR yb lb cap o w rv (c.word l frm (·.go q)).1 (c.word l frm (·.go q)).2 (.tuple #[])):=by
 rw[Kc.word_eq];have eq:c.wdone (q:Int) (c.wst l frm)=if c.wd≤c.i+1 then (fun x:Kc=>x.go q) (c.wst l frm) else c.wst l frm:=by unfold Kc.wdone Kc.wend;rw[if_neg (show ¬ (q:Int)<0 by omega)];rfl
 cases hwr:c.wr
 ·have hh:=word_r_r yb lb cap o c rv l B LL CC z Hd frm (q:Int) w h hBB hLL hk hH hH5 hz hfrm hj hi2 hwr hrl;rw[eq] at hh;exact hh
 ·have hh:=word_r_w yb lb cap o c rv l B LL CC z Hd frm (q:Int) w h hBB hLL hk hH hH5 hz hfrm hj hi2 hwr (hwi hwr);rw[eq] at hh;exact hh
theorem word_rfin (B LL CC:Nat) (z:Int) (Hd frm:Nat) (w:World) (h:SR w yb lb cap o c rv l) (hBB:c.base=B) (hLL:B+LL=l.length) (hk:isK o.k=true) (hH:headZ o=(Hd:Int)) (hH5:Hd≤5) (hz:0≤z∧z≤20) (hfrm:frm=Hd+z.toNat*c.wd) (hj:frm+c.i<LL) (hi2:c.i<1000) (hwi:c.wr=true→c.i<c.rc.length) (hrl:c.rc.length≤1000000):
  Calls Tryz.prog 125 #[.pointer (some ⟨yb,0,none⟩),.slice (some ⟨lb,B,none⟩) LL CC,.int .u32 z,.int .i64 (-1)] w (DidR yb lb cap o w rv (c.word l frm (·.fin 0)).1 (c.word l frm (·.fin 0)).2 (.tuple #[])):=by
 rw[Kc.word_eq];have eq:c.wdone (-1) (c.wst l frm)=if c.wd≤c.i+1 then (fun x:Kc=>x.fin 0) (c.wst l frm) else c.wst l frm:=by unfold Kc.wdone Kc.wend;rw[if_pos (show(-1:Int)<0 by decide)]
 cases hwr:c.wr
 ·have hh:=word_r_r yb lb cap o c rv l B LL CC z Hd frm (-1) w h hBB hLL hk hH hH5 hz hfrm hj hi2 hwr hrl;rw[eq] at hh;exact hh
 ·have hh:=word_r_w yb lb cap o c rv l B LL CC z Hd frm (-1) w h hBB hLL hk hH hH5 hz hfrm hj hi2 hwr (hwi hwr);rw[eq] at hh;exact hh
theorem r_four_w0 (B LL CC:Nat) (w:World) (h:SR w yb lb cap o c rv l) (hBB:c.base=B) (hLL:B+LL=l.length) (hk:isK o.k=true) (hph:c.ph=0) (hj:1<LL):Calls Tryz.prog 81 #[.pointer (some ⟨yb,0,none⟩),.slice (some ⟨lb,B,none⟩) LL CC] w (DidR yb lb cap o w rv (({ c with A:=Kc.one (c.rdm l 1) }:Kc).go 1) l (.tuple #[])):=by
 obtain⟨HS0,HM0,hfit,HF,HWD,HSL,HCP,HNR⟩:=h.start;have HLL:=hid (And.intro hBB hLL);have HKK:=hid hk;have HPH:=hid hph;clear h hfit hBB hLL hk hph;obtain⟨mz_0,gz_0,zb0,zb1⟩:=HS0.out.cellB HLL.out.1 HLL.out.2 (1) (hj);obtain⟨z,hz'⟩:∃ x,c.rdm l (1)=x:=⟨_,rfl⟩;rw[hz'] at mz_0 zb0 zb1;try rw[hz']
 have Hz':=hid hz';clear hz';have e1:IntKind.u32.wrap (z+1)=(z+1)%4294967296:=by simp[IntKind.wrap,IntKind.signed,IntKind.bits]
 have t1:((z+1)%4294967296).tmod 2=Kc.one z:=by
  rw[Int.tmod_eq_emod_of_nonneg (Int.emod_nonneg _ (by decide))];unfold Kc.one;omega
 have hone:=one_bd z;obtain⟨Z,hZ⟩:∃ x,Kc.one z=x:=⟨_,rfl⟩;rw[hZ] at t1 hone ⊢;have t2:IntKind.u32.wrap Z=Z:=sh_wrap32 (by omega) (by omega);clear hZ;have hL1:(1:Int)<(LL:Int):=by omega
 have hr0:=HS0.out.row;have c11_0:=hr0.ph 11 0 HPH;have c16_0:=hr0.at 16 (.int .u32 c.A);have f16_0:=hr0.frozen 16;clear hr0;go_enter Tryz.func81,Tryz.ntmps81;go_wp2_with fail;obtain⟨HS1,HM1⟩:=nxx (HS0.out.setA (Z) ⟨by omega,by omega⟩) HM0;refine(to_r yb lb cap o _ _ _ (1) 1 _ HS1.out rfl).mono (mvK HM1 fun w2 HS2 HM2=>?_);go_wp2_with fail
 go_end0
 exact⟨_,rfl,HS2.out,HM2.out⟩
theorem r_four_w1 (B LL CC:Nat) (w:World) (h:SR w yb lb cap o c rv l) (hBB:c.base=B) (hLL:B+LL=l.length) (hk:isK o.k=true) (hph:c.ph=1) (hA:0≤c.A∧c.A≤1) (hj:2+c.A.toNat<LL):Calls Tryz.prog 81 #[.pointer (some ⟨yb,0,none⟩),.slice (some ⟨lb,B,none⟩) LL CC] w (DidR yb lb cap o w rv (({ c with B:=Kc.one (c.rdm l (2+c.A.toNat)) }:Kc).go 2) l (.tuple #[])):=by
 obtain⟨HS0,HM0,hfit,HF,HWD,HSL,HCP,HNR⟩:=h.start;have HLL:=hid (And.intro hBB hLL);have HKK:=hid hk;have HPH:=hid hph;clear h hfit hBB hLL hk hph;have hI2:(2+c.A).toNat=2+c.A.toNat:=by omega
 have hI3:0≤2+c.A:=by omega
 have hI4:2+c.A<(LL:Int):=by omega
 have hI5:IntKind.u32.wrap (2+c.A)=2+c.A:=sh_wrap32 (by omega) (by omega);obtain⟨mz_0,gz_0,zb0,zb1⟩:=HS0.out.cellB HLL.out.1 HLL.out.2 (2+c.A.toNat) (hj);obtain⟨z,hz'⟩:∃ x,c.rdm l (2+c.A.toNat)=x:=⟨_,rfl⟩;rw[hz'] at mz_0 zb0 zb1;try rw[hz']
 have Hz':=hid hz';clear hz';have e1:IntKind.u32.wrap (z+1)=(z+1)%4294967296:=by simp[IntKind.wrap,IntKind.signed,IntKind.bits]
 have t1:((z+1)%4294967296).tmod 2=Kc.one z:=by
  rw[Int.tmod_eq_emod_of_nonneg (Int.emod_nonneg _ (by decide))];unfold Kc.one;omega
 have hone:=one_bd z;obtain⟨Z,hZ⟩:∃ x,Kc.one z=x:=⟨_,rfl⟩;rw[hZ] at t1 hone ⊢;have t2:IntKind.u32.wrap Z=Z:=sh_wrap32 (by omega) (by omega);clear hZ;have hr0:=HS0.out.row;have c11_0:=hr0.ph 11 1 HPH;have c16_0:=hr0.at 16 (.int .u32 c.A);have c17_0:=hr0.at 17 (.int .u32 c.B);have f17_0:=hr0.frozen 17;clear hr0;go_enter Tryz.func81,Tryz.ntmps81;go_wp2_with fail;obtain⟨HS1,HM1⟩:=nxx (HS0.out.setB (Z) ⟨by omega,by omega⟩) HM0;refine(to_r yb lb cap o _ _ _ (2) 2 _ HS1.out rfl).mono (mvK HM1 fun w2 HS2 HM2=>?_);go_wp2_with fail
 go_end0
 exact⟨_,rfl,HS2.out,HM2.out⟩
theorem r_four_w2 (B LL CC:Nat) (w:World) (h:SR w yb lb cap o c rv l) (hBB:c.base=B) (hLL:B+LL=l.length) (hk:isK o.k=true) (hph:c.ph=2) (hHd:headZ o=((4:Nat):Int)) (hw1:c.wr=true→c.i<c.rc.length) (hw2:c.rc.length≤1000000) (hw3:c.i<1000) (hj:4+(2*c.A+c.B).toNat*c.wd+c.i<LL) (hA:0≤c.A∧c.A≤1) (hB:0≤c.B∧c.B≤1):Calls Tryz.prog 81 #[.pointer (some ⟨yb,0,none⟩),.slice (some ⟨lb,B,none⟩) LL CC] w (DidR yb lb cap o w rv (c.word l (4+(2*c.A+c.B).toNat*c.wd) (·.go 3)).1 (c.word l (4+(2*c.A+c.B).toNat*c.wd) (·.go 3)).2 (.tuple #[])):=by
 obtain⟨HS0,HM0,hfit,HF,HWD,HSL,HCP,HNR⟩:=h.start;have HLL:=hid (And.intro hBB hLL);have HKK:=hid hk;have HPH:=hid hph;clear h hfit hBB hLL hk hph;have HHD:=hid (And.intro hHd (show(4:Nat)≤5 from(by omega)));have HWI:=hid hw1;have HRL:=hid hw2;have HI2:=hid hw3;have HJ:=hid hj;clear hHd hw1 hw2 hw3 hj;have hAB0:0≤2*c.A+c.B∧2*c.A+c.B≤20:=by omega
 have hw1':IntKind.u32.wrap (2*c.A)=2*c.A:=sh_wrap32 (by omega) (by omega);have hw2':IntKind.u32.wrap (2*c.A+c.B)=2*c.A+c.B:=sh_wrap32 (by omega) (by omega);have HAB:=hid hAB0;clear hAB0;have hr0:=HS0.out.row;have c11_0:=hr0.ph 11 2 HPH;clear hr0;go_enter Tryz.func81,Tryz.ntmps81;go_wp2_with fail;have hr0:=HS0.out.drew.row;have hSd:(QOrE0 yb c) w.drew:=⟨(hr0.cell 16).trans rfl,(hr0.cell 17).trans rfl⟩;have HS1:=hid HS0.out.drew;have HM1:=hid (HM0.out.trans (Mv.drew w _));clear hr0;refine rgn hSd fun w1 hw9 hHeld=>?_
 rw[hw9] at HS1 HM1;clear hw9 hSd;refine tk4 0 1 2 3 ?_;refine tk4 4 5 6 7 ?_;refine tk4 8 9 10 11 ?_;refine clH 12 (fun K hK=>?_)
 ·go_simp;refine(word_rgo yb lb cap o c rv l B LL CC (2*c.A+c.B) ((4:Nat)) _ 3 _ HS1.out HLL.out.1 HLL.out.2 HKK.out HHD.out.1 HHD.out.2 HAB.out rfl HJ.out HI2.out HWI.out HRL.out).mono (mvD HM1 fun w2 rv2 HS2 HM2=>?_);have hr2:=HS2.out.row;have hSx2:(QOrE0 yb c) w2:=⟨(hr2.cell 16).trans (congrArg (fun x:Int=>some (Value.int .u32 x)) (word_go_AB c l _ _).1),(hr2.cell 17).trans (congrArg (fun x:Int=>some (Value.int .u32 x)) (word_go_AB c l _ _).2)⟩;clear hr2;refine kH hK hSx2 fun hHeld=>?_
  clear hK K;refine dnH ?_;clear hHeld hSx2;go_wp2_with fail
  go_end0
  exact⟨_,rfl,HS2.out,HM2.out⟩
theorem r_four_w3 (B LL CC:Nat) (w:World) (h:SR w yb lb cap o c rv l) (hBB:c.base=B) (hLL:B+LL=l.length) (hk:isK o.k=true) (hph:c.ph=3) (hA:0≤c.A∧c.A≤1) (hj:2+c.A.toNat<LL):Calls Tryz.prog 81 #[.pointer (some ⟨yb,0,none⟩),.slice (some ⟨lb,B,none⟩) LL CC] w (DidR yb lb cap o w rv (c.go 4) (c.wrm l (2+c.A.toNat) c.B) (.tuple #[])):=by
 obtain⟨HS0,HM0,hfit,HF,HWD,HSL,HCP,HNR⟩:=h.start;have HLL:=hid (And.intro hBB hLL);have HKK:=hid hk;have HPH:=hid hph;clear h hfit hBB hLL hk hph;have hI2:(2+c.A).toNat=2+c.A.toNat:=by omega
 have hI3:0≤2+c.A:=by omega
 have hI4:2+c.A<(LL:Int):=by omega
 have hI5:IntKind.u32.wrap (2+c.A)=2+c.A:=sh_wrap32 (by omega) (by omega);have HBB:=hid (And.intro HF.out.B0 HF.out.B1);have HJ:=hid hj;have hr0:=HS0.out.row;have c11_0:=hr0.ph 11 3 HPH;clear hr0;go_enter Tryz.func81,Tryz.ntmps81;go_wp2_with fail;have hr0:=HS0.out.drew.row;have hSd:(QOrE0 yb c) w.drew:=⟨(hr0.cell 16).trans rfl,(hr0.cell 17).trans rfl⟩;have HS1:=hid HS0.out.drew;have HM1:=hid (HM0.out.trans (Mv.drew w _));clear hr0;refine rgn hSd fun w1 hw9 hHeld=>?_
 rw[hw9] at HS1 HM1;clear hw9 hSd;refine tk4 0 1 2 3 ?_;refine tk4 4 5 6 7 ?_;refine tk2 8 9 ?_;refine tkH 10 ?_;refine clH 11 (fun K hK=>?_)
 ·obtain⟨my_1,gy_1,_,_⟩:=HS1.out.cellB HLL.out.1 HLL.out.2 (2+c.A.toNat) (HJ.out);go_simp;obtain⟨HS2,HM2⟩:=nxx (HS1.out.putB HLL.out.1 HLL.out.2 (2+c.A.toNat) (HJ.out) (c.B) (HBB.out)) HM1;have hr:=HS2.out.row;have hSx:(QOrE0 yb c) (w1.setCell ⟨lb,B+(2+c.A.toNat),none⟩ (.int .u32 (c.B))):=⟨(hr.cell 16).trans rfl,(hr.cell 17).trans rfl⟩;clear hr;refine kH hK hSx fun hHeld=>?_
  clear hK K;refine dnH ?_;clear hHeld hSx;go_wp2_with fail;refine(to_r yb lb cap o _ _ _ (4) 4 _ HS2.out rfl).mono (mvK HM2 fun w3 HS3 HM3=>?_);go_wp2_with fail
  go_end0
  exact⟨_,rfl,HS3.out,HM3.out⟩
theorem r_four_w4 (B LL CC:Nat) (w:World) (h:SR w yb lb cap o c rv l) (hBB:c.base=B) (hLL:B+LL=l.length) (hk:isK o.k=true) (hph:c.ph=4) (hj:0<LL):Calls Tryz.prog 81 #[.pointer (some ⟨yb,0,none⟩),.slice (some ⟨lb,B,none⟩) LL CC] w (DidR yb lb cap o w rv (c.fin 0) (c.wrm l 0 c.A) (.tuple #[])):=by
 obtain⟨HS0,HM0,hfit,HF,HWD,HSL,HCP,HNR⟩:=h.start;have HLL:=hid (And.intro hBB hLL);have HKK:=hid hk;have HPH:=hid hph;clear h hfit hBB hLL hk hph;have hL0:(0:Int)<(LL:Int):=by omega
 obtain⟨my_0,gy_0,_,_⟩:=HS0.out.cellB HLL.out.1 HLL.out.2 (0) (hj);rw[Nat.add_zero] at my_0 gy_0;have hr0:=HS0.out.row;have c11_0:=hr0.ph 11 4 HPH;have c16_0:=hr0.at 16 (.int .u32 c.A);clear hr0;go_enter Tryz.func81,Tryz.ntmps81;go_wp2_with fail;obtain⟨hs,hm⟩:=HS0.out.putB HLL.out.1 HLL.out.2 (0) (hj) (c.A) (⟨HF.out.A0,HF.out.A1⟩);rw[Nat.add_zero] at hs hm;obtain⟨HS1,HM1⟩:=nx hs HM0 hm;clear hs hm;refine(end_r yb lb cap o _ _ _ 0 _ HS1.out HKK.out).mono (mvD HM1 fun w2 rv2 HS2 HM2=>?_);go_wp2_with fail
 go_end0
 exact⟨_,rfl,HS2.out,HM2.out⟩
theorem r_four_r0 (B LL CC:Nat) (w:World) (h:SR w yb lb cap o c rv l) (hBB:c.base=B) (hLL:B+LL=l.length) (hk:isK o.k=true) (hph:c.ph=0) (hj:0<LL):Calls Tryz.prog 82 #[.pointer (some ⟨yb,0,none⟩),.slice (some ⟨lb,B,none⟩) LL CC] w (DidR yb lb cap o w rv (({ c with A:=c.rdm l 0%2 }:Kc).go 1) l (.tuple #[])):=by
 obtain⟨HS0,HM0,hfit,HF,HWD,HSL,HCP,HNR⟩:=h.start;have HLL:=hid (And.intro hBB hLL);have HKK:=hid hk;have HPH:=hid hph;clear h hfit hBB hLL hk hph;obtain⟨mz_0,gz_0,zb0,zb1⟩:=HS0.out.cellB HLL.out.1 HLL.out.2 (0) (hj);obtain⟨z,hz'⟩:∃ x,c.rdm l (0)=x:=⟨_,rfl⟩;rw[hz'] at mz_0 zb0 zb1;try rw[hz']
 have Hz':=hid hz';clear hz';rw[Nat.add_zero] at mz_0 gz_0;have t1:z.tmod 2=z%2:=Int.tmod_eq_emod_of_nonneg zb0;have t2:IntKind.u32.wrap (z%2)=z%2:=sh_wrap32 (by omega) (by omega);have hL0:(0:Int)<(LL:Int):=by omega
 have hr0:=HS0.out.row;have c11_0:=hr0.ph 11 0 HPH;have c16_0:=hr0.at 16 (.int .u32 c.A);have f16_0:=hr0.frozen 16;clear hr0;go_enter Tryz.func82,Tryz.ntmps82;go_wp2_with fail;obtain⟨HS1,HM1⟩:=nxx (HS0.out.setA (z%2) ⟨by omega,by omega⟩) HM0;refine(to_r yb lb cap o _ _ _ (1) 1 _ HS1.out rfl).mono (mvK HM1 fun w2 HS2 HM2=>?_);go_wp2_with fail
 go_end0
 exact⟨_,rfl,HS2.out,HM2.out⟩
theorem r_four_r1 (B LL CC:Nat) (w:World) (h:SR w yb lb cap o c rv l) (hBB:c.base=B) (hLL:B+LL=l.length) (hk:isK o.k=true) (hph:c.ph=1) (hj:1<LL):Calls Tryz.prog 82 #[.pointer (some ⟨yb,0,none⟩),.slice (some ⟨lb,B,none⟩) LL CC] w (DidR yb lb cap o w rv (c.go 2) (c.wrm l 1 c.A) (.tuple #[])):=by
 obtain⟨HS0,HM0,hfit,HF,HWD,HSL,HCP,HNR⟩:=h.start;have HLL:=hid (And.intro hBB hLL);have HKK:=hid hk;have HPH:=hid hph;clear h hfit hBB hLL hk hph;have hL1:(1:Int)<(LL:Int):=by omega
 obtain⟨my_0,gy_0,_,_⟩:=HS0.out.cellB HLL.out.1 HLL.out.2 (1) (hj);have hr0:=HS0.out.row;have c11_0:=hr0.ph 11 1 HPH;have c16_0:=hr0.at 16 (.int .u32 c.A);clear hr0;go_enter Tryz.func82,Tryz.ntmps82;go_wp2_with fail;obtain⟨HS1,HM1⟩:=nxx (HS0.out.putB HLL.out.1 HLL.out.2 (1) (hj) (c.A) (⟨HF.out.A0,HF.out.A1⟩)) HM0;refine(to_r yb lb cap o _ _ _ (2) 2 _ HS1.out rfl).mono (mvK HM1 fun w2 HS2 HM2=>?_);go_wp2_with fail
 go_end0
 exact⟨_,rfl,HS2.out,HM2.out⟩
theorem r_four_r2 (B LL CC:Nat) (w:World) (h:SR w yb lb cap o c rv l) (hBB:c.base=B) (hLL:B+LL=l.length) (hk:isK o.k=true) (hph:c.ph=2) (hA:0≤c.A∧c.A≤1) (hj:2+c.A.toNat<LL):Calls Tryz.prog 82 #[.pointer (some ⟨yb,0,none⟩),.slice (some ⟨lb,B,none⟩) LL CC] w (DidR yb lb cap o w rv (({ c with B:=c.rdm l (2+c.A.toNat)%2 }:Kc).go 3) l (.tuple #[])):=by
 obtain⟨HS0,HM0,hfit,HF,HWD,HSL,HCP,HNR⟩:=h.start;have HLL:=hid (And.intro hBB hLL);have HKK:=hid hk;have HPH:=hid hph;clear h hfit hBB hLL hk hph;have hI2:(2+c.A).toNat=2+c.A.toNat:=by omega
 have hI3:0≤2+c.A:=by omega
 have hI4:2+c.A<(LL:Int):=by omega
 have hI5:IntKind.u32.wrap (2+c.A)=2+c.A:=sh_wrap32 (by omega) (by omega);obtain⟨mz_0,gz_0,zb0,zb1⟩:=HS0.out.cellB HLL.out.1 HLL.out.2 (2+c.A.toNat) (hj);obtain⟨z,hz'⟩:∃ x,c.rdm l (2+c.A.toNat)=x:=⟨_,rfl⟩;rw[hz'] at mz_0 zb0 zb1;try rw[hz']
 have Hz':=hid hz';clear hz';have t1:z.tmod 2=z%2:=Int.tmod_eq_emod_of_nonneg zb0;have t2:IntKind.u32.wrap (z%2)=z%2:=sh_wrap32 (by omega) (by omega);have hr0:=HS0.out.row;have c11_0:=hr0.ph 11 2 HPH;have c16_0:=hr0.at 16 (.int .u32 c.A);have c17_0:=hr0.at 17 (.int .u32 c.B);have f17_0:=hr0.frozen 17;clear hr0;go_enter Tryz.func82,Tryz.ntmps82;go_wp2_with fail;obtain⟨HS1,HM1⟩:=nxx (HS0.out.setB (z%2) ⟨by omega,by omega⟩) HM0;refine(to_r yb lb cap o _ _ _ (3) 3 _ HS1.out rfl).mono (mvK HM1 fun w2 HS2 HM2=>?_);go_wp2_with fail
 go_end0
 exact⟨_,rfl,HS2.out,HM2.out⟩
theorem r_four_r3 (B LL CC:Nat) (w:World) (h:SR w yb lb cap o c rv l) (hBB:c.base=B) (hLL:B+LL=l.length) (hk:isK o.k=true) (hph:c.ph=3) (hHd:headZ o=((4:Nat):Int)) (hw1:c.wr=true→c.i<c.rc.length) (hw2:c.rc.length≤1000000) (hw3:c.i<1000) (hj:4+(2*c.A+c.B).toNat*c.wd+c.i<LL) (hA:0≤c.A∧c.A≤1) (hB:0≤c.B∧c.B≤1):Calls Tryz.prog 82 #[.pointer (some ⟨yb,0,none⟩),.slice (some ⟨lb,B,none⟩) LL CC] w (DidR yb lb cap o w rv (c.word l (4+(2*c.A+c.B).toNat*c.wd) (·.fin 0)).1 (c.word l (4+(2*c.A+c.B).toNat*c.wd) (·.fin 0)).2 (.tuple #[])):=by
 obtain⟨HS0,HM0,hfit,HF,HWD,HSL,HCP,HNR⟩:=h.start;have HLL:=hid (And.intro hBB hLL);have HKK:=hid hk;have HPH:=hid hph;clear h hfit hBB hLL hk hph;have HHD:=hid (And.intro hHd (show(4:Nat)≤5 from(by omega)));have HWI:=hid hw1;have HRL:=hid hw2;have HI2:=hid hw3;have HJ:=hid hj;clear hHd hw1 hw2 hw3 hj;have hAB0:0≤2*c.A+c.B∧2*c.A+c.B≤20:=by omega
 have hw1':IntKind.u32.wrap (2*c.A)=2*c.A:=sh_wrap32 (by omega) (by omega);have hw2':IntKind.u32.wrap (2*c.A+c.B)=2*c.A+c.B:=sh_wrap32 (by omega) (by omega);have HAB:=hid hAB0;clear hAB0;have hr0:=HS0.out.row;have c11_0:=hr0.ph 11 3 HPH;clear hr0;go_enter Tryz.func82,Tryz.ntmps82;go_wp2_with fail;have hr0:=HS0.out.drew.row;have hSd:(QOrE0 yb c) w.drew:=⟨(hr0.cell 16).trans rfl,(hr0.cell 17).trans rfl⟩;have HS1:=hid HS0.out.drew;have HM1:=hid (HM0.out.trans (Mv.drew w _));clear hr0;refine rgn hSd fun w1 hw9 hHeld=>?_
 rw[hw9] at HS1 HM1;clear hw9 hSd;refine tk4 0 1 2 3 ?_;refine tk4 4 5 6 7 ?_;refine tk4 8 9 10 11 ?_;refine clH 12 (fun K hK=>?_)
 ·go_simp;refine(word_rfin yb lb cap o c rv l B LL CC (2*c.A+c.B) ((4:Nat)) _ _ HS1.out HLL.out.1 HLL.out.2 HKK.out HHD.out.1 HHD.out.2 HAB.out rfl HJ.out HI2.out HWI.out HRL.out).mono (mvD HM1 fun w2 rv2 HS2 HM2=>?_);have hr2:=HS2.out.row;have hSx2:(QOrE0 yb c) w2:=⟨(hr2.cell 16).trans (congrArg (fun x:Int=>some (Value.int .u32 x)) (word_fin_AB c l _).1),(hr2.cell 17).trans (congrArg (fun x:Int=>some (Value.int .u32 x)) (word_fin_AB c l _).2)⟩;clear hr2;refine kH hK hSx2 fun hHeld=>?_
  clear hK K;refine dnH ?_;clear hHeld hSx2;go_wp2_with fail
  go_end0
  exact⟨_,rfl,HS2.out,HM2.out⟩
theorem r_seq_w0 (B LL CC:Nat) (w:World) (h:SR w yb lb cap o c rv l) (hBB:c.base=B) (hLL:B+LL=l.length) (hk:isK o.k=true) (hph:c.ph=0) (hj:0<LL):Calls Tryz.prog 85 #[.pointer (some ⟨yb,0,none⟩),.slice (some ⟨lb,B,none⟩) LL CC] w (DidR yb lb cap o w rv (({ c with A:=c.rdm l 0 }:Kc).go 1) l (.tuple #[])):=by
 obtain⟨HS0,HM0,hfit,HF,HWD,HSL,HCP,HNR⟩:=h.start;have HLL:=hid (And.intro hBB hLL);have HKK:=hid hk;have HPH:=hid hph;clear h hfit hBB hLL hk hph;obtain⟨mz_0,gz_0,zb0,zb1⟩:=HS0.out.cellB HLL.out.1 HLL.out.2 (0) (hj);obtain⟨z,hz'⟩:∃ x,c.rdm l (0)=x:=⟨_,rfl⟩;rw[hz'] at mz_0 zb0 zb1;try rw[hz']
 have Hz':=hid hz';clear hz';rw[Nat.add_zero] at mz_0 gz_0;have hL0:(0:Int)<(LL:Int):=by omega
 have hr0:=HS0.out.row;have c11_0:=hr0.ph 11 0 HPH;have c16_0:=hr0.at 16 (.int .u32 c.A);have f16_0:=hr0.frozen 16;clear hr0;go_enter Tryz.func85,Tryz.ntmps85;go_wp2_with fail;obtain⟨HS1,HM1⟩:=nxx (HS0.out.setA (z) ⟨by omega,by omega⟩) HM0;refine(to_r yb lb cap o _ _ _ (1) 1 _ HS1.out rfl).mono (mvK HM1 fun w2 HS2 HM2=>?_);go_wp2_with fail
 go_end0
 exact⟨_,rfl,HS2.out,HM2.out⟩
theorem r_seq_w1 (B LL CC:Nat) (w:World) (h:SR w yb lb cap o c rv l) (hBB:c.base=B) (hLL:B+LL=l.length) (hk:isK o.k=true) (hph:c.ph=1) (hj:0<LL):Calls Tryz.prog 85 #[.pointer (some ⟨yb,0,none⟩),.slice (some ⟨lb,B,none⟩) LL CC] w (DidR yb lb cap o w rv (c.go 2) (c.wrm l 0 ((c.A+1)%4294967296)) (.tuple #[])):=by
 obtain⟨HS0,HM0,hfit,HF,HWD,HSL,HCP,HNR⟩:=h.start;have HLL:=hid (And.intro hBB hLL);have HKK:=hid hk;have HPH:=hid hph;clear h hfit hBB hLL hk hph;have hL0:(0:Int)<(LL:Int):=by omega
 have hu:IntKind.u32.wrap (c.A+1)=(c.A+1)%4294967296:=by simp[IntKind.wrap,IntKind.signed,IntKind.bits]
 obtain⟨my_0,gy_0,_,_⟩:=HS0.out.cellB HLL.out.1 HLL.out.2 (0) (hj);rw[Nat.add_zero] at my_0 gy_0;have hr0:=HS0.out.row;have c11_0:=hr0.ph 11 1 HPH;have c16_0:=hr0.at 16 (.int .u32 c.A);clear hr0;go_enter Tryz.func85,Tryz.ntmps85;go_wp2_with fail;obtain⟨hs,hm⟩:=HS0.out.putB HLL.out.1 HLL.out.2 (0) (hj) ((c.A+1)%4294967296) (⟨by omega,by omega⟩);rw[Nat.add_zero] at hs hm;obtain⟨HS1,HM1⟩:=nx hs HM0 hm;clear hs hm;refine(to_r yb lb cap o _ _ _ (2) 2 _ HS1.out rfl).mono (mvK HM1 fun w2 HS2 HM2=>?_);go_wp2_with fail
 go_end0
 exact⟨_,rfl,HS2.out,HM2.out⟩
theorem r_seq_w3 (B LL CC:Nat) (w:World) (h:SR w yb lb cap o c rv l) (hBB:c.base=B) (hLL:B+LL=l.length) (hk:isK o.k=true) (hph:c.ph=3) (hj:0<LL):Calls Tryz.prog 85 #[.pointer (some ⟨yb,0,none⟩),.slice (some ⟨lb,B,none⟩) LL CC] w (DidR yb lb cap o w rv (c.fin 0) (c.wrm l 0 ((c.A+2)%4294967296)) (.tuple #[])):=by
 obtain⟨HS0,HM0,hfit,HF,HWD,HSL,HCP,HNR⟩:=h.start;have HLL:=hid (And.intro hBB hLL);have HKK:=hid hk;have HPH:=hid hph;clear h hfit hBB hLL hk hph;have hL0:(0:Int)<(LL:Int):=by omega
 have hu:IntKind.u32.wrap (c.A+2)=(c.A+2)%4294967296:=by simp[IntKind.wrap,IntKind.signed,IntKind.bits]
 obtain⟨my_0,gy_0,_,_⟩:=HS0.out.cellB HLL.out.1 HLL.out.2 (0) (hj);rw[Nat.add_zero] at my_0 gy_0;have hr0:=HS0.out.row;have c11_0:=hr0.ph 11 3 HPH;have c16_0:=hr0.at 16 (.int .u32 c.A);clear hr0;go_enter Tryz.func85,Tryz.ntmps85;go_wp2_with fail;obtain⟨hs,hm⟩:=HS0.out.putB HLL.out.1 HLL.out.2 (0) (hj) ((c.A+2)%4294967296) (⟨by omega,by omega⟩);rw[Nat.add_zero] at hs hm;obtain⟨HS1,HM1⟩:=nx hs HM0 hm;clear hs hm;refine(end_r yb lb cap o _ _ _ 0 _ HS1.out HKK.out).mono (mvD HM1 fun w2 rv2 HS2 HM2=>?_);go_wp2_with fail
 go_end0
 exact⟨_,rfl,HS2.out,HM2.out⟩
theorem r_seq_w2 (B LL CC:Nat) (w:World) (h:SR w yb lb cap o c rv l) (hBB:c.base=B) (hLL:B+LL=l.length) (hk:isK o.k=true) (hph:c.ph=2) (hHd:headZ o=((1:Nat):Int)) (hw1:c.wr=true→c.i<c.rc.length) (hw2:c.rc.length≤1000000) (hw3:c.i<1000) (hj:1+c.i<LL):Calls Tryz.prog 85 #[.pointer (some ⟨yb,0,none⟩),.slice (some ⟨lb,B,none⟩) LL CC] w (DidR yb lb cap o w rv (c.word l (1) (·.go 3)).1 (c.word l (1) (·.go 3)).2 (.tuple #[])):=by
 obtain⟨HS0,HM0,hfit,HF,HWD,HSL,HCP,HNR⟩:=h.start;have HLL:=hid (And.intro hBB hLL);have HKK:=hid hk;have HPH:=hid hph;clear h hfit hBB hLL hk hph;have HHD:=hid (And.intro hHd (show(1:Nat)≤5 from(by omega)));have HWI:=hid hw1;have HRL:=hid hw2;have HI2:=hid hw3;have HJ:=hid hj;clear hHd hw1 hw2 hw3 hj;have hr0:=HS0.out.row;have c11_0:=hr0.ph 11 2 HPH;clear hr0;go_enter Tryz.func85,Tryz.ntmps85;go_wp2_with fail;refine(word_rgo yb lb cap o c rv l B LL CC (0) ((1:Nat)) _ 3 _ HS0.out HLL.out.1 HLL.out.2 HKK.out HHD.out.1 HHD.out.2 ⟨by decide,by decide⟩ (show 1=1+(0:Int).toNat*c.wd by simp) HJ.out HI2.out HWI.out HRL.out).mono (mvD HM0 fun w1 rv1 HS1 HM1=>?_);go_wp2_with fail
 go_end0
 exact⟨_,rfl,HS1.out,HM1.out⟩
theorem r_seq_r1 (B LL CC:Nat) (w:World) (h:SR w yb lb cap o c rv l) (hBB:c.base=B) (hLL:B+LL=l.length) (hk:isK o.k=true) (hph:c.ph=1) (hHd:headZ o=((1:Nat):Int)) (hw1:c.wr=true→c.i<c.rc.length) (hw2:c.rc.length≤1000000) (hw3:c.i<1000) (hj:1+c.i<LL):Calls Tryz.prog 86 #[.pointer (some ⟨yb,0,none⟩),.slice (some ⟨lb,B,none⟩) LL CC] w (DidR yb lb cap o w rv (c.word l (1) (·.go 2)).1 (c.word l (1) (·.go 2)).2 (.tuple #[])):=by
 obtain⟨HS0,HM0,hfit,HF,HWD,HSL,HCP,HNR⟩:=h.start;have HLL:=hid (And.intro hBB hLL);have HKK:=hid hk;have HPH:=hid hph;clear h hfit hBB hLL hk hph;have HHD:=hid (And.intro hHd (show(1:Nat)≤5 from(by omega)));have HWI:=hid hw1;have HRL:=hid hw2;have HI2:=hid hw3;have HJ:=hid hj;clear hHd hw1 hw2 hw3 hj;have hr0:=HS0.out.row;have c11_0:=hr0.ph 11 1 HPH;clear hr0;go_enter Tryz.func86,Tryz.ntmps86;go_wp2_with fail;refine(word_rgo yb lb cap o c rv l B LL CC (0) ((1:Nat)) _ 2 _ HS0.out HLL.out.1 HLL.out.2 HKK.out HHD.out.1 HHD.out.2 ⟨by decide,by decide⟩ (show 1=1+(0:Int).toNat*c.wd by simp) HJ.out HI2.out HWI.out HRL.out).mono (mvD HM0 fun w1 rv1 HS1 HM1=>?_);go_wp2_with fail
 go_end0
 exact⟨_,rfl,HS1.out,HM1.out⟩
theorem r_seq_r0_even (B LL CC:Nat) (w:World) (h:SR w yb lb cap o c rv l) (hBB:c.base=B) (hLL:B+LL=l.length) (hk:isK o.k=true) (hph:c.ph=0) (_ht:c.tr<1000) (hj:0<LL) (he:¬ c.rdm l 0%2=1):Calls Tryz.prog 86 #[.pointer (some ⟨yb,0,none⟩),.slice (some ⟨lb,B,none⟩) LL CC] w (DidR yb lb cap o w rv (({ c with A:=c.rdm l 0 }:Kc).go 1) l (.tuple #[])):=by
 obtain⟨HS0,HM0,hfit,HF,HWD,HSL,HCP,HNR⟩:=h.start;have HLL:=hid (And.intro hBB hLL);have HKK:=hid hk;have HPH:=hid hph;clear h hfit hBB hLL hk hph;obtain⟨mz_0,gz_0,zb0,zb1⟩:=HS0.out.cellB HLL.out.1 HLL.out.2 (0) (hj);obtain⟨z,hz'⟩:∃ x,c.rdm l (0)=x:=⟨_,rfl⟩;rw[hz'] at mz_0 zb0 zb1;try rw[hz']
 have Hz':=hid hz';clear hz';rw[Nat.add_zero] at mz_0 gz_0;rw[Hz'.out] at he;have hL0:(0:Int)<(LL:Int):=by omega
 have t1:z.tmod 2=z%2:=Int.tmod_eq_emod_of_nonneg zb0;have t2:IntKind.u32.wrap (z%2)=z%2:=sh_wrap32 (by omega) (by omega);have hd:(z%2==1)=false:=by simpa using he
 clear he;clear _ht;have hr0:=HS0.out.row;have c11_0:=hr0.ph 11 0 HPH;have c16_0:=hr0.at 16 (.int .u32 c.A);have f16_0:=hr0.frozen 16;clear hr0;go_enter Tryz.func86,Tryz.ntmps86;go_wp2_with fail;obtain⟨HS1,HM1⟩:=nxx (HS0.out.setA (z) ⟨by omega,by omega⟩) HM0;refine(to_r yb lb cap o _ _ _ (1) 1 _ HS1.out rfl).mono (mvK HM1 fun w2 HS2 HM2=>?_);go_wp2_with fail
 go_end0
 exact⟨_,rfl,HS2.out,HM2.out⟩
theorem r_seq_r0_odd (B LL CC:Nat) (w:World) (h:SR w yb lb cap o c rv l) (hBB:c.base=B) (hLL:B+LL=l.length) (hk:isK o.k=true) (hph:c.ph=0) (ht:c.tr<1000) (hj:0<LL) (he:c.rdm l 0%2=1) (hlast:¬ c.cap≤c.tr+1):Calls Tryz.prog 86 #[.pointer (some ⟨yb,0,none⟩),.slice (some ⟨lb,B,none⟩) LL CC] w (DidR yb lb cap o w rv (({ c with A:=c.rdm l 0 }:Kc).fail (·.fin 1)) l (.tuple #[])):=by
 obtain⟨HS0,HM0,hfit,HF,HWD,HSL,HCP,HNR⟩:=h.start;have HLL:=hid (And.intro hBB hLL);have HKK:=hid hk;have HPH:=hid hph;clear h hfit hBB hLL hk hph;obtain⟨mz_0,gz_0,zb0,zb1⟩:=HS0.out.cellB HLL.out.1 HLL.out.2 (0) (hj);obtain⟨z,hz'⟩:∃ x,c.rdm l (0)=x:=⟨_,rfl⟩;rw[hz'] at mz_0 zb0 zb1;try rw[hz']
 have Hz':=hid hz';clear hz';rw[Nat.add_zero] at mz_0 gz_0;rw[Hz'.out] at he;have hL0:(0:Int)<(LL:Int):=by omega
 have t1:z.tmod 2=z%2:=Int.tmod_eq_emod_of_nonneg zb0;have t2:IntKind.u32.wrap (z%2)=z%2:=sh_wrap32 (by omega) (by omega);have hd:(z%2==1)=true:=by simpa using he
 clear he;have hfl:=fun W (h:SR W yb lb cap o ({ c with A:=z }:Kc) rv l)=>fail_r yb lb cap o ({ c with A:=z }:Kc) rv l W h ht
 have hd2:decide ((c.cap:Int)≤(c.tr:Int)+1)=false:=decide_eq_false (by omega);have hd3:decide ((((({ c with A:=z }:Kc)).cap:Nat):Int)≤(((({ c with A:=z }:Kc)).tr:Nat):Int)+1)=false:=hd2;rw[hd3] at hfl;have HFL:=hid hfl;clear hfl hd2 hd3;unfold Kc.fail;simp only[ge_iff_le];rw[if_neg hlast];clear hlast ht;have hr0:=HS0.out.row;have c11_0:=hr0.ph 11 0 HPH;have c16_0:=hr0.at 16 (.int .u32 c.A);have f16_0:=hr0.frozen 16;clear hr0;go_enter Tryz.func86,Tryz.ntmps86;go_wp2_with fail;obtain⟨HS1,HM1⟩:=nxx (HS0.out.setA (z) ⟨by omega,by omega⟩) HM0;refine(HFL.out _ HS1.out).mono (mvD HM1 fun w2 rv2 HS2 HM2=>?_);go_wp2_with fail
 go_end0
 exact⟨_,rfl,HS2.out,HM2.out⟩
theorem r_seq_r0_oddlast (B LL CC:Nat) (w:World) (h:SR w yb lb cap o c rv l) (hBB:c.base=B) (hLL:B+LL=l.length) (hk:isK o.k=true) (hph:c.ph=0) (ht:c.tr<1000) (hj:0<LL) (he:c.rdm l 0%2=1) (hlast:c.cap≤c.tr+1):Calls Tryz.prog 86 #[.pointer (some ⟨yb,0,none⟩),.slice (some ⟨lb,B,none⟩) LL CC] w (DidR yb lb cap o w rv (({ c with A:=c.rdm l 0 }:Kc).fail (·.fin 1)) l (.tuple #[])):=by
 obtain⟨HS0,HM0,hfit,HF,HWD,HSL,HCP,HNR⟩:=h.start;have HLL:=hid (And.intro hBB hLL);have HKK:=hid hk;have HPH:=hid hph;clear h hfit hBB hLL hk hph;obtain⟨mz_0,gz_0,zb0,zb1⟩:=HS0.out.cellB HLL.out.1 HLL.out.2 (0) (hj);obtain⟨z,hz'⟩:∃ x,c.rdm l (0)=x:=⟨_,rfl⟩;rw[hz'] at mz_0 zb0 zb1;try rw[hz']
 have Hz':=hid hz';clear hz';rw[Nat.add_zero] at mz_0 gz_0;rw[Hz'.out] at he;have hL0:(0:Int)<(LL:Int):=by omega
 have t1:z.tmod 2=z%2:=Int.tmod_eq_emod_of_nonneg zb0;have t2:IntKind.u32.wrap (z%2)=z%2:=sh_wrap32 (by omega) (by omega);have hd:(z%2==1)=true:=by simpa using he
 clear he;have hfl:=fun W (h:SR W yb lb cap o ({ c with A:=z }:Kc) rv l)=>fail_r yb lb cap o ({ c with A:=z }:Kc) rv l W h ht
 have hd2:decide ((c.cap:Int)≤(c.tr:Int)+1)=true:=decide_eq_true (by omega);have hd3:decide ((((({ c with A:=z }:Kc)).cap:Nat):Int)≤(((({ c with A:=z }:Kc)).tr:Nat):Int)+1)=true:=hd2;rw[hd3] at hfl;have HFL:=hid hfl;clear hfl hd2 hd3;unfold Kc.fail;simp only[ge_iff_le];rw[if_pos hlast];clear hlast ht;have hr0:=HS0.out.row;have c11_0:=hr0.ph 11 0 HPH;have c16_0:=hr0.at 16 (.int .u32 c.A);have f16_0:=hr0.frozen 16;clear hr0;go_enter Tryz.func86,Tryz.ntmps86;go_wp2_with fail;obtain⟨HS1,HM1⟩:=nxx (HS0.out.setA (z) ⟨by omega,by omega⟩) HM0;refine(HFL.out _ HS1.out).mono (mvD HM1 fun w2 rv2 HS2 HM2=>?_);go_wp2_with fail;refine(end_r yb lb cap o _ _ _ 1 _ HS2.out HKK.out).mono (mvD HM2 fun w3 rv3 HS3 HM3=>?_);go_wp2_with fail
 go_end0
 exact⟨_,rfl,HS3.out,HM3.out⟩
theorem r_seq_r2_same (B LL CC:Nat) (w:World) (h:SR w yb lb cap o c rv l) (hBB:c.base=B) (hLL:B+LL=l.length) (hk:isK o.k=true) (hph:c.ph=2) (_ht:c.tr<1000) (hj:0<LL) (he:c.rdm l 0=c.A):Calls Tryz.prog 86 #[.pointer (some ⟨yb,0,none⟩),.slice (some ⟨lb,B,none⟩) LL CC] w (DidR yb lb cap o w rv (c.fin 0) l (.tuple #[])):=by
 obtain⟨HS0,HM0,hfit,HF,HWD,HSL,HCP,HNR⟩:=h.start;have HLL:=hid (And.intro hBB hLL);have HKK:=hid hk;have HPH:=hid hph;clear h hfit hBB hLL hk hph;obtain⟨mz_0,gz_0,zb0,zb1⟩:=HS0.out.cellB HLL.out.1 HLL.out.2 (0) (hj);obtain⟨z,hz'⟩:∃ x,c.rdm l (0)=x:=⟨_,rfl⟩;rw[hz'] at mz_0 zb0 zb1;try rw[hz']
 have Hz':=hid hz';clear hz';rw[Nat.add_zero] at mz_0 gz_0;rw[Hz'.out] at he;have hL0:(0:Int)<(LL:Int):=by omega
 have hd:(z != c.A)=false:=by simpa using he
 clear he;clear _ht;have hr0:=HS0.out.row;have c11_0:=hr0.ph 11 2 HPH;have c16_0:=hr0.at 16 (.int .u32 c.A);have f16_0:=hr0.frozen 16;clear hr0;go_enter Tryz.func86,Tryz.ntmps86;go_wp2_with fail;refine rgR (S:=(QOrE1 yb c lb B z)) HS0 HM0 (fun HS1=>⟨c16_0,mz_0⟩) fun wd HS1 HM1 hHeld=>?_
 refine tk4 0 1 2 3 ?_;refine tk4 4 5 6 7 ?_;refine tkH 8 ?_;refine dnH ?_;clear hHeld;go_wp2_with fail;refine(end_r yb lb cap o _ _ _ 0 _ HS1.out HKK.out).mono (mvD HM1 fun w2 rv2 HS2 HM2=>?_);go_wp2_with fail
 go_end0
 exact⟨_,rfl,HS2.out,HM2.out⟩
theorem r_seq_r2_other (B LL CC:Nat) (w:World) (h:SR w yb lb cap o c rv l) (hBB:c.base=B) (hLL:B+LL=l.length) (hk:isK o.k=true) (hph:c.ph=2) (ht:c.tr<1000) (hj:0<LL) (he:¬ c.rdm l 0=c.A) (hlast:¬ c.cap≤c.tr+1):Calls Tryz.prog 86 #[.pointer (some ⟨yb,0,none⟩),.slice (some ⟨lb,B,none⟩) LL CC] w (DidR yb lb cap o w rv ((c:Kc).fail (·.fin 1)) l (.tuple #[])):=by
 obtain⟨HS0,HM0,hfit,HF,HWD,HSL,HCP,HNR⟩:=h.start;have HLL:=hid (And.intro hBB hLL);have HKK:=hid hk;have HPH:=hid hph;clear h hfit hBB hLL hk hph;obtain⟨mz_0,gz_0,zb0,zb1⟩:=HS0.out.cellB HLL.out.1 HLL.out.2 (0) (hj);obtain⟨z,hz'⟩:∃ x,c.rdm l (0)=x:=⟨_,rfl⟩;rw[hz'] at mz_0 zb0 zb1;try rw[hz']
 have Hz':=hid hz';clear hz';rw[Nat.add_zero] at mz_0 gz_0;rw[Hz'.out] at he;have hL0:(0:Int)<(LL:Int):=by omega
 have hd:(z != c.A)=true:=by simpa using he
 clear he;have hfl:=fun W (h:SR W yb lb cap o c rv l)=>fail_r yb lb cap o c rv l W h ht
 have hd2:decide ((c.cap:Int)≤(c.tr:Int)+1)=false:=decide_eq_false (by omega);have hd3:decide ((((c).cap:Nat):Int)≤(((c).tr:Nat):Int)+1)=false:=hd2;rw[hd3] at hfl;have HFL:=hid hfl;clear hfl hd2 hd3;unfold Kc.fail;simp only[ge_iff_le];rw[if_neg hlast];clear hlast ht;have hr0:=HS0.out.row;have c11_0:=hr0.ph 11 2 HPH;have c16_0:=hr0.at 16 (.int .u32 c.A);have f16_0:=hr0.frozen 16;clear hr0;go_enter Tryz.func86,Tryz.ntmps86;go_wp2_with fail;refine rgR (S:=(QOrE1 yb c lb B z)) HS0 HM0 (fun HS1=>⟨c16_0,mz_0⟩) fun wd HS1 HM1 hHeld=>?_
 refine tk4 0 1 2 3 ?_;refine tk4 4 5 6 7 ?_;refine tkH 8 ?_;refine dnH ?_;clear hHeld;go_wp2_with fail;refine(HFL.out _ HS1.out).mono (mvD HM1 fun w2 rv2 HS2 HM2=>?_);go_wp2_with fail
 go_end0
 exact⟨_,rfl,HS2.out,HM2.out⟩
theorem r_seq_r2_otherlast (B LL CC:Nat) (w:World) (h:SR w yb lb cap o c rv l) (hBB:c.base=B) (hLL:B+LL=l.length) (hk:isK o.k=true) (hph:c.ph=2) (ht:c.tr<1000) (hj:0<LL) (he:¬ c.rdm l 0=c.A) (hlast:c.cap≤c.tr+1):Calls Tryz.prog 86 #[.pointer (some ⟨yb,0,none⟩),.slice (some ⟨lb,B,none⟩) LL CC] w (DidR yb lb cap o w rv ((c:Kc).fail (·.fin 1)) l (.tuple #[])):=by
 obtain⟨HS0,HM0,hfit,HF,HWD,HSL,HCP,HNR⟩:=h.start;have HLL:=hid (And.intro hBB hLL);have HKK:=hid hk;have HPH:=hid hph;clear h hfit hBB hLL hk hph;obtain⟨mz_0,gz_0,zb0,zb1⟩:=HS0.out.cellB HLL.out.1 HLL.out.2 (0) (hj);obtain⟨z,hz'⟩:∃ x,c.rdm l (0)=x:=⟨_,rfl⟩;rw[hz'] at mz_0 zb0 zb1;try rw[hz']
 have Hz':=hid hz';clear hz';rw[Nat.add_zero] at mz_0 gz_0;rw[Hz'.out] at he;have hL0:(0:Int)<(LL:Int):=by omega
 have hd:(z != c.A)=true:=by simpa using he
 clear he;have hfl:=fun W (h:SR W yb lb cap o c rv l)=>fail_r yb lb cap o c rv l W h ht
 have hd2:decide ((c.cap:Int)≤(c.tr:Int)+1)=true:=decide_eq_true (by omega);have hd3:decide ((((c).cap:Nat):Int)≤(((c).tr:Nat):Int)+1)=true:=hd2;rw[hd3] at hfl;have HFL:=hid hfl;clear hfl hd2 hd3;unfold Kc.fail;simp only[ge_iff_le];rw[if_pos hlast];clear hlast ht;have hr0:=HS0.out.row;have c11_0:=hr0.ph 11 2 HPH;have c16_0:=hr0.at 16 (.int .u32 c.A);have f16_0:=hr0.frozen 16;clear hr0;go_enter Tryz.func86,Tryz.ntmps86;go_wp2_with fail;refine rgR (S:=(QOrE1 yb c lb B z)) HS0 HM0 (fun HS1=>⟨c16_0,mz_0⟩) fun wd HS1 HM1 hHeld=>?_
 refine tk4 0 1 2 3 ?_;refine tk4 4 5 6 7 ?_;refine tkH 8 ?_;refine dnH ?_;clear hHeld;go_wp2_with fail;refine(HFL.out _ HS1.out).mono (mvD HM1 fun w2 rv2 HS2 HM2=>?_);go_wp2_with fail;refine(end_r yb lb cap o _ _ _ 1 _ HS2.out HKK.out).mono (mvD HM2 fun w3 rv3 HS3 HM3=>?_);go_wp2_with fail
 go_end0
 exact⟨_,rfl,HS3.out,HM3.out⟩
end
end Go.Proofs.YtolmpehgeinlkaaGreatDoor
