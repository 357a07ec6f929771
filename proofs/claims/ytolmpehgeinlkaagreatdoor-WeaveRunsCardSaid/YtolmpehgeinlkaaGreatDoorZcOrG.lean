/- The document's operation: the kind ring. -/
import Derived.Test.YtolmpehgeinlkaaGreatDoorZcOrF
namespace Go.Proofs.YtolmpehgeinlkaaGreatDoor
open Go.RowKit
open Go.Lib (hid)
attribute [local go_sem] Oper.semAt_some
set_option maxHeartbeats 1000000
set_option maxRecDepth 100000
abbrev QOrG0 (a0:Nat) (a1:Kc) (a2 a3:Nat) (a4:Int) (w':World):Prop:=w'.cell? ⟨a0,16,none⟩=some (.int .u32 a1.A)∧w'.cell? ⟨a2,a3,none⟩=some (.int .u32 a4)
section
variable (yb lb cap:Nat) (o:Ob) (c:Kc) (rv:Value) (l:List Int)
theorem r_ring_w0 (B LL CC:Nat) (w:World) (h:SR w yb lb cap o c rv l) (hBB:c.base=B) (hLL:B+LL=l.length) (hk:isK o.k=true) (hph:c.ph=0) (hs:1≤c.sl) (hj:0<LL):Calls Tryz.prog 87 #[.pointer (some ⟨yb,0,none⟩),.slice (some ⟨lb,B,none⟩) LL CC,.bool true] w (DidR yb lb cap o w rv (({ c with A:=Kc.incR (c.rdm l 0%((c.sl:Int)*1048576)) ((c.sl:Int)*1048576) }:Kc).go 1) l (.tuple #[])):=by
 obtain⟨HS0,HM0,hfit,HF,HWD,HSL,HCP,HNR⟩:=h.start;have HLL:=hid (And.intro hBB hLL);have HKK:=hid hk;have HPH:=hid hph;clear h hfit hBB hLL hk hph;have hsl1:=HF.out.sl1;have e1:IntKind.u32.wrap (c.sl:Int)=(c.sl:Int):=sh_wrap32 (by omega) (by omega);have e2:IntKind.u32.wrap ((c.sl:Int)*1048576)=(c.sl:Int)*1048576:=sh_wrap32 (by omega) (by omega);obtain⟨M,hM⟩:∃ x:Int,(c.sl:Int)*1048576=x:=⟨_,rfl⟩;have hM0:0<M:=by omega
 have hM1:M<4294967296:=by omega
 have HMM:=hid hM;rw[hM] at e2;have e2b:((c.sl:Int)*1048576)%4294967296=M:=by rw[hM];omega
 have mm0:(M==0)=false:=by simp;omega
 have mm1:¬ M=0:=by omega
 clear hM hsl1;obtain⟨mz_0,gz_0,zb0,zb1⟩:=HS0.out.cellB HLL.out.1 HLL.out.2 (0) (hj);obtain⟨z,hz'⟩:∃ x,c.rdm l (0)=x:=⟨_,rfl⟩;rw[hz'] at mz_0 zb0 zb1;try rw[hz']
 have Hz':=hid hz';clear hz';rw[Nat.add_zero] at mz_0 gz_0;rw[HMM.out];have t1:z.tmod M=z%M:=Int.tmod_eq_emod_of_nonneg zb0;have q0:=Int.emod_nonneg z mm1;have q1:=Int.emod_lt_of_pos z hM0;obtain⟨Q,hQ⟩:∃ x,z%M=x:=⟨_,rfl⟩;rw[hQ] at t1 q0 q1 ⊢;have t2:IntKind.u32.wrap Q=Q:=sh_wrap32 q0 (by omega);have q2:Q<4294967296:=by omega
 clear hQ;have hL0:(0:Int)<(LL:Int):=by omega
 have HNX:=hid fun W=>next01 Q M W ⟨q0,q2⟩ ⟨hM0,hM1⟩
 have hib:=incR_bd (a:=Q) hM0;obtain⟨X,hX⟩:∃ x,Kc.incR Q M=x:=⟨_,rfl⟩;rw[hX] at HNX hib ⊢;have hx1:X<4294967296:=by omega
 have HXB:=hid (And.intro hib.1 hx1);clear hX hib hx1;have hr0:=HS0.out.row;have c2_0:=hr0.at 2 (.int .i64 (c.sl:Int)) (by rw[← HSL.out];rfl);have c11_0:=hr0.ph 11 0 HPH;have c16_0:=hr0.at 16 (.int .u32 c.A);have f16_0:=hr0.frozen 16;clear hr0;go_enter Tryz.func87,Tryz.ntmps87;go_wp2_with fail;obtain⟨HS1,HM1⟩:=nxx (HS0.out.setA (Q) ⟨q0,q2⟩) HM0;refine(HNX.out _).mono ?_;rintro ex wq ⟨rfl,hwq⟩;rw[hwq];clear hwq;go_wp2_with fail;obtain⟨hs2,hm2⟩:=HS1.out.setA X HXB.out;have HS2:=hid (show SR ((w.setCell ⟨yb,16,none⟩ (.int .u32 (Q))).setCell ⟨yb,16,none⟩ (.int .u32 X)) yb lb cap o { c with A:=X } rv l from hs2);have HM2:=hid (HM1.out.trans hm2);clear hs2 hm2;refine(to_r yb lb cap o _ _ _ (1) 1 _ HS2.out rfl).mono (mvK HM2 fun w3 HS3 HM3=>?_);go_wp2_with fail
 go_end0
 exact⟨_,rfl,HS3.out,HM3.out⟩
theorem r_ring_w1 (B LL CC:Nat) (w:World) (h:SR w yb lb cap o c rv l) (hBB:c.base=B) (hLL:B+LL=l.length) (hk:isK o.k=true) (hph:c.ph=1) (hHd:headZ o=((1:Nat):Int)) (hw1:c.wr=true→c.i<c.rc.length) (hw2:c.rc.length≤1000000) (hw3:c.i<1000) (hj:1+(c.A%c.sl).toNat*c.wd+c.i<LL) (hs:1≤c.sl):Calls Tryz.prog 87 #[.pointer (some ⟨yb,0,none⟩),.slice (some ⟨lb,B,none⟩) LL CC,.bool true] w (DidR yb lb cap o w rv (c.word l (1+(c.A%c.sl).toNat*c.wd) (·.go 2)).1 (c.word l (1+(c.A%c.sl).toNat*c.wd) (·.go 2)).2 (.tuple #[])):=by
 obtain⟨HS0,HM0,hfit,HF,HWD,HSL,HCP,HNR⟩:=h.start;have HLL:=hid (And.intro hBB hLL);have HKK:=hid hk;have HPH:=hid hph;clear h hfit hBB hLL hk hph;have HHD:=hid (And.intro hHd (show(1:Nat)≤5 from(by omega)));have HWI:=hid hw1;have HRL:=hid hw2;have HI2:=hid hw3;have HJ:=hid hj;clear hHd hw1 hw2 hw3 hj;have hsl1:=HF.out.sl1;have e1:IntKind.u32.wrap (c.sl:Int)=(c.sl:Int):=sh_wrap32 (by omega) (by omega);have m0:((c.sl:Int)==0)=false:=by simp;omega
 have m1:¬ (c.sl:Int)=0:=by omega
 have m2:¬ c.sl=0:=by omega
 have t1:c.A.tmod (c.sl:Int)=c.A%(c.sl:Int):=Int.tmod_eq_emod_of_nonneg HF.out.A0;have q0:=Int.emod_nonneg c.A m1;have q1:=Int.emod_lt_of_pos c.A (show(0:Int)<(c.sl:Int) by omega);have HAB:=hid (show 0≤c.A%(c.sl:Int)∧c.A%(c.sl:Int)≤20 by omega);have t2:IntKind.u32.wrap (c.A%(c.sl:Int))=c.A%(c.sl:Int):=sh_wrap32 q0 (by omega);clear q0 q1 hs;have e2:IntKind.u32.wrap ((c.sl:Int)*1048576)=(c.sl:Int)*1048576:=sh_wrap32 (by omega) (by omega);have hr0:=HS0.out.row;have c11_0:=hr0.ph 11 1 HPH;have c2_0:=hr0.at 2 (.int .i64 (c.sl:Int)) (by rw[← HSL.out];rfl);have c16_0:=hr0.at 16 (.int .u32 c.A);clear hr0;go_enter Tryz.func87,Tryz.ntmps87;go_wp2_with fail;refine(word_rgo yb lb cap o c rv l B LL CC (c.A%(c.sl:Int)) ((1:Nat)) _ 2 _ HS0.out HLL.out.1 HLL.out.2 HKK.out HHD.out.1 HHD.out.2 HAB.out rfl HJ.out HI2.out HWI.out HRL.out).mono (mvD HM0 fun w1 rv1 HS1 HM1=>?_);go_wp2_with fail
 go_end0
 exact⟨_,rfl,HS1.out,HM1.out⟩
theorem r_ring_w2 (B LL CC:Nat) (w:World) (h:SR w yb lb cap o c rv l) (hBB:c.base=B) (hLL:B+LL=l.length) (hk:isK o.k=true) (hph:c.ph=2) (hs:1≤c.sl) (hj:0<LL):Calls Tryz.prog 87 #[.pointer (some ⟨yb,0,none⟩),.slice (some ⟨lb,B,none⟩) LL CC,.bool true] w (DidR yb lb cap o w rv (c.fin 0) (c.wrm l 0 c.A) (.tuple #[])):=by
 obtain⟨HS0,HM0,hfit,HF,HWD,HSL,HCP,HNR⟩:=h.start;have HLL:=hid (And.intro hBB hLL);have HKK:=hid hk;have HPH:=hid hph;clear h hfit hBB hLL hk hph;have hsl1:=HF.out.sl1;have e1:IntKind.u32.wrap (c.sl:Int)=(c.sl:Int):=sh_wrap32 (by omega) (by omega);have e2:IntKind.u32.wrap ((c.sl:Int)*1048576)=(c.sl:Int)*1048576:=sh_wrap32 (by omega) (by omega);obtain⟨M,hM⟩:∃ x:Int,(c.sl:Int)*1048576=x:=⟨_,rfl⟩;have hM0:0<M:=by omega
 have hM1:M<4294967296:=by omega
 have HMM:=hid hM;rw[hM] at e2;have e2b:((c.sl:Int)*1048576)%4294967296=M:=by rw[hM];omega
 have mm0:(M==0)=false:=by simp;omega
 have mm1:¬ M=0:=by omega
 clear hM hsl1;have hL0:(0:Int)<(LL:Int):=by omega
 obtain⟨my_0,gy_0,_,_⟩:=HS0.out.cellB HLL.out.1 HLL.out.2 (0) (hj);rw[Nat.add_zero] at my_0 gy_0;have hr0:=HS0.out.row;have c2_0:=hr0.at 2 (.int .i64 (c.sl:Int)) (by rw[← HSL.out];rfl);have c11_0:=hr0.ph 11 2 HPH;have c16_0:=hr0.at 16 (.int .u32 c.A);clear hr0;go_enter Tryz.func87,Tryz.ntmps87;go_wp2_with fail;obtain⟨hs,hm⟩:=HS0.out.putB HLL.out.1 HLL.out.2 (0) (hj) (c.A) (⟨HF.out.A0,HF.out.A1⟩);rw[Nat.add_zero] at hs hm;obtain⟨HS1,HM1⟩:=nx hs HM0 hm;clear hs hm;refine(end_r yb lb cap o _ _ _ 0 _ HS1.out HKK.out).mono (mvD HM1 fun w2 rv2 HS2 HM2=>?_);go_wp2_with fail
 go_end0
 exact⟨_,rfl,HS2.out,HM2.out⟩
theorem r_ring_r0 (B LL CC:Nat) (w:World) (h:SR w yb lb cap o c rv l) (hBB:c.base=B) (hLL:B+LL=l.length) (hk:isK o.k=true) (hph:c.ph=0) (hs:1≤c.sl) (hj:0<LL):Calls Tryz.prog 87 #[.pointer (some ⟨yb,0,none⟩),.slice (some ⟨lb,B,none⟩) LL CC,.bool false] w (DidR yb lb cap o w rv (({ c with A:=c.rdm l 0%((c.sl:Int)*1048576) }:Kc).go 1) l (.tuple #[])):=by
 obtain⟨HS0,HM0,hfit,HF,HWD,HSL,HCP,HNR⟩:=h.start;have HLL:=hid (And.intro hBB hLL);have HKK:=hid hk;have HPH:=hid hph;clear h hfit hBB hLL hk hph;have hsl1:=HF.out.sl1;have e1:IntKind.u32.wrap (c.sl:Int)=(c.sl:Int):=sh_wrap32 (by omega) (by omega);have e2:IntKind.u32.wrap ((c.sl:Int)*1048576)=(c.sl:Int)*1048576:=sh_wrap32 (by omega) (by omega);obtain⟨M,hM⟩:∃ x:Int,(c.sl:Int)*1048576=x:=⟨_,rfl⟩;have hM0:0<M:=by omega
 have hM1:M<4294967296:=by omega
 have HMM:=hid hM;rw[hM] at e2;have e2b:((c.sl:Int)*1048576)%4294967296=M:=by rw[hM];omega
 have mm0:(M==0)=false:=by simp;omega
 have mm1:¬ M=0:=by omega
 clear hM hsl1;obtain⟨mz_0,gz_0,zb0,zb1⟩:=HS0.out.cellB HLL.out.1 HLL.out.2 (0) (hj);obtain⟨z,hz'⟩:∃ x,c.rdm l (0)=x:=⟨_,rfl⟩;rw[hz'] at mz_0 zb0 zb1;try rw[hz']
 have Hz':=hid hz';clear hz';rw[Nat.add_zero] at mz_0 gz_0;rw[HMM.out];have t1:z.tmod M=z%M:=Int.tmod_eq_emod_of_nonneg zb0;have q0:=Int.emod_nonneg z mm1;have q1:=Int.emod_lt_of_pos z hM0;obtain⟨Q,hQ⟩:∃ x,z%M=x:=⟨_,rfl⟩;rw[hQ] at t1 q0 q1 ⊢;have t2:IntKind.u32.wrap Q=Q:=sh_wrap32 q0 (by omega);have q2:Q<4294967296:=by omega
 clear hQ;have hL0:(0:Int)<(LL:Int):=by omega
 have hr0:=HS0.out.row;have c2_0:=hr0.at 2 (.int .i64 (c.sl:Int)) (by rw[← HSL.out];rfl);have c11_0:=hr0.ph 11 0 HPH;have c16_0:=hr0.at 16 (.int .u32 c.A);have f16_0:=hr0.frozen 16;clear hr0;go_enter Tryz.func87,Tryz.ntmps87;go_wp2_with fail;obtain⟨HS1,HM1⟩:=nxx (HS0.out.setA (Q) ⟨q0,q2⟩) HM0;refine(to_r yb lb cap o _ _ _ (1) 1 _ HS1.out rfl).mono (mvK HM1 fun w2 HS2 HM2=>?_);go_wp2_with fail
 go_end0
 exact⟨_,rfl,HS2.out,HM2.out⟩
theorem r_ring_r1 (B LL CC:Nat) (w:World) (h:SR w yb lb cap o c rv l) (hBB:c.base=B) (hLL:B+LL=l.length) (hk:isK o.k=true) (hph:c.ph=1) (hHd:headZ o=((1:Nat):Int)) (hw1:c.wr=true→c.i<c.rc.length) (hw2:c.rc.length≤1000000) (hw3:c.i<1000) (hj:1+(c.A%c.sl).toNat*c.wd+c.i<LL) (hs:1≤c.sl):Calls Tryz.prog 87 #[.pointer (some ⟨yb,0,none⟩),.slice (some ⟨lb,B,none⟩) LL CC,.bool false] w (DidR yb lb cap o w rv (c.word l (1+(c.A%c.sl).toNat*c.wd) (·.go 2)).1 (c.word l (1+(c.A%c.sl).toNat*c.wd) (·.go 2)).2 (.tuple #[])):=by
 obtain⟨HS0,HM0,hfit,HF,HWD,HSL,HCP,HNR⟩:=h.start;have HLL:=hid (And.intro hBB hLL);have HKK:=hid hk;have HPH:=hid hph;clear h hfit hBB hLL hk hph;have HHD:=hid (And.intro hHd (show(1:Nat)≤5 from(by omega)));have HWI:=hid hw1;have HRL:=hid hw2;have HI2:=hid hw3;have HJ:=hid hj;clear hHd hw1 hw2 hw3 hj;have hsl1:=HF.out.sl1;have e1:IntKind.u32.wrap (c.sl:Int)=(c.sl:Int):=sh_wrap32 (by omega) (by omega);have m0:((c.sl:Int)==0)=false:=by simp;omega
 have m1:¬ (c.sl:Int)=0:=by omega
 have m2:¬ c.sl=0:=by omega
 have t1:c.A.tmod (c.sl:Int)=c.A%(c.sl:Int):=Int.tmod_eq_emod_of_nonneg HF.out.A0;have q0:=Int.emod_nonneg c.A m1;have q1:=Int.emod_lt_of_pos c.A (show(0:Int)<(c.sl:Int) by omega);have HAB:=hid (show 0≤c.A%(c.sl:Int)∧c.A%(c.sl:Int)≤20 by omega);have t2:IntKind.u32.wrap (c.A%(c.sl:Int))=c.A%(c.sl:Int):=sh_wrap32 q0 (by omega);clear q0 q1 hs;have e2:IntKind.u32.wrap ((c.sl:Int)*1048576)=(c.sl:Int)*1048576:=sh_wrap32 (by omega) (by omega);have hr0:=HS0.out.row;have c11_0:=hr0.ph 11 1 HPH;have c2_0:=hr0.at 2 (.int .i64 (c.sl:Int)) (by rw[← HSL.out];rfl);have c16_0:=hr0.at 16 (.int .u32 c.A);clear hr0;go_enter Tryz.func87,Tryz.ntmps87;go_wp2_with fail;refine(word_rgo yb lb cap o c rv l B LL CC (c.A%(c.sl:Int)) ((1:Nat)) _ 2 _ HS0.out HLL.out.1 HLL.out.2 HKK.out HHD.out.1 HHD.out.2 HAB.out rfl HJ.out HI2.out HWI.out HRL.out).mono (mvD HM0 fun w1 rv1 HS1 HM1=>?_);go_wp2_with fail
 go_end0
 exact⟨_,rfl,HS1.out,HM1.out⟩
theorem r_ring_r2_ok (B LL CC:Nat) (w:World) (h:SR w yb lb cap o c rv l) (hBB:c.base=B) (hLL:B+LL=l.length) (hk:isK o.k=true) (hph:c.ph=2) (hs:1≤c.sl) (_ht:c.tr<1000) (hj:0<LL) (he:Kc.gapR c.A (c.rdm l 0) ((c.sl:Int)*1048576)+1<(c.sl:Int)):Calls Tryz.prog 87 #[.pointer (some ⟨yb,0,none⟩),.slice (some ⟨lb,B,none⟩) LL CC,.bool false] w (DidR yb lb cap o w rv (c.fin 0) l (.tuple #[])):=by
 obtain⟨HS0,HM0,hfit,HF,HWD,HSL,HCP,HNR⟩:=h.start;have HLL:=hid (And.intro hBB hLL);have HKK:=hid hk;have HPH:=hid hph;clear h hfit hBB hLL hk hph;have hsl1:=HF.out.sl1;have e1:IntKind.u32.wrap (c.sl:Int)=(c.sl:Int):=sh_wrap32 (by omega) (by omega);have e2:IntKind.u32.wrap ((c.sl:Int)*1048576)=(c.sl:Int)*1048576:=sh_wrap32 (by omega) (by omega);obtain⟨M,hM⟩:∃ x:Int,(c.sl:Int)*1048576=x:=⟨_,rfl⟩;have hM0:0<M:=by omega
 have hM1:M<4294967296:=by omega
 have HMM:=hid hM;rw[hM] at e2;have e2b:((c.sl:Int)*1048576)%4294967296=M:=by rw[hM];omega
 have mm0:(M==0)=false:=by simp;omega
 have mm1:¬ M=0:=by omega
 clear hM hsl1;obtain⟨mz_0,gz_0,zb0,zb1⟩:=HS0.out.cellB HLL.out.1 HLL.out.2 (0) (hj);obtain⟨z,hz'⟩:∃ x,c.rdm l (0)=x:=⟨_,rfl⟩;rw[hz'] at mz_0 zb0 zb1;try rw[hz']
 have Hz':=hid hz';clear hz';rw[Nat.add_zero] at mz_0 gz_0;rw[HMM.out,Hz'.out] at he;have HJ0:=hid hj;have hL0:(0:Int)<(LL:Int):=by omega
 have HGA:=hid fun W=>gap01 c.A z M W ⟨HF.out.A0,HF.out.A1⟩ ⟨zb0,zb1⟩ ⟨hM0,hM1⟩
 have hgb:=gapR_bd (a:=c.A) (b:=z) hM0;obtain⟨G,hG⟩:∃ x,Kc.gapR c.A z M=x:=⟨_,rfl⟩;rw[hG] at HGA hgb he;have e5:IntKind.u32.wrap (G+1)=G+1:=sh_wrap32 (by omega) (by have:=HMM.out;have:=HF.out.sl1;omega);have hd:decide (G+1<(c.sl:Int))=true:=decide_eq_true he;clear hG hgb he;clear _ht;have hr0:=HS0.out.row;have c2_0:=hr0.at 2 (.int .i64 (c.sl:Int)) (by rw[← HSL.out];rfl);have c11_0:=hr0.ph 11 2 HPH;clear hr0;go_enter Tryz.func87,Tryz.ntmps87;go_wp2_with fail;refine rgR (S:=(QOrG0 yb c lb B z)) HS0 HM0 (fun HS1=>⟨(HS1.out.row.cell 16).trans rfl,(HS1.out.cell0 HLL.out.1 HLL.out.2 HJ0.out).trans (by show some (Value.int .u32 (c.rdm l 0))=_;rw[Hz'.out])⟩) fun w1 HS1 HM1 hHeld=>?_
 refine tk4 0 1 2 3 ?_;refine tk4 4 5 6 7 ?_;refine tkH 10 ?_;refine clH 8 (fun K hK=>?_)
 ·go_simp;refine(HGA.out _).mono ?_;rintro ex w2 ⟨rfl,hb⟩;have HS2:=hid (HS1.out.below hb);have HM2:=hid (HM1.out.trans (Mv.below hb _));clear hb;have hSx:(QOrG0 yb c lb B z) w2:=⟨(HS2.out.row.cell 16).trans rfl,(HS2.out.cell0 HLL.out.1 HLL.out.2 HJ0.out).trans (by show some (Value.int .u32 (c.rdm l 0))=_;rw[Hz'.out])⟩;refine kH hK hSx fun hHeld=>?_
  clear hK K;refine tk2 9 11 ?_;refine dnH ?_;clear hHeld hSx;go_wp2_with fail;refine(end_r yb lb cap o _ _ _ 0 _ HS2.out HKK.out).mono (mvD HM2 fun w3 rv3 HS3 HM3=>?_);go_wp2_with fail
  go_end0
  exact⟨_,rfl,HS3.out,HM3.out⟩
theorem r_ring_r2_again (B LL CC:Nat) (w:World) (h:SR w yb lb cap o c rv l) (hBB:c.base=B) (hLL:B+LL=l.length) (hk:isK o.k=true) (hph:c.ph=2) (hs:1≤c.sl) (ht:c.tr<1000) (hj:0<LL) (he:¬ (Kc.gapR c.A (c.rdm l 0) ((c.sl:Int)*1048576)+1<(c.sl:Int))) (hlast:¬ (c.cap≤c.tr+1)):Calls Tryz.prog 87 #[.pointer (some ⟨yb,0,none⟩),.slice (some ⟨lb,B,none⟩) LL CC,.bool false] w (DidR yb lb cap o w rv (c.fail (·.fin 1)) l (.tuple #[])):=by
 obtain⟨HS0,HM0,hfit,HF,HWD,HSL,HCP,HNR⟩:=h.start;have HLL:=hid (And.intro hBB hLL);have HKK:=hid hk;have HPH:=hid hph;clear h hfit hBB hLL hk hph;have hsl1:=HF.out.sl1;have e1:IntKind.u32.wrap (c.sl:Int)=(c.sl:Int):=sh_wrap32 (by omega) (by omega);have e2:IntKind.u32.wrap ((c.sl:Int)*1048576)=(c.sl:Int)*1048576:=sh_wrap32 (by omega) (by omega);obtain⟨M,hM⟩:∃ x:Int,(c.sl:Int)*1048576=x:=⟨_,rfl⟩;have hM0:0<M:=by omega
 have hM1:M<4294967296:=by omega
 have HMM:=hid hM;rw[hM] at e2;have e2b:((c.sl:Int)*1048576)%4294967296=M:=by rw[hM];omega
 have mm0:(M==0)=false:=by simp;omega
 have mm1:¬ M=0:=by omega
 clear hM hsl1;obtain⟨mz_0,gz_0,zb0,zb1⟩:=HS0.out.cellB HLL.out.1 HLL.out.2 (0) (hj);obtain⟨z,hz'⟩:∃ x,c.rdm l (0)=x:=⟨_,rfl⟩;rw[hz'] at mz_0 zb0 zb1;try rw[hz']
 have Hz':=hid hz';clear hz';rw[Nat.add_zero] at mz_0 gz_0;rw[HMM.out,Hz'.out] at he;have HJ0:=hid hj;have hL0:(0:Int)<(LL:Int):=by omega
 have HGA:=hid fun W=>gap01 c.A z M W ⟨HF.out.A0,HF.out.A1⟩ ⟨zb0,zb1⟩ ⟨hM0,hM1⟩
 have hgb:=gapR_bd (a:=c.A) (b:=z) hM0;obtain⟨G,hG⟩:∃ x,Kc.gapR c.A z M=x:=⟨_,rfl⟩;rw[hG] at HGA hgb he;have e5:IntKind.u32.wrap (G+1)=G+1:=sh_wrap32 (by omega) (by have:=HMM.out;have:=HF.out.sl1;omega);have hd:decide (G+1<(c.sl:Int))=false:=decide_eq_false he;clear hG hgb he;have hfl:=fun W (h:SR W yb lb cap o c rv l)=>fail_r yb lb cap o c rv l W h ht
 have hd2:decide ((c.cap:Int)≤(c.tr:Int)+1)=false:=decide_eq_false (by omega);rw[hd2] at hfl;have HFL:=hid hfl;clear hfl hd2;unfold Kc.fail;simp only[ge_iff_le];rw[if_neg hlast];clear hlast ht;have hr0:=HS0.out.row;have c2_0:=hr0.at 2 (.int .i64 (c.sl:Int)) (by rw[← HSL.out];rfl);have c11_0:=hr0.ph 11 2 HPH;clear hr0;go_enter Tryz.func87,Tryz.ntmps87;go_wp2_with fail;refine rgR (S:=(QOrG0 yb c lb B z)) HS0 HM0 (fun HS1=>⟨(HS1.out.row.cell 16).trans rfl,(HS1.out.cell0 HLL.out.1 HLL.out.2 HJ0.out).trans (by show some (Value.int .u32 (c.rdm l 0))=_;rw[Hz'.out])⟩) fun w1 HS1 HM1 hHeld=>?_
 refine tk4 0 1 2 3 ?_;refine tk4 4 5 6 7 ?_;refine tkH 10 ?_;refine clH 8 (fun K hK=>?_)
 ·go_simp;refine(HGA.out _).mono ?_;rintro ex w2 ⟨rfl,hb⟩;have HS2:=hid (HS1.out.below hb);have HM2:=hid (HM1.out.trans (Mv.below hb _));clear hb;have hSx:(QOrG0 yb c lb B z) w2:=⟨(HS2.out.row.cell 16).trans rfl,(HS2.out.cell0 HLL.out.1 HLL.out.2 HJ0.out).trans (by show some (Value.int .u32 (c.rdm l 0))=_;rw[Hz'.out])⟩;refine kH hK hSx fun hHeld=>?_
  clear hK K;refine tk2 9 11 ?_;refine dnH ?_;clear hHeld hSx;go_wp2_with fail;refine(HFL.out _ HS2.out).mono (mvD HM2 fun w3 rv3 HS3 HM3=>?_);go_wp2_with fail
  go_end0
  exact⟨_,rfl,HS3.out,HM3.out⟩
theorem r_ring_r2_last (B LL CC:Nat) (w:World) (h:SR w yb lb cap o c rv l) (hBB:c.base=B) (hLL:B+LL=l.length) (hk:isK o.k=true) (hph:c.ph=2) (hs:1≤c.sl) (ht:c.tr<1000) (hj:0<LL) (he:¬ (Kc.gapR c.A (c.rdm l 0) ((c.sl:Int)*1048576)+1<(c.sl:Int))) (hlast:c.cap≤c.tr+1):Calls Tryz.prog 87 #[.pointer (some ⟨yb,0,none⟩),.slice (some ⟨lb,B,none⟩) LL CC,.bool false] w (DidR yb lb cap o w rv (c.fail (·.fin 1)) l (.tuple #[])):=by
 obtain⟨HS0,HM0,hfit,HF,HWD,HSL,HCP,HNR⟩:=h.start;have HLL:=hid (And.intro hBB hLL);have HKK:=hid hk;have HPH:=hid hph;clear h hfit hBB hLL hk hph;have hsl1:=HF.out.sl1;have e1:IntKind.u32.wrap (c.sl:Int)=(c.sl:Int):=sh_wrap32 (by omega) (by omega);have e2:IntKind.u32.wrap ((c.sl:Int)*1048576)=(c.sl:Int)*1048576:=sh_wrap32 (by omega) (by omega);obtain⟨M,hM⟩:∃ x:Int,(c.sl:Int)*1048576=x:=⟨_,rfl⟩;have hM0:0<M:=by omega
 have hM1:M<4294967296:=by omega
 have HMM:=hid hM;rw[hM] at e2;have e2b:((c.sl:Int)*1048576)%4294967296=M:=by rw[hM];omega
 have mm0:(M==0)=false:=by simp;omega
 have mm1:¬ M=0:=by omega
 clear hM hsl1;obtain⟨mz_0,gz_0,zb0,zb1⟩:=HS0.out.cellB HLL.out.1 HLL.out.2 (0) (hj);obtain⟨z,hz'⟩:∃ x,c.rdm l (0)=x:=⟨_,rfl⟩;rw[hz'] at mz_0 zb0 zb1;try rw[hz']
 have Hz':=hid hz';clear hz';rw[Nat.add_zero] at mz_0 gz_0;rw[HMM.out,Hz'.out] at he;have HJ0:=hid hj;have hL0:(0:Int)<(LL:Int):=by omega
 have HGA:=hid fun W=>gap01 c.A z M W ⟨HF.out.A0,HF.out.A1⟩ ⟨zb0,zb1⟩ ⟨hM0,hM1⟩
 have hgb:=gapR_bd (a:=c.A) (b:=z) hM0;obtain⟨G,hG⟩:∃ x,Kc.gapR c.A z M=x:=⟨_,rfl⟩;rw[hG] at HGA hgb he;have e5:IntKind.u32.wrap (G+1)=G+1:=sh_wrap32 (by omega) (by have:=HMM.out;have:=HF.out.sl1;omega);have hd:decide (G+1<(c.sl:Int))=false:=decide_eq_false he;clear hG hgb he;have hfl:=fun W (h:SR W yb lb cap o c rv l)=>fail_r yb lb cap o c rv l W h ht
 have hd2:decide ((c.cap:Int)≤(c.tr:Int)+1)=true:=decide_eq_true (by omega);rw[hd2] at hfl;have HFL:=hid hfl;clear hfl hd2;unfold Kc.fail;simp only[ge_iff_le];rw[if_pos hlast];clear hlast ht;have hr0:=HS0.out.row;have c2_0:=hr0.at 2 (.int .i64 (c.sl:Int)) (by rw[← HSL.out];rfl);have c11_0:=hr0.ph 11 2 HPH;clear hr0;go_enter Tryz.func87,Tryz.ntmps87;go_wp2_with fail;refine rgR (S:=(QOrG0 yb c lb B z)) HS0 HM0 (fun HS1=>⟨(HS1.out.row.cell 16).trans rfl,(HS1.out.cell0 HLL.out.1 HLL.out.2 HJ0.out).trans (by show some (Value.int .u32 (c.rdm l 0))=_;rw[Hz'.out])⟩) fun w1 HS1 HM1 hHeld=>?_
 refine tk4 0 1 2 3 ?_;refine tk4 4 5 6 7 ?_;refine tkH 10 ?_;refine clH 8 (fun K hK=>?_)
 ·go_simp;refine(HGA.out _).mono ?_;rintro ex w2 ⟨rfl,hb⟩;have HS2:=hid (HS1.out.below hb);have HM2:=hid (HM1.out.trans (Mv.below hb _));clear hb;have hSx:(QOrG0 yb c lb B z) w2:=⟨(HS2.out.row.cell 16).trans rfl,(HS2.out.cell0 HLL.out.1 HLL.out.2 HJ0.out).trans (by show some (Value.int .u32 (c.rdm l 0))=_;rw[Hz'.out])⟩;refine kH hK hSx fun hHeld=>?_
  clear hK K;refine tk2 9 11 ?_;refine dnH ?_;clear hHeld hSx;go_wp2_with fail;refine(HFL.out _ HS2.out).mono (mvD HM2 fun w3 rv3 HS3 HM3=>?_);go_wp2_with fail;refine(end_r yb lb cap o _ _ _ 1 _ HS3.out HKK.out).mono (mvD HM3 fun w4 rv4 HS4 HM4=>?_);go_wp2_with fail
  go_end0
  exact⟨_,rfl,HS4.out,HM4.out⟩
end
end Go.Proofs.YtolmpehgeinlkaaGreatDoor
