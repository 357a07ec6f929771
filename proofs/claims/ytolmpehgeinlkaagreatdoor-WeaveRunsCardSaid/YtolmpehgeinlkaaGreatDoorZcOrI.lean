/- The document's operation: the kind fifo. -/
import Derived.Test.YtolmpehgeinlkaaGreatDoorZcOrF
namespace Go.Proofs.YtolmpehgeinlkaaGreatDoor
open Go.RowKit
open Go.Lib (hid)
attribute [local go_sem] Oper.semAt_some
set_option maxHeartbeats 1000000
set_option maxRecDepth 100000
abbrev QOrI0 (a0:Nat) (a1:Kc) (a2 a3:Nat) (a4:Int) (w':World):Prop:=w'.cell? ⟨a0,16,none⟩=some (.int .u32 a1.A)∧w'.cell? ⟨a2,a3+1,none⟩=some (.int .u32 a4)
abbrev QOrI1 (a0:Nat) (a1:Kc) (a2 a3:Nat) (a4:Int) (w':World):Prop:=w'.cell? ⟨a0,16,none⟩=some (.int .u32 a1.A)∧w'.cell? ⟨a2,a3,none⟩=some (.int .u32 a4)
section
variable (yb lb cap:Nat) (o:Ob) (c:Kc) (rv:Value) (l:List Int)
theorem r_fifo_p0 (B LL CC:Nat) (w:World) (h:SR w yb lb cap o c rv l) (hBB:c.base=B) (hLL:B+LL=l.length) (hk:isK o.k=true) (hph:c.ph=0) (hs:1≤c.sl) (hj:1<LL):Calls Tryz.prog 90 #[.pointer (some ⟨yb,0,none⟩),.slice (some ⟨lb,B,none⟩) LL CC,.bool true] w (DidR yb lb cap o w rv (({ c with A:=c.rdm l 1%(2*(c.sl:Int)) }:Kc).go 1) l (.tuple #[])):=by
 obtain⟨HS0,HM0,hfit,HF,HWD,HSL,HCP,HNR⟩:=h.start;have HLL:=hid (And.intro hBB hLL);have HKK:=hid hk;have HPH:=hid hph;clear h hfit hBB hLL hk hph;have hsl1:=HF.out.sl1;have e1:IntKind.u32.wrap (c.sl:Int)=(c.sl:Int):=sh_wrap32 (by omega) (by omega);have e2:IntKind.u32.wrap (2*(c.sl:Int))=2*(c.sl:Int):=sh_wrap32 (by omega) (by omega);obtain⟨M,hM⟩:∃ x:Int,2*(c.sl:Int)=x:=⟨_,rfl⟩;have hM0:0<M:=by omega
 have hM1:M<4294967296:=by omega
 have HMM:=hid hM;rw[hM] at e2;have e2b:(2*(c.sl:Int))%4294967296=M:=by rw[hM];omega
 have mm0:(M==0)=false:=by simp;omega
 have mm1:¬ M=0:=by omega
 clear hM hsl1;obtain⟨mz_0,gz_0,zb0,zb1⟩:=HS0.out.cellB HLL.out.1 HLL.out.2 (1) (hj);obtain⟨z,hz'⟩:∃ x,c.rdm l (1)=x:=⟨_,rfl⟩;rw[hz'] at mz_0 zb0 zb1;try rw[hz']
 have Hz':=hid hz';clear hz';rw[HMM.out];have t1:z.tmod M=z%M:=Int.tmod_eq_emod_of_nonneg zb0;have q0:=Int.emod_nonneg z mm1;have q1:=Int.emod_lt_of_pos z hM0;obtain⟨Q,hQ⟩:∃ x,z%M=x:=⟨_,rfl⟩;rw[hQ] at t1 q0 q1 ⊢;have t2:IntKind.u32.wrap Q=Q:=sh_wrap32 q0 (by omega);have q2:Q<4294967296:=by omega
 clear hQ;have hL0:(1:Int)<(LL:Int):=by omega
 have hr0:=HS0.out.row;have c2_0:=hr0.at 2 (.int .i64 (c.sl:Int)) (by rw[← HSL.out];rfl);have c11_0:=hr0.ph 11 0 HPH;have c16_0:=hr0.at 16 (.int .u32 c.A);have f16_0:=hr0.frozen 16;clear hr0;go_enter Tryz.func90,Tryz.ntmps90;go_wp2_with fail;obtain⟨HS1,HM1⟩:=nxx (HS0.out.setA (Q) ⟨q0,q2⟩) HM0;refine(to_r yb lb cap o _ _ _ (1) 1 _ HS1.out rfl).mono (mvK HM1 fun w2 HS2 HM2=>?_);go_wp2_with fail
 go_end0
 exact⟨_,rfl,HS2.out,HM2.out⟩
theorem r_fifo_p1_stop (B LL CC:Nat) (w:World) (h:SR w yb lb cap o c rv l) (hBB:c.base=B) (hLL:B+LL=l.length) (hk:isK o.k=true) (hph:c.ph=1) (hs:1≤c.sl) (hj:1<LL) (he:Kc.gapR (c.rdm l 0) c.A (2*(c.sl:Int))≥(c.sl:Int)):Calls Tryz.prog 90 #[.pointer (some ⟨yb,0,none⟩),.slice (some ⟨lb,B,none⟩) LL CC,.bool true] w (DidR yb lb cap o w rv (c.fin 2) l (.tuple #[])):=by
 obtain⟨HS0,HM0,hfit,HF,HWD,HSL,HCP,HNR⟩:=h.start;have HLL:=hid (And.intro hBB hLL);have HKK:=hid hk;have HPH:=hid hph;clear h hfit hBB hLL hk hph;have hsl1:=HF.out.sl1;have e1:IntKind.u32.wrap (c.sl:Int)=(c.sl:Int):=sh_wrap32 (by omega) (by omega);have e2:IntKind.u32.wrap (2*(c.sl:Int))=2*(c.sl:Int):=sh_wrap32 (by omega) (by omega);obtain⟨M,hM⟩:∃ x:Int,2*(c.sl:Int)=x:=⟨_,rfl⟩;have hM0:0<M:=by omega
 have hM1:M<4294967296:=by omega
 have HMM:=hid hM;rw[hM] at e2;have e2b:(2*(c.sl:Int))%4294967296=M:=by rw[hM];omega
 have mm0:(M==0)=false:=by simp;omega
 have mm1:¬ M=0:=by omega
 clear hM hsl1;have hj0:0<LL:=by omega
 obtain⟨my_0,gy_0,yb0,yb1⟩:=HS0.out.cellB HLL.out.1 HLL.out.2 (1) (hj);obtain⟨y,hy'⟩:∃ x,c.rdm l (1)=x:=⟨_,rfl⟩;rw[hy'] at my_0 yb0 yb1;try rw[hy']
 have Hy':=hid hy';clear hy';obtain⟨mz_0,gz_0,zb0,zb1⟩:=HS0.out.cellB HLL.out.1 HLL.out.2 (0) (hj0);obtain⟨z,hz'⟩:∃ x,c.rdm l (0)=x:=⟨_,rfl⟩;rw[hz'] at mz_0 zb0 zb1;try rw[hz']
 have Hz':=hid hz';clear hz';rw[Nat.add_zero] at mz_0 gz_0;rw[HMM.out,Hz'.out] at he;have HJ0:=hid hj0;have HJ1:=hid hj;have hL0:(0:Int)<(LL:Int):=by omega
 have hL1:(1:Int)<(LL:Int):=by omega
 have HG1:=hid fun W=>gap01 c.A y M W ⟨HF.out.A0,HF.out.A1⟩ ⟨yb0,yb1⟩ ⟨hM0,hM1⟩
 have HG2:=hid fun W=>gap01 z c.A M W ⟨zb0,zb1⟩ ⟨HF.out.A0,HF.out.A1⟩ ⟨hM0,hM1⟩
 obtain⟨G1,hG1⟩:∃ x,Kc.gapR c.A y M=x:=⟨_,rfl⟩;obtain⟨G2,hG2⟩:∃ x,Kc.gapR z c.A M=x:=⟨_,rfl⟩;rw[hG1] at HG1;rw[hG2] at HG2;rw[hG2] at he;have hd:decide ((c.sl:Int)≤G2)=true:=decide_eq_true he;clear hG1 hG2 he;have hr0:=HS0.out.row;have c2_0:=hr0.at 2 (.int .i64 (c.sl:Int)) (by rw[← HSL.out];rfl);have c11_0:=hr0.ph 11 1 HPH;clear hr0;go_enter Tryz.func90,Tryz.ntmps90;go_wp2_with fail;refine rgR (S:=(QOrI0 yb c lb B y)) HS0 HM0 (fun HS1=>⟨(HS1.out.row.cell 16).trans rfl,(HS1.out.cellB HLL.out.1 HLL.out.2 1 HJ1.out).1.trans (by show some (Value.int .u32 (c.rdm l 1))=_;rw[Hy'.out])⟩) fun w1 HS1 HM1 hHeld=>?_
 refine tk4 0 1 2 3 ?_;refine tk4 4 5 6 7 ?_;refine clH 8 (fun K hK=>?_)
 ·go_simp;refine(HG1.out _).mono ?_;rintro ex w2 ⟨rfl,hb⟩;have HS2:=hid (HS1.out.below hb);have HM2:=hid (HM1.out.trans (Mv.below hb _));clear hb;have hSx:(QOrI0 yb c lb B y) w2:=⟨(HS2.out.row.cell 16).trans rfl,(HS2.out.cellB HLL.out.1 HLL.out.2 1 HJ1.out).1.trans (by show some (Value.int .u32 (c.rdm l 1))=_;rw[Hy'.out])⟩;refine kH hK hSx fun hHeld=>?_
  clear hK K;refine tkH 9 ?_;refine dnH ?_;clear hHeld hSx;go_wp2_with fail;refine rgR (S:=(QOrI1 yb c lb B z)) HS2 HM2 (fun HS3=>⟨(HS3.out.row.cell 16).trans rfl,(HS3.out.cell0 HLL.out.1 HLL.out.2 HJ0.out).trans (by show some (Value.int .u32 (c.rdm l 0))=_;rw[Hz'.out])⟩) fun w3 HS3 HM3 hHeld=>?_
  refine tk4 0 1 2 3 ?_;refine tk4 4 5 6 7 ?_;refine clH 8 (fun K hK=>?_)
  ·go_simp;refine(HG2.out _).mono ?_;rintro ex w4 ⟨rfl,hb⟩;have HS4:=hid (HS3.out.below hb);have HM4:=hid (HM3.out.trans (Mv.below hb _));clear hb;have hSx:(QOrI1 yb c lb B z) w4:=⟨(HS4.out.row.cell 16).trans rfl,(HS4.out.cell0 HLL.out.1 HLL.out.2 HJ0.out).trans (by show some (Value.int .u32 (c.rdm l 0))=_;rw[Hz'.out])⟩;refine kH hK hSx fun hHeld=>?_
   clear hK K;refine tkH 9 ?_;refine dnH ?_;clear hHeld hSx;go_wp2_with fail;refine(end_r yb lb cap o _ _ _ 2 _ HS4.out HKK.out).mono (mvD HM4 fun w5 rv5 HS5 HM5=>?_);go_wp2_with fail
   go_end0
   exact⟨_,rfl,HS5.out,HM5.out⟩
theorem r_fifo_p1_go (B LL CC:Nat) (w:World) (h:SR w yb lb cap o c rv l) (hBB:c.base=B) (hLL:B+LL=l.length) (hk:isK o.k=true) (hph:c.ph=1) (hs:1≤c.sl) (hj:1<LL) (he:¬ (Kc.gapR (c.rdm l 0) c.A (2*(c.sl:Int))≥(c.sl:Int))):Calls Tryz.prog 90 #[.pointer (some ⟨yb,0,none⟩),.slice (some ⟨lb,B,none⟩) LL CC,.bool true] w (DidR yb lb cap o w rv (c.go 2) l (.tuple #[])):=by
 obtain⟨HS0,HM0,hfit,HF,HWD,HSL,HCP,HNR⟩:=h.start;have HLL:=hid (And.intro hBB hLL);have HKK:=hid hk;have HPH:=hid hph;clear h hfit hBB hLL hk hph;have hsl1:=HF.out.sl1;have e1:IntKind.u32.wrap (c.sl:Int)=(c.sl:Int):=sh_wrap32 (by omega) (by omega);have e2:IntKind.u32.wrap (2*(c.sl:Int))=2*(c.sl:Int):=sh_wrap32 (by omega) (by omega);obtain⟨M,hM⟩:∃ x:Int,2*(c.sl:Int)=x:=⟨_,rfl⟩;have hM0:0<M:=by omega
 have hM1:M<4294967296:=by omega
 have HMM:=hid hM;rw[hM] at e2;have e2b:(2*(c.sl:Int))%4294967296=M:=by rw[hM];omega
 have mm0:(M==0)=false:=by simp;omega
 have mm1:¬ M=0:=by omega
 clear hM hsl1;have hj0:0<LL:=by omega
 obtain⟨my_0,gy_0,yb0,yb1⟩:=HS0.out.cellB HLL.out.1 HLL.out.2 (1) (hj);obtain⟨y,hy'⟩:∃ x,c.rdm l (1)=x:=⟨_,rfl⟩;rw[hy'] at my_0 yb0 yb1;try rw[hy']
 have Hy':=hid hy';clear hy';obtain⟨mz_0,gz_0,zb0,zb1⟩:=HS0.out.cellB HLL.out.1 HLL.out.2 (0) (hj0);obtain⟨z,hz'⟩:∃ x,c.rdm l (0)=x:=⟨_,rfl⟩;rw[hz'] at mz_0 zb0 zb1;try rw[hz']
 have Hz':=hid hz';clear hz';rw[Nat.add_zero] at mz_0 gz_0;rw[HMM.out,Hz'.out] at he;have HJ0:=hid hj0;have HJ1:=hid hj;have hL0:(0:Int)<(LL:Int):=by omega
 have hL1:(1:Int)<(LL:Int):=by omega
 have HG1:=hid fun W=>gap01 c.A y M W ⟨HF.out.A0,HF.out.A1⟩ ⟨yb0,yb1⟩ ⟨hM0,hM1⟩
 have HG2:=hid fun W=>gap01 z c.A M W ⟨zb0,zb1⟩ ⟨HF.out.A0,HF.out.A1⟩ ⟨hM0,hM1⟩
 obtain⟨G1,hG1⟩:∃ x,Kc.gapR c.A y M=x:=⟨_,rfl⟩;obtain⟨G2,hG2⟩:∃ x,Kc.gapR z c.A M=x:=⟨_,rfl⟩;rw[hG1] at HG1;rw[hG2] at HG2;rw[hG2] at he;have hd:decide ((c.sl:Int)≤G2)=false:=decide_eq_false he;clear hG1 hG2 he;have hr0:=HS0.out.row;have c2_0:=hr0.at 2 (.int .i64 (c.sl:Int)) (by rw[← HSL.out];rfl);have c11_0:=hr0.ph 11 1 HPH;clear hr0;go_enter Tryz.func90,Tryz.ntmps90;go_wp2_with fail;refine rgR (S:=(QOrI0 yb c lb B y)) HS0 HM0 (fun HS1=>⟨(HS1.out.row.cell 16).trans rfl,(HS1.out.cellB HLL.out.1 HLL.out.2 1 HJ1.out).1.trans (by show some (Value.int .u32 (c.rdm l 1))=_;rw[Hy'.out])⟩) fun w1 HS1 HM1 hHeld=>?_
 refine tk4 0 1 2 3 ?_;refine tk4 4 5 6 7 ?_;refine clH 8 (fun K hK=>?_)
 ·go_simp;refine(HG1.out _).mono ?_;rintro ex w2 ⟨rfl,hb⟩;have HS2:=hid (HS1.out.below hb);have HM2:=hid (HM1.out.trans (Mv.below hb _));clear hb;have hSx:(QOrI0 yb c lb B y) w2:=⟨(HS2.out.row.cell 16).trans rfl,(HS2.out.cellB HLL.out.1 HLL.out.2 1 HJ1.out).1.trans (by show some (Value.int .u32 (c.rdm l 1))=_;rw[Hy'.out])⟩;refine kH hK hSx fun hHeld=>?_
  clear hK K;refine tkH 9 ?_;refine dnH ?_;clear hHeld hSx;go_wp2_with fail;refine rgR (S:=(QOrI1 yb c lb B z)) HS2 HM2 (fun HS3=>⟨(HS3.out.row.cell 16).trans rfl,(HS3.out.cell0 HLL.out.1 HLL.out.2 HJ0.out).trans (by show some (Value.int .u32 (c.rdm l 0))=_;rw[Hz'.out])⟩) fun w3 HS3 HM3 hHeld=>?_
  refine tk4 0 1 2 3 ?_;refine tk4 4 5 6 7 ?_;refine clH 8 (fun K hK=>?_)
  ·go_simp;refine(HG2.out _).mono ?_;rintro ex w4 ⟨rfl,hb⟩;have HS4:=hid (HS3.out.below hb);have HM4:=hid (HM3.out.trans (Mv.below hb _));clear hb;have hSx:(QOrI1 yb c lb B z) w4:=⟨(HS4.out.row.cell 16).trans rfl,(HS4.out.cell0 HLL.out.1 HLL.out.2 HJ0.out).trans (by show some (Value.int .u32 (c.rdm l 0))=_;rw[Hz'.out])⟩;refine kH hK hSx fun hHeld=>?_
   clear hK K;refine tkH 9 ?_;refine dnH ?_;clear hHeld hSx;go_wp2_with fail;refine(to_r yb lb cap o _ _ _ (2) 2 _ HS4.out rfl).mono (mvK HM4 fun w5 HS5 HM5=>?_);go_wp2_with fail
   go_end0
   exact⟨_,rfl,HS5.out,HM5.out⟩
theorem r_fifo_p2 (B LL CC:Nat) (w:World) (h:SR w yb lb cap o c rv l) (hBB:c.base=B) (hLL:B+LL=l.length) (hk:isK o.k=true) (hph:c.ph=2) (hHd:headZ o=((2:Nat):Int)) (hw1:c.wr=true→c.i<c.rc.length) (hw2:c.rc.length≤1000000) (hw3:c.i<1000) (hj:2+(c.A%c.sl).toNat*c.wd+c.i<LL) (hs:1≤c.sl):Calls Tryz.prog 90 #[.pointer (some ⟨yb,0,none⟩),.slice (some ⟨lb,B,none⟩) LL CC,.bool true] w (DidR yb lb cap o w rv (c.word l (2+(c.A%c.sl).toNat*c.wd) (·.go 3)).1 (c.word l (2+(c.A%c.sl).toNat*c.wd) (·.go 3)).2 (.tuple #[])):=by
 obtain⟨HS0,HM0,hfit,HF,HWD,HSL,HCP,HNR⟩:=h.start;have HLL:=hid (And.intro hBB hLL);have HKK:=hid hk;have HPH:=hid hph;clear h hfit hBB hLL hk hph;have HHD:=hid (And.intro hHd (show(2:Nat)≤5 from(by omega)));have HWI:=hid hw1;have HRL:=hid hw2;have HI2:=hid hw3;have HJ:=hid hj;clear hHd hw1 hw2 hw3 hj;have hsl1:=HF.out.sl1;have e1:IntKind.u32.wrap (c.sl:Int)=(c.sl:Int):=sh_wrap32 (by omega) (by omega);have m0:((c.sl:Int)==0)=false:=by simp;omega
 have m1:¬ (c.sl:Int)=0:=by omega
 have m2:¬ c.sl=0:=by omega
 have t1:c.A.tmod (c.sl:Int)=c.A%(c.sl:Int):=Int.tmod_eq_emod_of_nonneg HF.out.A0;have q0:=Int.emod_nonneg c.A m1;have q1:=Int.emod_lt_of_pos c.A (show(0:Int)<(c.sl:Int) by omega);have HAB:=hid (show 0≤c.A%(c.sl:Int)∧c.A%(c.sl:Int)≤20 by omega);have t2:IntKind.u32.wrap (c.A%(c.sl:Int))=c.A%(c.sl:Int):=sh_wrap32 q0 (by omega);clear q0 q1 hs;have e2:IntKind.u32.wrap (2*(c.sl:Int))=2*(c.sl:Int):=sh_wrap32 (by omega) (by omega);have hr0:=HS0.out.row;have c11_0:=hr0.ph 11 2 HPH;have c2_0:=hr0.at 2 (.int .i64 (c.sl:Int)) (by rw[← HSL.out];rfl);have c16_0:=hr0.at 16 (.int .u32 c.A);clear hr0;go_enter Tryz.func90,Tryz.ntmps90;go_wp2_with fail;refine(word_rgo yb lb cap o c rv l B LL CC (c.A%(c.sl:Int)) ((2:Nat)) _ 3 _ HS0.out HLL.out.1 HLL.out.2 HKK.out HHD.out.1 HHD.out.2 HAB.out rfl HJ.out HI2.out HWI.out HRL.out).mono (mvD HM0 fun w1 rv1 HS1 HM1=>?_);go_wp2_with fail
 go_end0
 exact⟨_,rfl,HS1.out,HM1.out⟩
theorem r_fifo_p3 (B LL CC:Nat) (w:World) (h:SR w yb lb cap o c rv l) (hBB:c.base=B) (hLL:B+LL=l.length) (hk:isK o.k=true) (hph:c.ph=3) (hs:1≤c.sl) (hj:1<LL):Calls Tryz.prog 90 #[.pointer (some ⟨yb,0,none⟩),.slice (some ⟨lb,B,none⟩) LL CC,.bool true] w (DidR yb lb cap o w rv (c.fin 0) (c.wrm l 1 (Kc.incR c.A (2*(c.sl:Int)))) (.tuple #[])):=by
 obtain⟨HS0,HM0,hfit,HF,HWD,HSL,HCP,HNR⟩:=h.start;have HLL:=hid (And.intro hBB hLL);have HKK:=hid hk;have HPH:=hid hph;clear h hfit hBB hLL hk hph;have hsl1:=HF.out.sl1;have e1:IntKind.u32.wrap (c.sl:Int)=(c.sl:Int):=sh_wrap32 (by omega) (by omega);have e2:IntKind.u32.wrap (2*(c.sl:Int))=2*(c.sl:Int):=sh_wrap32 (by omega) (by omega);obtain⟨M,hM⟩:∃ x:Int,2*(c.sl:Int)=x:=⟨_,rfl⟩;have hM0:0<M:=by omega
 have hM1:M<4294967296:=by omega
 have HMM:=hid hM;rw[hM] at e2;have e2b:(2*(c.sl:Int))%4294967296=M:=by rw[hM];omega
 have mm0:(M==0)=false:=by simp;omega
 have mm1:¬ M=0:=by omega
 clear hM hsl1;rw[HMM.out];have hL0:(1:Int)<(LL:Int):=by omega
 have HNX:=hid fun W=>next01 c.A M W ⟨HF.out.A0,HF.out.A1⟩ ⟨hM0,hM1⟩
 have hib:=incR_bd (a:=c.A) hM0;obtain⟨X,hX⟩:∃ x,Kc.incR c.A M=x:=⟨_,rfl⟩;rw[hX] at HNX hib ⊢;have HXB:=hid (show 0≤X∧X<4294967296 by omega);clear hX hib;obtain⟨my_0,gy_0,_,_⟩:=HS0.out.cellB HLL.out.1 HLL.out.2 (1) (hj);have hr0:=HS0.out.row;have c2_0:=hr0.at 2 (.int .i64 (c.sl:Int)) (by rw[← HSL.out];rfl);have c11_0:=hr0.ph 11 3 HPH;have c16_0:=hr0.at 16 (.int .u32 c.A);clear hr0;go_enter Tryz.func90,Tryz.ntmps90;go_wp2_with fail;refine(HNX.out _).mono ?_;rintro ex wq ⟨rfl,hwq⟩;rw[hwq];clear hwq;go_wp2_with fail;obtain⟨HS1,HM1⟩:=nxx (HS0.out.putB HLL.out.1 HLL.out.2 (1) (hj) (X) (HXB.out)) HM0;refine(end_r yb lb cap o _ _ _ 0 _ HS1.out HKK.out).mono (mvD HM1 fun w2 rv2 HS2 HM2=>?_);go_wp2_with fail
 go_end0
 exact⟨_,rfl,HS2.out,HM2.out⟩
theorem r_fifo_t0 (B LL CC:Nat) (w:World) (h:SR w yb lb cap o c rv l) (hBB:c.base=B) (hLL:B+LL=l.length) (hk:isK o.k=true) (hph:c.ph=0) (hs:1≤c.sl) (hj:0<LL):Calls Tryz.prog 90 #[.pointer (some ⟨yb,0,none⟩),.slice (some ⟨lb,B,none⟩) LL CC,.bool false] w (DidR yb lb cap o w rv (({ c with A:=c.rdm l 0%(2*(c.sl:Int)) }:Kc).go 1) l (.tuple #[])):=by
 obtain⟨HS0,HM0,hfit,HF,HWD,HSL,HCP,HNR⟩:=h.start;have HLL:=hid (And.intro hBB hLL);have HKK:=hid hk;have HPH:=hid hph;clear h hfit hBB hLL hk hph;have hsl1:=HF.out.sl1;have e1:IntKind.u32.wrap (c.sl:Int)=(c.sl:Int):=sh_wrap32 (by omega) (by omega);have e2:IntKind.u32.wrap (2*(c.sl:Int))=2*(c.sl:Int):=sh_wrap32 (by omega) (by omega);obtain⟨M,hM⟩:∃ x:Int,2*(c.sl:Int)=x:=⟨_,rfl⟩;have hM0:0<M:=by omega
 have hM1:M<4294967296:=by omega
 have HMM:=hid hM;rw[hM] at e2;have e2b:(2*(c.sl:Int))%4294967296=M:=by rw[hM];omega
 have mm0:(M==0)=false:=by simp;omega
 have mm1:¬ M=0:=by omega
 clear hM hsl1;obtain⟨mz_0,gz_0,zb0,zb1⟩:=HS0.out.cellB HLL.out.1 HLL.out.2 (0) (hj);obtain⟨z,hz'⟩:∃ x,c.rdm l (0)=x:=⟨_,rfl⟩;rw[hz'] at mz_0 zb0 zb1;try rw[hz']
 have Hz':=hid hz';clear hz';rw[Nat.add_zero] at mz_0 gz_0;rw[HMM.out];have t1:z.tmod M=z%M:=Int.tmod_eq_emod_of_nonneg zb0;have q0:=Int.emod_nonneg z mm1;have q1:=Int.emod_lt_of_pos z hM0;obtain⟨Q,hQ⟩:∃ x,z%M=x:=⟨_,rfl⟩;rw[hQ] at t1 q0 q1 ⊢;have t2:IntKind.u32.wrap Q=Q:=sh_wrap32 q0 (by omega);have q2:Q<4294967296:=by omega
 clear hQ;have hL0:(0:Int)<(LL:Int):=by omega
 have hr0:=HS0.out.row;have c2_0:=hr0.at 2 (.int .i64 (c.sl:Int)) (by rw[← HSL.out];rfl);have c11_0:=hr0.ph 11 0 HPH;have c16_0:=hr0.at 16 (.int .u32 c.A);have f16_0:=hr0.frozen 16;clear hr0;go_enter Tryz.func90,Tryz.ntmps90;go_wp2_with fail;obtain⟨HS1,HM1⟩:=nxx (HS0.out.setA (Q) ⟨q0,q2⟩) HM0;refine(to_r yb lb cap o _ _ _ (1) 1 _ HS1.out rfl).mono (mvK HM1 fun w2 HS2 HM2=>?_);go_wp2_with fail
 go_end0
 exact⟨_,rfl,HS2.out,HM2.out⟩
theorem r_fifo_t1_stop (B LL CC:Nat) (w:World) (h:SR w yb lb cap o c rv l) (hBB:c.base=B) (hLL:B+LL=l.length) (hk:isK o.k=true) (hph:c.ph=1) (hs:1≤c.sl) (hj:1<LL) (he:Kc.gapR c.A (c.rdm l 1) (2*(c.sl:Int))=0):Calls Tryz.prog 90 #[.pointer (some ⟨yb,0,none⟩),.slice (some ⟨lb,B,none⟩) LL CC,.bool false] w (DidR yb lb cap o w rv (c.fin 3) l (.tuple #[])):=by
 obtain⟨HS0,HM0,hfit,HF,HWD,HSL,HCP,HNR⟩:=h.start;have HLL:=hid (And.intro hBB hLL);have HKK:=hid hk;have HPH:=hid hph;clear h hfit hBB hLL hk hph;have hsl1:=HF.out.sl1;have e1:IntKind.u32.wrap (c.sl:Int)=(c.sl:Int):=sh_wrap32 (by omega) (by omega);have e2:IntKind.u32.wrap (2*(c.sl:Int))=2*(c.sl:Int):=sh_wrap32 (by omega) (by omega);obtain⟨M,hM⟩:∃ x:Int,2*(c.sl:Int)=x:=⟨_,rfl⟩;have hM0:0<M:=by omega
 have hM1:M<4294967296:=by omega
 have HMM:=hid hM;rw[hM] at e2;have e2b:(2*(c.sl:Int))%4294967296=M:=by rw[hM];omega
 have mm0:(M==0)=false:=by simp;omega
 have mm1:¬ M=0:=by omega
 clear hM hsl1;have hj0:0<LL:=by omega
 obtain⟨my_0,gy_0,yb0,yb1⟩:=HS0.out.cellB HLL.out.1 HLL.out.2 (1) (hj);obtain⟨y,hy'⟩:∃ x,c.rdm l (1)=x:=⟨_,rfl⟩;rw[hy'] at my_0 yb0 yb1;try rw[hy']
 have Hy':=hid hy';clear hy';obtain⟨mz_0,gz_0,zb0,zb1⟩:=HS0.out.cellB HLL.out.1 HLL.out.2 (0) (hj0);obtain⟨z,hz'⟩:∃ x,c.rdm l (0)=x:=⟨_,rfl⟩;rw[hz'] at mz_0 zb0 zb1;try rw[hz']
 have Hz':=hid hz';clear hz';rw[Nat.add_zero] at mz_0 gz_0;rw[HMM.out,Hy'.out] at he;have HJ0:=hid hj0;have HJ1:=hid hj;have hL0:(0:Int)<(LL:Int):=by omega
 have hL1:(1:Int)<(LL:Int):=by omega
 have HG1:=hid fun W=>gap01 c.A y M W ⟨HF.out.A0,HF.out.A1⟩ ⟨yb0,yb1⟩ ⟨hM0,hM1⟩
 have HG2:=hid fun W=>gap01 z c.A M W ⟨zb0,zb1⟩ ⟨HF.out.A0,HF.out.A1⟩ ⟨hM0,hM1⟩
 obtain⟨G1,hG1⟩:∃ x,Kc.gapR c.A y M=x:=⟨_,rfl⟩;obtain⟨G2,hG2⟩:∃ x,Kc.gapR z c.A M=x:=⟨_,rfl⟩;rw[hG1] at HG1;rw[hG2] at HG2;rw[hG1] at he;have hd:(G1==0)=true:=by simpa using he
 clear hG1 hG2 he;have hr0:=HS0.out.row;have c2_0:=hr0.at 2 (.int .i64 (c.sl:Int)) (by rw[← HSL.out];rfl);have c11_0:=hr0.ph 11 1 HPH;clear hr0;go_enter Tryz.func90,Tryz.ntmps90;go_wp2_with fail;refine rgR (S:=(QOrI0 yb c lb B y)) HS0 HM0 (fun HS1=>⟨(HS1.out.row.cell 16).trans rfl,(HS1.out.cellB HLL.out.1 HLL.out.2 1 HJ1.out).1.trans (by show some (Value.int .u32 (c.rdm l 1))=_;rw[Hy'.out])⟩) fun w1 HS1 HM1 hHeld=>?_
 refine tk4 0 1 2 3 ?_;refine tk4 4 5 6 7 ?_;refine clH 8 (fun K hK=>?_)
 ·go_simp;refine(HG1.out _).mono ?_;rintro ex w2 ⟨rfl,hb⟩;have HS2:=hid (HS1.out.below hb);have HM2:=hid (HM1.out.trans (Mv.below hb _));clear hb;have hSx:(QOrI0 yb c lb B y) w2:=⟨(HS2.out.row.cell 16).trans rfl,(HS2.out.cellB HLL.out.1 HLL.out.2 1 HJ1.out).1.trans (by show some (Value.int .u32 (c.rdm l 1))=_;rw[Hy'.out])⟩;refine kH hK hSx fun hHeld=>?_
  clear hK K;refine tkH 9 ?_;refine dnH ?_;clear hHeld hSx;go_wp2_with fail;refine(end_r yb lb cap o _ _ _ 3 _ HS2.out HKK.out).mono (mvD HM2 fun w3 rv3 HS3 HM3=>?_);go_wp2_with fail
  go_end0
  exact⟨_,rfl,HS3.out,HM3.out⟩
theorem r_fifo_t1_go (B LL CC:Nat) (w:World) (h:SR w yb lb cap o c rv l) (hBB:c.base=B) (hLL:B+LL=l.length) (hk:isK o.k=true) (hph:c.ph=1) (hs:1≤c.sl) (hj:1<LL) (he:¬ (Kc.gapR c.A (c.rdm l 1) (2*(c.sl:Int))=0)):Calls Tryz.prog 90 #[.pointer (some ⟨yb,0,none⟩),.slice (some ⟨lb,B,none⟩) LL CC,.bool false] w (DidR yb lb cap o w rv (c.go 2) l (.tuple #[])):=by
 obtain⟨HS0,HM0,hfit,HF,HWD,HSL,HCP,HNR⟩:=h.start;have HLL:=hid (And.intro hBB hLL);have HKK:=hid hk;have HPH:=hid hph;clear h hfit hBB hLL hk hph;have hsl1:=HF.out.sl1;have e1:IntKind.u32.wrap (c.sl:Int)=(c.sl:Int):=sh_wrap32 (by omega) (by omega);have e2:IntKind.u32.wrap (2*(c.sl:Int))=2*(c.sl:Int):=sh_wrap32 (by omega) (by omega);obtain⟨M,hM⟩:∃ x:Int,2*(c.sl:Int)=x:=⟨_,rfl⟩;have hM0:0<M:=by omega
 have hM1:M<4294967296:=by omega
 have HMM:=hid hM;rw[hM] at e2;have e2b:(2*(c.sl:Int))%4294967296=M:=by rw[hM];omega
 have mm0:(M==0)=false:=by simp;omega
 have mm1:¬ M=0:=by omega
 clear hM hsl1;have hj0:0<LL:=by omega
 obtain⟨my_0,gy_0,yb0,yb1⟩:=HS0.out.cellB HLL.out.1 HLL.out.2 (1) (hj);obtain⟨y,hy'⟩:∃ x,c.rdm l (1)=x:=⟨_,rfl⟩;rw[hy'] at my_0 yb0 yb1;try rw[hy']
 have Hy':=hid hy';clear hy';obtain⟨mz_0,gz_0,zb0,zb1⟩:=HS0.out.cellB HLL.out.1 HLL.out.2 (0) (hj0);obtain⟨z,hz'⟩:∃ x,c.rdm l (0)=x:=⟨_,rfl⟩;rw[hz'] at mz_0 zb0 zb1;try rw[hz']
 have Hz':=hid hz';clear hz';rw[Nat.add_zero] at mz_0 gz_0;rw[HMM.out,Hy'.out] at he;have HJ0:=hid hj0;have HJ1:=hid hj;have hL0:(0:Int)<(LL:Int):=by omega
 have hL1:(1:Int)<(LL:Int):=by omega
 have HG1:=hid fun W=>gap01 c.A y M W ⟨HF.out.A0,HF.out.A1⟩ ⟨yb0,yb1⟩ ⟨hM0,hM1⟩
 have HG2:=hid fun W=>gap01 z c.A M W ⟨zb0,zb1⟩ ⟨HF.out.A0,HF.out.A1⟩ ⟨hM0,hM1⟩
 obtain⟨G1,hG1⟩:∃ x,Kc.gapR c.A y M=x:=⟨_,rfl⟩;obtain⟨G2,hG2⟩:∃ x,Kc.gapR z c.A M=x:=⟨_,rfl⟩;rw[hG1] at HG1;rw[hG2] at HG2;rw[hG1] at he;have hd:(G1==0)=false:=by simpa using he
 clear hG1 hG2 he;have hr0:=HS0.out.row;have c2_0:=hr0.at 2 (.int .i64 (c.sl:Int)) (by rw[← HSL.out];rfl);have c11_0:=hr0.ph 11 1 HPH;clear hr0;go_enter Tryz.func90,Tryz.ntmps90;go_wp2_with fail;refine rgR (S:=(QOrI0 yb c lb B y)) HS0 HM0 (fun HS1=>⟨(HS1.out.row.cell 16).trans rfl,(HS1.out.cellB HLL.out.1 HLL.out.2 1 HJ1.out).1.trans (by show some (Value.int .u32 (c.rdm l 1))=_;rw[Hy'.out])⟩) fun w1 HS1 HM1 hHeld=>?_
 refine tk4 0 1 2 3 ?_;refine tk4 4 5 6 7 ?_;refine clH 8 (fun K hK=>?_)
 ·go_simp;refine(HG1.out _).mono ?_;rintro ex w2 ⟨rfl,hb⟩;have HS2:=hid (HS1.out.below hb);have HM2:=hid (HM1.out.trans (Mv.below hb _));clear hb;have hSx:(QOrI0 yb c lb B y) w2:=⟨(HS2.out.row.cell 16).trans rfl,(HS2.out.cellB HLL.out.1 HLL.out.2 1 HJ1.out).1.trans (by show some (Value.int .u32 (c.rdm l 1))=_;rw[Hy'.out])⟩;refine kH hK hSx fun hHeld=>?_
  clear hK K;refine tkH 9 ?_;refine dnH ?_;clear hHeld hSx;go_wp2_with fail;refine(to_r yb lb cap o _ _ _ (2) 2 _ HS2.out rfl).mono (mvK HM2 fun w3 HS3 HM3=>?_);go_wp2_with fail
  go_end0
  exact⟨_,rfl,HS3.out,HM3.out⟩
theorem r_fifo_t2 (B LL CC:Nat) (w:World) (h:SR w yb lb cap o c rv l) (hBB:c.base=B) (hLL:B+LL=l.length) (hk:isK o.k=true) (hph:c.ph=2) (hHd:headZ o=((2:Nat):Int)) (hw1:c.wr=true→c.i<c.rc.length) (hw2:c.rc.length≤1000000) (hw3:c.i<1000) (hj:2+(c.A%c.sl).toNat*c.wd+c.i<LL) (hs:1≤c.sl):Calls Tryz.prog 90 #[.pointer (some ⟨yb,0,none⟩),.slice (some ⟨lb,B,none⟩) LL CC,.bool false] w (DidR yb lb cap o w rv (c.word l (2+(c.A%c.sl).toNat*c.wd) (·.go 3)).1 (c.word l (2+(c.A%c.sl).toNat*c.wd) (·.go 3)).2 (.tuple #[])):=by
 obtain⟨HS0,HM0,hfit,HF,HWD,HSL,HCP,HNR⟩:=h.start;have HLL:=hid (And.intro hBB hLL);have HKK:=hid hk;have HPH:=hid hph;clear h hfit hBB hLL hk hph;have HHD:=hid (And.intro hHd (show(2:Nat)≤5 from(by omega)));have HWI:=hid hw1;have HRL:=hid hw2;have HI2:=hid hw3;have HJ:=hid hj;clear hHd hw1 hw2 hw3 hj;have hsl1:=HF.out.sl1;have e1:IntKind.u32.wrap (c.sl:Int)=(c.sl:Int):=sh_wrap32 (by omega) (by omega);have m0:((c.sl:Int)==0)=false:=by simp;omega
 have m1:¬ (c.sl:Int)=0:=by omega
 have m2:¬ c.sl=0:=by omega
 have t1:c.A.tmod (c.sl:Int)=c.A%(c.sl:Int):=Int.tmod_eq_emod_of_nonneg HF.out.A0;have q0:=Int.emod_nonneg c.A m1;have q1:=Int.emod_lt_of_pos c.A (show(0:Int)<(c.sl:Int) by omega);have HAB:=hid (show 0≤c.A%(c.sl:Int)∧c.A%(c.sl:Int)≤20 by omega);have t2:IntKind.u32.wrap (c.A%(c.sl:Int))=c.A%(c.sl:Int):=sh_wrap32 q0 (by omega);clear q0 q1 hs;have e2:IntKind.u32.wrap (2*(c.sl:Int))=2*(c.sl:Int):=sh_wrap32 (by omega) (by omega);have hr0:=HS0.out.row;have c11_0:=hr0.ph 11 2 HPH;have c2_0:=hr0.at 2 (.int .i64 (c.sl:Int)) (by rw[← HSL.out];rfl);have c16_0:=hr0.at 16 (.int .u32 c.A);clear hr0;go_enter Tryz.func90,Tryz.ntmps90;go_wp2_with fail;refine(word_rgo yb lb cap o c rv l B LL CC (c.A%(c.sl:Int)) ((2:Nat)) _ 3 _ HS0.out HLL.out.1 HLL.out.2 HKK.out HHD.out.1 HHD.out.2 HAB.out rfl HJ.out HI2.out HWI.out HRL.out).mono (mvD HM0 fun w1 rv1 HS1 HM1=>?_);go_wp2_with fail
 go_end0
 exact⟨_,rfl,HS1.out,HM1.out⟩
theorem r_fifo_t3 (B LL CC:Nat) (w:World) (h:SR w yb lb cap o c rv l) (hBB:c.base=B) (hLL:B+LL=l.length) (hk:isK o.k=true) (hph:c.ph=3) (hs:1≤c.sl) (hj:0<LL):Calls Tryz.prog 90 #[.pointer (some ⟨yb,0,none⟩),.slice (some ⟨lb,B,none⟩) LL CC,.bool false] w (DidR yb lb cap o w rv (c.fin 0) (c.wrm l 0 (Kc.incR c.A (2*(c.sl:Int)))) (.tuple #[])):=by
 obtain⟨HS0,HM0,hfit,HF,HWD,HSL,HCP,HNR⟩:=h.start;have HLL:=hid (And.intro hBB hLL);have HKK:=hid hk;have HPH:=hid hph;clear h hfit hBB hLL hk hph;have hsl1:=HF.out.sl1;have e1:IntKind.u32.wrap (c.sl:Int)=(c.sl:Int):=sh_wrap32 (by omega) (by omega);have e2:IntKind.u32.wrap (2*(c.sl:Int))=2*(c.sl:Int):=sh_wrap32 (by omega) (by omega);obtain⟨M,hM⟩:∃ x:Int,2*(c.sl:Int)=x:=⟨_,rfl⟩;have hM0:0<M:=by omega
 have hM1:M<4294967296:=by omega
 have HMM:=hid hM;rw[hM] at e2;have e2b:(2*(c.sl:Int))%4294967296=M:=by rw[hM];omega
 have mm0:(M==0)=false:=by simp;omega
 have mm1:¬ M=0:=by omega
 clear hM hsl1;rw[HMM.out];have hL0:(0:Int)<(LL:Int):=by omega
 have HNX:=hid fun W=>next01 c.A M W ⟨HF.out.A0,HF.out.A1⟩ ⟨hM0,hM1⟩
 have hib:=incR_bd (a:=c.A) hM0;obtain⟨X,hX⟩:∃ x,Kc.incR c.A M=x:=⟨_,rfl⟩;rw[hX] at HNX hib ⊢;have HXB:=hid (show 0≤X∧X<4294967296 by omega);clear hX hib;obtain⟨my_0,gy_0,_,_⟩:=HS0.out.cellB HLL.out.1 HLL.out.2 (0) (hj);rw[Nat.add_zero] at my_0 gy_0;have hr0:=HS0.out.row;have c2_0:=hr0.at 2 (.int .i64 (c.sl:Int)) (by rw[← HSL.out];rfl);have c11_0:=hr0.ph 11 3 HPH;have c16_0:=hr0.at 16 (.int .u32 c.A);clear hr0;go_enter Tryz.func90,Tryz.ntmps90;go_wp2_with fail;refine(HNX.out _).mono ?_;rintro ex wq ⟨rfl,hwq⟩;rw[hwq];clear hwq;go_wp2_with fail;obtain⟨hs,hm⟩:=HS0.out.putB HLL.out.1 HLL.out.2 (0) (hj) (X) (HXB.out);rw[Nat.add_zero] at hs hm;obtain⟨HS1,HM1⟩:=nx hs HM0 hm;clear hs hm;refine(end_r yb lb cap o _ _ _ 0 _ HS1.out HKK.out).mono (mvD HM1 fun w2 rv2 HS2 HM2=>?_);go_wp2_with fail
 go_end0
 exact⟨_,rfl,HS2.out,HM2.out⟩
end
end Go.Proofs.YtolmpehgeinlkaaGreatDoor
