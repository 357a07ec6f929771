/- The kind chen: each step of a write, and of a read. -/
import Derived.Test.YtolmpehgeinlkaaGreatDoorZcG
import Derived.Test.YtolmpehgeinlkaaGreatDoorZcShF
namespace Go.Proofs.YtolmpehgeinlkaaGreatDoor
open Go.RowKit
open Go.Lib (hid)
attribute [local go_sem] Oper.semAt_some
set_option maxHeartbeats 1000000
set_option maxRecDepth 100000
abbrev Dk (a0:Nat) (a1:Ob) (a2:Kc) (w':World):Prop:=w'.cell? ⟨a0,0,none⟩=some (.int .i64 a1.k)∧w'.cell? ⟨a0,1,none⟩=some (.int .i64 a1.wd)∧w'.cell? ⟨a0,2,none⟩=some (.int .i64 a1.s)∧w'.cell? ⟨a0,3,none⟩=some (.int .i64 a1.c)∧w'.cell? ⟨a0,4,none⟩=some (.int .u32 a1.st)∧w'.cell? ⟨a0,5,none⟩=some (.slice a1.I a1.ni a1.ci)∧w'.cell? ⟨a0,6,none⟩=some (.int .i64 a1.wr)∧w'.cell? ⟨a0,7,none⟩=some (.slice a1.R a1.nr a1.cr)∧w'.cell? ⟨a0,14,none⟩=some (.int .u32 a2.B)
abbrev ou (a0:Nat) (a1:Kc) (w':World):Prop:=w'.cell? ⟨a0,11,none⟩=some (.int .i64 (a1.i:Int))∧w'.cell? ⟨a0,14,none⟩=some (.int .u32 a1.B)
theorem Tab64.mv {sb mb lb:Nat} {w w':World} {rv rv':Value} (h:Tab64 w) (hm:Mv sb mb lb w w' rv rv') (hn:¬ fp sb mb lb rv 0):Tab64 w':=h.tch hm.tch hn
section
variable (sb mb lb:Nat) (ty:TypeId) (o:Ob) (c:Kc) (rv:Value) (l:List Int)
theorem fR (w:World) (h:St w sb mb lb ty o c rv l):Calls Tryz.prog 167 #[.pointer (some ⟨sb,0,none⟩)] w fun e w'=>e=.returned (.int .u32 ((c.nr:Int)+2))∧Below w.heap.size w w':=by
 obtain⟨aj,ay,ah,HF,bp,aS,bx,bj⟩:=h.start;clear ah h;have ox:=hid (Below.refl w.heap.size w);have fT:=HF.out.nr1;have bH:=hid fun W=>lh o (by have:=bj.out;omega) W
 have hv:=bj.out;rw[← hv];have E1:(o.nr:Int)≤4:=by omega
 have aq:(0:Int)≤(o.nr:Int):=by omega
 clear hv fT;unfold af at bH;obtain⟨u0,bN,ag⟩:=aj.out.op.row;have c0_0:=ag.at 0 (.int .i64 o.k);have c1_0:=ag.at 1 (.int .i64 o.wd);have c2_0:=ag.at 2 (.int .i64 o.s);have c3_0:=ag.at 3 (.int .i64 o.c);have c4_0:=ag.at 4 (.int .u32 o.st);have c5_0:=ag.at 5 (.slice o.I o.ni o.ci);have c6_0:=ag.at 6 (.int .i64 o.wr);have c7_0:=ag.at 7 (.slice o.R o.nr o.cr);clear ag bN;go_enter Tryz.func167,Tryz.ntmps167;go_wp2_with fail;refine(bH.out _).mono ?_;rintro ex w1 ⟨rfl,hb⟩;have ai:=hid (aj.out.below hb);have au:=hid (ay.out.trans (Mv.below hb _));have bT:=hid (ox.out.trans (hb.mono ox.out.size));clear hb;go_wp2_with fail;go_ret;exact⟨rfl,bT.out⟩
theorem lZ (w:World) (h:St w sb mb lb ty o c rv l) (hB:0≤c.B∧c.B≤20):Calls Tryz.prog 165 #[.pointer (some ⟨sb,0,none⟩)] w fun e w'=>e=.returned (.int .i64 ((1+c.nr+c.B.toNat*c.wd:Nat):Int))∧Below w.heap.size w w':=by
 obtain⟨aj,ay,ah,HF,bp,aS,bx,bj⟩:=h.start;clear ah h;have ox:=hid (Below.refl w.heap.size w);have fT:=HF.out.nr1;have lr:=HF.out.wd1;have bH:=hid fun W=>jH o (by have:=bj.out;omega) W
 have hv:=bj.out
 have hq:((1+c.nr+c.B.toNat*c.wd:Nat):Int)=1+(o.nr:Int)+c.B*o.wd:=by
  rw[Int.natCast_add,Int.natCast_mul,Int.toNat_of_nonneg (by omega),bp.out,hv];rfl
 rw[hq];have yC:0≤o.wd:=by have:=bp.out;omega
 have ES:o.wd≤8:=by have:=bp.out;omega
 have m1:=jV (a:=c.B) (b:=o.wd) (by omega) (by omega) (by omega) (by omega);have e3:IntKind.i64.wrap (c.B*o.wd)=c.B*o.wd:=ac (by omega) (by omega);have e5:IntKind.i64.wrap c.B=c.B:=ac (by omega) (by omega);have e4:IntKind.i64.wrap (1+(o.nr:Int)+c.B*o.wd)=1+(o.nr:Int)+c.B*o.wd:=ac (by omega) (by omega);clear hv fT lr hq hB;unfold af at bH;go_enter Tryz.func165,Tryz.ntmps165;go_wp2_with fail;obtain⟨u0,bN,ag⟩:=aj.out.drew.op.row;have ct:(Dk sb o c) w.drew:=(by and_intros <;> exact ag.c rfl);have ai:=hid aj.out.drew;have au:=hid (ay.out.trans (Mv.drew w _));clear ag bN;have bT:=hid ox.out.drew;refine dR ct fun w1 aW hHeld=>?_
 rw[aW] at ai au bT;clear aW ct;refine ap 0 1 2 3 ?_;refine ap 4 6 7 8 ?_;refine ap 9 10 11 12 ?_;refine ap 13 14 15 16 ?_;refine bw 17 18 ?_;refine aJ 5 (fun K hK=>?_)
 ·go_simp;refine(bH.out _).mono ?_;rintro ex w2 ⟨rfl,hb⟩;have ar:=hid (ai.out.below hb);have aE:=hid (au.out.trans (Mv.below hb _));have cw:=hid (bT.out.trans (hb.mono bT.out.size));clear hb;obtain⟨u2,bU,aC⟩:=ar.out.op.row;have aB:(Dk sb o c) w2:=(by and_intros <;> exact aC.c rfl);clear aC bU;refine kH hK aB fun hHeld=>?_
  clear hK K;refine bw 19 20 ?_;refine bh ?_;clear hHeld aB;go_wp2_with fail;go_ret;exact⟨rfl,cw.out⟩
theorem nD (w:World) (h:St w sb mb lb ty o c rv l) (hi:c.i<100) (hT:Tab64 w) (hn:¬ fp sb mb lb rv 0) (ak:c.nr≤c.i+1) (hj:c.base+(1+c.i)<l.length):Calls Tryz.prog 164 #[.pointer (some ⟨sb,0,none⟩)] w (Did sb mb lb ty o w rv (({ ({ c.mark (c.rdm l (1+c.i)) with i:=c.i+1 }:Kc).mark c.A with B:=(({ c.mark (c.rdm l (1+c.i)) with i:=c.i+1 }:Kc).mark c.A).free }:Kc).go 2) l (.tuple #[])):=by
 obtain⟨aj,ay,ah,HF,bp,aS,bx,bj⟩:=h.start;clear ah h;have hz:=cR hj aj.out.mem.w32;have HR:=hid fun W (h:St W sb mb lb ty o c rv l)=>cX sb mb lb ty o c rv l (1+(c.i:Int)) (1+c.i) W h (by omega) hj
 obtain⟨z,ao⟩:∃ x,c.rdm l (1+c.i)=x:=⟨_,rfl⟩;rw[ao] at HR hz;try rw[ao]
 have cm:=hid ao;clear ao hj;have dU:=hz.1;have dA:=hz.2;clear hz;have hN:=bj.out;have pP:(0:Int)≤(c.i:Int):=by omega
 have rN:(c.i:Int)≤100:=by omega
 have hs:IntKind.i64.wrap (1+(c.i:Int))=1+(c.i:Int):=ac (by omega) (by omega);have hd:decide ((o.nr:Int)≤(c.i:Int)+1)=true:=decide_eq_true (by omega);have Es:=hid fun W (h:St W sb mb lb ty o c rv l)=>ji sb mb lb ty o c rv l z W h ⟨dU,dA⟩
 have jz:=fun W (h:St W sb mb lb ty o (c.mark z) rv l)=>gi sb mb lb ty o (c.mark z) rv l (o.nr:Int) W h (show c.i<1000 by omega)
 have qK:decide ((o.nr:Int)≤(((c.mark z).i:Nat):Int)+1)=true:=hd;rw[qK] at jz;have sY:=hid jz;clear hd jz hN ak qK hi;have sG:=hid fun W (h:St W sb mb lb ty o { c.mark z with i:=(c.mark z).i+1 } rv l)=>ji sb mb lb ty o { c.mark z with i:=(c.mark z).i+1 } rv l c.A W h ⟨HF.out.A0,HF.out.A1⟩
 have C7:=hid fun W (h:St W sb mb lb ty o (({ c.mark z with i:=(c.mark z).i+1 }:Kc).mark c.A) rv l) (hT:Tab64 W)=>tz sb mb lb ty o (({ c.mark z with i:=(c.mark z).i+1 }:Kc).mark c.A) rv l W h hT
 have C6:=hid (And.intro hT hn);have hb:=lF (({ c.mark z with i:=(c.mark z).i+1 }:Kc).mark c.A);obtain⟨Z,hZ⟩:∃ x,(({ c.mark z with i:=(c.mark z).i+1 }:Kc).mark c.A).free=x:=⟨_,rfl⟩;have ua:(({ c.mark z with i:=c.i+1 }:Kc).mark c.A).free=Z:=hZ;rw[ua] at ⊢;rw[hZ] at C7 hb;clear hZ ua;clear hT hn;go_enter Tryz.func164,Tryz.ntmps164;go_wp2_with fail;refine dM (S:=(fun w':World=>w'.cell? ⟨sb,11,none⟩=some (.int .i64 (c.i:Int)))) aj ay (fun ai=>let ⟨_,_,ag⟩:=ai.out.op.row;(ag.cell 11).trans rfl) fun w1 ai au hHeld=>?_
 refine ap 0 1 2 3 ?_;refine ap 4 5 6 7 ?_;refine ap 8 9 10 11 ?_;refine aJ 12 (fun K hK=>?_)
 ·go_simp;refine(HR.out _ ai.out).mono (bF au fun w2 ar aE=>?_);obtain⟨u2,bU,aC⟩:=ar.out.op.row;have aB:(fun w':World=>w'.cell? ⟨sb,11,none⟩=some (.int .i64 (c.i:Int))) w2:=(aC.cell 11).trans rfl;clear aC bU;refine kH hK aB fun hHeld=>?_
  clear hK K;refine aJ 13 (fun K hK=>?_)
  ·go_simp;refine(Es.out _ ar.out).mono (bF aE fun w3 aM bf=>?_);obtain⟨u3,ez,bC⟩:=aM.out.op.row;have aQ:(fun w':World=>w'.cell? ⟨sb,11,none⟩=some (.int .i64 (c.i:Int))) w3:=(bC.cell 11).trans rfl;clear bC ez;refine kH hK aQ fun hHeld=>?_
   clear hK K;refine bh ?_;clear hHeld aQ;go_wp2_with fail;refine dM (S:=(fun w':World=>w'.cell? ⟨sb,7,none⟩=some (.slice o.R o.nr o.cr))) aM bf (fun cq=>let ⟨_,_,bC⟩:=cq.out.op.row;(bC.cell 7).trans rfl) fun w4 cq dd hHeld=>?_
   refine ap 0 1 2 3 ?_;refine ap 4 5 6 7 ?_;refine bw 8 9 ?_;refine aJ 10 (fun K hK=>?_)
   ·go_simp;refine(sY.out _ cq.out).mono (bF dd fun w5 dV fS=>?_);obtain⟨u5,vi,j5⟩:=dV.out.op.row;have gC:(fun w':World=>w'.cell? ⟨sb,7,none⟩=some (.slice o.R o.nr o.cr)) w5:=(j5.cell 7).trans rfl;clear j5 vi;refine kH hK gC fun hHeld=>?_
    clear hK K;refine aF 11 ?_;refine bh ?_;clear hHeld gC;go_wp2_with fail;refine dM (S:=(fun w':World=>w'.cell? ⟨sb,13,none⟩=some (.int .u32 c.A))) dV fS (fun ja=>let ⟨_,_,j5⟩:=ja.out.op.row;(j5.cell 13).trans rfl) fun w6 ja pq hHeld=>?_
    refine ap 0 1 2 3 ?_;refine ap 4 5 6 7 ?_;refine aJ 8 (fun K hK=>?_)
    ·go_simp;refine(sG.out _ ja.out).mono (bF pq fun w7 j4 pJ=>?_);obtain⟨u7,Gs,Cd⟩:=j4.out.op.row;have zb:(fun w':World=>w'.cell? ⟨sb,13,none⟩=some (.int .u32 c.A)) w7:=(Cd.cell 13).trans rfl;clear Cd Gs;refine kH hK zb fun hHeld=>?_
     clear hK K;refine bh ?_;clear hHeld zb;go_wp2_with fail;have nR:=C6.out.1.mv pJ.out C6.out.2;have ns:=hid nR;clear nR;refine(C7.out _ j4.out ns.out).mono ?_;rintro ex w8 ⟨rfl,rfl⟩;have nc:=j4;have qg:=pJ;obtain⟨u8,Jo,vC⟩:=nc.out.op.row;have c14_8:=vC.at 14 (.int .u32 c.B);have f14_8:=vC.frozen 14;clear vC Jo;go_wp2_with fail;obtain⟨tU,xh⟩:=fW (nc.out.setB (Z) (by omega)) qg;refine(dh sb mb lb ty o _ _ _ 2 2 _ tU.out rfl).mono (bF xh fun w10 EN EU=>?_);go_wp2_with fail
     go_end0
     exact⟨_,rfl,EN.out,EU.out⟩
theorem nS (w:World) (h:St w sb mb lb ty o c rv l) (hi:c.i<100) (_hT:Tab64 w) (_hn:¬ fp sb mb lb rv 0) (ak:¬ (c.nr≤c.i+1)) (hj:c.base+(1+c.i)<l.length):Calls Tryz.prog 164 #[.pointer (some ⟨sb,0,none⟩)] w (Did sb mb lb ty o w rv { c.mark (c.rdm l (1+c.i)) with i:=c.i+1 } l (.tuple #[])):=by
 obtain⟨aj,ay,ah,HF,bp,aS,bx,bj⟩:=h.start;clear ah h;have hz:=cR hj aj.out.mem.w32;have HR:=hid fun W (h:St W sb mb lb ty o c rv l)=>cX sb mb lb ty o c rv l (1+(c.i:Int)) (1+c.i) W h (by omega) hj
 obtain⟨z,ao⟩:∃ x,c.rdm l (1+c.i)=x:=⟨_,rfl⟩;rw[ao] at HR hz;try rw[ao]
 have cm:=hid ao;clear ao hj;have dU:=hz.1;have dA:=hz.2;clear hz;have hN:=bj.out;have pP:(0:Int)≤(c.i:Int):=by omega
 have rN:(c.i:Int)≤100:=by omega
 have hs:IntKind.i64.wrap (1+(c.i:Int))=1+(c.i:Int):=ac (by omega) (by omega);have hd:decide ((o.nr:Int)≤(c.i:Int)+1)=false:=decide_eq_false (by omega);have Es:=hid fun W (h:St W sb mb lb ty o c rv l)=>ji sb mb lb ty o c rv l z W h ⟨dU,dA⟩
 have jz:=fun W (h:St W sb mb lb ty o (c.mark z) rv l)=>gi sb mb lb ty o (c.mark z) rv l (o.nr:Int) W h (show c.i<1000 by omega)
 have qK:decide ((o.nr:Int)≤(((c.mark z).i:Nat):Int)+1)=false:=hd;rw[qK] at jz;have sY:=hid jz;clear hd jz hN ak qK hi;clear _hT _hn;go_enter Tryz.func164,Tryz.ntmps164;go_wp2_with fail;refine dM (S:=(fun w':World=>w'.cell? ⟨sb,11,none⟩=some (.int .i64 (c.i:Int)))) aj ay (fun ai=>let ⟨_,_,ag⟩:=ai.out.op.row;(ag.cell 11).trans rfl) fun w1 ai au hHeld=>?_
 refine ap 0 1 2 3 ?_;refine ap 4 5 6 7 ?_;refine ap 8 9 10 11 ?_;refine aJ 12 (fun K hK=>?_)
 ·go_simp;refine(HR.out _ ai.out).mono (bF au fun w2 ar aE=>?_);obtain⟨u2,bU,aC⟩:=ar.out.op.row;have aB:(fun w':World=>w'.cell? ⟨sb,11,none⟩=some (.int .i64 (c.i:Int))) w2:=(aC.cell 11).trans rfl;clear aC bU;refine kH hK aB fun hHeld=>?_
  clear hK K;refine aJ 13 (fun K hK=>?_)
  ·go_simp;refine(Es.out _ ar.out).mono (bF aE fun w3 aM bf=>?_);obtain⟨u3,ez,bC⟩:=aM.out.op.row;have aQ:(fun w':World=>w'.cell? ⟨sb,11,none⟩=some (.int .i64 (c.i:Int))) w3:=(bC.cell 11).trans rfl;clear bC ez;refine kH hK aQ fun hHeld=>?_
   clear hK K;refine bh ?_;clear hHeld aQ;go_wp2_with fail;refine dM (S:=(fun w':World=>w'.cell? ⟨sb,7,none⟩=some (.slice o.R o.nr o.cr))) aM bf (fun cq=>let ⟨_,_,bC⟩:=cq.out.op.row;(bC.cell 7).trans rfl) fun w4 cq dd hHeld=>?_
   refine ap 0 1 2 3 ?_;refine ap 4 5 6 7 ?_;refine bw 8 9 ?_;refine aJ 10 (fun K hK=>?_)
   ·go_simp;refine(sY.out _ cq.out).mono (bF dd fun w5 dV fS=>?_);obtain⟨u5,vi,j5⟩:=dV.out.op.row;have gC:(fun w':World=>w'.cell? ⟨sb,7,none⟩=some (.slice o.R o.nr o.cr)) w5:=(j5.cell 7).trans rfl;clear j5 vi;refine kH hK gC fun hHeld=>?_
    clear hK K;refine aF 11 ?_;refine bh ?_;clear hHeld gC;go_wp2_with fail
    go_end0
    exact⟨_,rfl,dV.out,fS.out⟩
theorem AL (w:World) (h:St w sb mb lb ty o c rv l) (ae:c.ph=0) (hj:c.base+0<l.length):Calls Tryz.prog 141 #[.pointer (some ⟨sb,0,none⟩)] w (Did sb mb lb ty o w rv (({ c with A:=c.rdm l 0 }:Kc).go 1) l (.tuple #[])):=by
 obtain⟨aj,ay,ah,HF,bp,aS,bx,bj⟩:=h.start;clear ah h;have aI:=hid ae;clear ae;obtain⟨u0,bN,ag⟩:=aj.out.op.row;have c10_0:=ag.ph 10 0 aI;clear ag bN;have hz:=cR hj aj.out.mem.w32;have HR:=hid fun W (h:St W sb mb lb ty o c rv l)=>cX sb mb lb ty o c rv l 0 0 W h (by omega) hj
 obtain⟨z,ao⟩:∃ x,c.rdm l 0=x:=⟨_,rfl⟩;rw[ao] at HR hz;try rw[ao]
 have cm:=hid ao;clear ao hj;have dU:=hz.1;have dA:=hz.2;clear hz;go_enter Tryz.func141,Tryz.ntmps141;go_wp2_with fail;refine(HR.out _ aj.out).mono (bF ay fun w1 ai au=>?_);obtain⟨u1,gS,bi⟩:=ai.out.op.row;have c13_1:=bi.at 13 (.int .u32 c.A);have f13_1:=bi.frozen 13;clear bi gS;go_wp2_with fail;obtain⟨ar,aE⟩:=fW (ai.out.setA (z) ⟨dU,dA⟩) au;go_wp2_with fail;refine(dh sb mb lb ty o _ _ _ 1 1 _ ar.out rfl).mono (bF aE fun w3 aM bf=>?_);go_wp2_with fail
 go_end0
 exact⟨_,rfl,aM.out,bf.out⟩
theorem px (w:World) (h:St w sb mb lb ty o c rv l) (ae:c.ph=1) (hi:c.i<100) (hT:Tab64 w) (hn:¬ fp sb mb lb rv 0) (ak:c.nr≤c.i+1) (hj:c.base+(1+c.i)<l.length):Calls Tryz.prog 141 #[.pointer (some ⟨sb,0,none⟩)] w (Did sb mb lb ty o w rv (({ ({ c.mark (c.rdm l (1+c.i)) with i:=c.i+1 }:Kc).mark c.A with B:=(({ c.mark (c.rdm l (1+c.i)) with i:=c.i+1 }:Kc).mark c.A).free }:Kc).go 2) l (.tuple #[])):=by
 obtain⟨aj,ay,ah,HF,bp,aS,bx,bj⟩:=h.start;clear ah h;have aI:=hid ae;clear ae;obtain⟨u0,bN,ag⟩:=aj.out.op.row;have c10_0:=ag.ph 10 1 aI;clear ag bN;have yB:=hid (nD sb mb lb ty o c rv l w aj.out hi hT hn ak hj);clear hi hT hn ak hj;go_enter Tryz.func141,Tryz.ntmps141;go_wp2_with fail;refine yB.out.mono (cS ay fun w1 rv1 ai au=>?_);go_wp2_with fail
 go_end0
 exact⟨_,rfl,ai.out,au.out⟩
theorem oZ (w:World) (h:St w sb mb lb ty o c rv l) (ae:c.ph=1) (hi:c.i<100) (hT:Tab64 w) (hn:¬ fp sb mb lb rv 0) (ak:¬ (c.nr≤c.i+1)) (hj:c.base+(1+c.i)<l.length):Calls Tryz.prog 141 #[.pointer (some ⟨sb,0,none⟩)] w (Did sb mb lb ty o w rv { c.mark (c.rdm l (1+c.i)) with i:=c.i+1 } l (.tuple #[])):=by
 obtain⟨aj,ay,ah,HF,bp,aS,bx,bj⟩:=h.start;clear ah h;have aI:=hid ae;clear ae;obtain⟨u0,bN,ag⟩:=aj.out.op.row;have c10_0:=ag.ph 10 1 aI;clear ag bN;have yB:=hid (nS sb mb lb ty o c rv l w aj.out hi hT hn ak hj);clear hi hT hn ak hj;go_enter Tryz.func141,Tryz.ntmps141;go_wp2_with fail;refine yB.out.mono (cS ay fun w1 rv1 ai au=>?_);go_wp2_with fail
 go_end0
 exact⟨_,rfl,ai.out,au.out⟩
theorem BU (w:World) (h:St w sb mb lb ty o c rv l) (ae:c.ph=2) (hB:0≤c.B∧c.B≤20) (bM:c.wr=true→c.i<c.rc.length) (cJ:c.rc.length≤1000000) (dD:c.i<1000) (hj:c.base+(1+c.nr+c.B.toNat*c.wd+c.i)<l.length) (fj:1+c.nr+c.B.toNat*c.wd≤1000000):Calls Tryz.prog 141 #[.pointer (some ⟨sb,0,none⟩)] w (Did sb mb lb ty o w rv (c.word l (1+c.nr+c.B.toNat*c.wd) (·.go 3)).1 (c.word l (1+c.nr+c.B.toNat*c.wd) (·.go 3)).2 (.tuple #[])):=by
 obtain⟨aj,ay,ah,HF,bp,aS,bx,bj⟩:=h.start;clear ah h;have aI:=hid ae;clear ae;obtain⟨u0,bN,ag⟩:=aj.out.op.row;have c10_0:=ag.ph 10 2 aI;clear ag bN;have fM:=hid fun W (h:St W sb mb lb ty o c rv l)=>lZ sb mb lb ty o c rv l W h hB
 clear hB;obtain⟨FR,jY⟩:∃ x,1+c.nr+c.B.toNat*c.wd=x:=⟨_,rfl⟩;rw[jY] at fM hj fj ⊢;clear jY;have eG:=hid fun W (rv:Value) (h:St W sb mb lb ty o c rv l)=>fr sb mb lb ty o c rv l (FR) W h bM cJ dD hj fj
 clear bM cJ dD hj fj;rw[Kc.word_eq]
 by_cases ak:c.wd≤c.i+1
 ·rw[if_pos ak];have hd:decide ((c.wd:Int)≤(c.i:Int)+1)=true:=decide_eq_true (by omega);rw[hd] at eG;clear ak hd;go_enter Tryz.func141,Tryz.ntmps141;go_wp2_with fail;refine dM (S:=(fun _:World=>True)) aj ay (fun ai=>let ⟨_,_,ag⟩:=ai.out.op.row;trivial) fun w1 ai au hHeld=>?_
  refine ap 0 1 2 3 ?_;refine aJ 4 (fun K hK=>?_)
  ·go_simp;refine(fM.out _ ai.out).mono ?_;rintro ex w2 ⟨rfl,hb⟩;have ar:=hid (ai.out.below hb);have aE:=hid (au.out.trans (Mv.below hb _));clear hb;have aB:(fun _:World=>True) w2:=trivial;refine kH hK aB fun hHeld=>?_
   clear hK K;refine aJ 5 (fun K hK=>?_)
   ·go_simp;refine(eG.out _ _ ar.out).mono (cS aE fun w3 rv3 aM bf=>?_);have aQ:(fun _:World=>True) w3:=trivial;refine kH hK aQ fun hHeld=>?_
    clear hK K;refine bh ?_;clear hHeld aQ;go_wp2_with fail;refine(dh sb mb lb ty o _ _ _ 3 3 _ aM.out rfl).mono (bF bf fun w4 cq dd=>?_);go_wp2_with fail
    go_end0
    exact⟨_,rfl,cq.out,dd.out⟩
 ·rw[if_neg ak];have hd:decide ((c.wd:Int)≤(c.i:Int)+1)=false:=decide_eq_false (by omega);rw[hd] at eG;clear ak hd;go_enter Tryz.func141,Tryz.ntmps141;go_wp2_with fail;refine dM (S:=(fun _:World=>True)) aj ay (fun ai=>let ⟨_,_,ag⟩:=ai.out.op.row;trivial) fun w1 ai au hHeld=>?_
  refine ap 0 1 2 3 ?_;refine aJ 4 (fun K hK=>?_)
  ·go_simp;refine(fM.out _ ai.out).mono ?_;rintro ex w2 ⟨rfl,hb⟩;have ar:=hid (ai.out.below hb);have aE:=hid (au.out.trans (Mv.below hb _));clear hb;have aB:(fun _:World=>True) w2:=trivial;refine kH hK aB fun hHeld=>?_
   clear hK K;refine aJ 5 (fun K hK=>?_)
   ·go_simp;refine(eG.out _ _ ar.out).mono (cS aE fun w3 rv3 aM bf=>?_);have aQ:(fun _:World=>True) w3:=trivial;refine kH hK aQ fun hHeld=>?_
    clear hK K;refine bh ?_;clear hHeld aQ;go_wp2_with fail
    go_end0
    exact⟨_,rfl,aM.out,bf.out⟩
theorem Ba (w:World) (h:St w sb mb lb ty o c rv l) (ae:c.ph=3) (hj:c.base+0<l.length):Calls Tryz.prog 141 #[.pointer (some ⟨sb,0,none⟩)] w (Did sb mb lb ty o w rv (c.go 4) (c.wrm l 0 c.B) (.tuple #[])):=by
 obtain⟨aj,ay,ah,HF,bp,aS,bx,bj⟩:=h.start;clear ah h;have aI:=hid ae;clear ae;obtain⟨u0,bN,ag⟩:=aj.out.op.row;have c10_0:=ag.ph 10 3 aI;clear ag bN;have HW:=hid fun W (h:St W sb mb lb ty o c rv l)=>dN sb mb lb ty o c rv l 0 0 c.B W h (by omega) hj ⟨HF.out.B0,HF.out.B1⟩
 clear hj;go_enter Tryz.func141,Tryz.ntmps141;go_wp2_with fail;refine dM (S:=(fun w':World=>w'.cell? ⟨sb,14,none⟩=some (.int .u32 c.B))) aj ay (fun ai=>let ⟨_,_,ag⟩:=ai.out.op.row;(ag.cell 14).trans rfl) fun w1 ai au hHeld=>?_
 refine ap 0 1 2 3 ?_;refine ap 4 5 6 7 ?_;refine aJ 8 (fun K hK=>?_)
 ·go_simp;refine(HW.out _ ai.out).mono (bF au fun w2 ar aE=>?_);obtain⟨u2,bU,aC⟩:=ar.out.op.row;have aB:(fun w':World=>w'.cell? ⟨sb,14,none⟩=some (.int .u32 c.B)) w2:=(aC.cell 14).trans rfl;clear aC bU;refine kH hK aB fun hHeld=>?_
  clear hK K;refine bh ?_;clear hHeld aB;go_wp2_with fail;refine(dh sb mb lb ty o _ _ _ 4 4 _ ar.out rfl).mono (bF aE fun w3 aM bf=>?_);go_wp2_with fail
  go_end0
  exact⟨_,rfl,aM.out,bf.out⟩
theorem oI (w:World) (h:St w sb mb lb ty o c rv l) (ae:c.ph=4) (hi:c.i<100) (ak:c.nr≤c.i+1) (hj:c.base+(1+c.i)<l.length):Calls Tryz.prog 141 #[.pointer (some ⟨sb,0,none⟩)] w (Did sb mb lb ty o w rv (({ c with i:=c.i+1 }:Kc).fin 0) (if c.rdm l (1+c.i)=(c.nr:Int)+2 then c.wrm l (1+c.i) c.B else l) (.tuple #[])):=by
 obtain⟨aj,ay,ah,HF,bp,aS,bx,bj⟩:=h.start;clear ah h;have aI:=hid ae;clear ae;obtain⟨u0,bN,ag⟩:=aj.out.op.row;have c10_0:=ag.ph 10 4 aI;clear ag bN;have Co:=hid fun W (h:St W sb mb lb ty o c rv l)=>sP sb mb lb ty o c rv l (1+(c.i:Int)) (1+c.i) ((c.nr:Int)+2) c.B W h (by omega) hj ⟨HF.out.B0,HF.out.B1⟩
 obtain⟨L1,ii⟩:∃ x,(if c.rdm l (1+c.i)=(c.nr:Int)+2 then c.wrm l (1+c.i) c.B else l)=x:=⟨_,rfl⟩;rw[ii] at Co ⊢;clear ii hj;have hN:=bj.out;have pP:(0:Int)≤(c.i:Int):=by omega
 have rN:(c.i:Int)≤100:=by omega
 have hs:IntKind.i64.wrap (1+(c.i:Int))=1+(c.i:Int):=ac (by omega) (by omega);have hd:decide ((o.nr:Int)≤(c.i:Int)+1)=true:=decide_eq_true (by omega);have jz:=fun W (h:St W sb mb lb ty o c rv L1)=>gi sb mb lb ty o c rv L1 (o.nr:Int) W h (show c.i<1000 by omega)
 rw[hd] at jz;have sY:=hid jz;clear hd jz hN ak hi;have xg:=hid fun W (h:St W sb mb lb ty o c rv l)=>fR sb mb lb ty o c rv l W h
 go_enter Tryz.func141,Tryz.ntmps141;go_wp2_with fail;refine dM (S:=(ou sb c)) aj ay (fun ai=>let ⟨_,_,ag⟩:=ai.out.op.row;⟨(ag.cell 11).trans rfl,(ag.cell 14).trans rfl⟩) fun w1 ai au hHeld=>?_
 refine ap 0 1 2 3 ?_;refine ap 4 5 6 7 ?_;refine ap 8 9 11 12 ?_;refine bw 13 14 ?_;refine aF 15 ?_;refine aJ 10 (fun K hK=>?_)
 ·go_simp;refine(xg.out _ ai.out).mono ?_;rintro ex w2 ⟨rfl,hb⟩;have ar:=hid (ai.out.below hb);have aE:=hid (au.out.trans (Mv.below hb _));clear hb;obtain⟨u2,bU,aC⟩:=ar.out.op.row;have aB:(ou sb c) w2:=⟨(aC.cell 11).trans rfl,(aC.cell 14).trans rfl⟩;clear aC bU;refine kH hK aB fun hHeld=>?_
  clear hK K;refine aJ 16 (fun K hK=>?_)
  ·go_simp;refine(Co.out _ ar.out).mono (bF aE fun w3 aM bf=>?_);obtain⟨u3,ez,bC⟩:=aM.out.op.row;have aQ:(ou sb c) w3:=⟨(bC.cell 11).trans rfl,(bC.cell 14).trans rfl⟩;clear bC ez;refine kH hK aQ fun hHeld=>?_
   clear hK K;refine bh ?_;clear hHeld aQ;go_wp2_with fail;refine dM (S:=(fun w':World=>w'.cell? ⟨sb,7,none⟩=some (.slice o.R o.nr o.cr))) aM bf (fun cq=>let ⟨_,_,bC⟩:=cq.out.op.row;(bC.cell 7).trans rfl) fun w4 cq dd hHeld=>?_
   refine ap 0 1 2 3 ?_;refine ap 4 5 6 7 ?_;refine bw 8 9 ?_;refine aJ 10 (fun K hK=>?_)
   ·go_simp;refine(sY.out _ cq.out).mono (bF dd fun w5 dV fS=>?_);obtain⟨u5,vi,j5⟩:=dV.out.op.row;have gC:(fun w':World=>w'.cell? ⟨sb,7,none⟩=some (.slice o.R o.nr o.cr)) w5:=(j5.cell 7).trans rfl;clear j5 vi;refine kH hK gC fun hHeld=>?_
    clear hK K;refine bh ?_;clear hHeld gC;go_wp2_with fail;refine(fz sb mb lb ty o _ _ _ 0 _ dV.out).mono (cS fS fun w6 rv6 ja pq=>?_);go_wp2_with fail
    go_end0
    exact⟨_,rfl,ja.out,pq.out⟩
theorem oH (w:World) (h:St w sb mb lb ty o c rv l) (ae:c.ph=4) (hi:c.i<100) (ak:¬ (c.nr≤c.i+1)) (hj:c.base+(1+c.i)<l.length):Calls Tryz.prog 141 #[.pointer (some ⟨sb,0,none⟩)] w (Did sb mb lb ty o w rv { c with i:=c.i+1 } (if c.rdm l (1+c.i)=(c.nr:Int)+2 then c.wrm l (1+c.i) c.B else l) (.tuple #[])):=by
 obtain⟨aj,ay,ah,HF,bp,aS,bx,bj⟩:=h.start;clear ah h;have aI:=hid ae;clear ae;obtain⟨u0,bN,ag⟩:=aj.out.op.row;have c10_0:=ag.ph 10 4 aI;clear ag bN;have Co:=hid fun W (h:St W sb mb lb ty o c rv l)=>sP sb mb lb ty o c rv l (1+(c.i:Int)) (1+c.i) ((c.nr:Int)+2) c.B W h (by omega) hj ⟨HF.out.B0,HF.out.B1⟩
 obtain⟨L1,ii⟩:∃ x,(if c.rdm l (1+c.i)=(c.nr:Int)+2 then c.wrm l (1+c.i) c.B else l)=x:=⟨_,rfl⟩;rw[ii] at Co ⊢;clear ii hj;have hN:=bj.out;have pP:(0:Int)≤(c.i:Int):=by omega
 have rN:(c.i:Int)≤100:=by omega
 have hs:IntKind.i64.wrap (1+(c.i:Int))=1+(c.i:Int):=ac (by omega) (by omega);have hd:decide ((o.nr:Int)≤(c.i:Int)+1)=false:=decide_eq_false (by omega);have jz:=fun W (h:St W sb mb lb ty o c rv L1)=>gi sb mb lb ty o c rv L1 (o.nr:Int) W h (show c.i<1000 by omega)
 rw[hd] at jz;have sY:=hid jz;clear hd jz hN ak hi;have xg:=hid fun W (h:St W sb mb lb ty o c rv l)=>fR sb mb lb ty o c rv l W h
 go_enter Tryz.func141,Tryz.ntmps141;go_wp2_with fail;refine dM (S:=(ou sb c)) aj ay (fun ai=>let ⟨_,_,ag⟩:=ai.out.op.row;⟨(ag.cell 11).trans rfl,(ag.cell 14).trans rfl⟩) fun w1 ai au hHeld=>?_
 refine ap 0 1 2 3 ?_;refine ap 4 5 6 7 ?_;refine ap 8 9 11 12 ?_;refine bw 13 14 ?_;refine aF 15 ?_;refine aJ 10 (fun K hK=>?_)
 ·go_simp;refine(xg.out _ ai.out).mono ?_;rintro ex w2 ⟨rfl,hb⟩;have ar:=hid (ai.out.below hb);have aE:=hid (au.out.trans (Mv.below hb _));clear hb;obtain⟨u2,bU,aC⟩:=ar.out.op.row;have aB:(ou sb c) w2:=⟨(aC.cell 11).trans rfl,(aC.cell 14).trans rfl⟩;clear aC bU;refine kH hK aB fun hHeld=>?_
  clear hK K;refine aJ 16 (fun K hK=>?_)
  ·go_simp;refine(Co.out _ ar.out).mono (bF aE fun w3 aM bf=>?_);obtain⟨u3,ez,bC⟩:=aM.out.op.row;have aQ:(ou sb c) w3:=⟨(bC.cell 11).trans rfl,(bC.cell 14).trans rfl⟩;clear bC ez;refine kH hK aQ fun hHeld=>?_
   clear hK K;refine bh ?_;clear hHeld aQ;go_wp2_with fail;refine dM (S:=(fun w':World=>w'.cell? ⟨sb,7,none⟩=some (.slice o.R o.nr o.cr))) aM bf (fun cq=>let ⟨_,_,bC⟩:=cq.out.op.row;(bC.cell 7).trans rfl) fun w4 cq dd hHeld=>?_
   refine ap 0 1 2 3 ?_;refine ap 4 5 6 7 ?_;refine bw 8 9 ?_;refine aJ 10 (fun K hK=>?_)
   ·go_simp;refine(sY.out _ cq.out).mono (bF dd fun w5 dV fS=>?_);obtain⟨u5,vi,j5⟩:=dV.out.op.row;have gC:(fun w':World=>w'.cell? ⟨sb,7,none⟩=some (.slice o.R o.nr o.cr)) w5:=(j5.cell 7).trans rfl;clear j5 vi;refine kH hK gC fun hHeld=>?_
    clear hK K;refine bh ?_;clear hHeld gC;go_wp2_with fail
    go_end0
    exact⟨_,rfl,dV.out,fS.out⟩
theorem BK (w:World) (h:St w sb mb lb ty o c rv l) (ae:c.ph=0) (hj:c.base+(1+c.rd)<l.length):Calls Tryz.prog 142 #[.pointer (some ⟨sb,0,none⟩)] w (Did sb mb lb ty o w rv (c.go 1) (c.wrm l (1+c.rd) ((c.nr:Int)+2)) (.tuple #[])):=by
 obtain⟨aj,ay,ah,HF,bp,aS,bx,bj⟩:=h.start;clear ah h;have aI:=hid ae;clear ae;obtain⟨u0,bN,ag⟩:=aj.out.op.row;have c10_0:=ag.ph 10 0 aI;have c9_0:=ag.at 9 (.int .i64 (c.rd:Int));clear ag bN;have fQ:=HF.out.rd1;have ll:(0:Int)≤(c.rd:Int):=by omega
 have mN:(c.rd:Int)≤4:=by omega
 have cT:IntKind.i64.wrap (1+(c.rd:Int))=1+(c.rd:Int):=ac (by omega) (by omega);clear fQ;have HW:=hid fun W (h:St W sb mb lb ty o c rv l)=>dN sb mb lb ty o c rv l (1+(c.rd:Int)) (1+c.rd) ((c.nr:Int)+2) W h (by omega) hj ⟨by omega,by have:=HF.out.nr1;omega⟩
 clear hj;have xg:=hid fun W (h:St W sb mb lb ty o c rv l)=>fR sb mb lb ty o c rv l W h
 go_enter Tryz.func142,Tryz.ntmps142;go_wp2_with fail;refine dM (S:=(fun _:World=>True)) aj ay (fun ai=>let ⟨_,_,ag⟩:=ai.out.op.row;trivial) fun w1 ai au hHeld=>?_
 refine ap 0 1 2 3 ?_;refine aF 4 ?_;refine aJ 5 (fun K hK=>?_)
 ·go_simp;refine(xg.out _ ai.out).mono ?_;rintro ex w2 ⟨rfl,hb⟩;have ar:=hid (ai.out.below hb);have aE:=hid (au.out.trans (Mv.below hb _));clear hb;have aB:(fun _:World=>True) w2:=trivial;refine kH hK aB fun hHeld=>?_
  clear hK K;refine aJ 6 (fun K hK=>?_)
  ·go_simp;refine(HW.out _ ar.out).mono (bF aE fun w3 aM bf=>?_);have aQ:(fun _:World=>True) w3:=trivial;refine kH hK aQ fun hHeld=>?_
   clear hK K;refine bh ?_;clear hHeld aQ;go_wp2_with fail;refine(dh sb mb lb ty o _ _ _ 1 1 _ aM.out rfl).mono (bF bf fun w4 cq dd=>?_);go_wp2_with fail
   go_end0
   exact⟨_,rfl,cq.out,dd.out⟩
theorem A4 (w:World) (h:St w sb mb lb ty o c rv l) (ae:c.ph=1) (hj:c.base+0<l.length):Calls Tryz.prog 142 #[.pointer (some ⟨sb,0,none⟩)] w (Did sb mb lb ty o w rv (({ c with A:=c.rdm l 0 }:Kc).go 2) l (.tuple #[])):=by
 obtain⟨aj,ay,ah,HF,bp,aS,bx,bj⟩:=h.start;clear ah h;have aI:=hid ae;clear ae;obtain⟨u0,bN,ag⟩:=aj.out.op.row;have c10_0:=ag.ph 10 1 aI;have c9_0:=ag.at 9 (.int .i64 (c.rd:Int));clear ag bN;have fQ:=HF.out.rd1;have ll:(0:Int)≤(c.rd:Int):=by omega
 have mN:(c.rd:Int)≤4:=by omega
 have cT:IntKind.i64.wrap (1+(c.rd:Int))=1+(c.rd:Int):=ac (by omega) (by omega);clear fQ;have hz:=cR hj aj.out.mem.w32;have HR:=hid fun W (h:St W sb mb lb ty o c rv l)=>cX sb mb lb ty o c rv l 0 0 W h (by omega) hj
 obtain⟨z,ao⟩:∃ x,c.rdm l 0=x:=⟨_,rfl⟩;rw[ao] at HR hz;try rw[ao]
 have cm:=hid ao;clear ao hj;have dU:=hz.1;have dA:=hz.2;clear hz;go_enter Tryz.func142,Tryz.ntmps142;go_wp2_with fail;refine(HR.out _ aj.out).mono (bF ay fun w1 ai au=>?_);obtain⟨u1,gS,bi⟩:=ai.out.op.row;have c13_1:=bi.at 13 (.int .u32 c.A);have f13_1:=bi.frozen 13;clear bi gS;go_wp2_with fail;obtain⟨ar,aE⟩:=fW (ai.out.setA (z) ⟨dU,dA⟩) au;go_wp2_with fail;refine(dh sb mb lb ty o _ _ _ 2 2 _ ar.out rfl).mono (bF aE fun w3 aM bf=>?_);go_wp2_with fail
 go_end0
 exact⟨_,rfl,aM.out,bf.out⟩
theorem Az (w:World) (h:St w sb mb lb ty o c rv l) (ae:c.ph=2) (hj:c.base+(1+c.rd)<l.length):Calls Tryz.prog 142 #[.pointer (some ⟨sb,0,none⟩)] w (Did sb mb lb ty o w rv (c.go 3) (if c.rdm l (1+c.rd)=(c.nr:Int)+2 then c.wrm l (1+c.rd) c.A else l) (.tuple #[])):=by
 obtain⟨aj,ay,ah,HF,bp,aS,bx,bj⟩:=h.start;clear ah h;have aI:=hid ae;clear ae;obtain⟨u0,bN,ag⟩:=aj.out.op.row;have c10_0:=ag.ph 10 2 aI;have c9_0:=ag.at 9 (.int .i64 (c.rd:Int));clear ag bN;have fQ:=HF.out.rd1;have ll:(0:Int)≤(c.rd:Int):=by omega
 have mN:(c.rd:Int)≤4:=by omega
 have cT:IntKind.i64.wrap (1+(c.rd:Int))=1+(c.rd:Int):=ac (by omega) (by omega);clear fQ;have Co:=hid fun W (h:St W sb mb lb ty o c rv l)=>sP sb mb lb ty o c rv l (1+(c.rd:Int)) (1+c.rd) ((c.nr:Int)+2) c.A W h (by omega) hj ⟨HF.out.A0,HF.out.A1⟩
 obtain⟨L1,ii⟩:∃ x,(if c.rdm l (1+c.rd)=(c.nr:Int)+2 then c.wrm l (1+c.rd) c.A else l)=x:=⟨_,rfl⟩;rw[ii] at Co ⊢;clear ii hj;have xg:=hid fun W (h:St W sb mb lb ty o c rv l)=>fR sb mb lb ty o c rv l W h
 go_enter Tryz.func142,Tryz.ntmps142;go_wp2_with fail;refine dM (S:=(fun w':World=>w'.cell? ⟨sb,13,none⟩=some (.int .u32 c.A))) aj ay (fun ai=>let ⟨_,_,ag⟩:=ai.out.op.row;(ag.cell 13).trans rfl) fun w1 ai au hHeld=>?_
 refine ap 0 1 2 3 ?_;refine ap 4 6 7 8 ?_;refine bw 9 10 ?_;refine aJ 5 (fun K hK=>?_)
 ·go_simp;refine(xg.out _ ai.out).mono ?_;rintro ex w2 ⟨rfl,hb⟩;have ar:=hid (ai.out.below hb);have aE:=hid (au.out.trans (Mv.below hb _));clear hb;obtain⟨u2,bU,aC⟩:=ar.out.op.row;have aB:(fun w':World=>w'.cell? ⟨sb,13,none⟩=some (.int .u32 c.A)) w2:=(aC.cell 13).trans rfl;clear aC bU;refine kH hK aB fun hHeld=>?_
  clear hK K;refine aJ 11 (fun K hK=>?_)
  ·go_simp;refine(Co.out _ ar.out).mono (bF aE fun w3 aM bf=>?_);obtain⟨u3,ez,bC⟩:=aM.out.op.row;have aQ:(fun w':World=>w'.cell? ⟨sb,13,none⟩=some (.int .u32 c.A)) w3:=(bC.cell 13).trans rfl;clear bC ez;refine kH hK aQ fun hHeld=>?_
   clear hK K;refine bh ?_;clear hHeld aQ;go_wp2_with fail;refine(dh sb mb lb ty o _ _ _ 3 3 _ aM.out rfl).mono (bF bf fun w4 cq dd=>?_);go_wp2_with fail
   go_end0
   exact⟨_,rfl,cq.out,dd.out⟩
theorem As (w:World) (h:St w sb mb lb ty o c rv l) (ae:c.ph=3) (hj:c.base+(1+c.rd)<l.length):Calls Tryz.prog 142 #[.pointer (some ⟨sb,0,none⟩)] w (Did sb mb lb ty o w rv (({ c with B:=c.rdm l (1+c.rd)%((c.nr:Int)+2) }:Kc).go 4) l (.tuple #[])):=by
 obtain⟨aj,ay,ah,HF,bp,aS,bx,bj⟩:=h.start;clear ah h;have aI:=hid ae;clear ae;obtain⟨u0,bN,ag⟩:=aj.out.op.row;have c10_0:=ag.ph 10 3 aI;have c9_0:=ag.at 9 (.int .i64 (c.rd:Int));clear ag bN;have fQ:=HF.out.rd1;have ll:(0:Int)≤(c.rd:Int):=by omega
 have mN:(c.rd:Int)≤4:=by omega
 have cT:IntKind.i64.wrap (1+(c.rd:Int))=1+(c.rd:Int):=ac (by omega) (by omega);clear fQ;have hz:=cR hj aj.out.mem.w32;have HR:=hid fun W (h:St W sb mb lb ty o c rv l)=>cX sb mb lb ty o c rv l (1+(c.rd:Int)) (1+c.rd) W h (by omega) hj
 obtain⟨z,ao⟩:∃ x,c.rdm l (1+c.rd)=x:=⟨_,rfl⟩;rw[ao] at HR hz;try rw[ao]
 have cm:=hid ao;clear ao hj;have dU:=hz.1;have dA:=hz.2;clear hz;have xg:=hid fun W (h:St W sb mb lb ty o c rv l)=>fR sb mb lb ty o c rv l W h
 have fT:=HF.out.nr1;have aq:(0:Int)≤(c.nr:Int):=by omega
 have iR:(c.nr:Int)≤4:=by omega
 have iZ:=Int.emod_nonneg z (show(c.nr:Int)+2≠0 by omega);have am:=Int.emod_lt_of_pos z (show(0:Int)<(c.nr:Int)+2 by omega);have JY:0≤z%((c.nr:Int)+2)∧z%((c.nr:Int)+2)<4294967296:=⟨iZ,by omega⟩;have pO:=hid JY;clear JY iZ am fT;go_enter Tryz.func142,Tryz.ntmps142;go_wp2_with fail;refine(HR.out _ aj.out).mono (bF ay fun w1 ai au=>?_);go_wp2_with fail;refine(xg.out _ ai.out).mono ?_;rintro ex w2 ⟨rfl,hb⟩;have ar:=hid (ai.out.below hb);have aE:=hid (au.out.trans (Mv.below hb _));clear hb;obtain⟨u2,bU,aC⟩:=ar.out.op.row;have c14_2:=aC.at 14 (.int .u32 c.B);have f14_2:=aC.frozen 14;clear aC bU;go_wp2_with fail;obtain⟨aM,bf⟩:=fW (ar.out.setB (z%((c.nr:Int)+2)) pO.out) aE;go_wp2_with fail;refine(dh sb mb lb ty o _ _ _ 4 4 _ aM.out rfl).mono (bF bf fun w4 cq dd=>?_);go_wp2_with fail
 go_end0
 exact⟨_,rfl,cq.out,dd.out⟩
theorem BH (w:World) (h:St w sb mb lb ty o c rv l) (ae:c.ph=4) (hB:0≤c.B∧c.B≤20) (bM:c.wr=true→c.i<c.rc.length) (cJ:c.rc.length≤1000000) (dD:c.i<1000) (hj:c.base+(1+c.nr+c.B.toNat*c.wd+c.i)<l.length) (fj:1+c.nr+c.B.toNat*c.wd≤1000000):Calls Tryz.prog 142 #[.pointer (some ⟨sb,0,none⟩)] w (Did sb mb lb ty o w rv (c.word l (1+c.nr+c.B.toNat*c.wd) (·.fin 0)).1 (c.word l (1+c.nr+c.B.toNat*c.wd) (·.fin 0)).2 (.tuple #[])):=by
 obtain⟨aj,ay,ah,HF,bp,aS,bx,bj⟩:=h.start;clear ah h;have aI:=hid ae;clear ae;obtain⟨u0,bN,ag⟩:=aj.out.op.row;have c10_0:=ag.ph 10 4 aI;have c9_0:=ag.at 9 (.int .i64 (c.rd:Int));clear ag bN;have fQ:=HF.out.rd1;have ll:(0:Int)≤(c.rd:Int):=by omega
 have mN:(c.rd:Int)≤4:=by omega
 have cT:IntKind.i64.wrap (1+(c.rd:Int))=1+(c.rd:Int):=ac (by omega) (by omega);clear fQ;have fM:=hid fun W (h:St W sb mb lb ty o c rv l)=>lZ sb mb lb ty o c rv l W h hB
 clear hB;obtain⟨FR,jY⟩:∃ x,1+c.nr+c.B.toNat*c.wd=x:=⟨_,rfl⟩;rw[jY] at fM hj fj ⊢;clear jY;have eG:=hid fun W (rv:Value) (h:St W sb mb lb ty o c rv l)=>fr sb mb lb ty o c rv l (FR) W h bM cJ dD hj fj
 clear bM cJ dD hj fj;rw[Kc.word_eq]
 by_cases ak:c.wd≤c.i+1
 ·rw[if_pos ak];have hd:decide ((c.wd:Int)≤(c.i:Int)+1)=true:=decide_eq_true (by omega);rw[hd] at eG;clear ak hd;go_enter Tryz.func142,Tryz.ntmps142;go_wp2_with fail;refine dM (S:=(fun _:World=>True)) aj ay (fun ai=>let ⟨_,_,ag⟩:=ai.out.op.row;trivial) fun w1 ai au hHeld=>?_
  refine ap 0 1 2 3 ?_;refine aJ 4 (fun K hK=>?_)
  ·go_simp;refine(fM.out _ ai.out).mono ?_;rintro ex w2 ⟨rfl,hb⟩;have ar:=hid (ai.out.below hb);have aE:=hid (au.out.trans (Mv.below hb _));clear hb;have aB:(fun _:World=>True) w2:=trivial;refine kH hK aB fun hHeld=>?_
   clear hK K;refine aJ 5 (fun K hK=>?_)
   ·go_simp;refine(eG.out _ _ ar.out).mono (cS aE fun w3 rv3 aM bf=>?_);have aQ:(fun _:World=>True) w3:=trivial;refine kH hK aQ fun hHeld=>?_
    clear hK K;refine bh ?_;clear hHeld aQ;go_wp2_with fail;refine(fz sb mb lb ty o _ _ _ 0 _ aM.out).mono (cS bf fun w4 rv4 cq dd=>?_);go_wp2_with fail
    go_end0
    exact⟨_,rfl,cq.out,dd.out⟩
 ·rw[if_neg ak];have hd:decide ((c.wd:Int)≤(c.i:Int)+1)=false:=decide_eq_false (by omega);rw[hd] at eG;clear ak hd;go_enter Tryz.func142,Tryz.ntmps142;go_wp2_with fail;refine dM (S:=(fun _:World=>True)) aj ay (fun ai=>let ⟨_,_,ag⟩:=ai.out.op.row;trivial) fun w1 ai au hHeld=>?_
  refine ap 0 1 2 3 ?_;refine aJ 4 (fun K hK=>?_)
  ·go_simp;refine(fM.out _ ai.out).mono ?_;rintro ex w2 ⟨rfl,hb⟩;have ar:=hid (ai.out.below hb);have aE:=hid (au.out.trans (Mv.below hb _));clear hb;have aB:(fun _:World=>True) w2:=trivial;refine kH hK aB fun hHeld=>?_
   clear hK K;refine aJ 5 (fun K hK=>?_)
   ·go_simp;refine(eG.out _ _ ar.out).mono (cS aE fun w3 rv3 aM bf=>?_);have aQ:(fun _:World=>True) w3:=trivial;refine kH hK aQ fun hHeld=>?_
    clear hK K;refine bh ?_;clear hHeld aQ;go_wp2_with fail
    go_end0
    exact⟨_,rfl,aM.out,bf.out⟩
end
end Go.Proofs.YtolmpehgeinlkaaGreatDoor
