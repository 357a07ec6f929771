/- The kind cab: each step of a write, and of a read. -/
import Derived.Test.YtolmpehgeinlkaaGreatDoorZcOgJ
namespace Go.Proofs.YtolmpehgeinlkaaGreatDoor
open Go.RowKit
open Go.Lib (hid)
attribute [local go_sem] Oper.semAt_some
set_option maxHeartbeats 1000000
set_option maxRecDepth 100000
abbrev Cu (a0:Nat) (a1:Ob) (w':World):Prop:=w'.cell? ⟨a0,0,none⟩=some (.int .i64 a1.k)∧w'.cell? ⟨a0,1,none⟩=some (.int .i64 a1.wd)∧w'.cell? ⟨a0,2,none⟩=some (.int .i64 a1.s)∧w'.cell? ⟨a0,3,none⟩=some (.int .i64 a1.c)∧w'.cell? ⟨a0,4,none⟩=some (.int .u32 a1.st)∧w'.cell? ⟨a0,5,none⟩=some (.slice a1.I a1.ni a1.ci)∧w'.cell? ⟨a0,6,none⟩=some (.int .i64 a1.wr)∧w'.cell? ⟨a0,7,none⟩=some (.slice a1.R a1.nr a1.cr)
section
variable (sb mb lb:Nat) (ty:TypeId) (o:Ob) (c:Kc) (rv:Value) (l:List Int)
theorem eZ (w:World) (h:St w sb mb lb ty o c rv l) (hs:1≤c.sl) (hj:c.base+0<l.length):Calls Tryz.prog 174 #[.pointer (some ⟨sb,0,none⟩)] w (lw sb mb lb ty o w rv c l (.int .u32 (c.rdm l 0%(c.sl:Int)))):=by
 obtain⟨aj,ay,ah,HF,bp,aS,bx,bj⟩:=h.start;clear ah h;have hz:=cR hj aj.out.mem.w32;have HR:=hid fun W (h:St W sb mb lb ty o c rv l)=>cX sb mb lb ty o c rv l 0 0 W h (by omega) hj
 obtain⟨z,ao⟩:∃ x,c.rdm l 0=x:=⟨_,rfl⟩;rw[ao] at HR hz;try rw[ao]
 have cm:=hid ao;clear ao hj;have dU:=hz.1;have dA:=hz.2;clear hz;have bZ:=HF.out.sl1;have eN:(1:Int)≤(c.sl:Int):=by omega
 have fV:(c.sl:Int)≤16:=by omega
 have m0:((c.sl:Int)==0)=false:=by simp;omega
 have m1:¬ (c.sl:Int)=0:=by omega
 have m2:¬ c.sl=0:=by omega
 have e1:IntKind.u32.wrap (c.sl:Int)=(c.sl:Int):=aa (by omega) (by omega);have t1:z.tmod (c.sl:Int)=z%(c.sl:Int):=Int.tmod_eq_emod_of_nonneg dU;have jJ:=Int.emod_nonneg z m1;have dP:=Int.emod_lt_of_pos z (show(0:Int)<(c.sl:Int) by omega);have t2:IntKind.u32.wrap (z%(c.sl:Int))=z%(c.sl:Int):=aa jJ (by omega);clear bZ hs jJ dP;go_enter Tryz.func174,Tryz.ntmps174;go_wp2_with fail;refine dM (S:=(fun w':World=>w'.cell? ⟨sb,2,none⟩=some (.int .i64 (c.sl:Int)))) aj ay (fun ai=>let ⟨_,_,ag⟩:=ai.out.op.row;(ag.cell 2).trans (by rw[← aS.out];rfl)) fun w1 ai au hHeld=>?_
 refine ap 0 1 2 4 ?_;refine ap 5 6 7 8 ?_;refine bw 9 10 ?_;refine aJ 3 (fun K hK=>?_)
 ·go_simp;refine(HR.out _ ai.out).mono (bF au fun w2 ar aE=>?_);obtain⟨u2,bU,aC⟩:=ar.out.op.row;have aB:(fun w':World=>w'.cell? ⟨sb,2,none⟩=some (.int .i64 (c.sl:Int))) w2:=(aC.cell 2).trans (by rw[← aS.out];rfl);clear aC bU;refine kH hK aB fun hHeld=>?_
  clear hK K;refine bw 11 12 ?_;refine bh ?_;clear hHeld aB;go_wp2_with fail;go_ret;exact⟨rfl,ar.out,aE.out⟩
theorem n3 (a:Int) (w:World) (h:St w sb mb lb ty o c rv l) (hB:0≤a∧a≤20):Calls Tryz.prog 176 #[.pointer (some ⟨sb,0,none⟩),.int .u32 a] w fun e w'=>e=.returned (.int .i64 ((1+c.nr+a.toNat*c.wd:Nat):Int))∧Below w.heap.size w w':=by
 obtain⟨aj,ay,ah,HF,bp,aS,bx,bj⟩:=h.start;clear ah h;have ox:=hid (Below.refl w.heap.size w);have fT:=HF.out.nr1;have lr:=HF.out.wd1;have bH:=hid fun W=>ki o (by have:=bj.out;omega) W
 have hv:=bj.out
 have hq:((1+c.nr+a.toNat*c.wd:Nat):Int)=1+(o.nr:Int)+a*o.wd:=by
  rw[Int.natCast_add,Int.natCast_mul,Int.toNat_of_nonneg (by omega),bp.out,hv];rfl
 rw[hq];have yC:0≤o.wd:=by have:=bp.out;omega
 have ES:o.wd≤8:=by have:=bp.out;omega
 have m1:=jV (a:=a) (b:=o.wd) (by omega) (by omega) (by omega) (by omega);have e3:IntKind.i64.wrap (a*o.wd)=a*o.wd:=ac (by omega) (by omega);have e5:IntKind.i64.wrap a=a:=ac (by omega) (by omega);have e4:IntKind.i64.wrap (1+(o.nr:Int)+a*o.wd)=1+(o.nr:Int)+a*o.wd:=ac (by omega) (by omega);clear hv fT lr hq hB;unfold af at bH;go_enter Tryz.func176,Tryz.ntmps176;go_wp2_with fail;obtain⟨u0,bN,ag⟩:=aj.out.drew.op.row;have ct:(Cu sb o) w.drew:=(by and_intros <;> exact ag.c rfl);have ai:=hid aj.out.drew;have au:=hid (ay.out.trans (Mv.drew w _));clear ag bN;have bT:=hid ox.out.drew;refine dR ct fun w1 aW hHeld=>?_
 rw[aW] at ai au bT;clear aW ct;refine ap 0 1 2 3 ?_;refine ap 4 6 7 8 ?_;refine ap 9 10 11 12 ?_;refine bw 13 14 ?_;refine aJ 5 (fun K hK=>?_)
 ·go_simp;refine(bH.out _).mono ?_;rintro ex w2 ⟨rfl,hb⟩;have ar:=hid (ai.out.below hb);have aE:=hid (au.out.trans (Mv.below hb _));have cw:=hid (bT.out.trans (hb.mono bT.out.size));clear hb;obtain⟨u2,bU,aC⟩:=ar.out.op.row;have aB:(Cu sb o) w2:=(by and_intros <;> exact aC.c rfl);clear aC bU;refine kH hK aB fun hHeld=>?_
  clear hK K;refine bw 15 16 ?_;refine bh ?_;clear hHeld aB;go_wp2_with fail;go_ret;exact⟨rfl,cw.out⟩
theorem lq (w:World) (h:St w sb mb lb ty o c rv l) (hi:c.i<100) (hT:Tab64 w) (hn:¬ fp sb mb lb rv 0) (ak:c.nr≤c.i+1) (dJ:0<c.rdm l (1+c.i)) (hj:c.base+(1+c.i)<l.length):Calls Tryz.prog 175 #[.pointer (some ⟨sb,0,none⟩)] w (Did sb mb lb ty o w rv (({ ({ (c.mark (c.rdm l (1+c.i) - 1)) with i:=c.i+1 }:Kc).mark c.A with B:=(({ (c.mark (c.rdm l (1+c.i) - 1)) with i:=c.i+1 }:Kc).mark c.A).free }:Kc).go 2) l (.tuple #[])):=by
 obtain⟨aj,ay,ah,HF,bp,aS,bx,bj⟩:=h.start;clear ah h;have hz:=cR hj aj.out.mem.w32;have HR:=hid fun W (h:St W sb mb lb ty o c rv l)=>cX sb mb lb ty o c rv l (1+(c.i:Int)) (1+c.i) W h (by omega) hj
 obtain⟨z,ao⟩:∃ x,c.rdm l (1+c.i)=x:=⟨_,rfl⟩;rw[ao] at HR hz;try rw[ao]
 have cm:=hid ao;clear ao hj;have dU:=hz.1;have dA:=hz.2;clear hz;rw[cm.out] at dJ;have hN:=bj.out;have pP:(0:Int)≤(c.i:Int):=by omega
 have rN:(c.i:Int)≤100:=by omega
 have hs:IntKind.i64.wrap (1+(c.i:Int))=1+(c.i:Int):=ac (by omega) (by omega);have hd:decide ((o.nr:Int)≤(c.i:Int)+1)=true:=decide_eq_true (by omega);have ld:decide (0<z)=true:=decide_eq_true (by omega);have Es:=hid fun W (h:St W sb mb lb ty o c rv l)=>ji sb mb lb ty o c rv l (z - 1) W h ⟨by omega,by omega⟩
 have dy:IntKind.u32.wrap (z - 1)=z - 1:=aa (by omega) (by omega);have gm:1≤z:=by omega
 have jz:=fun W (h:St W sb mb lb ty o (c.mark (z - 1)) rv l)=>gi sb mb lb ty o (c.mark (z - 1)) rv l (o.nr:Int) W h (show c.i<1000 by omega)
 have qK:decide ((o.nr:Int)≤(((c.mark (z - 1)).i:Nat):Int)+1)=true:=hd;rw[qK] at jz;have sY:=hid jz;clear hd jz hN ak qK hi;have sG:=hid fun W (h:St W sb mb lb ty o { (c.mark (z - 1)) with i:=(c.mark (z - 1)).i+1 } rv l)=>ji sb mb lb ty o { (c.mark (z - 1)) with i:=(c.mark (z - 1)).i+1 } rv l c.A W h ⟨HF.out.A0,HF.out.A1⟩
 have C7:=hid fun W (h:St W sb mb lb ty o (({ (c.mark (z - 1)) with i:=(c.mark (z - 1)).i+1 }:Kc).mark c.A) rv l) (hT:Tab64 W)=>tz sb mb lb ty o (({ (c.mark (z - 1)) with i:=(c.mark (z - 1)).i+1 }:Kc).mark c.A) rv l W h hT
 have C6:=hid (And.intro hT hn);have hb:=lF (({ (c.mark (z - 1)) with i:=(c.mark (z - 1)).i+1 }:Kc).mark c.A);obtain⟨Z,hZ⟩:∃ x,(({ (c.mark (z - 1)) with i:=(c.mark (z - 1)).i+1 }:Kc).mark c.A).free=x:=⟨_,rfl⟩;have ua:(({ (c.mark (z - 1)) with i:=c.i+1 }:Kc).mark c.A).free=Z:=hZ;rw[ua] at ⊢;rw[hZ] at C7 hb;clear hZ ua;clear hT hn;go_enter Tryz.func175,Tryz.ntmps175;go_wp2_with fail;refine dM (S:=(fun w':World=>w'.cell? ⟨sb,11,none⟩=some (.int .i64 (c.i:Int)))) aj ay (fun ai=>let ⟨_,_,ag⟩:=ai.out.op.row;(ag.cell 11).trans rfl) fun w1 ai au hHeld=>?_
 refine ap 0 1 2 3 ?_;refine ap 4 5 6 7 ?_;refine aF 8 ?_;refine aJ 9 (fun K hK=>?_)
 ·go_simp;refine(HR.out _ ai.out).mono (bF au fun w2 ar aE=>?_);obtain⟨u2,bU,aC⟩:=ar.out.op.row;have aB:(fun w':World=>w'.cell? ⟨sb,11,none⟩=some (.int .i64 (c.i:Int))) w2:=(aC.cell 11).trans rfl;clear aC bU;refine kH hK aB fun hHeld=>?_
  clear hK K;refine aF 10 ?_;refine bh ?_;clear hHeld aB;go_wp2_with fail;refine(Es.out _ ar.out).mono (bF aE fun w3 aM bf=>?_);go_wp2_with fail;refine dM (S:=(fun w':World=>w'.cell? ⟨sb,7,none⟩=some (.slice o.R o.nr o.cr))) aM bf (fun cq=>let ⟨_,_,bC⟩:=cq.out.op.row;(bC.cell 7).trans rfl) fun w4 cq dd hHeld=>?_
  refine ap 0 1 2 3 ?_;refine ap 4 5 6 7 ?_;refine bw 8 9 ?_;refine aJ 10 (fun K hK=>?_)
  ·go_simp;refine(sY.out _ cq.out).mono (bF dd fun w5 dV fS=>?_);obtain⟨u5,vi,j5⟩:=dV.out.op.row;have gC:(fun w':World=>w'.cell? ⟨sb,7,none⟩=some (.slice o.R o.nr o.cr)) w5:=(j5.cell 7).trans rfl;clear j5 vi;refine kH hK gC fun hHeld=>?_
   clear hK K;refine aF 11 ?_;refine bh ?_;clear hHeld gC;go_wp2_with fail;refine dM (S:=(fun w':World=>w'.cell? ⟨sb,13,none⟩=some (.int .u32 c.A))) dV fS (fun ja=>let ⟨_,_,j5⟩:=ja.out.op.row;(j5.cell 13).trans rfl) fun w6 ja pq hHeld=>?_
   refine ap 0 1 2 3 ?_;refine ap 4 5 6 7 ?_;refine aJ 8 (fun K hK=>?_)
   ·go_simp;refine(sG.out _ ja.out).mono (bF pq fun w7 j4 pJ=>?_);obtain⟨u7,Gs,Cd⟩:=j4.out.op.row;have zb:(fun w':World=>w'.cell? ⟨sb,13,none⟩=some (.int .u32 c.A)) w7:=(Cd.cell 13).trans rfl;clear Cd Gs;refine kH hK zb fun hHeld=>?_
    clear hK K;refine bh ?_;clear hHeld zb;go_wp2_with fail;have nR:=C6.out.1.mv pJ.out C6.out.2;have ns:=hid nR;clear nR;refine(C7.out _ j4.out ns.out).mono ?_;rintro ex w8 ⟨rfl,rfl⟩;have nc:=j4;have qg:=pJ;obtain⟨u8,Jo,vC⟩:=nc.out.op.row;have c14_8:=vC.at 14 (.int .u32 c.B);have f14_8:=vC.frozen 14;clear vC Jo;go_wp2_with fail;obtain⟨tU,xh⟩:=fW (nc.out.setB (Z) (by omega)) qg;refine(dh sb mb lb ty o _ _ _ 2 2 _ tU.out rfl).mono (bF xh fun w10 EN EU=>?_);go_wp2_with fail
    go_end0
    exact⟨_,rfl,EN.out,EU.out⟩
theorem lv (w:World) (h:St w sb mb lb ty o c rv l) (hi:c.i<100) (_hT:Tab64 w) (_hn:¬ fp sb mb lb rv 0) (ak:¬ (c.nr≤c.i+1)) (dJ:0<c.rdm l (1+c.i)) (hj:c.base+(1+c.i)<l.length):Calls Tryz.prog 175 #[.pointer (some ⟨sb,0,none⟩)] w (Did sb mb lb ty o w rv { (c.mark (c.rdm l (1+c.i) - 1)) with i:=c.i+1 } l (.tuple #[])):=by
 obtain⟨aj,ay,ah,HF,bp,aS,bx,bj⟩:=h.start;clear ah h;have hz:=cR hj aj.out.mem.w32;have HR:=hid fun W (h:St W sb mb lb ty o c rv l)=>cX sb mb lb ty o c rv l (1+(c.i:Int)) (1+c.i) W h (by omega) hj
 obtain⟨z,ao⟩:∃ x,c.rdm l (1+c.i)=x:=⟨_,rfl⟩;rw[ao] at HR hz;try rw[ao]
 have cm:=hid ao;clear ao hj;have dU:=hz.1;have dA:=hz.2;clear hz;rw[cm.out] at dJ;have hN:=bj.out;have pP:(0:Int)≤(c.i:Int):=by omega
 have rN:(c.i:Int)≤100:=by omega
 have hs:IntKind.i64.wrap (1+(c.i:Int))=1+(c.i:Int):=ac (by omega) (by omega);have hd:decide ((o.nr:Int)≤(c.i:Int)+1)=false:=decide_eq_false (by omega);have ld:decide (0<z)=true:=decide_eq_true (by omega);have Es:=hid fun W (h:St W sb mb lb ty o c rv l)=>ji sb mb lb ty o c rv l (z - 1) W h ⟨by omega,by omega⟩
 have dy:IntKind.u32.wrap (z - 1)=z - 1:=aa (by omega) (by omega);have gm:1≤z:=by omega
 have jz:=fun W (h:St W sb mb lb ty o (c.mark (z - 1)) rv l)=>gi sb mb lb ty o (c.mark (z - 1)) rv l (o.nr:Int) W h (show c.i<1000 by omega)
 have qK:decide ((o.nr:Int)≤(((c.mark (z - 1)).i:Nat):Int)+1)=false:=hd;rw[qK] at jz;have sY:=hid jz;clear hd jz hN ak qK hi;clear _hT _hn;go_enter Tryz.func175,Tryz.ntmps175;go_wp2_with fail;refine dM (S:=(fun w':World=>w'.cell? ⟨sb,11,none⟩=some (.int .i64 (c.i:Int)))) aj ay (fun ai=>let ⟨_,_,ag⟩:=ai.out.op.row;(ag.cell 11).trans rfl) fun w1 ai au hHeld=>?_
 refine ap 0 1 2 3 ?_;refine ap 4 5 6 7 ?_;refine aF 8 ?_;refine aJ 9 (fun K hK=>?_)
 ·go_simp;refine(HR.out _ ai.out).mono (bF au fun w2 ar aE=>?_);obtain⟨u2,bU,aC⟩:=ar.out.op.row;have aB:(fun w':World=>w'.cell? ⟨sb,11,none⟩=some (.int .i64 (c.i:Int))) w2:=(aC.cell 11).trans rfl;clear aC bU;refine kH hK aB fun hHeld=>?_
  clear hK K;refine aF 10 ?_;refine bh ?_;clear hHeld aB;go_wp2_with fail;refine(Es.out _ ar.out).mono (bF aE fun w3 aM bf=>?_);go_wp2_with fail;refine dM (S:=(fun w':World=>w'.cell? ⟨sb,7,none⟩=some (.slice o.R o.nr o.cr))) aM bf (fun cq=>let ⟨_,_,bC⟩:=cq.out.op.row;(bC.cell 7).trans rfl) fun w4 cq dd hHeld=>?_
  refine ap 0 1 2 3 ?_;refine ap 4 5 6 7 ?_;refine bw 8 9 ?_;refine aJ 10 (fun K hK=>?_)
  ·go_simp;refine(sY.out _ cq.out).mono (bF dd fun w5 dV fS=>?_);obtain⟨u5,vi,j5⟩:=dV.out.op.row;have gC:(fun w':World=>w'.cell? ⟨sb,7,none⟩=some (.slice o.R o.nr o.cr)) w5:=(j5.cell 7).trans rfl;clear j5 vi;refine kH hK gC fun hHeld=>?_
   clear hK K;refine aF 11 ?_;refine bh ?_;clear hHeld gC;go_wp2_with fail
   go_end0
   exact⟨_,rfl,dV.out,fS.out⟩
theorem lu (w:World) (h:St w sb mb lb ty o c rv l) (hi:c.i<100) (hT:Tab64 w) (hn:¬ fp sb mb lb rv 0) (ak:c.nr≤c.i+1) (dJ:¬ (0<c.rdm l (1+c.i))) (hj:c.base+(1+c.i)<l.length):Calls Tryz.prog 175 #[.pointer (some ⟨sb,0,none⟩)] w (Did sb mb lb ty o w rv (({ ({ c with i:=c.i+1 }:Kc).mark c.A with B:=(({ c with i:=c.i+1 }:Kc).mark c.A).free }:Kc).go 2) l (.tuple #[])):=by
 obtain⟨aj,ay,ah,HF,bp,aS,bx,bj⟩:=h.start;clear ah h;have hz:=cR hj aj.out.mem.w32;have HR:=hid fun W (h:St W sb mb lb ty o c rv l)=>cX sb mb lb ty o c rv l (1+(c.i:Int)) (1+c.i) W h (by omega) hj
 obtain⟨z,ao⟩:∃ x,c.rdm l (1+c.i)=x:=⟨_,rfl⟩;rw[ao] at HR hz;try rw[ao]
 have cm:=hid ao;clear ao hj;have dU:=hz.1;have dA:=hz.2;clear hz;rw[cm.out] at dJ;have hN:=bj.out;have pP:(0:Int)≤(c.i:Int):=by omega
 have rN:(c.i:Int)≤100:=by omega
 have hs:IntKind.i64.wrap (1+(c.i:Int))=1+(c.i:Int):=ac (by omega) (by omega);have hd:decide ((o.nr:Int)≤(c.i:Int)+1)=true:=decide_eq_true (by omega);have ld:decide (0<z)=false:=decide_eq_false (by omega);have jz:=fun W (h:St W sb mb lb ty o c rv l)=>gi sb mb lb ty o c rv l (o.nr:Int) W h (show c.i<1000 by omega)
 have qK:decide ((o.nr:Int)≤((c.i:Nat):Int)+1)=true:=hd;rw[qK] at jz;have sY:=hid jz;clear hd jz hN ak qK hi;have sG:=hid fun W (h:St W sb mb lb ty o { c with i:=c.i+1 } rv l)=>ji sb mb lb ty o { c with i:=c.i+1 } rv l c.A W h ⟨HF.out.A0,HF.out.A1⟩
 have C7:=hid fun W (h:St W sb mb lb ty o (({ c with i:=c.i+1 }:Kc).mark c.A) rv l) (hT:Tab64 W)=>tz sb mb lb ty o (({ c with i:=c.i+1 }:Kc).mark c.A) rv l W h hT
 have C6:=hid (And.intro hT hn);have hb:=lF (({ c with i:=c.i+1 }:Kc).mark c.A);obtain⟨Z,hZ⟩:∃ x,(({ c with i:=c.i+1 }:Kc).mark c.A).free=x:=⟨_,rfl⟩;have ua:(({ c with i:=c.i+1 }:Kc).mark c.A).free=Z:=hZ;rw[ua] at ⊢;rw[hZ] at C7 hb;clear hZ ua;clear hT hn;go_enter Tryz.func175,Tryz.ntmps175;go_wp2_with fail;refine dM (S:=(fun w':World=>w'.cell? ⟨sb,11,none⟩=some (.int .i64 (c.i:Int)))) aj ay (fun ai=>let ⟨_,_,ag⟩:=ai.out.op.row;(ag.cell 11).trans rfl) fun w1 ai au hHeld=>?_
 refine ap 0 1 2 3 ?_;refine ap 4 5 6 7 ?_;refine aF 8 ?_;refine aJ 9 (fun K hK=>?_)
 ·go_simp;refine(HR.out _ ai.out).mono (bF au fun w2 ar aE=>?_);obtain⟨u2,bU,aC⟩:=ar.out.op.row;have aB:(fun w':World=>w'.cell? ⟨sb,11,none⟩=some (.int .i64 (c.i:Int))) w2:=(aC.cell 11).trans rfl;clear aC bU;refine kH hK aB fun hHeld=>?_
  clear hK K;refine aF 10 ?_;refine bh ?_;clear hHeld aB;go_wp2_with fail;refine dM (S:=(fun w':World=>w'.cell? ⟨sb,7,none⟩=some (.slice o.R o.nr o.cr))) ar aE (fun aM=>let ⟨_,_,aC⟩:=aM.out.op.row;(aC.cell 7).trans rfl) fun w3 aM bf hHeld=>?_
  refine ap 0 1 2 3 ?_;refine ap 4 5 6 7 ?_;refine bw 8 9 ?_;refine aJ 10 (fun K hK=>?_)
  ·go_simp;refine(sY.out _ aM.out).mono (bF bf fun w4 cq dd=>?_);obtain⟨u4,mC,dZ⟩:=cq.out.op.row;have ed:(fun w':World=>w'.cell? ⟨sb,7,none⟩=some (.slice o.R o.nr o.cr)) w4:=(dZ.cell 7).trans rfl;clear dZ mC;refine kH hK ed fun hHeld=>?_
   clear hK K;refine aF 11 ?_;refine bh ?_;clear hHeld ed;go_wp2_with fail;refine dM (S:=(fun w':World=>w'.cell? ⟨sb,13,none⟩=some (.int .u32 c.A))) cq dd (fun dV=>let ⟨_,_,dZ⟩:=dV.out.op.row;(dZ.cell 13).trans rfl) fun w5 dV fS hHeld=>?_
   refine ap 0 1 2 3 ?_;refine ap 4 5 6 7 ?_;refine aJ 8 (fun K hK=>?_)
   ·go_simp;refine(sG.out _ dV.out).mono (bF fS fun w6 ja pq=>?_);obtain⟨u6,MB,FJ⟩:=ja.out.op.row;have GE:(fun w':World=>w'.cell? ⟨sb,13,none⟩=some (.int .u32 c.A)) w6:=(FJ.cell 13).trans rfl;clear FJ MB;refine kH hK GE fun hHeld=>?_
    clear hK K;refine bh ?_;clear hHeld GE;go_wp2_with fail;have nR:=C6.out.1.mv pq.out C6.out.2;have ns:=hid nR;clear nR;refine(C7.out _ ja.out ns.out).mono ?_;rintro ex w7 ⟨rfl,rfl⟩;have j4:=ja;have pJ:=pq;obtain⟨u7,Gs,Cd⟩:=j4.out.op.row;have c14_7:=Cd.at 14 (.int .u32 c.B);have f14_7:=Cd.frozen 14;clear Cd Gs;go_wp2_with fail;obtain⟨nc,qg⟩:=fW (j4.out.setB (Z) (by omega)) pJ;refine(dh sb mb lb ty o _ _ _ 2 2 _ nc.out rfl).mono (bF qg fun w9 tU xh=>?_);go_wp2_with fail
    go_end0
    exact⟨_,rfl,tU.out,xh.out⟩
theorem lk (w:World) (h:St w sb mb lb ty o c rv l) (hi:c.i<100) (_hT:Tab64 w) (_hn:¬ fp sb mb lb rv 0) (ak:¬ (c.nr≤c.i+1)) (dJ:¬ (0<c.rdm l (1+c.i))) (hj:c.base+(1+c.i)<l.length):Calls Tryz.prog 175 #[.pointer (some ⟨sb,0,none⟩)] w (Did sb mb lb ty o w rv { c with i:=c.i+1 } l (.tuple #[])):=by
 obtain⟨aj,ay,ah,HF,bp,aS,bx,bj⟩:=h.start;clear ah h;have hz:=cR hj aj.out.mem.w32;have HR:=hid fun W (h:St W sb mb lb ty o c rv l)=>cX sb mb lb ty o c rv l (1+(c.i:Int)) (1+c.i) W h (by omega) hj
 obtain⟨z,ao⟩:∃ x,c.rdm l (1+c.i)=x:=⟨_,rfl⟩;rw[ao] at HR hz;try rw[ao]
 have cm:=hid ao;clear ao hj;have dU:=hz.1;have dA:=hz.2;clear hz;rw[cm.out] at dJ;have hN:=bj.out;have pP:(0:Int)≤(c.i:Int):=by omega
 have rN:(c.i:Int)≤100:=by omega
 have hs:IntKind.i64.wrap (1+(c.i:Int))=1+(c.i:Int):=ac (by omega) (by omega);have hd:decide ((o.nr:Int)≤(c.i:Int)+1)=false:=decide_eq_false (by omega);have ld:decide (0<z)=false:=decide_eq_false (by omega);have jz:=fun W (h:St W sb mb lb ty o c rv l)=>gi sb mb lb ty o c rv l (o.nr:Int) W h (show c.i<1000 by omega)
 have qK:decide ((o.nr:Int)≤((c.i:Nat):Int)+1)=false:=hd;rw[qK] at jz;have sY:=hid jz;clear hd jz hN ak qK hi;clear _hT _hn;go_enter Tryz.func175,Tryz.ntmps175;go_wp2_with fail;refine dM (S:=(fun w':World=>w'.cell? ⟨sb,11,none⟩=some (.int .i64 (c.i:Int)))) aj ay (fun ai=>let ⟨_,_,ag⟩:=ai.out.op.row;(ag.cell 11).trans rfl) fun w1 ai au hHeld=>?_
 refine ap 0 1 2 3 ?_;refine ap 4 5 6 7 ?_;refine aF 8 ?_;refine aJ 9 (fun K hK=>?_)
 ·go_simp;refine(HR.out _ ai.out).mono (bF au fun w2 ar aE=>?_);obtain⟨u2,bU,aC⟩:=ar.out.op.row;have aB:(fun w':World=>w'.cell? ⟨sb,11,none⟩=some (.int .i64 (c.i:Int))) w2:=(aC.cell 11).trans rfl;clear aC bU;refine kH hK aB fun hHeld=>?_
  clear hK K;refine aF 10 ?_;refine bh ?_;clear hHeld aB;go_wp2_with fail;refine dM (S:=(fun w':World=>w'.cell? ⟨sb,7,none⟩=some (.slice o.R o.nr o.cr))) ar aE (fun aM=>let ⟨_,_,aC⟩:=aM.out.op.row;(aC.cell 7).trans rfl) fun w3 aM bf hHeld=>?_
  refine ap 0 1 2 3 ?_;refine ap 4 5 6 7 ?_;refine bw 8 9 ?_;refine aJ 10 (fun K hK=>?_)
  ·go_simp;refine(sY.out _ aM.out).mono (bF bf fun w4 cq dd=>?_);obtain⟨u4,mC,dZ⟩:=cq.out.op.row;have ed:(fun w':World=>w'.cell? ⟨sb,7,none⟩=some (.slice o.R o.nr o.cr)) w4:=(dZ.cell 7).trans rfl;clear dZ mC;refine kH hK ed fun hHeld=>?_
   clear hK K;refine aF 11 ?_;refine bh ?_;clear hHeld ed;go_wp2_with fail
   go_end0
   exact⟨_,rfl,cq.out,dd.out⟩
theorem DD (w:World) (h:St w sb mb lb ty o c rv l) (ae:c.ph=0) (hs:1≤c.sl) (hj:c.base+0<l.length):Calls Tryz.prog 147 #[.pointer (some ⟨sb,0,none⟩)] w (Did sb mb lb ty o w rv (({ c with A:=c.rdm l 0%(c.sl:Int) }:Kc).go 1) l (.tuple #[])):=by
 obtain⟨aj,ay,ah,HF,bp,aS,bx,bj⟩:=h.start;clear ah h;have aI:=hid ae;clear ae;obtain⟨u0,bN,ag⟩:=aj.out.op.row;have c10_0:=ag.ph 10 0 aI;clear ag bN;have la:=hid fun W (h:St W sb mb lb ty o c rv l)=>eZ sb mb lb ty o c rv l W h hs hj
 have bZ:=HF.out.sl1;obtain⟨z,ao⟩:∃ x,c.rdm l 0%(c.sl:Int)=x:=⟨_,rfl⟩;have dU:0≤z:=by rw[← ao];exact Int.emod_nonneg _ (by omega)
 have dA:z<16:=by have:=Int.emod_lt_of_pos (c.rdm l 0) (show(0:Int)<(c.sl:Int) by omega);omega
 rw[ao] at la;try rw[ao]
 have kh:=hid ao;clear ao hj hs bZ;go_enter Tryz.func147,Tryz.ntmps147;go_wp2_with fail;refine(la.out _ aj.out).mono (bF ay fun w1 ai au=>?_);obtain⟨u1,gS,bi⟩:=ai.out.op.row;have c13_1:=bi.at 13 (.int .u32 c.A);have f13_1:=bi.frozen 13;clear bi gS;go_wp2_with fail;obtain⟨ar,aE⟩:=fW (ai.out.setA (z) ⟨dU,by omega⟩) au;go_wp2_with fail;refine(dh sb mb lb ty o _ _ _ 1 1 _ ar.out rfl).mono (bF aE fun w3 aM bf=>?_);go_wp2_with fail
 go_end0
 exact⟨_,rfl,aM.out,bf.out⟩
theorem lR (w:World) (h:St w sb mb lb ty o c rv l) (ae:c.ph=1) (hi:c.i<100) (hT:Tab64 w) (hn:¬ fp sb mb lb rv 0) (ak:c.nr≤c.i+1) (dJ:0<c.rdm l (1+c.i)) (hj:c.base+(1+c.i)<l.length):Calls Tryz.prog 147 #[.pointer (some ⟨sb,0,none⟩)] w (Did sb mb lb ty o w rv (({ ({ (c.mark (c.rdm l (1+c.i) - 1)) with i:=c.i+1 }:Kc).mark c.A with B:=(({ (c.mark (c.rdm l (1+c.i) - 1)) with i:=c.i+1 }:Kc).mark c.A).free }:Kc).go 2) l (.tuple #[])):=by
 obtain⟨aj,ay,ah,HF,bp,aS,bx,bj⟩:=h.start;clear ah h;have aI:=hid ae;clear ae;obtain⟨u0,bN,ag⟩:=aj.out.op.row;have c10_0:=ag.ph 10 1 aI;clear ag bN;have yB:=hid (lq sb mb lb ty o c rv l w aj.out hi hT hn ak dJ hj);clear hi hT hn ak dJ hj;go_enter Tryz.func147,Tryz.ntmps147;go_wp2_with fail;refine yB.out.mono (cS ay fun w1 rv1 ai au=>?_);go_wp2_with fail
 go_end0
 exact⟨_,rfl,ai.out,au.out⟩
theorem mE (w:World) (h:St w sb mb lb ty o c rv l) (ae:c.ph=1) (hi:c.i<100) (hT:Tab64 w) (hn:¬ fp sb mb lb rv 0) (ak:¬ (c.nr≤c.i+1)) (dJ:0<c.rdm l (1+c.i)) (hj:c.base+(1+c.i)<l.length):Calls Tryz.prog 147 #[.pointer (some ⟨sb,0,none⟩)] w (Did sb mb lb ty o w rv { (c.mark (c.rdm l (1+c.i) - 1)) with i:=c.i+1 } l (.tuple #[])):=by
 obtain⟨aj,ay,ah,HF,bp,aS,bx,bj⟩:=h.start;clear ah h;have aI:=hid ae;clear ae;obtain⟨u0,bN,ag⟩:=aj.out.op.row;have c10_0:=ag.ph 10 1 aI;clear ag bN;have yB:=hid (lv sb mb lb ty o c rv l w aj.out hi hT hn ak dJ hj);clear hi hT hn ak dJ hj;go_enter Tryz.func147,Tryz.ntmps147;go_wp2_with fail;refine yB.out.mono (cS ay fun w1 rv1 ai au=>?_);go_wp2_with fail
 go_end0
 exact⟨_,rfl,ai.out,au.out⟩
theorem mK (w:World) (h:St w sb mb lb ty o c rv l) (ae:c.ph=1) (hi:c.i<100) (hT:Tab64 w) (hn:¬ fp sb mb lb rv 0) (ak:c.nr≤c.i+1) (dJ:¬ (0<c.rdm l (1+c.i))) (hj:c.base+(1+c.i)<l.length):Calls Tryz.prog 147 #[.pointer (some ⟨sb,0,none⟩)] w (Did sb mb lb ty o w rv (({ ({ c with i:=c.i+1 }:Kc).mark c.A with B:=(({ c with i:=c.i+1 }:Kc).mark c.A).free }:Kc).go 2) l (.tuple #[])):=by
 obtain⟨aj,ay,ah,HF,bp,aS,bx,bj⟩:=h.start;clear ah h;have aI:=hid ae;clear ae;obtain⟨u0,bN,ag⟩:=aj.out.op.row;have c10_0:=ag.ph 10 1 aI;clear ag bN;have yB:=hid (lu sb mb lb ty o c rv l w aj.out hi hT hn ak dJ hj);clear hi hT hn ak dJ hj;go_enter Tryz.func147,Tryz.ntmps147;go_wp2_with fail;refine yB.out.mono (cS ay fun w1 rv1 ai au=>?_);go_wp2_with fail
 go_end0
 exact⟨_,rfl,ai.out,au.out⟩
theorem m9 (w:World) (h:St w sb mb lb ty o c rv l) (ae:c.ph=1) (hi:c.i<100) (hT:Tab64 w) (hn:¬ fp sb mb lb rv 0) (ak:¬ (c.nr≤c.i+1)) (dJ:¬ (0<c.rdm l (1+c.i))) (hj:c.base+(1+c.i)<l.length):Calls Tryz.prog 147 #[.pointer (some ⟨sb,0,none⟩)] w (Did sb mb lb ty o w rv { c with i:=c.i+1 } l (.tuple #[])):=by
 obtain⟨aj,ay,ah,HF,bp,aS,bx,bj⟩:=h.start;clear ah h;have aI:=hid ae;clear ae;obtain⟨u0,bN,ag⟩:=aj.out.op.row;have c10_0:=ag.ph 10 1 aI;clear ag bN;have yB:=hid (lk sb mb lb ty o c rv l w aj.out hi hT hn ak dJ hj);clear hi hT hn ak dJ hj;go_enter Tryz.func147,Tryz.ntmps147;go_wp2_with fail;refine yB.out.mono (cS ay fun w1 rv1 ai au=>?_);go_wp2_with fail
 go_end0
 exact⟨_,rfl,ai.out,au.out⟩
theorem DM (w:World) (h:St w sb mb lb ty o c rv l) (ae:c.ph=2) (hB:0≤c.B∧c.B≤20) (bM:c.wr=true→c.i<c.rc.length) (cJ:c.rc.length≤1000000) (dD:c.i<1000) (hj:c.base+(1+c.nr+c.B.toNat*c.wd+c.i)<l.length) (fj:1+c.nr+c.B.toNat*c.wd≤1000000):Calls Tryz.prog 147 #[.pointer (some ⟨sb,0,none⟩)] w (Did sb mb lb ty o w rv (c.word l (1+c.nr+c.B.toNat*c.wd) (·.go 3)).1 (c.word l (1+c.nr+c.B.toNat*c.wd) (·.go 3)).2 (.tuple #[])):=by
 obtain⟨aj,ay,ah,HF,bp,aS,bx,bj⟩:=h.start;clear ah h;have aI:=hid ae;clear ae;obtain⟨u0,bN,ag⟩:=aj.out.op.row;have c10_0:=ag.ph 10 2 aI;clear ag bN;have fM:=hid fun W (h:St W sb mb lb ty o c rv l)=>n3 sb mb lb ty o c rv l c.B W h hB
 clear hB;obtain⟨FR,jY⟩:∃ x,1+c.nr+c.B.toNat*c.wd=x:=⟨_,rfl⟩;rw[jY] at fM hj fj ⊢;clear jY;have eG:=hid fun W (rv:Value) (h:St W sb mb lb ty o c rv l)=>fr sb mb lb ty o c rv l (FR) W h bM cJ dD hj fj
 clear bM cJ dD hj fj;rw[Kc.word_eq]
 by_cases ak:c.wd≤c.i+1
 ·rw[if_pos ak];have hd:decide ((c.wd:Int)≤(c.i:Int)+1)=true:=decide_eq_true (by omega);rw[hd] at eG;clear ak hd;go_enter Tryz.func147,Tryz.ntmps147;go_wp2_with fail;refine dM (S:=(fun w':World=>w'.cell? ⟨sb,14,none⟩=some (.int .u32 c.B))) aj ay (fun ai=>let ⟨_,_,ag⟩:=ai.out.op.row;(ag.cell 14).trans rfl) fun w1 ai au hHeld=>?_
  refine ap 0 1 2 3 ?_;refine ap 4 5 6 7 ?_;refine aF 8 ?_;refine aJ 9 (fun K hK=>?_)
  ·go_simp;refine(fM.out _ ai.out).mono ?_;rintro ex w2 ⟨rfl,hb⟩;have ar:=hid (ai.out.below hb);have aE:=hid (au.out.trans (Mv.below hb _));clear hb;obtain⟨u2,bU,aC⟩:=ar.out.op.row;have aB:(fun w':World=>w'.cell? ⟨sb,14,none⟩=some (.int .u32 c.B)) w2:=(aC.cell 14).trans rfl;clear aC bU;refine kH hK aB fun hHeld=>?_
   clear hK K;refine aJ 10 (fun K hK=>?_)
   ·go_simp;refine(eG.out _ _ ar.out).mono (cS aE fun w3 rv3 aM bf=>?_);obtain⟨u3,ez,bC⟩:=aM.out.op.row;have aQ:(fun w':World=>w'.cell? ⟨sb,14,none⟩=some (.int .u32 c.B)) w3:=(bC.cell 14).trans rfl;clear bC ez;refine kH hK aQ fun hHeld=>?_
    clear hK K;refine bh ?_;clear hHeld aQ;go_wp2_with fail;refine(dh sb mb lb ty o _ _ _ 3 3 _ aM.out rfl).mono (bF bf fun w4 cq dd=>?_);go_wp2_with fail
    go_end0
    exact⟨_,rfl,cq.out,dd.out⟩
 ·rw[if_neg ak];have hd:decide ((c.wd:Int)≤(c.i:Int)+1)=false:=decide_eq_false (by omega);rw[hd] at eG;clear ak hd;go_enter Tryz.func147,Tryz.ntmps147;go_wp2_with fail;refine dM (S:=(fun w':World=>w'.cell? ⟨sb,14,none⟩=some (.int .u32 c.B))) aj ay (fun ai=>let ⟨_,_,ag⟩:=ai.out.op.row;(ag.cell 14).trans rfl) fun w1 ai au hHeld=>?_
  refine ap 0 1 2 3 ?_;refine ap 4 5 6 7 ?_;refine aF 8 ?_;refine aJ 9 (fun K hK=>?_)
  ·go_simp;refine(fM.out _ ai.out).mono ?_;rintro ex w2 ⟨rfl,hb⟩;have ar:=hid (ai.out.below hb);have aE:=hid (au.out.trans (Mv.below hb _));clear hb;obtain⟨u2,bU,aC⟩:=ar.out.op.row;have aB:(fun w':World=>w'.cell? ⟨sb,14,none⟩=some (.int .u32 c.B)) w2:=(aC.cell 14).trans rfl;clear aC bU;refine kH hK aB fun hHeld=>?_
   clear hK K;refine aJ 10 (fun K hK=>?_)
   ·go_simp;refine(eG.out _ _ ar.out).mono (cS aE fun w3 rv3 aM bf=>?_);obtain⟨u3,ez,bC⟩:=aM.out.op.row;have aQ:(fun w':World=>w'.cell? ⟨sb,14,none⟩=some (.int .u32 c.B)) w3:=(bC.cell 14).trans rfl;clear bC ez;refine kH hK aQ fun hHeld=>?_
    clear hK K;refine bh ?_;clear hHeld aQ;go_wp2_with fail
    go_end0
    exact⟨_,rfl,aM.out,bf.out⟩
theorem ED (w:World) (h:St w sb mb lb ty o c rv l) (ae:c.ph=3) (hj:c.base+0<l.length):Calls Tryz.prog 147 #[.pointer (some ⟨sb,0,none⟩)] w (Did sb mb lb ty o w rv (c.fin 0) (c.wrm l 0 c.B) (.tuple #[])):=by
 obtain⟨aj,ay,ah,HF,bp,aS,bx,bj⟩:=h.start;clear ah h;have aI:=hid ae;clear ae;obtain⟨u0,bN,ag⟩:=aj.out.op.row;have c10_0:=ag.ph 10 3 aI;clear ag bN;have HW:=hid fun W (h:St W sb mb lb ty o c rv l)=>dN sb mb lb ty o c rv l 0 0 c.B W h (by omega) hj ⟨HF.out.B0,HF.out.B1⟩
 clear hj;go_enter Tryz.func147,Tryz.ntmps147;go_wp2_with fail;refine dM (S:=(fun w':World=>w'.cell? ⟨sb,14,none⟩=some (.int .u32 c.B))) aj ay (fun ai=>let ⟨_,_,ag⟩:=ai.out.op.row;(ag.cell 14).trans rfl) fun w1 ai au hHeld=>?_
 refine ap 0 1 2 3 ?_;refine ap 4 5 6 7 ?_;refine aJ 8 (fun K hK=>?_)
 ·go_simp;refine(HW.out _ ai.out).mono (bF au fun w2 ar aE=>?_);obtain⟨u2,bU,aC⟩:=ar.out.op.row;have aB:(fun w':World=>w'.cell? ⟨sb,14,none⟩=some (.int .u32 c.B)) w2:=(aC.cell 14).trans rfl;clear aC bU;refine kH hK aB fun hHeld=>?_
  clear hK K;refine bh ?_;clear hHeld aB;go_wp2_with fail;refine(fz sb mb lb ty o _ _ _ 0 _ ar.out).mono (cS aE fun w3 rv3 aM bf=>?_);go_wp2_with fail
  go_end0
  exact⟨_,rfl,aM.out,bf.out⟩
theorem Ea (w:World) (h:St w sb mb lb ty o c rv l) (ae:c.ph=0) (hs:1≤c.sl) (hj:c.base+0<l.length):Calls Tryz.prog 148 #[.pointer (some ⟨sb,0,none⟩)] w (Did sb mb lb ty o w rv (({ c with A:=c.rdm l 0%(c.sl:Int) }:Kc).go 1) l (.tuple #[])):=by
 obtain⟨aj,ay,ah,HF,bp,aS,bx,bj⟩:=h.start;clear ah h;have aI:=hid ae;clear ae;obtain⟨u0,bN,ag⟩:=aj.out.op.row;have c10_0:=ag.ph 10 0 aI;have c9_0:=ag.at 9 (.int .i64 (c.rd:Int));clear ag bN;have fQ:=HF.out.rd1;have ll:(0:Int)≤(c.rd:Int):=by omega
 have mN:(c.rd:Int)≤4:=by omega
 have cT:IntKind.i64.wrap (1+(c.rd:Int))=1+(c.rd:Int):=ac (by omega) (by omega);clear fQ;have la:=hid fun W (h:St W sb mb lb ty o c rv l)=>eZ sb mb lb ty o c rv l W h hs hj
 have bZ:=HF.out.sl1;obtain⟨z,ao⟩:∃ x,c.rdm l 0%(c.sl:Int)=x:=⟨_,rfl⟩;have dU:0≤z:=by rw[← ao];exact Int.emod_nonneg _ (by omega)
 have dA:z<16:=by have:=Int.emod_lt_of_pos (c.rdm l 0) (show(0:Int)<(c.sl:Int) by omega);omega
 rw[ao] at la;try rw[ao]
 have kh:=hid ao;clear ao hj hs bZ;go_enter Tryz.func148,Tryz.ntmps148;go_wp2_with fail;refine(la.out _ aj.out).mono (bF ay fun w1 ai au=>?_);obtain⟨u1,gS,bi⟩:=ai.out.op.row;have c13_1:=bi.at 13 (.int .u32 c.A);have f13_1:=bi.frozen 13;clear bi gS;go_wp2_with fail;obtain⟨ar,aE⟩:=fW (ai.out.setA (z) ⟨dU,by omega⟩) au;go_wp2_with fail;refine(dh sb mb lb ty o _ _ _ 1 1 _ ar.out rfl).mono (bF aE fun w3 aM bf=>?_);go_wp2_with fail
 go_end0
 exact⟨_,rfl,aM.out,bf.out⟩
theorem DW (w:World) (h:St w sb mb lb ty o c rv l) (ae:c.ph=1) (hj:c.base+(1+c.rd)<l.length):Calls Tryz.prog 148 #[.pointer (some ⟨sb,0,none⟩)] w (Did sb mb lb ty o w rv (c.go 2) (c.wrm l (1+c.rd) ((c.A+1)%4294967296)) (.tuple #[])):=by
 obtain⟨aj,ay,ah,HF,bp,aS,bx,bj⟩:=h.start;clear ah h;have aI:=hid ae;clear ae;obtain⟨u0,bN,ag⟩:=aj.out.op.row;have c10_0:=ag.ph 10 1 aI;have c9_0:=ag.at 9 (.int .i64 (c.rd:Int));clear ag bN;have fQ:=HF.out.rd1;have ll:(0:Int)≤(c.rd:Int):=by omega
 have mN:(c.rd:Int)≤4:=by omega
 have cT:IntKind.i64.wrap (1+(c.rd:Int))=1+(c.rd:Int):=ac (by omega) (by omega);clear fQ;have HW:=hid fun W (h:St W sb mb lb ty o c rv l)=>dN sb mb lb ty o c rv l (1+(c.rd:Int)) (1+c.rd) ((c.A+1)%4294967296) W h (by omega) hj (by omega)
 clear hj;have hu:IntKind.u32.wrap (c.A+1)=(c.A+1)%4294967296:=by simp[IntKind.wrap,IntKind.signed,IntKind.bits]
 go_enter Tryz.func148,Tryz.ntmps148;go_wp2_with fail;refine dM (S:=(fun w':World=>w'.cell? ⟨sb,13,none⟩=some (.int .u32 c.A))) aj ay (fun ai=>let ⟨_,_,ag⟩:=ai.out.op.row;(ag.cell 13).trans rfl) fun w1 ai au hHeld=>?_
 refine ap 0 1 2 3 ?_;refine ap 4 5 6 7 ?_;refine bw 8 9 ?_;refine aJ 10 (fun K hK=>?_)
 ·go_simp;refine(HW.out _ ai.out).mono (bF au fun w2 ar aE=>?_);obtain⟨u2,bU,aC⟩:=ar.out.op.row;have aB:(fun w':World=>w'.cell? ⟨sb,13,none⟩=some (.int .u32 c.A)) w2:=(aC.cell 13).trans rfl;clear aC bU;refine kH hK aB fun hHeld=>?_
  clear hK K;refine bh ?_;clear hHeld aB;go_wp2_with fail;refine(dh sb mb lb ty o _ _ _ 2 2 _ ar.out rfl).mono (bF aE fun w3 aM bf=>?_);go_wp2_with fail
  go_end0
  exact⟨_,rfl,aM.out,bf.out⟩
theorem qx (w:World) (h:St w sb mb lb ty o c rv l) (ae:c.ph=2) (hs:1≤c.sl) (_ht:c.tr<1000) (hj:c.base+0<l.length) (he:c.rdm l 0%(c.sl:Int)=c.A):Calls Tryz.prog 148 #[.pointer (some ⟨sb,0,none⟩)] w (Did sb mb lb ty o w rv (c.go 3) l (.tuple #[])):=by
 obtain⟨aj,ay,ah,HF,bp,aS,bx,bj⟩:=h.start;clear ah h;have aI:=hid ae;clear ae;obtain⟨u0,bN,ag⟩:=aj.out.op.row;have c10_0:=ag.ph 10 2 aI;have c9_0:=ag.at 9 (.int .i64 (c.rd:Int));clear ag bN;have fQ:=HF.out.rd1;have ll:(0:Int)≤(c.rd:Int):=by omega
 have mN:(c.rd:Int)≤4:=by omega
 have cT:IntKind.i64.wrap (1+(c.rd:Int))=1+(c.rd:Int):=ac (by omega) (by omega);clear fQ;have la:=hid fun W (h:St W sb mb lb ty o c rv l)=>eZ sb mb lb ty o c rv l W h hs hj
 have bZ:=HF.out.sl1;obtain⟨z,ao⟩:∃ x,c.rdm l 0%(c.sl:Int)=x:=⟨_,rfl⟩;have dU:0≤z:=by rw[← ao];exact Int.emod_nonneg _ (by omega)
 have dA:z<16:=by have:=Int.emod_lt_of_pos (c.rdm l 0) (show(0:Int)<(c.sl:Int) by omega);omega
 rw[ao] at la;try rw[ao]
 have kh:=hid ao;clear ao hj hs bZ;rw[kh.out] at he;have hd:(z==c.A)=true:=by simpa using he
 clear he;clear _ht;go_enter Tryz.func148,Tryz.ntmps148;go_wp2_with fail;refine dM (S:=(fun w':World=>w'.cell? ⟨sb,13,none⟩=some (.int .u32 c.A))) aj ay (fun ai=>let ⟨_,_,ag⟩:=ai.out.op.row;(ag.cell 13).trans rfl) fun w1 ai au hHeld=>?_
 refine ap 0 2 3 4 ?_;refine bw 5 6 ?_;refine aJ 1 (fun K hK=>?_)
 ·go_simp;refine(la.out _ ai.out).mono (bF au fun w2 ar aE=>?_);obtain⟨u2,bU,aC⟩:=ar.out.op.row;have aB:(fun w':World=>w'.cell? ⟨sb,13,none⟩=some (.int .u32 c.A)) w2:=(aC.cell 13).trans rfl;clear aC bU;refine kH hK aB fun hHeld=>?_
  clear hK K;refine aF 7 ?_;refine bh ?_;clear hHeld aB;go_wp2_with fail;refine(dh sb mb lb ty o _ _ _ 3 3 _ ar.out rfl).mono (bF aE fun w3 aM bf=>?_);go_wp2_with fail
  go_end0
  exact⟨_,rfl,aM.out,bf.out⟩
theorem pt (w:World) (h:St w sb mb lb ty o c rv l) (ae:c.ph=2) (hs:1≤c.sl) (ht:c.tr<1000) (hj:c.base+0<l.length) (he:¬ (c.rdm l 0%(c.sl:Int)=c.A)) (ak:¬ (c.cap≤c.tr+1)):Calls Tryz.prog 148 #[.pointer (some ⟨sb,0,none⟩)] w (Did sb mb lb ty o w rv (c.fail fun c1=>({ c1 with B:=1 }:Kc).go 4) l (.tuple #[])):=by
 obtain⟨aj,ay,ah,HF,bp,aS,bx,bj⟩:=h.start;clear ah h;have aI:=hid ae;clear ae;obtain⟨u0,bN,ag⟩:=aj.out.op.row;have c10_0:=ag.ph 10 2 aI;have c9_0:=ag.at 9 (.int .i64 (c.rd:Int));clear ag bN;have fQ:=HF.out.rd1;have ll:(0:Int)≤(c.rd:Int):=by omega
 have mN:(c.rd:Int)≤4:=by omega
 have cT:IntKind.i64.wrap (1+(c.rd:Int))=1+(c.rd:Int):=ac (by omega) (by omega);clear fQ;have la:=hid fun W (h:St W sb mb lb ty o c rv l)=>eZ sb mb lb ty o c rv l W h hs hj
 have bZ:=HF.out.sl1;obtain⟨z,ao⟩:∃ x,c.rdm l 0%(c.sl:Int)=x:=⟨_,rfl⟩;have dU:0≤z:=by rw[← ao];exact Int.emod_nonneg _ (by omega)
 have dA:z<16:=by have:=Int.emod_lt_of_pos (c.rdm l 0) (show(0:Int)<(c.sl:Int) by omega);omega
 rw[ao] at la;try rw[ao]
 have kh:=hid ao;clear ao hj hs bZ;rw[kh.out] at he;have hd:(z==c.A)=false:=by simpa using he
 clear he;have ey:=fun W (h:St W sb mb lb ty o c rv l)=>kM sb mb lb ty o c rv l W h ht
 have fZ:decide ((c.cap:Int)≤(c.tr:Int)+1)=false:=decide_eq_false (by omega);rw[fZ] at ey;have iW:=hid ey;clear ey fZ;unfold Kc.fail;simp only[ge_iff_le];rw[if_neg ak];clear ak ht;go_enter Tryz.func148,Tryz.ntmps148;go_wp2_with fail;refine dM (S:=(fun w':World=>w'.cell? ⟨sb,13,none⟩=some (.int .u32 c.A))) aj ay (fun ai=>let ⟨_,_,ag⟩:=ai.out.op.row;(ag.cell 13).trans rfl) fun w1 ai au hHeld=>?_
 refine ap 0 2 3 4 ?_;refine bw 5 6 ?_;refine aJ 1 (fun K hK=>?_)
 ·go_simp;refine(la.out _ ai.out).mono (bF au fun w2 ar aE=>?_);obtain⟨u2,bU,aC⟩:=ar.out.op.row;have aB:(fun w':World=>w'.cell? ⟨sb,13,none⟩=some (.int .u32 c.A)) w2:=(aC.cell 13).trans rfl;clear aC bU;refine kH hK aB fun hHeld=>?_
  clear hK K;refine aF 7 ?_;refine bh ?_;clear hHeld aB;go_wp2_with fail;refine(iW.out _ ar.out).mono (cS aE fun w3 rv3 aM bf=>?_);go_wp2_with fail
  go_end0
  exact⟨_,rfl,aM.out,bf.out⟩
theorem rh (w:World) (h:St w sb mb lb ty o c rv l) (ae:c.ph=2) (hs:1≤c.sl) (ht:c.tr<1000) (hj:c.base+0<l.length) (he:¬ (c.rdm l 0%(c.sl:Int)=c.A)) (ak:c.cap≤c.tr+1):Calls Tryz.prog 148 #[.pointer (some ⟨sb,0,none⟩)] w (Did sb mb lb ty o w rv (c.fail fun c1=>({ c1 with B:=1 }:Kc).go 4) l (.tuple #[])):=by
 obtain⟨aj,ay,ah,HF,bp,aS,bx,bj⟩:=h.start;clear ah h;have aI:=hid ae;clear ae;obtain⟨u0,bN,ag⟩:=aj.out.op.row;have c10_0:=ag.ph 10 2 aI;have c9_0:=ag.at 9 (.int .i64 (c.rd:Int));clear ag bN;have fQ:=HF.out.rd1;have ll:(0:Int)≤(c.rd:Int):=by omega
 have mN:(c.rd:Int)≤4:=by omega
 have cT:IntKind.i64.wrap (1+(c.rd:Int))=1+(c.rd:Int):=ac (by omega) (by omega);clear fQ;have la:=hid fun W (h:St W sb mb lb ty o c rv l)=>eZ sb mb lb ty o c rv l W h hs hj
 have bZ:=HF.out.sl1;obtain⟨z,ao⟩:∃ x,c.rdm l 0%(c.sl:Int)=x:=⟨_,rfl⟩;have dU:0≤z:=by rw[← ao];exact Int.emod_nonneg _ (by omega)
 have dA:z<16:=by have:=Int.emod_lt_of_pos (c.rdm l 0) (show(0:Int)<(c.sl:Int) by omega);omega
 rw[ao] at la;try rw[ao]
 have kh:=hid ao;clear ao hj hs bZ;rw[kh.out] at he;have hd:(z==c.A)=false:=by simpa using he
 clear he;have ey:=fun W (h:St W sb mb lb ty o c rv l)=>kM sb mb lb ty o c rv l W h ht
 have fZ:decide ((c.cap:Int)≤(c.tr:Int)+1)=true:=decide_eq_true (by omega);rw[fZ] at ey;have iW:=hid ey;clear ey fZ;unfold Kc.fail;simp only[ge_iff_le];rw[if_pos ak];clear ak ht;go_enter Tryz.func148,Tryz.ntmps148;go_wp2_with fail;refine dM (S:=(fun w':World=>w'.cell? ⟨sb,13,none⟩=some (.int .u32 c.A))) aj ay (fun ai=>let ⟨_,_,ag⟩:=ai.out.op.row;(ag.cell 13).trans rfl) fun w1 ai au hHeld=>?_
 refine ap 0 2 3 4 ?_;refine bw 5 6 ?_;refine aJ 1 (fun K hK=>?_)
 ·go_simp;refine(la.out _ ai.out).mono (bF au fun w2 ar aE=>?_);obtain⟨u2,bU,aC⟩:=ar.out.op.row;have aB:(fun w':World=>w'.cell? ⟨sb,13,none⟩=some (.int .u32 c.A)) w2:=(aC.cell 13).trans rfl;clear aC bU;refine kH hK aB fun hHeld=>?_
  clear hK K;refine aF 7 ?_;refine bh ?_;clear hHeld aB;go_wp2_with fail;refine(iW.out _ ar.out).mono (cS aE fun w3 rv3 aM bf=>?_);obtain⟨u3,ez,bC⟩:=aM.out.op.row;have c14_3:=bC.at 14 (.int .u32 c.B);have f14_3:=bC.frozen 14;clear bC ez;go_wp2_with fail;obtain⟨cq,dd⟩:=fW (aM.out.setB (1) ⟨by omega,by omega⟩) bf;go_wp2_with fail;refine(dh sb mb lb ty o _ _ _ 4 4 _ cq.out rfl).mono (bF dd fun w5 dV fS=>?_);go_wp2_with fail
  go_end0
  exact⟨_,rfl,dV.out,fS.out⟩
theorem E2 (w:World) (h:St w sb mb lb ty o c rv l) (ae:c.ph=3) (hB:0≤c.A∧c.A≤20) (bM:c.wr=true→c.i<c.rc.length) (cJ:c.rc.length≤1000000) (dD:c.i<1000) (hj:c.base+(1+c.nr+c.A.toNat*c.wd+c.i)<l.length) (fj:1+c.nr+c.A.toNat*c.wd≤1000000):Calls Tryz.prog 148 #[.pointer (some ⟨sb,0,none⟩)] w (Did sb mb lb ty o w rv (c.word l (1+c.nr+c.A.toNat*c.wd) (·.go 4)).1 (c.word l (1+c.nr+c.A.toNat*c.wd) (·.go 4)).2 (.tuple #[])):=by
 obtain⟨aj,ay,ah,HF,bp,aS,bx,bj⟩:=h.start;clear ah h;have aI:=hid ae;clear ae;obtain⟨u0,bN,ag⟩:=aj.out.op.row;have c10_0:=ag.ph 10 3 aI;have c9_0:=ag.at 9 (.int .i64 (c.rd:Int));clear ag bN;have fQ:=HF.out.rd1;have ll:(0:Int)≤(c.rd:Int):=by omega
 have mN:(c.rd:Int)≤4:=by omega
 have cT:IntKind.i64.wrap (1+(c.rd:Int))=1+(c.rd:Int):=ac (by omega) (by omega);clear fQ;have fM:=hid fun W (h:St W sb mb lb ty o c rv l)=>n3 sb mb lb ty o c rv l c.A W h hB
 clear hB;obtain⟨FR,jY⟩:∃ x,1+c.nr+c.A.toNat*c.wd=x:=⟨_,rfl⟩;rw[jY] at fM hj fj ⊢;clear jY;have eG:=hid fun W (rv:Value) (h:St W sb mb lb ty o c rv l)=>fr sb mb lb ty o c rv l (FR) W h bM cJ dD hj fj
 clear bM cJ dD hj fj;rw[Kc.word_eq]
 by_cases ak:c.wd≤c.i+1
 ·rw[if_pos ak];have hd:decide ((c.wd:Int)≤(c.i:Int)+1)=true:=decide_eq_true (by omega);rw[hd] at eG;clear ak hd;go_enter Tryz.func148,Tryz.ntmps148;go_wp2_with fail;refine dM (S:=(fun w':World=>w'.cell? ⟨sb,13,none⟩=some (.int .u32 c.A))) aj ay (fun ai=>let ⟨_,_,ag⟩:=ai.out.op.row;(ag.cell 13).trans rfl) fun w1 ai au hHeld=>?_
  refine ap 0 1 2 3 ?_;refine ap 4 5 6 7 ?_;refine aF 8 ?_;refine aJ 9 (fun K hK=>?_)
  ·go_simp;refine(fM.out _ ai.out).mono ?_;rintro ex w2 ⟨rfl,hb⟩;have ar:=hid (ai.out.below hb);have aE:=hid (au.out.trans (Mv.below hb _));clear hb;obtain⟨u2,bU,aC⟩:=ar.out.op.row;have aB:(fun w':World=>w'.cell? ⟨sb,13,none⟩=some (.int .u32 c.A)) w2:=(aC.cell 13).trans rfl;clear aC bU;refine kH hK aB fun hHeld=>?_
   clear hK K;refine aJ 10 (fun K hK=>?_)
   ·go_simp;refine(eG.out _ _ ar.out).mono (cS aE fun w3 rv3 aM bf=>?_);obtain⟨u3,ez,bC⟩:=aM.out.op.row;have aQ:(fun w':World=>w'.cell? ⟨sb,13,none⟩=some (.int .u32 c.A)) w3:=(bC.cell 13).trans rfl;clear bC ez;refine kH hK aQ fun hHeld=>?_
    clear hK K;refine bh ?_;clear hHeld aQ;go_wp2_with fail;refine(dh sb mb lb ty o _ _ _ 4 4 _ aM.out rfl).mono (bF bf fun w4 cq dd=>?_);go_wp2_with fail
    go_end0
    exact⟨_,rfl,cq.out,dd.out⟩
 ·rw[if_neg ak];have hd:decide ((c.wd:Int)≤(c.i:Int)+1)=false:=decide_eq_false (by omega);rw[hd] at eG;clear ak hd;go_enter Tryz.func148,Tryz.ntmps148;go_wp2_with fail;refine dM (S:=(fun w':World=>w'.cell? ⟨sb,13,none⟩=some (.int .u32 c.A))) aj ay (fun ai=>let ⟨_,_,ag⟩:=ai.out.op.row;(ag.cell 13).trans rfl) fun w1 ai au hHeld=>?_
  refine ap 0 1 2 3 ?_;refine ap 4 5 6 7 ?_;refine aF 8 ?_;refine aJ 9 (fun K hK=>?_)
  ·go_simp;refine(fM.out _ ai.out).mono ?_;rintro ex w2 ⟨rfl,hb⟩;have ar:=hid (ai.out.below hb);have aE:=hid (au.out.trans (Mv.below hb _));clear hb;obtain⟨u2,bU,aC⟩:=ar.out.op.row;have aB:(fun w':World=>w'.cell? ⟨sb,13,none⟩=some (.int .u32 c.A)) w2:=(aC.cell 13).trans rfl;clear aC bU;refine kH hK aB fun hHeld=>?_
   clear hK K;refine aJ 10 (fun K hK=>?_)
   ·go_simp;refine(eG.out _ _ ar.out).mono (cS aE fun w3 rv3 aM bf=>?_);obtain⟨u3,ez,bC⟩:=aM.out.op.row;have aQ:(fun w':World=>w'.cell? ⟨sb,13,none⟩=some (.int .u32 c.A)) w3:=(bC.cell 13).trans rfl;clear bC ez;refine kH hK aQ fun hHeld=>?_
    clear hK K;refine bh ?_;clear hHeld aQ;go_wp2_with fail
    go_end0
    exact⟨_,rfl,aM.out,bf.out⟩
theorem DB (w:World) (h:St w sb mb lb ty o c rv l) (ae:c.ph=4) (hj:c.base+(1+c.rd)<l.length):Calls Tryz.prog 148 #[.pointer (some ⟨sb,0,none⟩)] w (Did sb mb lb ty o w rv (c.fin c.B) (c.wrm l (1+c.rd) 0) (.tuple #[])):=by
 obtain⟨aj,ay,ah,HF,bp,aS,bx,bj⟩:=h.start;clear ah h;have aI:=hid ae;clear ae;obtain⟨u0,bN,ag⟩:=aj.out.op.row;have c10_0:=ag.ph 10 4 aI;have c9_0:=ag.at 9 (.int .i64 (c.rd:Int));clear ag bN;have fQ:=HF.out.rd1;have ll:(0:Int)≤(c.rd:Int):=by omega
 have mN:(c.rd:Int)≤4:=by omega
 have cT:IntKind.i64.wrap (1+(c.rd:Int))=1+(c.rd:Int):=ac (by omega) (by omega);clear fQ;have HW:=hid fun W (h:St W sb mb lb ty o c rv l)=>dN sb mb lb ty o c rv l (1+(c.rd:Int)) (1+c.rd) 0 W h (by omega) hj ⟨by omega,by omega⟩
 clear hj;have Fa:=HF.out.B0;have aO:=HF.out.B1;have e1:IntKind.i64.wrap c.B=c.B:=ac (by omega) (by omega);go_enter Tryz.func148,Tryz.ntmps148;go_wp2_with fail;refine(HW.out _ aj.out).mono (bF ay fun w1 ai au=>?_);go_wp2_with fail;have Lv:=hid fun W (h:St W sb mb lb ty o c rv (c.wrm l (1+c.rd) 0))=>fz sb mb lb ty o c rv (c.wrm l (1+c.rd) 0) c.B W h
 refine dM (S:=(fun w':World=>w'.cell? ⟨sb,14,none⟩=some (.int .u32 c.B))) ai au (fun ar=>let ⟨_,_,bi⟩:=ar.out.op.row;(bi.cell 14).trans rfl) fun w2 ar aE hHeld=>?_
 refine ap 0 1 2 3 ?_;refine ap 4 5 6 7 ?_;refine aF 8 ?_;refine aJ 9 (fun K hK=>?_)
 ·go_simp;refine(Lv.out _ ar.out).mono (cS aE fun w3 rv3 aM bf=>?_);obtain⟨u3,ez,bC⟩:=aM.out.op.row;have aQ:(fun w':World=>w'.cell? ⟨sb,14,none⟩=some (.int .u32 c.B)) w3:=(bC.cell 14).trans rfl;clear bC ez;refine kH hK aQ fun hHeld=>?_
  clear hK K;refine bh ?_;clear hHeld aQ;go_wp2_with fail
  go_end0
  exact⟨_,rfl,aM.out,bf.out⟩
end
end Go.Proofs.YtolmpehgeinlkaaGreatDoor
