/- The kind chen: each step of a write, and of a read. -/
import Derived.Test.YtabfcjohdgjkoaaGreatDoorZcG
import Derived.Test.YtabfcjohdgjkoaaGreatDoorZcShF
namespace Go.Proofs.YtabfcjohdgjkoaaGreatDoor
open Go.RowKit
open Go.Lib (hid)
attribute [local go_sem] Oper.semAt_some
set_option maxHeartbeats 1000000
set_option maxRecDepth 100000
abbrev FL (a0:Nat) (a1:Ob) (a2:Kc) (w':World):Prop:=w'.cell? ⟨a0,0,none⟩=some (.int .i64 a1.k)∧w'.cell? ⟨a0,1,none⟩=some (.int .i64 a1.wd)∧w'.cell? ⟨a0,2,none⟩=some (.int .i64 a1.s)∧w'.cell? ⟨a0,3,none⟩=some (.int .i64 a1.c)∧w'.cell? ⟨a0,4,none⟩=some (.int .u32 a1.st)∧w'.cell? ⟨a0,5,none⟩=some (.slice a1.I a1.ni a1.ci)∧w'.cell? ⟨a0,6,none⟩=some (.int .i64 a1.wr)∧w'.cell? ⟨a0,7,none⟩=some (.slice a1.R a1.nr a1.cr)∧w'.cell? ⟨a0,14,none⟩=some (.int .u32 a2.B)
abbrev pL (a0:Nat) (a1:Kc) (w':World):Prop:=w'.cell? ⟨a0,11,none⟩=some (.int .i64 (a1.i:Int))∧w'.cell? ⟨a0,14,none⟩=some (.int .u32 a1.B)
theorem Tab64.mv {sb mb lb:Nat} {w w':World} {rv rv':Value} (h:Tab64 w) (hm:Mv sb mb lb w w' rv rv') (hn:¬ fp sb mb lb rv 0):Tab64 w':=h.tch hm.tch hn
section
variable (sb mb lb:Nat) (ty:TypeId) (o:Ob) (c:Kc) (rv:Value) (l:List Int)
theorem gi (w:World) (h:St w sb mb lb ty o c rv l):Calls Tryz.prog 210 #[.pointer (some ⟨sb,0,none⟩)] w fun e w'=>e=.returned (.int .u32 ((c.nr:Int)+2))∧Below w.heap.size w w':=by
 obtain⟨aA,bh,am,HF,cL,ct,dn,cQ⟩:=h.start;clear am h;have pH:=hid (Below.refl w.heap.size w);have aS:=HF.out.nr1;have aj:=hid fun W=>mL o (by have:=cQ.out;omega) W
 have hv:=cQ.out;rw[← hv];have Ec:(o.nr:Int)≤4:=by omega
 have aI:(0:Int)≤(o.nr:Int):=by omega
 clear hv aS;unfold af at aj;obtain⟨u0,bC,ak⟩:=aA.out.op.row;have c0_0:=ak.at 0 (.int .i64 o.k);have c1_0:=ak.at 1 (.int .i64 o.wd);have c2_0:=ak.at 2 (.int .i64 o.s);have c3_0:=ak.at 3 (.int .i64 o.c);have c4_0:=ak.at 4 (.int .u32 o.st);have c5_0:=ak.at 5 (.slice o.I o.ni o.ci);have c6_0:=ak.at 6 (.int .i64 o.wr);have c7_0:=ak.at 7 (.slice o.R o.nr o.cr);clear ak bC;go_enter Tryz.func210,Tryz.ntmps210;go_wp2_with fail;refine(aj.out _).mono ?_;rintro ex w1 ⟨rfl,hb⟩;have al:=hid (aA.out.below hb);have aT:=hid (bh.out.trans (Mv.below hb _));have bT:=hid (pH.out.trans (hb.mono pH.out.size));clear hb;go_wp2_with fail;go_ret;exact⟨rfl,bT.out⟩
theorem nK (w:World) (h:St w sb mb lb ty o c rv l) (hB:0≤c.B∧c.B≤20):Calls Tryz.prog 208 #[.pointer (some ⟨sb,0,none⟩)] w fun e w'=>e=.returned (.int .i64 ((1+c.nr+c.B.toNat*c.wd:Nat):Int))∧Below w.heap.size w w':=by
 obtain⟨aA,bh,am,HF,cL,ct,dn,cQ⟩:=h.start;clear am h;have pH:=hid (Below.refl w.heap.size w);have aS:=HF.out.nr1;have ay:=HF.out.wd1;have aj:=hid fun W=>kf o (by have:=cQ.out;omega) W
 have hv:=cQ.out
 have hq:((1+c.nr+c.B.toNat*c.wd:Nat):Int)=1+(o.nr:Int)+c.B*o.wd:=by
  rw[Int.natCast_add,Int.natCast_mul,Int.toNat_of_nonneg (by omega),cL.out,hv];rfl
 rw[hq];have ML:0≤o.wd:=by have:=cL.out;omega
 have TG:o.wd≤8:=by have:=cL.out;omega
 have m1:=lp (a:=c.B) (b:=o.wd) (by omega) (by omega) (by omega) (by omega);have e3:IntKind.i64.wrap (c.B*o.wd)=c.B*o.wd:=ag (by omega) (by omega);have e5:IntKind.i64.wrap c.B=c.B:=ag (by omega) (by omega);have e4:IntKind.i64.wrap (1+(o.nr:Int)+c.B*o.wd)=1+(o.nr:Int)+c.B*o.wd:=ag (by omega) (by omega);clear hv aS ay hq hB;unfold af at aj;go_enter Tryz.func208,Tryz.ntmps208;go_wp2_with fail;obtain⟨u0,bC,ak⟩:=aA.out.drew.op.row;have dc:(FL sb o c) w.drew:=(by and_intros <;> exact ak.c rfl);have al:=hid aA.out.drew;have aT:=hid (bh.out.trans (Mv.drew w _));clear ak bC;have bT:=hid pH.out.drew;refine fg dc fun w1 bq hHeld=>?_
 rw[bq] at al aT bT;clear bq dc;refine ai 0 1 2 3 ?_;refine ai 4 6 7 8 ?_;refine ai 9 10 11 12 ?_;refine ai 13 14 15 16 ?_;refine bv 17 18 ?_;refine aV 5 (fun K hK=>?_)
 ·go_simp;refine(aj.out _).mono ?_;rintro ex w2 ⟨rfl,hb⟩;have aL:=hid (al.out.below hb);have bk:=hid (aT.out.trans (Mv.below hb _));have cD:=hid (bT.out.trans (hb.mono bT.out.size));clear hb;obtain⟨u2,bI,av⟩:=aL.out.op.row;have ap:(FL sb o c) w2:=(by and_intros <;> exact av.c rfl);clear av bI;refine kH hK ap fun hHeld=>?_
  clear hK K;refine bv 19 20 ?_;refine aY ?_;clear hHeld ap;go_wp2_with fail;go_ret;exact⟨rfl,cD.out⟩
theorem pj (w:World) (h:St w sb mb lb ty o c rv l) (hi:c.i<100) (hT:Tab64 w) (hn:¬ fp sb mb lb rv 0) (ao:c.nr≤c.i+1) (hj:c.base+(1+c.i)<l.length):Calls Tryz.prog 207 #[.pointer (some ⟨sb,0,none⟩)] w (Did sb mb lb ty o w rv (({ ({ c.mark (c.rdm l (1+c.i)) with i:=c.i+1 }:Kc).mark c.A with B:=(({ c.mark (c.rdm l (1+c.i)) with i:=c.i+1 }:Kc).mark c.A).free }:Kc).go 2) l (.tuple #[])):=by
 obtain⟨aA,bh,am,HF,cL,ct,dn,cQ⟩:=h.start;clear am h;have hz:=cR hj aA.out.mem.w32;have HR:=hid fun W (h:St W sb mb lb ty o c rv l)=>cS sb mb lb ty o c rv l (1+(c.i:Int)) (1+c.i) W h (by omega) hj
 obtain⟨z,aP⟩:∃ x,c.rdm l (1+c.i)=x:=⟨_,rfl⟩;rw[aP] at HR hz;try rw[aP]
 have lH:=hid aP;clear aP hj;have eJ:=hz.1;have d8:=hz.2;clear hz;have hN:=cQ.out;have px:(0:Int)≤(c.i:Int):=by omega
 have ul:(c.i:Int)≤100:=by omega
 have hs:IntKind.i64.wrap (1+(c.i:Int))=1+(c.i:Int):=ag (by omega) (by omega);have hd:decide ((o.nr:Int)≤(c.i:Int)+1)=true:=decide_eq_true (by omega);have GF:=hid fun W (h:St W sb mb lb ty o c rv l)=>ky sb mb lb ty o c rv l z W h ⟨eJ,d8⟩
 have ku:=fun W (h:St W sb mb lb ty o (c.mark z) rv l)=>gQ sb mb lb ty o (c.mark z) rv l (o.nr:Int) W h (show c.i<1000 by omega)
 have qV:decide ((o.nr:Int)≤(((c.mark z).i:Nat):Int)+1)=true:=hd;rw[qV] at ku;have tO:=hid ku;clear hd ku hN ao qV hi;have yz:=hid fun W (h:St W sb mb lb ty o { c.mark z with i:=(c.mark z).i+1 } rv l)=>ky sb mb lb ty o { c.mark z with i:=(c.mark z).i+1 } rv l c.A W h ⟨HF.out.A0,HF.out.A1⟩
 have Fw:=hid fun W (h:St W sb mb lb ty o (({ c.mark z with i:=(c.mark z).i+1 }:Kc).mark c.A) rv l) (hT:Tab64 W)=>t9 sb mb lb ty o (({ c.mark z with i:=(c.mark z).i+1 }:Kc).mark c.A) rv l W h hT
 have FG:=hid (And.intro hT hn);have hb:=nj (({ c.mark z with i:=(c.mark z).i+1 }:Kc).mark c.A);obtain⟨Z,hZ⟩:∃ x,(({ c.mark z with i:=(c.mark z).i+1 }:Kc).mark c.A).free=x:=⟨_,rfl⟩;have vN:(({ c.mark z with i:=c.i+1 }:Kc).mark c.A).free=Z:=hZ;rw[vN] at ⊢;rw[hZ] at Fw hb;clear hZ vN;clear hT hn;go_enter Tryz.func207,Tryz.ntmps207;go_wp2_with fail;refine ea (S:=(fun w':World=>w'.cell? ⟨sb,11,none⟩=some (.int .i64 (c.i:Int)))) aA bh (fun al=>let ⟨_,_,ak⟩:=al.out.op.row;(ak.cell 11).trans rfl) fun w1 al aT hHeld=>?_
 refine ai 0 1 2 3 ?_;refine ai 4 5 6 7 ?_;refine ai 8 9 10 11 ?_;refine aV 12 (fun K hK=>?_)
 ·go_simp;refine(HR.out _ al.out).mono (cu aT fun w2 aL bk=>?_);obtain⟨u2,bI,av⟩:=aL.out.op.row;have ap:(fun w':World=>w'.cell? ⟨sb,11,none⟩=some (.int .i64 (c.i:Int))) w2:=(av.cell 11).trans rfl;clear av bI;refine kH hK ap fun hHeld=>?_
  clear hK K;refine aV 13 (fun K hK=>?_)
  ·go_simp;refine(GF.out _ aL.out).mono (cu bk fun w3 aZ bx=>?_);obtain⟨u3,eU,bS⟩:=aZ.out.op.row;have aN:(fun w':World=>w'.cell? ⟨sb,11,none⟩=some (.int .i64 (c.i:Int))) w3:=(bS.cell 11).trans rfl;clear bS eU;refine kH hK aN fun hHeld=>?_
   clear hK K;refine aY ?_;clear hHeld aN;go_wp2_with fail;refine ea (S:=(fun w':World=>w'.cell? ⟨sb,7,none⟩=some (.slice o.R o.nr o.cr))) aZ bx (fun db=>let ⟨_,_,bS⟩:=db.out.op.row;(bS.cell 7).trans rfl) fun w4 db eF hHeld=>?_
   refine ai 0 1 2 3 ?_;refine ai 4 5 6 7 ?_;refine bv 8 9 ?_;refine aV 10 (fun K hK=>?_)
   ·go_simp;refine(tO.out _ db.out).mono (cu eF fun w5 gD lU=>?_);obtain⟨u5,xq,ns⟩:=gD.out.op.row;have hY:(fun w':World=>w'.cell? ⟨sb,7,none⟩=some (.slice o.R o.nr o.cr)) w5:=(ns.cell 7).trans rfl;clear ns xq;refine kH hK hY fun hHeld=>?_
    clear hK K;refine aX 11 ?_;refine aY ?_;clear hHeld hY;go_wp2_with fail;refine ea (S:=(fun w':World=>w'.cell? ⟨sb,13,none⟩=some (.int .u32 c.A))) gD lU (fun mG=>let ⟨_,_,ns⟩:=mG.out.op.row;(ns.cell 13).trans rfl) fun w6 mG yg hHeld=>?_
    refine ai 0 1 2 3 ?_;refine ai 4 5 6 7 ?_;refine aV 8 (fun K hK=>?_)
    ·go_simp;refine(yz.out _ mG.out).mono (cu yg fun w7 pg GE=>?_);obtain⟨u7,LL,Eg⟩:=pg.out.op.row;have zz:(fun w':World=>w'.cell? ⟨sb,13,none⟩=some (.int .u32 c.A)) w7:=(Eg.cell 13).trans rfl;clear Eg LL;refine kH hK zz fun hHeld=>?_
     clear hK K;refine aY ?_;clear hHeld zz;go_wp2_with fail;have pB:=FG.out.1.mv GE.out FG.out.2;have yF:=hid pB;clear pB;refine(Fw.out _ pg.out yF.out).mono ?_;rintro ex w8 ⟨rfl,rfl⟩;have wI:=pg;have J7:=GE;obtain⟨u8,OZ,xp⟩:=wI.out.op.row;have c14_8:=xp.at 14 (.int .u32 c.B);have f14_8:=xp.frozen 14;clear xp OZ;go_wp2_with fail;obtain⟨yD,J8⟩:=qm (wI.out.setB (Z) (by omega)) J7;refine(dy sb mb lb ty o _ _ _ 2 2 _ yD.out rfl).mono (cu J8 fun w10 GQ GD=>?_);go_wp2_with fail
     go_end0
     exact⟨_,rfl,GQ.out,GD.out⟩
theorem pl (w:World) (h:St w sb mb lb ty o c rv l) (hi:c.i<100) (_hT:Tab64 w) (_hn:¬ fp sb mb lb rv 0) (ao:¬ (c.nr≤c.i+1)) (hj:c.base+(1+c.i)<l.length):Calls Tryz.prog 207 #[.pointer (some ⟨sb,0,none⟩)] w (Did sb mb lb ty o w rv { c.mark (c.rdm l (1+c.i)) with i:=c.i+1 } l (.tuple #[])):=by
 obtain⟨aA,bh,am,HF,cL,ct,dn,cQ⟩:=h.start;clear am h;have hz:=cR hj aA.out.mem.w32;have HR:=hid fun W (h:St W sb mb lb ty o c rv l)=>cS sb mb lb ty o c rv l (1+(c.i:Int)) (1+c.i) W h (by omega) hj
 obtain⟨z,aP⟩:∃ x,c.rdm l (1+c.i)=x:=⟨_,rfl⟩;rw[aP] at HR hz;try rw[aP]
 have lH:=hid aP;clear aP hj;have eJ:=hz.1;have d8:=hz.2;clear hz;have hN:=cQ.out;have px:(0:Int)≤(c.i:Int):=by omega
 have ul:(c.i:Int)≤100:=by omega
 have hs:IntKind.i64.wrap (1+(c.i:Int))=1+(c.i:Int):=ag (by omega) (by omega);have hd:decide ((o.nr:Int)≤(c.i:Int)+1)=false:=decide_eq_false (by omega);have GF:=hid fun W (h:St W sb mb lb ty o c rv l)=>ky sb mb lb ty o c rv l z W h ⟨eJ,d8⟩
 have ku:=fun W (h:St W sb mb lb ty o (c.mark z) rv l)=>gQ sb mb lb ty o (c.mark z) rv l (o.nr:Int) W h (show c.i<1000 by omega)
 have qV:decide ((o.nr:Int)≤(((c.mark z).i:Nat):Int)+1)=false:=hd;rw[qV] at ku;have tO:=hid ku;clear hd ku hN ao qV hi;clear _hT _hn;go_enter Tryz.func207,Tryz.ntmps207;go_wp2_with fail;refine ea (S:=(fun w':World=>w'.cell? ⟨sb,11,none⟩=some (.int .i64 (c.i:Int)))) aA bh (fun al=>let ⟨_,_,ak⟩:=al.out.op.row;(ak.cell 11).trans rfl) fun w1 al aT hHeld=>?_
 refine ai 0 1 2 3 ?_;refine ai 4 5 6 7 ?_;refine ai 8 9 10 11 ?_;refine aV 12 (fun K hK=>?_)
 ·go_simp;refine(HR.out _ al.out).mono (cu aT fun w2 aL bk=>?_);obtain⟨u2,bI,av⟩:=aL.out.op.row;have ap:(fun w':World=>w'.cell? ⟨sb,11,none⟩=some (.int .i64 (c.i:Int))) w2:=(av.cell 11).trans rfl;clear av bI;refine kH hK ap fun hHeld=>?_
  clear hK K;refine aV 13 (fun K hK=>?_)
  ·go_simp;refine(GF.out _ aL.out).mono (cu bk fun w3 aZ bx=>?_);obtain⟨u3,eU,bS⟩:=aZ.out.op.row;have aN:(fun w':World=>w'.cell? ⟨sb,11,none⟩=some (.int .i64 (c.i:Int))) w3:=(bS.cell 11).trans rfl;clear bS eU;refine kH hK aN fun hHeld=>?_
   clear hK K;refine aY ?_;clear hHeld aN;go_wp2_with fail;refine ea (S:=(fun w':World=>w'.cell? ⟨sb,7,none⟩=some (.slice o.R o.nr o.cr))) aZ bx (fun db=>let ⟨_,_,bS⟩:=db.out.op.row;(bS.cell 7).trans rfl) fun w4 db eF hHeld=>?_
   refine ai 0 1 2 3 ?_;refine ai 4 5 6 7 ?_;refine bv 8 9 ?_;refine aV 10 (fun K hK=>?_)
   ·go_simp;refine(tO.out _ db.out).mono (cu eF fun w5 gD lU=>?_);obtain⟨u5,xq,ns⟩:=gD.out.op.row;have hY:(fun w':World=>w'.cell? ⟨sb,7,none⟩=some (.slice o.R o.nr o.cr)) w5:=(ns.cell 7).trans rfl;clear ns xq;refine kH hK hY fun hHeld=>?_
    clear hK K;refine aX 11 ?_;refine aY ?_;clear hHeld hY;go_wp2_with fail
    go_end0
    exact⟨_,rfl,gD.out,lU.out⟩
theorem Dd (w:World) (h:St w sb mb lb ty o c rv l) (ae:c.ph=0) (hj:c.base+0<l.length):Calls Tryz.prog 162 #[.pointer (some ⟨sb,0,none⟩)] w (Did sb mb lb ty o w rv (({ c with A:=c.rdm l 0 }:Kc).go 1) l (.tuple #[])):=by
 obtain⟨aA,bh,am,HF,cL,ct,dn,cQ⟩:=h.start;clear am h;have bP:=hid ae;clear ae;obtain⟨u0,bC,ak⟩:=aA.out.op.row;have c10_0:=ak.ph 10 0 bP;clear ak bC;have hz:=cR hj aA.out.mem.w32;have HR:=hid fun W (h:St W sb mb lb ty o c rv l)=>cS sb mb lb ty o c rv l 0 0 W h (by omega) hj
 obtain⟨z,aP⟩:∃ x,c.rdm l 0=x:=⟨_,rfl⟩;rw[aP] at HR hz;try rw[aP]
 have lH:=hid aP;clear aP hj;have eJ:=hz.1;have d8:=hz.2;clear hz;go_enter Tryz.func162,Tryz.ntmps162;go_wp2_with fail;refine(HR.out _ aA.out).mono (cu bh fun w1 al aT=>?_);obtain⟨u1,iz,bV⟩:=al.out.op.row;have c13_1:=bV.at 13 (.int .u32 c.A);have f13_1:=bV.frozen 13;clear bV iz;go_wp2_with fail;obtain⟨aL,bk⟩:=qm (al.out.setA (z) ⟨eJ,d8⟩) aT;go_wp2_with fail;refine(dy sb mb lb ty o _ _ _ 1 1 _ aL.out rfl).mono (cu bk fun w3 aZ bx=>?_);go_wp2_with fail
 go_end0
 exact⟨_,rfl,aZ.out,bx.out⟩
theorem qD (w:World) (h:St w sb mb lb ty o c rv l) (ae:c.ph=1) (hi:c.i<100) (hT:Tab64 w) (hn:¬ fp sb mb lb rv 0) (ao:c.nr≤c.i+1) (hj:c.base+(1+c.i)<l.length):Calls Tryz.prog 162 #[.pointer (some ⟨sb,0,none⟩)] w (Did sb mb lb ty o w rv (({ ({ c.mark (c.rdm l (1+c.i)) with i:=c.i+1 }:Kc).mark c.A with B:=(({ c.mark (c.rdm l (1+c.i)) with i:=c.i+1 }:Kc).mark c.A).free }:Kc).go 2) l (.tuple #[])):=by
 obtain⟨aA,bh,am,HF,cL,ct,dn,cQ⟩:=h.start;clear am h;have bP:=hid ae;clear ae;obtain⟨u0,bC,ak⟩:=aA.out.op.row;have c10_0:=ak.ph 10 1 bP;clear ak bC;have yE:=hid (pj sb mb lb ty o c rv l w aA.out hi hT hn ao hj);clear hi hT hn ao hj;go_enter Tryz.func162,Tryz.ntmps162;go_wp2_with fail;refine yE.out.mono (fz bh fun w1 rv1 al aT=>?_);go_wp2_with fail
 go_end0
 exact⟨_,rfl,al.out,aT.out⟩
theorem qE (w:World) (h:St w sb mb lb ty o c rv l) (ae:c.ph=1) (hi:c.i<100) (hT:Tab64 w) (hn:¬ fp sb mb lb rv 0) (ao:¬ (c.nr≤c.i+1)) (hj:c.base+(1+c.i)<l.length):Calls Tryz.prog 162 #[.pointer (some ⟨sb,0,none⟩)] w (Did sb mb lb ty o w rv { c.mark (c.rdm l (1+c.i)) with i:=c.i+1 } l (.tuple #[])):=by
 obtain⟨aA,bh,am,HF,cL,ct,dn,cQ⟩:=h.start;clear am h;have bP:=hid ae;clear ae;obtain⟨u0,bC,ak⟩:=aA.out.op.row;have c10_0:=ak.ph 10 1 bP;clear ak bC;have yE:=hid (pl sb mb lb ty o c rv l w aA.out hi hT hn ao hj);clear hi hT hn ao hj;go_enter Tryz.func162,Tryz.ntmps162;go_wp2_with fail;refine yE.out.mono (fz bh fun w1 rv1 al aT=>?_);go_wp2_with fail
 go_end0
 exact⟨_,rfl,al.out,aT.out⟩
theorem De (w:World) (h:St w sb mb lb ty o c rv l) (ae:c.ph=2) (hB:0≤c.B∧c.B≤20) (dP:c.wr=true→c.i<c.rc.length) (di:c.rc.length≤1000000) (fy:c.i<1000) (hj:c.base+(1+c.nr+c.B.toNat*c.wd+c.i)<l.length) (fL:1+c.nr+c.B.toNat*c.wd≤1000000):Calls Tryz.prog 162 #[.pointer (some ⟨sb,0,none⟩)] w (Did sb mb lb ty o w rv (c.word l (1+c.nr+c.B.toNat*c.wd) (·.go 3)).1 (c.word l (1+c.nr+c.B.toNat*c.wd) (·.go 3)).2 (.tuple #[])):=by
 obtain⟨aA,bh,am,HF,cL,ct,dn,cQ⟩:=h.start;clear am h;have bP:=hid ae;clear ae;obtain⟨u0,bC,ak⟩:=aA.out.op.row;have c10_0:=ak.ph 10 2 bP;clear ak bC;have fV:=hid fun W (h:St W sb mb lb ty o c rv l)=>nK sb mb lb ty o c rv l W h hB
 clear hB;obtain⟨FR,kY⟩:∃ x,1+c.nr+c.B.toNat*c.wd=x:=⟨_,rfl⟩;rw[kY] at fV hj fL ⊢;clear kY;have fc:=hid fun W (rv:Value) (h:St W sb mb lb ty o c rv l)=>fR sb mb lb ty o c rv l (FR) W h dP di fy hj fL
 clear dP di fy hj fL;rw[Kc.word_eq]
 by_cases ao:c.wd≤c.i+1
 ·rw[if_pos ao];have hd:decide ((c.wd:Int)≤(c.i:Int)+1)=true:=decide_eq_true (by omega);rw[hd] at fc;clear ao hd;go_enter Tryz.func162,Tryz.ntmps162;go_wp2_with fail;refine ea (S:=(fun _:World=>True)) aA bh (fun al=>let ⟨_,_,ak⟩:=al.out.op.row;trivial) fun w1 al aT hHeld=>?_
  refine ai 0 1 2 3 ?_;refine aV 4 (fun K hK=>?_)
  ·go_simp;refine(fV.out _ al.out).mono ?_;rintro ex w2 ⟨rfl,hb⟩;have aL:=hid (al.out.below hb);have bk:=hid (aT.out.trans (Mv.below hb _));clear hb;have ap:(fun _:World=>True) w2:=trivial;refine kH hK ap fun hHeld=>?_
   clear hK K;refine aV 5 (fun K hK=>?_)
   ·go_simp;refine(fc.out _ _ aL.out).mono (fz bk fun w3 rv3 aZ bx=>?_);have aN:(fun _:World=>True) w3:=trivial;refine kH hK aN fun hHeld=>?_
    clear hK K;refine aY ?_;clear hHeld aN;go_wp2_with fail;refine(dy sb mb lb ty o _ _ _ 3 3 _ aZ.out rfl).mono (cu bx fun w4 db eF=>?_);go_wp2_with fail
    go_end0
    exact⟨_,rfl,db.out,eF.out⟩
 ·rw[if_neg ao];have hd:decide ((c.wd:Int)≤(c.i:Int)+1)=false:=decide_eq_false (by omega);rw[hd] at fc;clear ao hd;go_enter Tryz.func162,Tryz.ntmps162;go_wp2_with fail;refine ea (S:=(fun _:World=>True)) aA bh (fun al=>let ⟨_,_,ak⟩:=al.out.op.row;trivial) fun w1 al aT hHeld=>?_
  refine ai 0 1 2 3 ?_;refine aV 4 (fun K hK=>?_)
  ·go_simp;refine(fV.out _ al.out).mono ?_;rintro ex w2 ⟨rfl,hb⟩;have aL:=hid (al.out.below hb);have bk:=hid (aT.out.trans (Mv.below hb _));clear hb;have ap:(fun _:World=>True) w2:=trivial;refine kH hK ap fun hHeld=>?_
   clear hK K;refine aV 5 (fun K hK=>?_)
   ·go_simp;refine(fc.out _ _ aL.out).mono (fz bk fun w3 rv3 aZ bx=>?_);have aN:(fun _:World=>True) w3:=trivial;refine kH hK aN fun hHeld=>?_
    clear hK K;refine aY ?_;clear hHeld aN;go_wp2_with fail
    go_end0
    exact⟨_,rfl,aZ.out,bx.out⟩
theorem Df (w:World) (h:St w sb mb lb ty o c rv l) (ae:c.ph=3) (hj:c.base+0<l.length):Calls Tryz.prog 162 #[.pointer (some ⟨sb,0,none⟩)] w (Did sb mb lb ty o w rv (c.go 4) (c.wrm l 0 c.B) (.tuple #[])):=by
 obtain⟨aA,bh,am,HF,cL,ct,dn,cQ⟩:=h.start;clear am h;have bP:=hid ae;clear ae;obtain⟨u0,bC,ak⟩:=aA.out.op.row;have c10_0:=ak.ph 10 3 bP;clear ak bC;have HW:=hid fun W (h:St W sb mb lb ty o c rv l)=>ef sb mb lb ty o c rv l 0 0 c.B W h (by omega) hj ⟨HF.out.B0,HF.out.B1⟩
 clear hj;go_enter Tryz.func162,Tryz.ntmps162;go_wp2_with fail;refine ea (S:=(fun w':World=>w'.cell? ⟨sb,14,none⟩=some (.int .u32 c.B))) aA bh (fun al=>let ⟨_,_,ak⟩:=al.out.op.row;(ak.cell 14).trans rfl) fun w1 al aT hHeld=>?_
 refine ai 0 1 2 3 ?_;refine ai 4 5 6 7 ?_;refine aV 8 (fun K hK=>?_)
 ·go_simp;refine(HW.out _ al.out).mono (cu aT fun w2 aL bk=>?_);obtain⟨u2,bI,av⟩:=aL.out.op.row;have ap:(fun w':World=>w'.cell? ⟨sb,14,none⟩=some (.int .u32 c.B)) w2:=(av.cell 14).trans rfl;clear av bI;refine kH hK ap fun hHeld=>?_
  clear hK K;refine aY ?_;clear hHeld ap;go_wp2_with fail;refine(dy sb mb lb ty o _ _ _ 4 4 _ aL.out rfl).mono (cu bk fun w3 aZ bx=>?_);go_wp2_with fail
  go_end0
  exact⟨_,rfl,aZ.out,bx.out⟩
theorem qF (w:World) (h:St w sb mb lb ty o c rv l) (ae:c.ph=4) (hi:c.i<100) (ao:c.nr≤c.i+1) (hj:c.base+(1+c.i)<l.length):Calls Tryz.prog 162 #[.pointer (some ⟨sb,0,none⟩)] w (Did sb mb lb ty o w rv (({ c with i:=c.i+1 }:Kc).fin 0) (if c.rdm l (1+c.i)=(c.nr:Int)+2 then c.wrm l (1+c.i) c.B else l) (.tuple #[])):=by
 obtain⟨aA,bh,am,HF,cL,ct,dn,cQ⟩:=h.start;clear am h;have bP:=hid ae;clear ae;obtain⟨u0,bC,ak⟩:=aA.out.op.row;have c10_0:=ak.ph 10 4 bP;clear ak bC;have FE:=hid fun W (h:St W sb mb lb ty o c rv l)=>uS sb mb lb ty o c rv l (1+(c.i:Int)) (1+c.i) ((c.nr:Int)+2) c.B W h (by omega) hj ⟨HF.out.B0,HF.out.B1⟩
 obtain⟨L1,iZ⟩:∃ x,(if c.rdm l (1+c.i)=(c.nr:Int)+2 then c.wrm l (1+c.i) c.B else l)=x:=⟨_,rfl⟩;rw[iZ] at FE ⊢;clear iZ hj;have hN:=cQ.out;have px:(0:Int)≤(c.i:Int):=by omega
 have ul:(c.i:Int)≤100:=by omega
 have hs:IntKind.i64.wrap (1+(c.i:Int))=1+(c.i:Int):=ag (by omega) (by omega);have hd:decide ((o.nr:Int)≤(c.i:Int)+1)=true:=decide_eq_true (by omega);have ku:=fun W (h:St W sb mb lb ty o c rv L1)=>gQ sb mb lb ty o c rv L1 (o.nr:Int) W h (show c.i<1000 by omega)
 rw[hd] at ku;have tO:=hid ku;clear hd ku hN ao hi;have na:=hid fun W (h:St W sb mb lb ty o c rv l)=>gi sb mb lb ty o c rv l W h
 go_enter Tryz.func162,Tryz.ntmps162;go_wp2_with fail;refine ea (S:=(pL sb c)) aA bh (fun al=>let ⟨_,_,ak⟩:=al.out.op.row;⟨(ak.cell 11).trans rfl,(ak.cell 14).trans rfl⟩) fun w1 al aT hHeld=>?_
 refine ai 0 1 2 3 ?_;refine ai 4 5 6 7 ?_;refine ai 8 9 11 12 ?_;refine bv 13 14 ?_;refine aX 15 ?_;refine aV 10 (fun K hK=>?_)
 ·go_simp;refine(na.out _ al.out).mono ?_;rintro ex w2 ⟨rfl,hb⟩;have aL:=hid (al.out.below hb);have bk:=hid (aT.out.trans (Mv.below hb _));clear hb;obtain⟨u2,bI,av⟩:=aL.out.op.row;have ap:(pL sb c) w2:=⟨(av.cell 11).trans rfl,(av.cell 14).trans rfl⟩;clear av bI;refine kH hK ap fun hHeld=>?_
  clear hK K;refine aV 16 (fun K hK=>?_)
  ·go_simp;refine(FE.out _ aL.out).mono (cu bk fun w3 aZ bx=>?_);obtain⟨u3,eU,bS⟩:=aZ.out.op.row;have aN:(pL sb c) w3:=⟨(bS.cell 11).trans rfl,(bS.cell 14).trans rfl⟩;clear bS eU;refine kH hK aN fun hHeld=>?_
   clear hK K;refine aY ?_;clear hHeld aN;go_wp2_with fail;refine ea (S:=(fun w':World=>w'.cell? ⟨sb,7,none⟩=some (.slice o.R o.nr o.cr))) aZ bx (fun db=>let ⟨_,_,bS⟩:=db.out.op.row;(bS.cell 7).trans rfl) fun w4 db eF hHeld=>?_
   refine ai 0 1 2 3 ?_;refine ai 4 5 6 7 ?_;refine bv 8 9 ?_;refine aV 10 (fun K hK=>?_)
   ·go_simp;refine(tO.out _ db.out).mono (cu eF fun w5 gD lU=>?_);obtain⟨u5,xq,ns⟩:=gD.out.op.row;have hY:(fun w':World=>w'.cell? ⟨sb,7,none⟩=some (.slice o.R o.nr o.cr)) w5:=(ns.cell 7).trans rfl;clear ns xq;refine kH hK hY fun hHeld=>?_
    clear hK K;refine aY ?_;clear hHeld hY;go_wp2_with fail;refine(fT sb mb lb ty o _ _ _ 0 _ gD.out).mono (fz lU fun w6 rv6 mG yg=>?_);go_wp2_with fail
    go_end0
    exact⟨_,rfl,mG.out,yg.out⟩
theorem qG (w:World) (h:St w sb mb lb ty o c rv l) (ae:c.ph=4) (hi:c.i<100) (ao:¬ (c.nr≤c.i+1)) (hj:c.base+(1+c.i)<l.length):Calls Tryz.prog 162 #[.pointer (some ⟨sb,0,none⟩)] w (Did sb mb lb ty o w rv { c with i:=c.i+1 } (if c.rdm l (1+c.i)=(c.nr:Int)+2 then c.wrm l (1+c.i) c.B else l) (.tuple #[])):=by
 obtain⟨aA,bh,am,HF,cL,ct,dn,cQ⟩:=h.start;clear am h;have bP:=hid ae;clear ae;obtain⟨u0,bC,ak⟩:=aA.out.op.row;have c10_0:=ak.ph 10 4 bP;clear ak bC;have FE:=hid fun W (h:St W sb mb lb ty o c rv l)=>uS sb mb lb ty o c rv l (1+(c.i:Int)) (1+c.i) ((c.nr:Int)+2) c.B W h (by omega) hj ⟨HF.out.B0,HF.out.B1⟩
 obtain⟨L1,iZ⟩:∃ x,(if c.rdm l (1+c.i)=(c.nr:Int)+2 then c.wrm l (1+c.i) c.B else l)=x:=⟨_,rfl⟩;rw[iZ] at FE ⊢;clear iZ hj;have hN:=cQ.out;have px:(0:Int)≤(c.i:Int):=by omega
 have ul:(c.i:Int)≤100:=by omega
 have hs:IntKind.i64.wrap (1+(c.i:Int))=1+(c.i:Int):=ag (by omega) (by omega);have hd:decide ((o.nr:Int)≤(c.i:Int)+1)=false:=decide_eq_false (by omega);have ku:=fun W (h:St W sb mb lb ty o c rv L1)=>gQ sb mb lb ty o c rv L1 (o.nr:Int) W h (show c.i<1000 by omega)
 rw[hd] at ku;have tO:=hid ku;clear hd ku hN ao hi;have na:=hid fun W (h:St W sb mb lb ty o c rv l)=>gi sb mb lb ty o c rv l W h
 go_enter Tryz.func162,Tryz.ntmps162;go_wp2_with fail;refine ea (S:=(pL sb c)) aA bh (fun al=>let ⟨_,_,ak⟩:=al.out.op.row;⟨(ak.cell 11).trans rfl,(ak.cell 14).trans rfl⟩) fun w1 al aT hHeld=>?_
 refine ai 0 1 2 3 ?_;refine ai 4 5 6 7 ?_;refine ai 8 9 11 12 ?_;refine bv 13 14 ?_;refine aX 15 ?_;refine aV 10 (fun K hK=>?_)
 ·go_simp;refine(na.out _ al.out).mono ?_;rintro ex w2 ⟨rfl,hb⟩;have aL:=hid (al.out.below hb);have bk:=hid (aT.out.trans (Mv.below hb _));clear hb;obtain⟨u2,bI,av⟩:=aL.out.op.row;have ap:(pL sb c) w2:=⟨(av.cell 11).trans rfl,(av.cell 14).trans rfl⟩;clear av bI;refine kH hK ap fun hHeld=>?_
  clear hK K;refine aV 16 (fun K hK=>?_)
  ·go_simp;refine(FE.out _ aL.out).mono (cu bk fun w3 aZ bx=>?_);obtain⟨u3,eU,bS⟩:=aZ.out.op.row;have aN:(pL sb c) w3:=⟨(bS.cell 11).trans rfl,(bS.cell 14).trans rfl⟩;clear bS eU;refine kH hK aN fun hHeld=>?_
   clear hK K;refine aY ?_;clear hHeld aN;go_wp2_with fail;refine ea (S:=(fun w':World=>w'.cell? ⟨sb,7,none⟩=some (.slice o.R o.nr o.cr))) aZ bx (fun db=>let ⟨_,_,bS⟩:=db.out.op.row;(bS.cell 7).trans rfl) fun w4 db eF hHeld=>?_
   refine ai 0 1 2 3 ?_;refine ai 4 5 6 7 ?_;refine bv 8 9 ?_;refine aV 10 (fun K hK=>?_)
   ·go_simp;refine(tO.out _ db.out).mono (cu eF fun w5 gD lU=>?_);obtain⟨u5,xq,ns⟩:=gD.out.op.row;have hY:(fun w':World=>w'.cell? ⟨sb,7,none⟩=some (.slice o.R o.nr o.cr)) w5:=(ns.cell 7).trans rfl;clear ns xq;refine kH hK hY fun hHeld=>?_
    clear hK K;refine aY ?_;clear hHeld hY;go_wp2_with fail
    go_end0
    exact⟨_,rfl,gD.out,lU.out⟩
theorem C8 (w:World) (h:St w sb mb lb ty o c rv l) (ae:c.ph=0) (hj:c.base+(1+c.rd)<l.length):Calls Tryz.prog 163 #[.pointer (some ⟨sb,0,none⟩)] w (Did sb mb lb ty o w rv (c.go 1) (c.wrm l (1+c.rd) ((c.nr:Int)+2)) (.tuple #[])):=by
 obtain⟨aA,bh,am,HF,cL,ct,dn,cQ⟩:=h.start;clear am h;have bP:=hid ae;clear ae;obtain⟨u0,bC,ak⟩:=aA.out.op.row;have c10_0:=ak.ph 10 0 bP;have c9_0:=ak.at 9 (.int .i64 (c.rd:Int));clear ak bC;have gm:=HF.out.rd1;have m9:(0:Int)≤(c.rd:Int):=by omega
 have lh:(c.rd:Int)≤4:=by omega
 have bU:IntKind.i64.wrap (1+(c.rd:Int))=1+(c.rd:Int):=ag (by omega) (by omega);clear gm;have HW:=hid fun W (h:St W sb mb lb ty o c rv l)=>ef sb mb lb ty o c rv l (1+(c.rd:Int)) (1+c.rd) ((c.nr:Int)+2) W h (by omega) hj ⟨by omega,by have:=HF.out.nr1;omega⟩
 clear hj;have na:=hid fun W (h:St W sb mb lb ty o c rv l)=>gi sb mb lb ty o c rv l W h
 go_enter Tryz.func163,Tryz.ntmps163;go_wp2_with fail;refine ea (S:=(fun _:World=>True)) aA bh (fun al=>let ⟨_,_,ak⟩:=al.out.op.row;trivial) fun w1 al aT hHeld=>?_
 refine ai 0 1 2 3 ?_;refine aX 4 ?_;refine aV 5 (fun K hK=>?_)
 ·go_simp;refine(na.out _ al.out).mono ?_;rintro ex w2 ⟨rfl,hb⟩;have aL:=hid (al.out.below hb);have bk:=hid (aT.out.trans (Mv.below hb _));clear hb;have ap:(fun _:World=>True) w2:=trivial;refine kH hK ap fun hHeld=>?_
  clear hK K;refine aV 6 (fun K hK=>?_)
  ·go_simp;refine(HW.out _ aL.out).mono (cu bk fun w3 aZ bx=>?_);have aN:(fun _:World=>True) w3:=trivial;refine kH hK aN fun hHeld=>?_
   clear hK K;refine aY ?_;clear hHeld aN;go_wp2_with fail;refine(dy sb mb lb ty o _ _ _ 1 1 _ aZ.out rfl).mono (cu bx fun w4 db eF=>?_);go_wp2_with fail
   go_end0
   exact⟨_,rfl,db.out,eF.out⟩
theorem C9 (w:World) (h:St w sb mb lb ty o c rv l) (ae:c.ph=1) (hj:c.base+0<l.length):Calls Tryz.prog 163 #[.pointer (some ⟨sb,0,none⟩)] w (Did sb mb lb ty o w rv (({ c with A:=c.rdm l 0 }:Kc).go 2) l (.tuple #[])):=by
 obtain⟨aA,bh,am,HF,cL,ct,dn,cQ⟩:=h.start;clear am h;have bP:=hid ae;clear ae;obtain⟨u0,bC,ak⟩:=aA.out.op.row;have c10_0:=ak.ph 10 1 bP;have c9_0:=ak.at 9 (.int .i64 (c.rd:Int));clear ak bC;have gm:=HF.out.rd1;have m9:(0:Int)≤(c.rd:Int):=by omega
 have lh:(c.rd:Int)≤4:=by omega
 have bU:IntKind.i64.wrap (1+(c.rd:Int))=1+(c.rd:Int):=ag (by omega) (by omega);clear gm;have hz:=cR hj aA.out.mem.w32;have HR:=hid fun W (h:St W sb mb lb ty o c rv l)=>cS sb mb lb ty o c rv l 0 0 W h (by omega) hj
 obtain⟨z,aP⟩:∃ x,c.rdm l 0=x:=⟨_,rfl⟩;rw[aP] at HR hz;try rw[aP]
 have lH:=hid aP;clear aP hj;have eJ:=hz.1;have d8:=hz.2;clear hz;go_enter Tryz.func163,Tryz.ntmps163;go_wp2_with fail;refine(HR.out _ aA.out).mono (cu bh fun w1 al aT=>?_);obtain⟨u1,iz,bV⟩:=al.out.op.row;have c13_1:=bV.at 13 (.int .u32 c.A);have f13_1:=bV.frozen 13;clear bV iz;go_wp2_with fail;obtain⟨aL,bk⟩:=qm (al.out.setA (z) ⟨eJ,d8⟩) aT;go_wp2_with fail;refine(dy sb mb lb ty o _ _ _ 2 2 _ aL.out rfl).mono (cu bk fun w3 aZ bx=>?_);go_wp2_with fail
 go_end0
 exact⟨_,rfl,aZ.out,bx.out⟩
theorem Da (w:World) (h:St w sb mb lb ty o c rv l) (ae:c.ph=2) (hj:c.base+(1+c.rd)<l.length):Calls Tryz.prog 163 #[.pointer (some ⟨sb,0,none⟩)] w (Did sb mb lb ty o w rv (c.go 3) (if c.rdm l (1+c.rd)=(c.nr:Int)+2 then c.wrm l (1+c.rd) c.A else l) (.tuple #[])):=by
 obtain⟨aA,bh,am,HF,cL,ct,dn,cQ⟩:=h.start;clear am h;have bP:=hid ae;clear ae;obtain⟨u0,bC,ak⟩:=aA.out.op.row;have c10_0:=ak.ph 10 2 bP;have c9_0:=ak.at 9 (.int .i64 (c.rd:Int));clear ak bC;have gm:=HF.out.rd1;have m9:(0:Int)≤(c.rd:Int):=by omega
 have lh:(c.rd:Int)≤4:=by omega
 have bU:IntKind.i64.wrap (1+(c.rd:Int))=1+(c.rd:Int):=ag (by omega) (by omega);clear gm;have FE:=hid fun W (h:St W sb mb lb ty o c rv l)=>uS sb mb lb ty o c rv l (1+(c.rd:Int)) (1+c.rd) ((c.nr:Int)+2) c.A W h (by omega) hj ⟨HF.out.A0,HF.out.A1⟩
 obtain⟨L1,iZ⟩:∃ x,(if c.rdm l (1+c.rd)=(c.nr:Int)+2 then c.wrm l (1+c.rd) c.A else l)=x:=⟨_,rfl⟩;rw[iZ] at FE ⊢;clear iZ hj;have na:=hid fun W (h:St W sb mb lb ty o c rv l)=>gi sb mb lb ty o c rv l W h
 go_enter Tryz.func163,Tryz.ntmps163;go_wp2_with fail;refine ea (S:=(fun w':World=>w'.cell? ⟨sb,13,none⟩=some (.int .u32 c.A))) aA bh (fun al=>let ⟨_,_,ak⟩:=al.out.op.row;(ak.cell 13).trans rfl) fun w1 al aT hHeld=>?_
 refine ai 0 1 2 3 ?_;refine ai 4 6 7 8 ?_;refine bv 9 10 ?_;refine aV 5 (fun K hK=>?_)
 ·go_simp;refine(na.out _ al.out).mono ?_;rintro ex w2 ⟨rfl,hb⟩;have aL:=hid (al.out.below hb);have bk:=hid (aT.out.trans (Mv.below hb _));clear hb;obtain⟨u2,bI,av⟩:=aL.out.op.row;have ap:(fun w':World=>w'.cell? ⟨sb,13,none⟩=some (.int .u32 c.A)) w2:=(av.cell 13).trans rfl;clear av bI;refine kH hK ap fun hHeld=>?_
  clear hK K;refine aV 11 (fun K hK=>?_)
  ·go_simp;refine(FE.out _ aL.out).mono (cu bk fun w3 aZ bx=>?_);obtain⟨u3,eU,bS⟩:=aZ.out.op.row;have aN:(fun w':World=>w'.cell? ⟨sb,13,none⟩=some (.int .u32 c.A)) w3:=(bS.cell 13).trans rfl;clear bS eU;refine kH hK aN fun hHeld=>?_
   clear hK K;refine aY ?_;clear hHeld aN;go_wp2_with fail;refine(dy sb mb lb ty o _ _ _ 3 3 _ aZ.out rfl).mono (cu bx fun w4 db eF=>?_);go_wp2_with fail
   go_end0
   exact⟨_,rfl,db.out,eF.out⟩
theorem Db (w:World) (h:St w sb mb lb ty o c rv l) (ae:c.ph=3) (hj:c.base+(1+c.rd)<l.length):Calls Tryz.prog 163 #[.pointer (some ⟨sb,0,none⟩)] w (Did sb mb lb ty o w rv (({ c with B:=c.rdm l (1+c.rd)%((c.nr:Int)+2) }:Kc).go 4) l (.tuple #[])):=by
 obtain⟨aA,bh,am,HF,cL,ct,dn,cQ⟩:=h.start;clear am h;have bP:=hid ae;clear ae;obtain⟨u0,bC,ak⟩:=aA.out.op.row;have c10_0:=ak.ph 10 3 bP;have c9_0:=ak.at 9 (.int .i64 (c.rd:Int));clear ak bC;have gm:=HF.out.rd1;have m9:(0:Int)≤(c.rd:Int):=by omega
 have lh:(c.rd:Int)≤4:=by omega
 have bU:IntKind.i64.wrap (1+(c.rd:Int))=1+(c.rd:Int):=ag (by omega) (by omega);clear gm;have hz:=cR hj aA.out.mem.w32;have HR:=hid fun W (h:St W sb mb lb ty o c rv l)=>cS sb mb lb ty o c rv l (1+(c.rd:Int)) (1+c.rd) W h (by omega) hj
 obtain⟨z,aP⟩:∃ x,c.rdm l (1+c.rd)=x:=⟨_,rfl⟩;rw[aP] at HR hz;try rw[aP]
 have lH:=hid aP;clear aP hj;have eJ:=hz.1;have d8:=hz.2;clear hz;have na:=hid fun W (h:St W sb mb lb ty o c rv l)=>gi sb mb lb ty o c rv l W h
 have aS:=HF.out.nr1;have aI:(0:Int)≤(c.nr:Int):=by omega
 have gT:(c.nr:Int)≤4:=by omega
 have jU:=Int.emod_nonneg z (show(c.nr:Int)+2≠0 by omega);have aq:=Int.emod_lt_of_pos z (show(0:Int)<(c.nr:Int)+2 by omega);have QV:0≤z%((c.nr:Int)+2)∧z%((c.nr:Int)+2)<4294967296:=⟨jU,by omega⟩;have Kq:=hid QV;clear QV jU aq aS;go_enter Tryz.func163,Tryz.ntmps163;go_wp2_with fail;refine(HR.out _ aA.out).mono (cu bh fun w1 al aT=>?_);go_wp2_with fail;refine(na.out _ al.out).mono ?_;rintro ex w2 ⟨rfl,hb⟩;have aL:=hid (al.out.below hb);have bk:=hid (aT.out.trans (Mv.below hb _));clear hb;obtain⟨u2,bI,av⟩:=aL.out.op.row;have c14_2:=av.at 14 (.int .u32 c.B);have f14_2:=av.frozen 14;clear av bI;go_wp2_with fail;obtain⟨aZ,bx⟩:=qm (aL.out.setB (z%((c.nr:Int)+2)) Kq.out) bk;go_wp2_with fail;refine(dy sb mb lb ty o _ _ _ 4 4 _ aZ.out rfl).mono (cu bx fun w4 db eF=>?_);go_wp2_with fail
 go_end0
 exact⟨_,rfl,db.out,eF.out⟩
theorem Dc (w:World) (h:St w sb mb lb ty o c rv l) (ae:c.ph=4) (hB:0≤c.B∧c.B≤20) (dP:c.wr=true→c.i<c.rc.length) (di:c.rc.length≤1000000) (fy:c.i<1000) (hj:c.base+(1+c.nr+c.B.toNat*c.wd+c.i)<l.length) (fL:1+c.nr+c.B.toNat*c.wd≤1000000):Calls Tryz.prog 163 #[.pointer (some ⟨sb,0,none⟩)] w (Did sb mb lb ty o w rv (c.word l (1+c.nr+c.B.toNat*c.wd) (·.fin 0)).1 (c.word l (1+c.nr+c.B.toNat*c.wd) (·.fin 0)).2 (.tuple #[])):=by
 obtain⟨aA,bh,am,HF,cL,ct,dn,cQ⟩:=h.start;clear am h;have bP:=hid ae;clear ae;obtain⟨u0,bC,ak⟩:=aA.out.op.row;have c10_0:=ak.ph 10 4 bP;have c9_0:=ak.at 9 (.int .i64 (c.rd:Int));clear ak bC;have gm:=HF.out.rd1;have m9:(0:Int)≤(c.rd:Int):=by omega
 have lh:(c.rd:Int)≤4:=by omega
 have bU:IntKind.i64.wrap (1+(c.rd:Int))=1+(c.rd:Int):=ag (by omega) (by omega);clear gm;have fV:=hid fun W (h:St W sb mb lb ty o c rv l)=>nK sb mb lb ty o c rv l W h hB
 clear hB;obtain⟨FR,kY⟩:∃ x,1+c.nr+c.B.toNat*c.wd=x:=⟨_,rfl⟩;rw[kY] at fV hj fL ⊢;clear kY;have fc:=hid fun W (rv:Value) (h:St W sb mb lb ty o c rv l)=>fR sb mb lb ty o c rv l (FR) W h dP di fy hj fL
 clear dP di fy hj fL;rw[Kc.word_eq]
 by_cases ao:c.wd≤c.i+1
 ·rw[if_pos ao];have hd:decide ((c.wd:Int)≤(c.i:Int)+1)=true:=decide_eq_true (by omega);rw[hd] at fc;clear ao hd;go_enter Tryz.func163,Tryz.ntmps163;go_wp2_with fail;refine ea (S:=(fun _:World=>True)) aA bh (fun al=>let ⟨_,_,ak⟩:=al.out.op.row;trivial) fun w1 al aT hHeld=>?_
  refine ai 0 1 2 3 ?_;refine aV 4 (fun K hK=>?_)
  ·go_simp;refine(fV.out _ al.out).mono ?_;rintro ex w2 ⟨rfl,hb⟩;have aL:=hid (al.out.below hb);have bk:=hid (aT.out.trans (Mv.below hb _));clear hb;have ap:(fun _:World=>True) w2:=trivial;refine kH hK ap fun hHeld=>?_
   clear hK K;refine aV 5 (fun K hK=>?_)
   ·go_simp;refine(fc.out _ _ aL.out).mono (fz bk fun w3 rv3 aZ bx=>?_);have aN:(fun _:World=>True) w3:=trivial;refine kH hK aN fun hHeld=>?_
    clear hK K;refine aY ?_;clear hHeld aN;go_wp2_with fail;refine(fT sb mb lb ty o _ _ _ 0 _ aZ.out).mono (fz bx fun w4 rv4 db eF=>?_);go_wp2_with fail
    go_end0
    exact⟨_,rfl,db.out,eF.out⟩
 ·rw[if_neg ao];have hd:decide ((c.wd:Int)≤(c.i:Int)+1)=false:=decide_eq_false (by omega);rw[hd] at fc;clear ao hd;go_enter Tryz.func163,Tryz.ntmps163;go_wp2_with fail;refine ea (S:=(fun _:World=>True)) aA bh (fun al=>let ⟨_,_,ak⟩:=al.out.op.row;trivial) fun w1 al aT hHeld=>?_
  refine ai 0 1 2 3 ?_;refine aV 4 (fun K hK=>?_)
  ·go_simp;refine(fV.out _ al.out).mono ?_;rintro ex w2 ⟨rfl,hb⟩;have aL:=hid (al.out.below hb);have bk:=hid (aT.out.trans (Mv.below hb _));clear hb;have ap:(fun _:World=>True) w2:=trivial;refine kH hK ap fun hHeld=>?_
   clear hK K;refine aV 5 (fun K hK=>?_)
   ·go_simp;refine(fc.out _ _ aL.out).mono (fz bk fun w3 rv3 aZ bx=>?_);have aN:(fun _:World=>True) w3:=trivial;refine kH hK aN fun hHeld=>?_
    clear hK K;refine aY ?_;clear hHeld aN;go_wp2_with fail
    go_end0
    exact⟨_,rfl,aZ.out,bx.out⟩
end
end Go.Proofs.YtabfcjohdgjkoaaGreatDoor
