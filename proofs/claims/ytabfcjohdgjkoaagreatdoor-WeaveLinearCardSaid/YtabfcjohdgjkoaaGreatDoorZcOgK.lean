/- The kind cab: each step of a write, and of a read. -/
import Derived.Test.YtabfcjohdgjkoaaGreatDoorZcOgJ
namespace Go.Proofs.YtabfcjohdgjkoaaGreatDoor
open Go.RowKit
open Go.Lib (hid)
attribute [local go_sem] Oper.semAt_some
set_option maxHeartbeats 1000000
set_option maxRecDepth 100000
abbrev FM (a0:Nat) (a1:Ob) (w':World):Prop:=w'.cell? ⟨a0,0,none⟩=some (.int .i64 a1.k)∧w'.cell? ⟨a0,1,none⟩=some (.int .i64 a1.wd)∧w'.cell? ⟨a0,2,none⟩=some (.int .i64 a1.s)∧w'.cell? ⟨a0,3,none⟩=some (.int .i64 a1.c)∧w'.cell? ⟨a0,4,none⟩=some (.int .u32 a1.st)∧w'.cell? ⟨a0,5,none⟩=some (.slice a1.I a1.ni a1.ci)∧w'.cell? ⟨a0,6,none⟩=some (.int .i64 a1.wr)∧w'.cell? ⟨a0,7,none⟩=some (.slice a1.R a1.nr a1.cr)
section
variable (sb mb lb:Nat) (ty:TypeId) (o:Ob) (c:Kc) (rv:Value) (l:List Int)
theorem fD (w:World) (h:St w sb mb lb ty o c rv l) (hs:1≤c.sl) (hj:c.base+0<l.length):Calls Tryz.prog 217 #[.pointer (some ⟨sb,0,none⟩)] w (mS sb mb lb ty o w rv c l (.int .u32 (c.rdm l 0%(c.sl:Int)))):=by
 obtain⟨aA,bh,am,HF,cL,ct,dn,cQ⟩:=h.start;clear am h;have hz:=cR hj aA.out.mem.w32;have HR:=hid fun W (h:St W sb mb lb ty o c rv l)=>cS sb mb lb ty o c rv l 0 0 W h (by omega) hj
 obtain⟨z,aP⟩:∃ x,c.rdm l 0=x:=⟨_,rfl⟩;rw[aP] at HR hz;try rw[aP]
 have lH:=hid aP;clear aP hj;have eJ:=hz.1;have d8:=hz.2;clear hz;have bN:=HF.out.sl1;have rL:(1:Int)≤(c.sl:Int):=by omega
 have rM:(c.sl:Int)≤16:=by omega
 have m0:((c.sl:Int)==0)=false:=by simp;omega
 have m1:¬ (c.sl:Int)=0:=by omega
 have m2:¬ c.sl=0:=by omega
 have e1:IntKind.u32.wrap (c.sl:Int)=(c.sl:Int):=aK (by omega) (by omega);have t1:z.tmod (c.sl:Int)=z%(c.sl:Int):=Int.tmod_eq_emod_of_nonneg eJ;have kK:=Int.emod_nonneg z m1;have fr:=Int.emod_lt_of_pos z (show(0:Int)<(c.sl:Int) by omega);have t2:IntKind.u32.wrap (z%(c.sl:Int))=z%(c.sl:Int):=aK kK (by omega);clear bN hs kK fr;go_enter Tryz.func217,Tryz.ntmps217;go_wp2_with fail;refine ea (S:=(fun w':World=>w'.cell? ⟨sb,2,none⟩=some (.int .i64 (c.sl:Int)))) aA bh (fun al=>let ⟨_,_,ak⟩:=al.out.op.row;(ak.cell 2).trans (by rw[← ct.out];rfl)) fun w1 al aT hHeld=>?_
 refine ai 0 1 2 4 ?_;refine ai 5 6 7 8 ?_;refine bv 9 10 ?_;refine aV 3 (fun K hK=>?_)
 ·go_simp;refine(HR.out _ al.out).mono (cu aT fun w2 aL bk=>?_);obtain⟨u2,bI,av⟩:=aL.out.op.row;have ap:(fun w':World=>w'.cell? ⟨sb,2,none⟩=some (.int .i64 (c.sl:Int))) w2:=(av.cell 2).trans (by rw[← ct.out];rfl);clear av bI;refine kH hK ap fun hHeld=>?_
  clear hK K;refine bv 11 12 ?_;refine aY ?_;clear hHeld ap;go_wp2_with fail;go_ret;exact⟨rfl,aL.out,bk.out⟩
theorem pT (a:Int) (w:World) (h:St w sb mb lb ty o c rv l) (hB:0≤a∧a≤20):Calls Tryz.prog 219 #[.pointer (some ⟨sb,0,none⟩),.int .u32 a] w fun e w'=>e=.returned (.int .i64 ((1+c.nr+a.toNat*c.wd:Nat):Int))∧Below w.heap.size w w':=by
 obtain⟨aA,bh,am,HF,cL,ct,dn,cQ⟩:=h.start;clear am h;have pH:=hid (Below.refl w.heap.size w);have aS:=HF.out.nr1;have ay:=HF.out.wd1;have aj:=hid fun W=>lY o (by have:=cQ.out;omega) W
 have hv:=cQ.out
 have hq:((1+c.nr+a.toNat*c.wd:Nat):Int)=1+(o.nr:Int)+a*o.wd:=by
  rw[Int.natCast_add,Int.natCast_mul,Int.toNat_of_nonneg (by omega),cL.out,hv];rfl
 rw[hq];have ML:0≤o.wd:=by have:=cL.out;omega
 have TG:o.wd≤8:=by have:=cL.out;omega
 have m1:=lp (a:=a) (b:=o.wd) (by omega) (by omega) (by omega) (by omega);have e3:IntKind.i64.wrap (a*o.wd)=a*o.wd:=ag (by omega) (by omega);have e5:IntKind.i64.wrap a=a:=ag (by omega) (by omega);have e4:IntKind.i64.wrap (1+(o.nr:Int)+a*o.wd)=1+(o.nr:Int)+a*o.wd:=ag (by omega) (by omega);clear hv aS ay hq hB;unfold af at aj;go_enter Tryz.func219,Tryz.ntmps219;go_wp2_with fail;obtain⟨u0,bC,ak⟩:=aA.out.drew.op.row;have dc:(FM sb o) w.drew:=(by and_intros <;> exact ak.c rfl);have al:=hid aA.out.drew;have aT:=hid (bh.out.trans (Mv.drew w _));clear ak bC;have bT:=hid pH.out.drew;refine fg dc fun w1 bq hHeld=>?_
 rw[bq] at al aT bT;clear bq dc;refine ai 0 1 2 3 ?_;refine ai 4 6 7 8 ?_;refine ai 9 10 11 12 ?_;refine bv 13 14 ?_;refine aV 5 (fun K hK=>?_)
 ·go_simp;refine(aj.out _).mono ?_;rintro ex w2 ⟨rfl,hb⟩;have aL:=hid (al.out.below hb);have bk:=hid (aT.out.trans (Mv.below hb _));have cD:=hid (bT.out.trans (hb.mono bT.out.size));clear hb;obtain⟨u2,bI,av⟩:=aL.out.op.row;have ap:(FM sb o) w2:=(by and_intros <;> exact av.c rfl);clear av bI;refine kH hK ap fun hHeld=>?_
  clear hK K;refine bv 15 16 ?_;refine aY ?_;clear hHeld ap;go_wp2_with fail;go_ret;exact⟨rfl,cD.out⟩
theorem mY (w:World) (h:St w sb mb lb ty o c rv l) (hi:c.i<100) (hT:Tab64 w) (hn:¬ fp sb mb lb rv 0) (ao:c.nr≤c.i+1) (iF:0<c.rdm l (1+c.i)) (hj:c.base+(1+c.i)<l.length):Calls Tryz.prog 218 #[.pointer (some ⟨sb,0,none⟩)] w (Did sb mb lb ty o w rv (({ ({ (c.mark (c.rdm l (1+c.i) - 1)) with i:=c.i+1 }:Kc).mark c.A with B:=(({ (c.mark (c.rdm l (1+c.i) - 1)) with i:=c.i+1 }:Kc).mark c.A).free }:Kc).go 2) l (.tuple #[])):=by
 obtain⟨aA,bh,am,HF,cL,ct,dn,cQ⟩:=h.start;clear am h;have hz:=cR hj aA.out.mem.w32;have HR:=hid fun W (h:St W sb mb lb ty o c rv l)=>cS sb mb lb ty o c rv l (1+(c.i:Int)) (1+c.i) W h (by omega) hj
 obtain⟨z,aP⟩:∃ x,c.rdm l (1+c.i)=x:=⟨_,rfl⟩;rw[aP] at HR hz;try rw[aP]
 have lH:=hid aP;clear aP hj;have eJ:=hz.1;have d8:=hz.2;clear hz;rw[lH.out] at iF;have hN:=cQ.out;have px:(0:Int)≤(c.i:Int):=by omega
 have ul:(c.i:Int)≤100:=by omega
 have hs:IntKind.i64.wrap (1+(c.i:Int))=1+(c.i:Int):=ag (by omega) (by omega);have hd:decide ((o.nr:Int)≤(c.i:Int)+1)=true:=decide_eq_true (by omega);have fm:decide (0<z)=true:=decide_eq_true (by omega);have GF:=hid fun W (h:St W sb mb lb ty o c rv l)=>ky sb mb lb ty o c rv l (z - 1) W h ⟨by omega,by omega⟩
 have g9:IntKind.u32.wrap (z - 1)=z - 1:=aK (by omega) (by omega);have tL:1≤z:=by omega
 have ku:=fun W (h:St W sb mb lb ty o (c.mark (z - 1)) rv l)=>gQ sb mb lb ty o (c.mark (z - 1)) rv l (o.nr:Int) W h (show c.i<1000 by omega)
 have qV:decide ((o.nr:Int)≤(((c.mark (z - 1)).i:Nat):Int)+1)=true:=hd;rw[qV] at ku;have tO:=hid ku;clear hd ku hN ao qV hi;have yz:=hid fun W (h:St W sb mb lb ty o { (c.mark (z - 1)) with i:=(c.mark (z - 1)).i+1 } rv l)=>ky sb mb lb ty o { (c.mark (z - 1)) with i:=(c.mark (z - 1)).i+1 } rv l c.A W h ⟨HF.out.A0,HF.out.A1⟩
 have Fw:=hid fun W (h:St W sb mb lb ty o (({ (c.mark (z - 1)) with i:=(c.mark (z - 1)).i+1 }:Kc).mark c.A) rv l) (hT:Tab64 W)=>t9 sb mb lb ty o (({ (c.mark (z - 1)) with i:=(c.mark (z - 1)).i+1 }:Kc).mark c.A) rv l W h hT
 have FG:=hid (And.intro hT hn);have hb:=nj (({ (c.mark (z - 1)) with i:=(c.mark (z - 1)).i+1 }:Kc).mark c.A);obtain⟨Z,hZ⟩:∃ x,(({ (c.mark (z - 1)) with i:=(c.mark (z - 1)).i+1 }:Kc).mark c.A).free=x:=⟨_,rfl⟩;have vN:(({ (c.mark (z - 1)) with i:=c.i+1 }:Kc).mark c.A).free=Z:=hZ;rw[vN] at ⊢;rw[hZ] at Fw hb;clear hZ vN;clear hT hn;go_enter Tryz.func218,Tryz.ntmps218;go_wp2_with fail;refine ea (S:=(fun w':World=>w'.cell? ⟨sb,11,none⟩=some (.int .i64 (c.i:Int)))) aA bh (fun al=>let ⟨_,_,ak⟩:=al.out.op.row;(ak.cell 11).trans rfl) fun w1 al aT hHeld=>?_
 refine ai 0 1 2 3 ?_;refine ai 4 5 6 7 ?_;refine aX 8 ?_;refine aV 9 (fun K hK=>?_)
 ·go_simp;refine(HR.out _ al.out).mono (cu aT fun w2 aL bk=>?_);obtain⟨u2,bI,av⟩:=aL.out.op.row;have ap:(fun w':World=>w'.cell? ⟨sb,11,none⟩=some (.int .i64 (c.i:Int))) w2:=(av.cell 11).trans rfl;clear av bI;refine kH hK ap fun hHeld=>?_
  clear hK K;refine aX 10 ?_;refine aY ?_;clear hHeld ap;go_wp2_with fail;refine(GF.out _ aL.out).mono (cu bk fun w3 aZ bx=>?_);go_wp2_with fail;refine ea (S:=(fun w':World=>w'.cell? ⟨sb,7,none⟩=some (.slice o.R o.nr o.cr))) aZ bx (fun db=>let ⟨_,_,bS⟩:=db.out.op.row;(bS.cell 7).trans rfl) fun w4 db eF hHeld=>?_
  refine ai 0 1 2 3 ?_;refine ai 4 5 6 7 ?_;refine bv 8 9 ?_;refine aV 10 (fun K hK=>?_)
  ·go_simp;refine(tO.out _ db.out).mono (cu eF fun w5 gD lU=>?_);obtain⟨u5,xq,ns⟩:=gD.out.op.row;have hY:(fun w':World=>w'.cell? ⟨sb,7,none⟩=some (.slice o.R o.nr o.cr)) w5:=(ns.cell 7).trans rfl;clear ns xq;refine kH hK hY fun hHeld=>?_
   clear hK K;refine aX 11 ?_;refine aY ?_;clear hHeld hY;go_wp2_with fail;refine ea (S:=(fun w':World=>w'.cell? ⟨sb,13,none⟩=some (.int .u32 c.A))) gD lU (fun mG=>let ⟨_,_,ns⟩:=mG.out.op.row;(ns.cell 13).trans rfl) fun w6 mG yg hHeld=>?_
   refine ai 0 1 2 3 ?_;refine ai 4 5 6 7 ?_;refine aV 8 (fun K hK=>?_)
   ·go_simp;refine(yz.out _ mG.out).mono (cu yg fun w7 pg GE=>?_);obtain⟨u7,LL,Eg⟩:=pg.out.op.row;have zz:(fun w':World=>w'.cell? ⟨sb,13,none⟩=some (.int .u32 c.A)) w7:=(Eg.cell 13).trans rfl;clear Eg LL;refine kH hK zz fun hHeld=>?_
    clear hK K;refine aY ?_;clear hHeld zz;go_wp2_with fail;have pB:=FG.out.1.mv GE.out FG.out.2;have yF:=hid pB;clear pB;refine(Fw.out _ pg.out yF.out).mono ?_;rintro ex w8 ⟨rfl,rfl⟩;have wI:=pg;have J7:=GE;obtain⟨u8,OZ,xp⟩:=wI.out.op.row;have c14_8:=xp.at 14 (.int .u32 c.B);have f14_8:=xp.frozen 14;clear xp OZ;go_wp2_with fail;obtain⟨yD,J8⟩:=qm (wI.out.setB (Z) (by omega)) J7;refine(dy sb mb lb ty o _ _ _ 2 2 _ yD.out rfl).mono (cu J8 fun w10 GQ GD=>?_);go_wp2_with fail
    go_end0
    exact⟨_,rfl,GQ.out,GD.out⟩
theorem mZ (w:World) (h:St w sb mb lb ty o c rv l) (hi:c.i<100) (_hT:Tab64 w) (_hn:¬ fp sb mb lb rv 0) (ao:¬ (c.nr≤c.i+1)) (iF:0<c.rdm l (1+c.i)) (hj:c.base+(1+c.i)<l.length):Calls Tryz.prog 218 #[.pointer (some ⟨sb,0,none⟩)] w (Did sb mb lb ty o w rv { (c.mark (c.rdm l (1+c.i) - 1)) with i:=c.i+1 } l (.tuple #[])):=by
 obtain⟨aA,bh,am,HF,cL,ct,dn,cQ⟩:=h.start;clear am h;have hz:=cR hj aA.out.mem.w32;have HR:=hid fun W (h:St W sb mb lb ty o c rv l)=>cS sb mb lb ty o c rv l (1+(c.i:Int)) (1+c.i) W h (by omega) hj
 obtain⟨z,aP⟩:∃ x,c.rdm l (1+c.i)=x:=⟨_,rfl⟩;rw[aP] at HR hz;try rw[aP]
 have lH:=hid aP;clear aP hj;have eJ:=hz.1;have d8:=hz.2;clear hz;rw[lH.out] at iF;have hN:=cQ.out;have px:(0:Int)≤(c.i:Int):=by omega
 have ul:(c.i:Int)≤100:=by omega
 have hs:IntKind.i64.wrap (1+(c.i:Int))=1+(c.i:Int):=ag (by omega) (by omega);have hd:decide ((o.nr:Int)≤(c.i:Int)+1)=false:=decide_eq_false (by omega);have fm:decide (0<z)=true:=decide_eq_true (by omega);have GF:=hid fun W (h:St W sb mb lb ty o c rv l)=>ky sb mb lb ty o c rv l (z - 1) W h ⟨by omega,by omega⟩
 have g9:IntKind.u32.wrap (z - 1)=z - 1:=aK (by omega) (by omega);have tL:1≤z:=by omega
 have ku:=fun W (h:St W sb mb lb ty o (c.mark (z - 1)) rv l)=>gQ sb mb lb ty o (c.mark (z - 1)) rv l (o.nr:Int) W h (show c.i<1000 by omega)
 have qV:decide ((o.nr:Int)≤(((c.mark (z - 1)).i:Nat):Int)+1)=false:=hd;rw[qV] at ku;have tO:=hid ku;clear hd ku hN ao qV hi;clear _hT _hn;go_enter Tryz.func218,Tryz.ntmps218;go_wp2_with fail;refine ea (S:=(fun w':World=>w'.cell? ⟨sb,11,none⟩=some (.int .i64 (c.i:Int)))) aA bh (fun al=>let ⟨_,_,ak⟩:=al.out.op.row;(ak.cell 11).trans rfl) fun w1 al aT hHeld=>?_
 refine ai 0 1 2 3 ?_;refine ai 4 5 6 7 ?_;refine aX 8 ?_;refine aV 9 (fun K hK=>?_)
 ·go_simp;refine(HR.out _ al.out).mono (cu aT fun w2 aL bk=>?_);obtain⟨u2,bI,av⟩:=aL.out.op.row;have ap:(fun w':World=>w'.cell? ⟨sb,11,none⟩=some (.int .i64 (c.i:Int))) w2:=(av.cell 11).trans rfl;clear av bI;refine kH hK ap fun hHeld=>?_
  clear hK K;refine aX 10 ?_;refine aY ?_;clear hHeld ap;go_wp2_with fail;refine(GF.out _ aL.out).mono (cu bk fun w3 aZ bx=>?_);go_wp2_with fail;refine ea (S:=(fun w':World=>w'.cell? ⟨sb,7,none⟩=some (.slice o.R o.nr o.cr))) aZ bx (fun db=>let ⟨_,_,bS⟩:=db.out.op.row;(bS.cell 7).trans rfl) fun w4 db eF hHeld=>?_
  refine ai 0 1 2 3 ?_;refine ai 4 5 6 7 ?_;refine bv 8 9 ?_;refine aV 10 (fun K hK=>?_)
  ·go_simp;refine(tO.out _ db.out).mono (cu eF fun w5 gD lU=>?_);obtain⟨u5,xq,ns⟩:=gD.out.op.row;have hY:(fun w':World=>w'.cell? ⟨sb,7,none⟩=some (.slice o.R o.nr o.cr)) w5:=(ns.cell 7).trans rfl;clear ns xq;refine kH hK hY fun hHeld=>?_
   clear hK K;refine aX 11 ?_;refine aY ?_;clear hHeld hY;go_wp2_with fail
   go_end0
   exact⟨_,rfl,gD.out,lU.out⟩
theorem mW (w:World) (h:St w sb mb lb ty o c rv l) (hi:c.i<100) (hT:Tab64 w) (hn:¬ fp sb mb lb rv 0) (ao:c.nr≤c.i+1) (iF:¬ (0<c.rdm l (1+c.i))) (hj:c.base+(1+c.i)<l.length):Calls Tryz.prog 218 #[.pointer (some ⟨sb,0,none⟩)] w (Did sb mb lb ty o w rv (({ ({ c with i:=c.i+1 }:Kc).mark c.A with B:=(({ c with i:=c.i+1 }:Kc).mark c.A).free }:Kc).go 2) l (.tuple #[])):=by
 obtain⟨aA,bh,am,HF,cL,ct,dn,cQ⟩:=h.start;clear am h;have hz:=cR hj aA.out.mem.w32;have HR:=hid fun W (h:St W sb mb lb ty o c rv l)=>cS sb mb lb ty o c rv l (1+(c.i:Int)) (1+c.i) W h (by omega) hj
 obtain⟨z,aP⟩:∃ x,c.rdm l (1+c.i)=x:=⟨_,rfl⟩;rw[aP] at HR hz;try rw[aP]
 have lH:=hid aP;clear aP hj;have eJ:=hz.1;have d8:=hz.2;clear hz;rw[lH.out] at iF;have hN:=cQ.out;have px:(0:Int)≤(c.i:Int):=by omega
 have ul:(c.i:Int)≤100:=by omega
 have hs:IntKind.i64.wrap (1+(c.i:Int))=1+(c.i:Int):=ag (by omega) (by omega);have hd:decide ((o.nr:Int)≤(c.i:Int)+1)=true:=decide_eq_true (by omega);have fm:decide (0<z)=false:=decide_eq_false (by omega);have ku:=fun W (h:St W sb mb lb ty o c rv l)=>gQ sb mb lb ty o c rv l (o.nr:Int) W h (show c.i<1000 by omega)
 have qV:decide ((o.nr:Int)≤((c.i:Nat):Int)+1)=true:=hd;rw[qV] at ku;have tO:=hid ku;clear hd ku hN ao qV hi;have yz:=hid fun W (h:St W sb mb lb ty o { c with i:=c.i+1 } rv l)=>ky sb mb lb ty o { c with i:=c.i+1 } rv l c.A W h ⟨HF.out.A0,HF.out.A1⟩
 have Fw:=hid fun W (h:St W sb mb lb ty o (({ c with i:=c.i+1 }:Kc).mark c.A) rv l) (hT:Tab64 W)=>t9 sb mb lb ty o (({ c with i:=c.i+1 }:Kc).mark c.A) rv l W h hT
 have FG:=hid (And.intro hT hn);have hb:=nj (({ c with i:=c.i+1 }:Kc).mark c.A);obtain⟨Z,hZ⟩:∃ x,(({ c with i:=c.i+1 }:Kc).mark c.A).free=x:=⟨_,rfl⟩;have vN:(({ c with i:=c.i+1 }:Kc).mark c.A).free=Z:=hZ;rw[vN] at ⊢;rw[hZ] at Fw hb;clear hZ vN;clear hT hn;go_enter Tryz.func218,Tryz.ntmps218;go_wp2_with fail;refine ea (S:=(fun w':World=>w'.cell? ⟨sb,11,none⟩=some (.int .i64 (c.i:Int)))) aA bh (fun al=>let ⟨_,_,ak⟩:=al.out.op.row;(ak.cell 11).trans rfl) fun w1 al aT hHeld=>?_
 refine ai 0 1 2 3 ?_;refine ai 4 5 6 7 ?_;refine aX 8 ?_;refine aV 9 (fun K hK=>?_)
 ·go_simp;refine(HR.out _ al.out).mono (cu aT fun w2 aL bk=>?_);obtain⟨u2,bI,av⟩:=aL.out.op.row;have ap:(fun w':World=>w'.cell? ⟨sb,11,none⟩=some (.int .i64 (c.i:Int))) w2:=(av.cell 11).trans rfl;clear av bI;refine kH hK ap fun hHeld=>?_
  clear hK K;refine aX 10 ?_;refine aY ?_;clear hHeld ap;go_wp2_with fail;refine ea (S:=(fun w':World=>w'.cell? ⟨sb,7,none⟩=some (.slice o.R o.nr o.cr))) aL bk (fun aZ=>let ⟨_,_,av⟩:=aZ.out.op.row;(av.cell 7).trans rfl) fun w3 aZ bx hHeld=>?_
  refine ai 0 1 2 3 ?_;refine ai 4 5 6 7 ?_;refine bv 8 9 ?_;refine aV 10 (fun K hK=>?_)
  ·go_simp;refine(tO.out _ aZ.out).mono (cu bx fun w4 db eF=>?_);obtain⟨u4,oz,iG⟩:=db.out.op.row;have fO:(fun w':World=>w'.cell? ⟨sb,7,none⟩=some (.slice o.R o.nr o.cr)) w4:=(iG.cell 7).trans rfl;clear iG oz;refine kH hK fO fun hHeld=>?_
   clear hK K;refine aX 11 ?_;refine aY ?_;clear hHeld fO;go_wp2_with fail;refine ea (S:=(fun w':World=>w'.cell? ⟨sb,13,none⟩=some (.int .u32 c.A))) db eF (fun gD=>let ⟨_,_,iG⟩:=gD.out.op.row;(iG.cell 13).trans rfl) fun w5 gD lU hHeld=>?_
   refine ai 0 1 2 3 ?_;refine ai 4 5 6 7 ?_;refine aV 8 (fun K hK=>?_)
   ·go_simp;refine(yz.out _ gD.out).mono (cu lU fun w6 mG yg=>?_);obtain⟨u6,TD,Lt⟩:=mG.out.op.row;have KM:(fun w':World=>w'.cell? ⟨sb,13,none⟩=some (.int .u32 c.A)) w6:=(Lt.cell 13).trans rfl;clear Lt TD;refine kH hK KM fun hHeld=>?_
    clear hK K;refine aY ?_;clear hHeld KM;go_wp2_with fail;have pB:=FG.out.1.mv yg.out FG.out.2;have yF:=hid pB;clear pB;refine(Fw.out _ mG.out yF.out).mono ?_;rintro ex w7 ⟨rfl,rfl⟩;have pg:=mG;have GE:=yg;obtain⟨u7,LL,Eg⟩:=pg.out.op.row;have c14_7:=Eg.at 14 (.int .u32 c.B);have f14_7:=Eg.frozen 14;clear Eg LL;go_wp2_with fail;obtain⟨wI,J7⟩:=qm (pg.out.setB (Z) (by omega)) GE;refine(dy sb mb lb ty o _ _ _ 2 2 _ wI.out rfl).mono (cu J7 fun w9 yD J8=>?_);go_wp2_with fail
    go_end0
    exact⟨_,rfl,yD.out,J8.out⟩
theorem mX (w:World) (h:St w sb mb lb ty o c rv l) (hi:c.i<100) (_hT:Tab64 w) (_hn:¬ fp sb mb lb rv 0) (ao:¬ (c.nr≤c.i+1)) (iF:¬ (0<c.rdm l (1+c.i))) (hj:c.base+(1+c.i)<l.length):Calls Tryz.prog 218 #[.pointer (some ⟨sb,0,none⟩)] w (Did sb mb lb ty o w rv { c with i:=c.i+1 } l (.tuple #[])):=by
 obtain⟨aA,bh,am,HF,cL,ct,dn,cQ⟩:=h.start;clear am h;have hz:=cR hj aA.out.mem.w32;have HR:=hid fun W (h:St W sb mb lb ty o c rv l)=>cS sb mb lb ty o c rv l (1+(c.i:Int)) (1+c.i) W h (by omega) hj
 obtain⟨z,aP⟩:∃ x,c.rdm l (1+c.i)=x:=⟨_,rfl⟩;rw[aP] at HR hz;try rw[aP]
 have lH:=hid aP;clear aP hj;have eJ:=hz.1;have d8:=hz.2;clear hz;rw[lH.out] at iF;have hN:=cQ.out;have px:(0:Int)≤(c.i:Int):=by omega
 have ul:(c.i:Int)≤100:=by omega
 have hs:IntKind.i64.wrap (1+(c.i:Int))=1+(c.i:Int):=ag (by omega) (by omega);have hd:decide ((o.nr:Int)≤(c.i:Int)+1)=false:=decide_eq_false (by omega);have fm:decide (0<z)=false:=decide_eq_false (by omega);have ku:=fun W (h:St W sb mb lb ty o c rv l)=>gQ sb mb lb ty o c rv l (o.nr:Int) W h (show c.i<1000 by omega)
 have qV:decide ((o.nr:Int)≤((c.i:Nat):Int)+1)=false:=hd;rw[qV] at ku;have tO:=hid ku;clear hd ku hN ao qV hi;clear _hT _hn;go_enter Tryz.func218,Tryz.ntmps218;go_wp2_with fail;refine ea (S:=(fun w':World=>w'.cell? ⟨sb,11,none⟩=some (.int .i64 (c.i:Int)))) aA bh (fun al=>let ⟨_,_,ak⟩:=al.out.op.row;(ak.cell 11).trans rfl) fun w1 al aT hHeld=>?_
 refine ai 0 1 2 3 ?_;refine ai 4 5 6 7 ?_;refine aX 8 ?_;refine aV 9 (fun K hK=>?_)
 ·go_simp;refine(HR.out _ al.out).mono (cu aT fun w2 aL bk=>?_);obtain⟨u2,bI,av⟩:=aL.out.op.row;have ap:(fun w':World=>w'.cell? ⟨sb,11,none⟩=some (.int .i64 (c.i:Int))) w2:=(av.cell 11).trans rfl;clear av bI;refine kH hK ap fun hHeld=>?_
  clear hK K;refine aX 10 ?_;refine aY ?_;clear hHeld ap;go_wp2_with fail;refine ea (S:=(fun w':World=>w'.cell? ⟨sb,7,none⟩=some (.slice o.R o.nr o.cr))) aL bk (fun aZ=>let ⟨_,_,av⟩:=aZ.out.op.row;(av.cell 7).trans rfl) fun w3 aZ bx hHeld=>?_
  refine ai 0 1 2 3 ?_;refine ai 4 5 6 7 ?_;refine bv 8 9 ?_;refine aV 10 (fun K hK=>?_)
  ·go_simp;refine(tO.out _ aZ.out).mono (cu bx fun w4 db eF=>?_);obtain⟨u4,oz,iG⟩:=db.out.op.row;have fO:(fun w':World=>w'.cell? ⟨sb,7,none⟩=some (.slice o.R o.nr o.cr)) w4:=(iG.cell 7).trans rfl;clear iG oz;refine kH hK fO fun hHeld=>?_
   clear hK K;refine aX 11 ?_;refine aY ?_;clear hHeld fO;go_wp2_with fail
   go_end0
   exact⟨_,rfl,db.out,eF.out⟩
theorem G8 (w:World) (h:St w sb mb lb ty o c rv l) (ae:c.ph=0) (hs:1≤c.sl) (hj:c.base+0<l.length):Calls Tryz.prog 168 #[.pointer (some ⟨sb,0,none⟩)] w (Did sb mb lb ty o w rv (({ c with A:=c.rdm l 0%(c.sl:Int) }:Kc).go 1) l (.tuple #[])):=by
 obtain⟨aA,bh,am,HF,cL,ct,dn,cQ⟩:=h.start;clear am h;have bP:=hid ae;clear ae;obtain⟨u0,bC,ak⟩:=aA.out.op.row;have c10_0:=ak.ph 10 0 bP;clear ak bC;have pJ:=hid fun W (h:St W sb mb lb ty o c rv l)=>fD sb mb lb ty o c rv l W h hs hj
 have bN:=HF.out.sl1;obtain⟨z,aP⟩:∃ x,c.rdm l 0%(c.sl:Int)=x:=⟨_,rfl⟩;have eJ:0≤z:=by rw[← aP];exact Int.emod_nonneg _ (by omega)
 have d8:z<16:=by have:=Int.emod_lt_of_pos (c.rdm l 0) (show(0:Int)<(c.sl:Int) by omega);omega
 rw[aP] at pJ;try rw[aP]
 have lO:=hid aP;clear aP hj hs bN;go_enter Tryz.func168,Tryz.ntmps168;go_wp2_with fail;refine(pJ.out _ aA.out).mono (cu bh fun w1 al aT=>?_);obtain⟨u1,iz,bV⟩:=al.out.op.row;have c13_1:=bV.at 13 (.int .u32 c.A);have f13_1:=bV.frozen 13;clear bV iz;go_wp2_with fail;obtain⟨aL,bk⟩:=qm (al.out.setA (z) ⟨eJ,by omega⟩) aT;go_wp2_with fail;refine(dy sb mb lb ty o _ _ _ 1 1 _ aL.out rfl).mono (cu bk fun w3 aZ bx=>?_);go_wp2_with fail
 go_end0
 exact⟨_,rfl,aZ.out,bx.out⟩
theorem nH (w:World) (h:St w sb mb lb ty o c rv l) (ae:c.ph=1) (hi:c.i<100) (hT:Tab64 w) (hn:¬ fp sb mb lb rv 0) (ao:c.nr≤c.i+1) (iF:0<c.rdm l (1+c.i)) (hj:c.base+(1+c.i)<l.length):Calls Tryz.prog 168 #[.pointer (some ⟨sb,0,none⟩)] w (Did sb mb lb ty o w rv (({ ({ (c.mark (c.rdm l (1+c.i) - 1)) with i:=c.i+1 }:Kc).mark c.A with B:=(({ (c.mark (c.rdm l (1+c.i) - 1)) with i:=c.i+1 }:Kc).mark c.A).free }:Kc).go 2) l (.tuple #[])):=by
 obtain⟨aA,bh,am,HF,cL,ct,dn,cQ⟩:=h.start;clear am h;have bP:=hid ae;clear ae;obtain⟨u0,bC,ak⟩:=aA.out.op.row;have c10_0:=ak.ph 10 1 bP;clear ak bC;have yE:=hid (mY sb mb lb ty o c rv l w aA.out hi hT hn ao iF hj);clear hi hT hn ao iF hj;go_enter Tryz.func168,Tryz.ntmps168;go_wp2_with fail;refine yE.out.mono (fz bh fun w1 rv1 al aT=>?_);go_wp2_with fail
 go_end0
 exact⟨_,rfl,al.out,aT.out⟩
theorem nI (w:World) (h:St w sb mb lb ty o c rv l) (ae:c.ph=1) (hi:c.i<100) (hT:Tab64 w) (hn:¬ fp sb mb lb rv 0) (ao:¬ (c.nr≤c.i+1)) (iF:0<c.rdm l (1+c.i)) (hj:c.base+(1+c.i)<l.length):Calls Tryz.prog 168 #[.pointer (some ⟨sb,0,none⟩)] w (Did sb mb lb ty o w rv { (c.mark (c.rdm l (1+c.i) - 1)) with i:=c.i+1 } l (.tuple #[])):=by
 obtain⟨aA,bh,am,HF,cL,ct,dn,cQ⟩:=h.start;clear am h;have bP:=hid ae;clear ae;obtain⟨u0,bC,ak⟩:=aA.out.op.row;have c10_0:=ak.ph 10 1 bP;clear ak bC;have yE:=hid (mZ sb mb lb ty o c rv l w aA.out hi hT hn ao iF hj);clear hi hT hn ao iF hj;go_enter Tryz.func168,Tryz.ntmps168;go_wp2_with fail;refine yE.out.mono (fz bh fun w1 rv1 al aT=>?_);go_wp2_with fail
 go_end0
 exact⟨_,rfl,al.out,aT.out⟩
theorem nF (w:World) (h:St w sb mb lb ty o c rv l) (ae:c.ph=1) (hi:c.i<100) (hT:Tab64 w) (hn:¬ fp sb mb lb rv 0) (ao:c.nr≤c.i+1) (iF:¬ (0<c.rdm l (1+c.i))) (hj:c.base+(1+c.i)<l.length):Calls Tryz.prog 168 #[.pointer (some ⟨sb,0,none⟩)] w (Did sb mb lb ty o w rv (({ ({ c with i:=c.i+1 }:Kc).mark c.A with B:=(({ c with i:=c.i+1 }:Kc).mark c.A).free }:Kc).go 2) l (.tuple #[])):=by
 obtain⟨aA,bh,am,HF,cL,ct,dn,cQ⟩:=h.start;clear am h;have bP:=hid ae;clear ae;obtain⟨u0,bC,ak⟩:=aA.out.op.row;have c10_0:=ak.ph 10 1 bP;clear ak bC;have yE:=hid (mW sb mb lb ty o c rv l w aA.out hi hT hn ao iF hj);clear hi hT hn ao iF hj;go_enter Tryz.func168,Tryz.ntmps168;go_wp2_with fail;refine yE.out.mono (fz bh fun w1 rv1 al aT=>?_);go_wp2_with fail
 go_end0
 exact⟨_,rfl,al.out,aT.out⟩
theorem nG (w:World) (h:St w sb mb lb ty o c rv l) (ae:c.ph=1) (hi:c.i<100) (hT:Tab64 w) (hn:¬ fp sb mb lb rv 0) (ao:¬ (c.nr≤c.i+1)) (iF:¬ (0<c.rdm l (1+c.i))) (hj:c.base+(1+c.i)<l.length):Calls Tryz.prog 168 #[.pointer (some ⟨sb,0,none⟩)] w (Did sb mb lb ty o w rv { c with i:=c.i+1 } l (.tuple #[])):=by
 obtain⟨aA,bh,am,HF,cL,ct,dn,cQ⟩:=h.start;clear am h;have bP:=hid ae;clear ae;obtain⟨u0,bC,ak⟩:=aA.out.op.row;have c10_0:=ak.ph 10 1 bP;clear ak bC;have yE:=hid (mX sb mb lb ty o c rv l w aA.out hi hT hn ao iF hj);clear hi hT hn ao iF hj;go_enter Tryz.func168,Tryz.ntmps168;go_wp2_with fail;refine yE.out.mono (fz bh fun w1 rv1 al aT=>?_);go_wp2_with fail
 go_end0
 exact⟨_,rfl,al.out,aT.out⟩
theorem G9 (w:World) (h:St w sb mb lb ty o c rv l) (ae:c.ph=2) (hB:0≤c.B∧c.B≤20) (dP:c.wr=true→c.i<c.rc.length) (di:c.rc.length≤1000000) (fy:c.i<1000) (hj:c.base+(1+c.nr+c.B.toNat*c.wd+c.i)<l.length) (fL:1+c.nr+c.B.toNat*c.wd≤1000000):Calls Tryz.prog 168 #[.pointer (some ⟨sb,0,none⟩)] w (Did sb mb lb ty o w rv (c.word l (1+c.nr+c.B.toNat*c.wd) (·.go 3)).1 (c.word l (1+c.nr+c.B.toNat*c.wd) (·.go 3)).2 (.tuple #[])):=by
 obtain⟨aA,bh,am,HF,cL,ct,dn,cQ⟩:=h.start;clear am h;have bP:=hid ae;clear ae;obtain⟨u0,bC,ak⟩:=aA.out.op.row;have c10_0:=ak.ph 10 2 bP;clear ak bC;have fV:=hid fun W (h:St W sb mb lb ty o c rv l)=>pT sb mb lb ty o c rv l c.B W h hB
 clear hB;obtain⟨FR,kY⟩:∃ x,1+c.nr+c.B.toNat*c.wd=x:=⟨_,rfl⟩;rw[kY] at fV hj fL ⊢;clear kY;have fc:=hid fun W (rv:Value) (h:St W sb mb lb ty o c rv l)=>fR sb mb lb ty o c rv l (FR) W h dP di fy hj fL
 clear dP di fy hj fL;rw[Kc.word_eq]
 by_cases ao:c.wd≤c.i+1
 ·rw[if_pos ao];have hd:decide ((c.wd:Int)≤(c.i:Int)+1)=true:=decide_eq_true (by omega);rw[hd] at fc;clear ao hd;go_enter Tryz.func168,Tryz.ntmps168;go_wp2_with fail;refine ea (S:=(fun w':World=>w'.cell? ⟨sb,14,none⟩=some (.int .u32 c.B))) aA bh (fun al=>let ⟨_,_,ak⟩:=al.out.op.row;(ak.cell 14).trans rfl) fun w1 al aT hHeld=>?_
  refine ai 0 1 2 3 ?_;refine ai 4 5 6 7 ?_;refine aX 8 ?_;refine aV 9 (fun K hK=>?_)
  ·go_simp;refine(fV.out _ al.out).mono ?_;rintro ex w2 ⟨rfl,hb⟩;have aL:=hid (al.out.below hb);have bk:=hid (aT.out.trans (Mv.below hb _));clear hb;obtain⟨u2,bI,av⟩:=aL.out.op.row;have ap:(fun w':World=>w'.cell? ⟨sb,14,none⟩=some (.int .u32 c.B)) w2:=(av.cell 14).trans rfl;clear av bI;refine kH hK ap fun hHeld=>?_
   clear hK K;refine aV 10 (fun K hK=>?_)
   ·go_simp;refine(fc.out _ _ aL.out).mono (fz bk fun w3 rv3 aZ bx=>?_);obtain⟨u3,eU,bS⟩:=aZ.out.op.row;have aN:(fun w':World=>w'.cell? ⟨sb,14,none⟩=some (.int .u32 c.B)) w3:=(bS.cell 14).trans rfl;clear bS eU;refine kH hK aN fun hHeld=>?_
    clear hK K;refine aY ?_;clear hHeld aN;go_wp2_with fail;refine(dy sb mb lb ty o _ _ _ 3 3 _ aZ.out rfl).mono (cu bx fun w4 db eF=>?_);go_wp2_with fail
    go_end0
    exact⟨_,rfl,db.out,eF.out⟩
 ·rw[if_neg ao];have hd:decide ((c.wd:Int)≤(c.i:Int)+1)=false:=decide_eq_false (by omega);rw[hd] at fc;clear ao hd;go_enter Tryz.func168,Tryz.ntmps168;go_wp2_with fail;refine ea (S:=(fun w':World=>w'.cell? ⟨sb,14,none⟩=some (.int .u32 c.B))) aA bh (fun al=>let ⟨_,_,ak⟩:=al.out.op.row;(ak.cell 14).trans rfl) fun w1 al aT hHeld=>?_
  refine ai 0 1 2 3 ?_;refine ai 4 5 6 7 ?_;refine aX 8 ?_;refine aV 9 (fun K hK=>?_)
  ·go_simp;refine(fV.out _ al.out).mono ?_;rintro ex w2 ⟨rfl,hb⟩;have aL:=hid (al.out.below hb);have bk:=hid (aT.out.trans (Mv.below hb _));clear hb;obtain⟨u2,bI,av⟩:=aL.out.op.row;have ap:(fun w':World=>w'.cell? ⟨sb,14,none⟩=some (.int .u32 c.B)) w2:=(av.cell 14).trans rfl;clear av bI;refine kH hK ap fun hHeld=>?_
   clear hK K;refine aV 10 (fun K hK=>?_)
   ·go_simp;refine(fc.out _ _ aL.out).mono (fz bk fun w3 rv3 aZ bx=>?_);obtain⟨u3,eU,bS⟩:=aZ.out.op.row;have aN:(fun w':World=>w'.cell? ⟨sb,14,none⟩=some (.int .u32 c.B)) w3:=(bS.cell 14).trans rfl;clear bS eU;refine kH hK aN fun hHeld=>?_
    clear hK K;refine aY ?_;clear hHeld aN;go_wp2_with fail
    go_end0
    exact⟨_,rfl,aZ.out,bx.out⟩
theorem Ha (w:World) (h:St w sb mb lb ty o c rv l) (ae:c.ph=3) (hj:c.base+0<l.length):Calls Tryz.prog 168 #[.pointer (some ⟨sb,0,none⟩)] w (Did sb mb lb ty o w rv (c.fin 0) (c.wrm l 0 c.B) (.tuple #[])):=by
 obtain⟨aA,bh,am,HF,cL,ct,dn,cQ⟩:=h.start;clear am h;have bP:=hid ae;clear ae;obtain⟨u0,bC,ak⟩:=aA.out.op.row;have c10_0:=ak.ph 10 3 bP;clear ak bC;have HW:=hid fun W (h:St W sb mb lb ty o c rv l)=>ef sb mb lb ty o c rv l 0 0 c.B W h (by omega) hj ⟨HF.out.B0,HF.out.B1⟩
 clear hj;go_enter Tryz.func168,Tryz.ntmps168;go_wp2_with fail;refine ea (S:=(fun w':World=>w'.cell? ⟨sb,14,none⟩=some (.int .u32 c.B))) aA bh (fun al=>let ⟨_,_,ak⟩:=al.out.op.row;(ak.cell 14).trans rfl) fun w1 al aT hHeld=>?_
 refine ai 0 1 2 3 ?_;refine ai 4 5 6 7 ?_;refine aV 8 (fun K hK=>?_)
 ·go_simp;refine(HW.out _ al.out).mono (cu aT fun w2 aL bk=>?_);obtain⟨u2,bI,av⟩:=aL.out.op.row;have ap:(fun w':World=>w'.cell? ⟨sb,14,none⟩=some (.int .u32 c.B)) w2:=(av.cell 14).trans rfl;clear av bI;refine kH hK ap fun hHeld=>?_
  clear hK K;refine aY ?_;clear hHeld ap;go_wp2_with fail;refine(fT sb mb lb ty o _ _ _ 0 _ aL.out).mono (fz bk fun w3 rv3 aZ bx=>?_);go_wp2_with fail
  go_end0
  exact⟨_,rfl,aZ.out,bx.out⟩
theorem G4 (w:World) (h:St w sb mb lb ty o c rv l) (ae:c.ph=0) (hs:1≤c.sl) (hj:c.base+0<l.length):Calls Tryz.prog 169 #[.pointer (some ⟨sb,0,none⟩)] w (Did sb mb lb ty o w rv (({ c with A:=c.rdm l 0%(c.sl:Int) }:Kc).go 1) l (.tuple #[])):=by
 obtain⟨aA,bh,am,HF,cL,ct,dn,cQ⟩:=h.start;clear am h;have bP:=hid ae;clear ae;obtain⟨u0,bC,ak⟩:=aA.out.op.row;have c10_0:=ak.ph 10 0 bP;have c9_0:=ak.at 9 (.int .i64 (c.rd:Int));clear ak bC;have gm:=HF.out.rd1;have m9:(0:Int)≤(c.rd:Int):=by omega
 have lh:(c.rd:Int)≤4:=by omega
 have bU:IntKind.i64.wrap (1+(c.rd:Int))=1+(c.rd:Int):=ag (by omega) (by omega);clear gm;have pJ:=hid fun W (h:St W sb mb lb ty o c rv l)=>fD sb mb lb ty o c rv l W h hs hj
 have bN:=HF.out.sl1;obtain⟨z,aP⟩:∃ x,c.rdm l 0%(c.sl:Int)=x:=⟨_,rfl⟩;have eJ:0≤z:=by rw[← aP];exact Int.emod_nonneg _ (by omega)
 have d8:z<16:=by have:=Int.emod_lt_of_pos (c.rdm l 0) (show(0:Int)<(c.sl:Int) by omega);omega
 rw[aP] at pJ;try rw[aP]
 have lO:=hid aP;clear aP hj hs bN;go_enter Tryz.func169,Tryz.ntmps169;go_wp2_with fail;refine(pJ.out _ aA.out).mono (cu bh fun w1 al aT=>?_);obtain⟨u1,iz,bV⟩:=al.out.op.row;have c13_1:=bV.at 13 (.int .u32 c.A);have f13_1:=bV.frozen 13;clear bV iz;go_wp2_with fail;obtain⟨aL,bk⟩:=qm (al.out.setA (z) ⟨eJ,by omega⟩) aT;go_wp2_with fail;refine(dy sb mb lb ty o _ _ _ 1 1 _ aL.out rfl).mono (cu bk fun w3 aZ bx=>?_);go_wp2_with fail
 go_end0
 exact⟨_,rfl,aZ.out,bx.out⟩
theorem G5 (w:World) (h:St w sb mb lb ty o c rv l) (ae:c.ph=1) (hj:c.base+(1+c.rd)<l.length):Calls Tryz.prog 169 #[.pointer (some ⟨sb,0,none⟩)] w (Did sb mb lb ty o w rv (c.go 2) (c.wrm l (1+c.rd) ((c.A+1)%4294967296)) (.tuple #[])):=by
 obtain⟨aA,bh,am,HF,cL,ct,dn,cQ⟩:=h.start;clear am h;have bP:=hid ae;clear ae;obtain⟨u0,bC,ak⟩:=aA.out.op.row;have c10_0:=ak.ph 10 1 bP;have c9_0:=ak.at 9 (.int .i64 (c.rd:Int));clear ak bC;have gm:=HF.out.rd1;have m9:(0:Int)≤(c.rd:Int):=by omega
 have lh:(c.rd:Int)≤4:=by omega
 have bU:IntKind.i64.wrap (1+(c.rd:Int))=1+(c.rd:Int):=ag (by omega) (by omega);clear gm;have HW:=hid fun W (h:St W sb mb lb ty o c rv l)=>ef sb mb lb ty o c rv l (1+(c.rd:Int)) (1+c.rd) ((c.A+1)%4294967296) W h (by omega) hj (by omega)
 clear hj;have hu:IntKind.u32.wrap (c.A+1)=(c.A+1)%4294967296:=by simp[IntKind.wrap,IntKind.signed,IntKind.bits]
 go_enter Tryz.func169,Tryz.ntmps169;go_wp2_with fail;refine ea (S:=(fun w':World=>w'.cell? ⟨sb,13,none⟩=some (.int .u32 c.A))) aA bh (fun al=>let ⟨_,_,ak⟩:=al.out.op.row;(ak.cell 13).trans rfl) fun w1 al aT hHeld=>?_
 refine ai 0 1 2 3 ?_;refine ai 4 5 6 7 ?_;refine bv 8 9 ?_;refine aV 10 (fun K hK=>?_)
 ·go_simp;refine(HW.out _ al.out).mono (cu aT fun w2 aL bk=>?_);obtain⟨u2,bI,av⟩:=aL.out.op.row;have ap:(fun w':World=>w'.cell? ⟨sb,13,none⟩=some (.int .u32 c.A)) w2:=(av.cell 13).trans rfl;clear av bI;refine kH hK ap fun hHeld=>?_
  clear hK K;refine aY ?_;clear hHeld ap;go_wp2_with fail;refine(dy sb mb lb ty o _ _ _ 2 2 _ aL.out rfl).mono (cu bk fun w3 aZ bx=>?_);go_wp2_with fail
  go_end0
  exact⟨_,rfl,aZ.out,bx.out⟩
theorem sh (w:World) (h:St w sb mb lb ty o c rv l) (ae:c.ph=2) (hs:1≤c.sl) (_ht:c.tr<1000) (hj:c.base+0<l.length) (he:c.rdm l 0%(c.sl:Int)=c.A):Calls Tryz.prog 169 #[.pointer (some ⟨sb,0,none⟩)] w (Did sb mb lb ty o w rv (c.go 3) l (.tuple #[])):=by
 obtain⟨aA,bh,am,HF,cL,ct,dn,cQ⟩:=h.start;clear am h;have bP:=hid ae;clear ae;obtain⟨u0,bC,ak⟩:=aA.out.op.row;have c10_0:=ak.ph 10 2 bP;have c9_0:=ak.at 9 (.int .i64 (c.rd:Int));clear ak bC;have gm:=HF.out.rd1;have m9:(0:Int)≤(c.rd:Int):=by omega
 have lh:(c.rd:Int)≤4:=by omega
 have bU:IntKind.i64.wrap (1+(c.rd:Int))=1+(c.rd:Int):=ag (by omega) (by omega);clear gm;have pJ:=hid fun W (h:St W sb mb lb ty o c rv l)=>fD sb mb lb ty o c rv l W h hs hj
 have bN:=HF.out.sl1;obtain⟨z,aP⟩:∃ x,c.rdm l 0%(c.sl:Int)=x:=⟨_,rfl⟩;have eJ:0≤z:=by rw[← aP];exact Int.emod_nonneg _ (by omega)
 have d8:z<16:=by have:=Int.emod_lt_of_pos (c.rdm l 0) (show(0:Int)<(c.sl:Int) by omega);omega
 rw[aP] at pJ;try rw[aP]
 have lO:=hid aP;clear aP hj hs bN;rw[lO.out] at he;have hd:(z==c.A)=true:=by simpa using he
 clear he;clear _ht;go_enter Tryz.func169,Tryz.ntmps169;go_wp2_with fail;refine ea (S:=(fun w':World=>w'.cell? ⟨sb,13,none⟩=some (.int .u32 c.A))) aA bh (fun al=>let ⟨_,_,ak⟩:=al.out.op.row;(ak.cell 13).trans rfl) fun w1 al aT hHeld=>?_
 refine ai 0 2 3 4 ?_;refine bv 5 6 ?_;refine aV 1 (fun K hK=>?_)
 ·go_simp;refine(pJ.out _ al.out).mono (cu aT fun w2 aL bk=>?_);obtain⟨u2,bI,av⟩:=aL.out.op.row;have ap:(fun w':World=>w'.cell? ⟨sb,13,none⟩=some (.int .u32 c.A)) w2:=(av.cell 13).trans rfl;clear av bI;refine kH hK ap fun hHeld=>?_
  clear hK K;refine aX 7 ?_;refine aY ?_;clear hHeld ap;go_wp2_with fail;refine(dy sb mb lb ty o _ _ _ 3 3 _ aL.out rfl).mono (cu bk fun w3 aZ bx=>?_);go_wp2_with fail
  go_end0
  exact⟨_,rfl,aZ.out,bx.out⟩
theorem qz (w:World) (h:St w sb mb lb ty o c rv l) (ae:c.ph=2) (hs:1≤c.sl) (ht:c.tr<1000) (hj:c.base+0<l.length) (he:¬ (c.rdm l 0%(c.sl:Int)=c.A)) (ao:¬ (c.cap≤c.tr+1)):Calls Tryz.prog 169 #[.pointer (some ⟨sb,0,none⟩)] w (Did sb mb lb ty o w rv (c.fail fun c1=>({ c1 with B:=1 }:Kc).go 4) l (.tuple #[])):=by
 obtain⟨aA,bh,am,HF,cL,ct,dn,cQ⟩:=h.start;clear am h;have bP:=hid ae;clear ae;obtain⟨u0,bC,ak⟩:=aA.out.op.row;have c10_0:=ak.ph 10 2 bP;have c9_0:=ak.at 9 (.int .i64 (c.rd:Int));clear ak bC;have gm:=HF.out.rd1;have m9:(0:Int)≤(c.rd:Int):=by omega
 have lh:(c.rd:Int)≤4:=by omega
 have bU:IntKind.i64.wrap (1+(c.rd:Int))=1+(c.rd:Int):=ag (by omega) (by omega);clear gm;have pJ:=hid fun W (h:St W sb mb lb ty o c rv l)=>fD sb mb lb ty o c rv l W h hs hj
 have bN:=HF.out.sl1;obtain⟨z,aP⟩:∃ x,c.rdm l 0%(c.sl:Int)=x:=⟨_,rfl⟩;have eJ:0≤z:=by rw[← aP];exact Int.emod_nonneg _ (by omega)
 have d8:z<16:=by have:=Int.emod_lt_of_pos (c.rdm l 0) (show(0:Int)<(c.sl:Int) by omega);omega
 rw[aP] at pJ;try rw[aP]
 have lO:=hid aP;clear aP hj hs bN;rw[lO.out] at he;have hd:(z==c.A)=false:=by simpa using he
 clear he;have kv:=fun W (h:St W sb mb lb ty o c rv l)=>l4 sb mb lb ty o c rv l W h ht
 have qU:decide ((c.cap:Int)≤(c.tr:Int)+1)=false:=decide_eq_false (by omega);rw[qU] at kv;have rV:=hid kv;clear kv qU;unfold Kc.fail;simp only[ge_iff_le];rw[if_neg ao];clear ao ht;go_enter Tryz.func169,Tryz.ntmps169;go_wp2_with fail;refine ea (S:=(fun w':World=>w'.cell? ⟨sb,13,none⟩=some (.int .u32 c.A))) aA bh (fun al=>let ⟨_,_,ak⟩:=al.out.op.row;(ak.cell 13).trans rfl) fun w1 al aT hHeld=>?_
 refine ai 0 2 3 4 ?_;refine bv 5 6 ?_;refine aV 1 (fun K hK=>?_)
 ·go_simp;refine(pJ.out _ al.out).mono (cu aT fun w2 aL bk=>?_);obtain⟨u2,bI,av⟩:=aL.out.op.row;have ap:(fun w':World=>w'.cell? ⟨sb,13,none⟩=some (.int .u32 c.A)) w2:=(av.cell 13).trans rfl;clear av bI;refine kH hK ap fun hHeld=>?_
  clear hK K;refine aX 7 ?_;refine aY ?_;clear hHeld ap;go_wp2_with fail;refine(rV.out _ aL.out).mono (fz bk fun w3 rv3 aZ bx=>?_);go_wp2_with fail
  go_end0
  exact⟨_,rfl,aZ.out,bx.out⟩
theorem sg (w:World) (h:St w sb mb lb ty o c rv l) (ae:c.ph=2) (hs:1≤c.sl) (ht:c.tr<1000) (hj:c.base+0<l.length) (he:¬ (c.rdm l 0%(c.sl:Int)=c.A)) (ao:c.cap≤c.tr+1):Calls Tryz.prog 169 #[.pointer (some ⟨sb,0,none⟩)] w (Did sb mb lb ty o w rv (c.fail fun c1=>({ c1 with B:=1 }:Kc).go 4) l (.tuple #[])):=by
 obtain⟨aA,bh,am,HF,cL,ct,dn,cQ⟩:=h.start;clear am h;have bP:=hid ae;clear ae;obtain⟨u0,bC,ak⟩:=aA.out.op.row;have c10_0:=ak.ph 10 2 bP;have c9_0:=ak.at 9 (.int .i64 (c.rd:Int));clear ak bC;have gm:=HF.out.rd1;have m9:(0:Int)≤(c.rd:Int):=by omega
 have lh:(c.rd:Int)≤4:=by omega
 have bU:IntKind.i64.wrap (1+(c.rd:Int))=1+(c.rd:Int):=ag (by omega) (by omega);clear gm;have pJ:=hid fun W (h:St W sb mb lb ty o c rv l)=>fD sb mb lb ty o c rv l W h hs hj
 have bN:=HF.out.sl1;obtain⟨z,aP⟩:∃ x,c.rdm l 0%(c.sl:Int)=x:=⟨_,rfl⟩;have eJ:0≤z:=by rw[← aP];exact Int.emod_nonneg _ (by omega)
 have d8:z<16:=by have:=Int.emod_lt_of_pos (c.rdm l 0) (show(0:Int)<(c.sl:Int) by omega);omega
 rw[aP] at pJ;try rw[aP]
 have lO:=hid aP;clear aP hj hs bN;rw[lO.out] at he;have hd:(z==c.A)=false:=by simpa using he
 clear he;have kv:=fun W (h:St W sb mb lb ty o c rv l)=>l4 sb mb lb ty o c rv l W h ht
 have qU:decide ((c.cap:Int)≤(c.tr:Int)+1)=true:=decide_eq_true (by omega);rw[qU] at kv;have rV:=hid kv;clear kv qU;unfold Kc.fail;simp only[ge_iff_le];rw[if_pos ao];clear ao ht;go_enter Tryz.func169,Tryz.ntmps169;go_wp2_with fail;refine ea (S:=(fun w':World=>w'.cell? ⟨sb,13,none⟩=some (.int .u32 c.A))) aA bh (fun al=>let ⟨_,_,ak⟩:=al.out.op.row;(ak.cell 13).trans rfl) fun w1 al aT hHeld=>?_
 refine ai 0 2 3 4 ?_;refine bv 5 6 ?_;refine aV 1 (fun K hK=>?_)
 ·go_simp;refine(pJ.out _ al.out).mono (cu aT fun w2 aL bk=>?_);obtain⟨u2,bI,av⟩:=aL.out.op.row;have ap:(fun w':World=>w'.cell? ⟨sb,13,none⟩=some (.int .u32 c.A)) w2:=(av.cell 13).trans rfl;clear av bI;refine kH hK ap fun hHeld=>?_
  clear hK K;refine aX 7 ?_;refine aY ?_;clear hHeld ap;go_wp2_with fail;refine(rV.out _ aL.out).mono (fz bk fun w3 rv3 aZ bx=>?_);obtain⟨u3,eU,bS⟩:=aZ.out.op.row;have c14_3:=bS.at 14 (.int .u32 c.B);have f14_3:=bS.frozen 14;clear bS eU;go_wp2_with fail;obtain⟨db,eF⟩:=qm (aZ.out.setB (1) ⟨by omega,by omega⟩) bx;go_wp2_with fail;refine(dy sb mb lb ty o _ _ _ 4 4 _ db.out rfl).mono (cu eF fun w5 gD lU=>?_);go_wp2_with fail
  go_end0
  exact⟨_,rfl,gD.out,lU.out⟩
theorem G6 (w:World) (h:St w sb mb lb ty o c rv l) (ae:c.ph=3) (hB:0≤c.A∧c.A≤20) (dP:c.wr=true→c.i<c.rc.length) (di:c.rc.length≤1000000) (fy:c.i<1000) (hj:c.base+(1+c.nr+c.A.toNat*c.wd+c.i)<l.length) (fL:1+c.nr+c.A.toNat*c.wd≤1000000):Calls Tryz.prog 169 #[.pointer (some ⟨sb,0,none⟩)] w (Did sb mb lb ty o w rv (c.word l (1+c.nr+c.A.toNat*c.wd) (·.go 4)).1 (c.word l (1+c.nr+c.A.toNat*c.wd) (·.go 4)).2 (.tuple #[])):=by
 obtain⟨aA,bh,am,HF,cL,ct,dn,cQ⟩:=h.start;clear am h;have bP:=hid ae;clear ae;obtain⟨u0,bC,ak⟩:=aA.out.op.row;have c10_0:=ak.ph 10 3 bP;have c9_0:=ak.at 9 (.int .i64 (c.rd:Int));clear ak bC;have gm:=HF.out.rd1;have m9:(0:Int)≤(c.rd:Int):=by omega
 have lh:(c.rd:Int)≤4:=by omega
 have bU:IntKind.i64.wrap (1+(c.rd:Int))=1+(c.rd:Int):=ag (by omega) (by omega);clear gm;have fV:=hid fun W (h:St W sb mb lb ty o c rv l)=>pT sb mb lb ty o c rv l c.A W h hB
 clear hB;obtain⟨FR,kY⟩:∃ x,1+c.nr+c.A.toNat*c.wd=x:=⟨_,rfl⟩;rw[kY] at fV hj fL ⊢;clear kY;have fc:=hid fun W (rv:Value) (h:St W sb mb lb ty o c rv l)=>fR sb mb lb ty o c rv l (FR) W h dP di fy hj fL
 clear dP di fy hj fL;rw[Kc.word_eq]
 by_cases ao:c.wd≤c.i+1
 ·rw[if_pos ao];have hd:decide ((c.wd:Int)≤(c.i:Int)+1)=true:=decide_eq_true (by omega);rw[hd] at fc;clear ao hd;go_enter Tryz.func169,Tryz.ntmps169;go_wp2_with fail;refine ea (S:=(fun w':World=>w'.cell? ⟨sb,13,none⟩=some (.int .u32 c.A))) aA bh (fun al=>let ⟨_,_,ak⟩:=al.out.op.row;(ak.cell 13).trans rfl) fun w1 al aT hHeld=>?_
  refine ai 0 1 2 3 ?_;refine ai 4 5 6 7 ?_;refine aX 8 ?_;refine aV 9 (fun K hK=>?_)
  ·go_simp;refine(fV.out _ al.out).mono ?_;rintro ex w2 ⟨rfl,hb⟩;have aL:=hid (al.out.below hb);have bk:=hid (aT.out.trans (Mv.below hb _));clear hb;obtain⟨u2,bI,av⟩:=aL.out.op.row;have ap:(fun w':World=>w'.cell? ⟨sb,13,none⟩=some (.int .u32 c.A)) w2:=(av.cell 13).trans rfl;clear av bI;refine kH hK ap fun hHeld=>?_
   clear hK K;refine aV 10 (fun K hK=>?_)
   ·go_simp;refine(fc.out _ _ aL.out).mono (fz bk fun w3 rv3 aZ bx=>?_);obtain⟨u3,eU,bS⟩:=aZ.out.op.row;have aN:(fun w':World=>w'.cell? ⟨sb,13,none⟩=some (.int .u32 c.A)) w3:=(bS.cell 13).trans rfl;clear bS eU;refine kH hK aN fun hHeld=>?_
    clear hK K;refine aY ?_;clear hHeld aN;go_wp2_with fail;refine(dy sb mb lb ty o _ _ _ 4 4 _ aZ.out rfl).mono (cu bx fun w4 db eF=>?_);go_wp2_with fail
    go_end0
    exact⟨_,rfl,db.out,eF.out⟩
 ·rw[if_neg ao];have hd:decide ((c.wd:Int)≤(c.i:Int)+1)=false:=decide_eq_false (by omega);rw[hd] at fc;clear ao hd;go_enter Tryz.func169,Tryz.ntmps169;go_wp2_with fail;refine ea (S:=(fun w':World=>w'.cell? ⟨sb,13,none⟩=some (.int .u32 c.A))) aA bh (fun al=>let ⟨_,_,ak⟩:=al.out.op.row;(ak.cell 13).trans rfl) fun w1 al aT hHeld=>?_
  refine ai 0 1 2 3 ?_;refine ai 4 5 6 7 ?_;refine aX 8 ?_;refine aV 9 (fun K hK=>?_)
  ·go_simp;refine(fV.out _ al.out).mono ?_;rintro ex w2 ⟨rfl,hb⟩;have aL:=hid (al.out.below hb);have bk:=hid (aT.out.trans (Mv.below hb _));clear hb;obtain⟨u2,bI,av⟩:=aL.out.op.row;have ap:(fun w':World=>w'.cell? ⟨sb,13,none⟩=some (.int .u32 c.A)) w2:=(av.cell 13).trans rfl;clear av bI;refine kH hK ap fun hHeld=>?_
   clear hK K;refine aV 10 (fun K hK=>?_)
   ·go_simp;refine(fc.out _ _ aL.out).mono (fz bk fun w3 rv3 aZ bx=>?_);obtain⟨u3,eU,bS⟩:=aZ.out.op.row;have aN:(fun w':World=>w'.cell? ⟨sb,13,none⟩=some (.int .u32 c.A)) w3:=(bS.cell 13).trans rfl;clear bS eU;refine kH hK aN fun hHeld=>?_
    clear hK K;refine aY ?_;clear hHeld aN;go_wp2_with fail
    go_end0
    exact⟨_,rfl,aZ.out,bx.out⟩
theorem G7 (w:World) (h:St w sb mb lb ty o c rv l) (ae:c.ph=4) (hj:c.base+(1+c.rd)<l.length):Calls Tryz.prog 169 #[.pointer (some ⟨sb,0,none⟩)] w (Did sb mb lb ty o w rv (c.fin c.B) (c.wrm l (1+c.rd) 0) (.tuple #[])):=by
 obtain⟨aA,bh,am,HF,cL,ct,dn,cQ⟩:=h.start;clear am h;have bP:=hid ae;clear ae;obtain⟨u0,bC,ak⟩:=aA.out.op.row;have c10_0:=ak.ph 10 4 bP;have c9_0:=ak.at 9 (.int .i64 (c.rd:Int));clear ak bC;have gm:=HF.out.rd1;have m9:(0:Int)≤(c.rd:Int):=by omega
 have lh:(c.rd:Int)≤4:=by omega
 have bU:IntKind.i64.wrap (1+(c.rd:Int))=1+(c.rd:Int):=ag (by omega) (by omega);clear gm;have HW:=hid fun W (h:St W sb mb lb ty o c rv l)=>ef sb mb lb ty o c rv l (1+(c.rd:Int)) (1+c.rd) 0 W h (by omega) hj ⟨by omega,by omega⟩
 clear hj;have Ny:=HF.out.B0;have bF:=HF.out.B1;have e1:IntKind.i64.wrap c.B=c.B:=ag (by omega) (by omega);go_enter Tryz.func169,Tryz.ntmps169;go_wp2_with fail;refine(HW.out _ aA.out).mono (cu bh fun w1 al aT=>?_);go_wp2_with fail;have RY:=hid fun W (h:St W sb mb lb ty o c rv (c.wrm l (1+c.rd) 0))=>fT sb mb lb ty o c rv (c.wrm l (1+c.rd) 0) c.B W h
 refine ea (S:=(fun w':World=>w'.cell? ⟨sb,14,none⟩=some (.int .u32 c.B))) al aT (fun aL=>let ⟨_,_,bV⟩:=aL.out.op.row;(bV.cell 14).trans rfl) fun w2 aL bk hHeld=>?_
 refine ai 0 1 2 3 ?_;refine ai 4 5 6 7 ?_;refine aX 8 ?_;refine aV 9 (fun K hK=>?_)
 ·go_simp;refine(RY.out _ aL.out).mono (fz bk fun w3 rv3 aZ bx=>?_);obtain⟨u3,eU,bS⟩:=aZ.out.op.row;have aN:(fun w':World=>w'.cell? ⟨sb,14,none⟩=some (.int .u32 c.B)) w3:=(bS.cell 14).trans rfl;clear bS eU;refine kH hK aN fun hHeld=>?_
  clear hK K;refine aY ?_;clear hHeld aN;go_wp2_with fail
  go_end0
  exact⟨_,rfl,aZ.out,bx.out⟩
end
end Go.Proofs.YtabfcjohdgjkoaaGreatDoor
