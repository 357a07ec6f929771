/- The kind four: each step of a write, and of a read. -/
import Derived.Test.YtabfcjohdgjkoaaGreatDoorZcE
namespace Go.Proofs.YtabfcjohdgjkoaaGreatDoor
open Go.RowKit
open Go.Lib (hid)
attribute [local go_sem] Oper.semAt_some
set_option maxHeartbeats 1000000
set_option maxRecDepth 100000
abbrev Kt (a0:Nat) (a1:Kc) (w':World):Prop:=w'.cell? ⟨a0,13,none⟩=some (.int .u32 a1.A)∧w'.cell? ⟨a0,14,none⟩=some (.int .u32 a1.B)∧w'.cell? ⟨a0,1,none⟩=some (.int .i64 (a1.wd:Int))
abbrev FK (a0:Nat) (a1:Kc) (w':World):Prop:=w'.cell? ⟨a0,13,none⟩=some (.int .u32 a1.A)∧w'.cell? ⟨a0,14,none⟩=some (.int .u32 a1.B)
namespace Kc
def wst (c:Kc) (l:List Int) (frm:Nat):Kc:={ c with rc:=if c.wr then c.rc else c.rc++[c.rdm l (frm+c.i)],i:=c.i+1 }
def wmem (c:Kc) (l:List Int) (frm:Nat):List Int:=if c.wr then c.wrm l (frm+c.i) (c.rc.getD c.i 0) else l
theorem word_eq (c:Kc) (l:List Int) (frm:Nat) (last:Kc→Kc):c.word l frm last=(if c.wd≤c.i+1 then last (c.wst l frm) else c.wst l frm,c.wmem l frm):=by
 unfold word wst wmem;cases c.wr <;> rfl
end Kc
section
variable {sb mb lb:Nat} {ty:TypeId} {o:Ob} {c:Kc} {rv:Value} {l:List Int}
theorem St.setA {w:World} (h:St w sb mb lb ty o c rv l) (a:Int) (ha:0≤a∧a<4294967296):St (w.setCell ⟨sb,13,none⟩ (.int .u32 a)) sb mb lb ty o { c with A:=a } rv l∧Mv sb mb lb w (w.setCell ⟨sb,13,none⟩ (.int .u32 a)) rv rv:=by
 obtain⟨u,hu,hr⟩:=h.op.row;have ht:Tch (fun b=>b=sb) w (w.setCell ⟨sb,13,none⟩ (.int .u32 a)):=(Tch.refl (fun b=>b=sb) w).set (b:=sb) rfl 13 _;have hf:=h.op.fits;exact⟨h.upd (c':={ c with A:=a }) ht hu (hr.set 13 _) ⟨hf.kd,hf.wd,hf.sl,hf.cap,hf.nr,hf.wd1,hf.nr1,hf.sl1,hf.cap1,hf.rd1,hf.base1,hf.size1,hf.i1,hf.tr1,hf.st1,ha.1,ha.2,hf.B0,hf.B1⟩ (.inl ⟨rfl,rfl⟩),Mv.own ht (.inl rfl)⟩
theorem St.setB {w:World} (h:St w sb mb lb ty o c rv l) (a:Int) (ha:0≤a∧a<4294967296):St (w.setCell ⟨sb,14,none⟩ (.int .u32 a)) sb mb lb ty o { c with B:=a } rv l∧Mv sb mb lb w (w.setCell ⟨sb,14,none⟩ (.int .u32 a)) rv rv:=by
 obtain⟨u,hu,hr⟩:=h.op.row;have ht:Tch (fun b=>b=sb) w (w.setCell ⟨sb,14,none⟩ (.int .u32 a)):=(Tch.refl (fun b=>b=sb) w).set (b:=sb) rfl 14 _;have hf:=h.op.fits;exact⟨h.upd (c':={ c with B:=a }) ht hu (hr.set 14 _) ⟨hf.kd,hf.wd,hf.sl,hf.cap,hf.nr,hf.wd1,hf.nr1,hf.sl1,hf.cap1,hf.rd1,hf.base1,hf.size1,hf.i1,hf.tr1,hf.st1,hf.A0,hf.A1,ha.1,ha.2⟩ (.inl ⟨rfl,rfl⟩),Mv.own ht (.inl rfl)⟩
end
theorem lX (a b:Nat) (ha:a<4294967296) (hb:b<4294967296):bits .and .u32 (a:Int) (b:Int)=((a&&& b:Nat):Int):=by
 have hx:a&&& b<2 ^ 32:=Nat.and_lt_two_pow _ (by omega)
 have h1:(BitVec.ofInt 32 (a:Int)).toNat=a:=by
  rw[BitVec.ofInt_natCast,BitVec.toNat_ofNat];exact Nat.mod_eq_of_lt (by omega)
 have h2:(BitVec.ofInt 32 (b:Int)).toNat=b:=by
  rw[BitVec.ofInt_natCast,BitVec.toNat_ofNat];exact Nat.mod_eq_of_lt (by omega)
 show IntKind.u32.wrap ((BitVec.ofInt 32 (a:Int)&&& BitVec.ofInt 32 (b:Int)).toNat:Int)=_;rw[BitVec.toNat_and,h1,h2,aK (by omega) (by omega)]
theorem lp {a b:Int} (h1:0≤a) (h2:a≤20) (h3:0≤b) (h4:b≤16):0≤a*b∧a*b≤320:=
 ⟨Int.mul_nonneg h1 h3,Int.le_trans (Int.mul_le_mul h2 h4 h3 (by omega)) (by omega)⟩
theorem nd {z:Int} (h0:0≤z) (h1:z<4294967296):bits BinOp.and IntKind.u32 z 1=z%2:=by
 have:=lX z.toNat 1 (by omega) (by omega);rw[show((z.toNat:Nat):Int)=z by omega,Nat.and_one_is_mod] at this;rw[show(1:Int)=((1:Nat):Int) by rfl,this];omega
theorem IL {z:Int} (h0:0≤z) (h1:z<4294967296):(1 - bits BinOp.and IntKind.u32 z 1)%4294967296=Kc.one z:=by
 rw[nd h0 h1];unfold Kc.one;omega
theorem EC {z:Int} (h0:0≤z) (h1:z<4294967296):IntKind.u32.wrap (1 - bits BinOp.and IntKind.u32 z 1)=Kc.one z:=by
 rw[nd h0 h1];unfold Kc.one;simp[IntKind.wrap,IntKind.signed,IntKind.bits];omega
theorem mw (z:Int):0≤Kc.one z∧Kc.one z≤1:=by
 unfold Kc.one;omega
section
variable (sb mb lb:Nat) (ty:TypeId) (o:Ob) (c:Kc) (rv:Value) (l:List Int)
theorem fR (frm:Nat) (w:World) (h:St w sb mb lb ty o c rv l) (hw:c.wr=true→c.i<c.rc.length) (hr:c.rc.length≤1000000) (fy:c.i<1000) (hj:c.base+(frm+c.i)<l.length) (fL:frm≤1000000):
  Calls Tryz.prog 203 #[.pointer (some ⟨sb,0,none⟩),.int .i64 (frm:Int)] w (Did sb mb lb ty o w rv (c.wst l frm) (c.wmem l frm) (.bool (decide ((c.wd:Int)≤(c.i:Int)+1)))):=by
 unfold Kc.wst Kc.wmem;cases dP:c.wr
 ·simp only[Bool.false_eq_true,if_false];exact Fp sb mb lb ty o c rv l frm w h dP hr fy hj fL
 ·simp only[if_true];exact Fq sb mb lb ty o c rv l frm w h dP (hw dP) fy hj fL
theorem nU (w:World) (h:St w sb mb lb ty o c rv l) (hA:0≤c.A∧c.A≤1) (hB:0≤c.B∧c.B≤1):Calls Tryz.prog 204 #[.pointer (some ⟨sb,0,none⟩)] w fun e w'=>e=.returned (.int .i64 ((4+(2*c.A+c.B).toNat*c.wd:Nat):Int))∧Below w.heap.size w w':=by
 obtain⟨aA,bh,am,HF,cL,ct,dn,cQ⟩:=h.start;clear am h;have pH:=hid (Below.refl w.heap.size w);have ay:=HF.out.wd1;have e1:IntKind.u32.wrap (2*c.A)=2*c.A:=aK (by omega) (by omega);have e2:IntKind.u32.wrap (2*c.A+c.B)=2*c.A+c.B:=aK (by omega) (by omega);have m1:=lp (a:=2*c.A+c.B) (b:=(c.wd:Int)) (by omega) (by omega) (by omega) (by omega);have e3:IntKind.i64.wrap ((2*c.A+c.B)*(c.wd:Int))=(2*c.A+c.B)*(c.wd:Int):=ag (by omega) (by omega);have e4:IntKind.i64.wrap (4+(2*c.A+c.B)*(c.wd:Int))=4+(2*c.A+c.B)*(c.wd:Int):=ag (by omega) (by omega);have e5:IntKind.i64.wrap (2*c.A+c.B)=2*c.A+c.B:=ag (by omega) (by omega)
 have hq:((4+(2*c.A+c.B).toNat*c.wd:Nat):Int)=4+(2*c.A+c.B)*(c.wd:Int):=by
  rw[Int.natCast_add,Int.natCast_mul,Int.toNat_of_nonneg (by omega)];rfl
 rw[hq];have a0:0≤2*c.A:=by omega
 have a1:2*c.A<4294967296:=by omega
 have a2:0≤2*c.A+c.B:=by omega
 have a3:2*c.A+c.B<4294967296:=by omega
 clear hq m1 hA hB ay;go_enter Tryz.func204,Tryz.ntmps204;go_wp2_with fail;obtain⟨u0,bC,ak⟩:=aA.out.drew.op.row;have dc:(Kt sb c) w.drew:=⟨(ak.cell 13).trans rfl,(ak.cell 14).trans rfl,(ak.cell 1).trans (by rw[← cL.out];rfl)⟩;have al:=hid aA.out.drew;have aT:=hid (bh.out.trans (Mv.drew w _));clear ak bC;have bT:=hid pH.out.drew;refine fg dc fun w1 bq hHeld=>?_
 rw[bq] at al aT bT;clear bq dc;refine ai 0 1 2 3 ?_;refine ai 4 5 6 7 ?_;refine ai 8 9 10 11 ?_;refine ai 12 13 14 15 ?_;refine ai 16 17 18 19 ?_;refine bv 20 21 ?_;refine aY ?_;clear hHeld;go_wp2_with fail;go_ret;exact⟨rfl,bT.out⟩
theorem Dy (w:World) (h:St w sb mb lb ty o c rv l) (ae:c.ph=0) (hj:c.base+1<l.length):Calls Tryz.prog 160 #[.pointer (some ⟨sb,0,none⟩)] w (Did sb mb lb ty o w rv (({ c with A:=Kc.one (c.rdm l 1) }:Kc).go 1) l (.tuple #[])):=by
 obtain⟨aA,bh,am,HF,cL,ct,dn,cQ⟩:=h.start;clear am h;have bP:=hid ae;clear ae;obtain⟨u0,bC,ak⟩:=aA.out.op.row;have c10_0:=ak.ph 10 0 bP;clear ak bC;have hz:=cR hj aA.out.mem.w32;have HR:=hid fun W (h:St W sb mb lb ty o c rv l)=>cS sb mb lb ty o c rv l 1 1 W h (by omega) hj
 obtain⟨z,aP⟩:∃ x,c.rdm l 1=x:=⟨_,rfl⟩;rw[aP] at HR hz;try rw[aP]
 have lH:=hid aP;clear aP hj;have eJ:=hz.1;have d8:=hz.2;clear hz;have mi:=IL eJ d8;have hb:=mw z;obtain⟨Z,hZ⟩:∃ x,Kc.one z=x:=⟨_,rfl⟩;rw[hZ] at mi hb ⊢;clear hZ;go_enter Tryz.func160,Tryz.ntmps160;go_wp2_with fail;refine(HR.out _ aA.out).mono (cu bh fun w1 al aT=>?_);obtain⟨u1,iz,bV⟩:=al.out.op.row;have c13_1:=bV.at 13 (.int .u32 c.A);have f13_1:=bV.frozen 13;clear bV iz;go_wp2_with fail;obtain⟨aL,bk⟩:=qm (al.out.setA (Z) (by omega)) aT;go_wp2_with fail;refine(dy sb mb lb ty o _ _ _ 1 1 _ aL.out rfl).mono (cu bk fun w3 aZ bx=>?_);go_wp2_with fail
 go_end0
 exact⟨_,rfl,aZ.out,bx.out⟩
theorem Dz (w:World) (h:St w sb mb lb ty o c rv l) (ae:c.ph=1) (hA:0≤c.A∧c.A≤1) (hj:c.base+(2+c.A.toNat)<l.length):Calls Tryz.prog 160 #[.pointer (some ⟨sb,0,none⟩)] w (Did sb mb lb ty o w rv (({ c with B:=Kc.one (c.rdm l (2+c.A.toNat)) }:Kc).go 2) l (.tuple #[])):=by
 obtain⟨aA,bh,am,HF,cL,ct,dn,cQ⟩:=h.start;clear am h;have bP:=hid ae;clear ae;obtain⟨u0,bC,ak⟩:=aA.out.op.row;have c10_0:=ak.ph 10 1 bP;clear ak bC;have hz:=cR hj aA.out.mem.w32;have HR:=hid fun W (h:St W sb mb lb ty o c rv l)=>cS sb mb lb ty o c rv l (2+c.A) (2+c.A.toNat) W h (by omega) hj
 obtain⟨z,aP⟩:∃ x,c.rdm l (2+c.A.toNat)=x:=⟨_,rfl⟩;rw[aP] at HR hz;try rw[aP]
 have lH:=hid aP;clear aP hj;have eJ:=hz.1;have d8:=hz.2;clear hz;have mi:=EC eJ d8;have hb:=mw z;obtain⟨Z,hZ⟩:∃ x,Kc.one z=x:=⟨_,rfl⟩;rw[hZ] at mi hb ⊢;clear hZ;have hs:IntKind.i64.wrap (2+c.A)=2+c.A:=ag (by omega) (by omega);have cO:IntKind.i64.wrap c.A=c.A:=ag (by omega) (by omega);have FW:=hA.1;have DQ:=hA.2;clear hA;go_enter Tryz.func160,Tryz.ntmps160;go_wp2_with fail;refine ea (S:=(fun w':World=>w'.cell? ⟨sb,13,none⟩=some (.int .u32 c.A))) aA bh (fun al=>let ⟨_,_,ak⟩:=al.out.op.row;(ak.cell 13).trans rfl) fun w1 al aT hHeld=>?_
 refine ai 0 1 2 3 ?_;refine ai 4 5 6 7 ?_;refine bv 8 9 ?_;refine aX 10 ?_;refine aV 11 (fun K hK=>?_)
 ·go_simp;refine(HR.out _ al.out).mono (cu aT fun w2 aL bk=>?_);obtain⟨u2,bI,av⟩:=aL.out.op.row;have ap:(fun w':World=>w'.cell? ⟨sb,13,none⟩=some (.int .u32 c.A)) w2:=(av.cell 13).trans rfl;have c14_2:=av.at 14 (.int .u32 c.B);have f14_2:=av.frozen 14;clear av bI;refine kH hK ap fun hHeld=>?_
  clear hK K;refine ai 12 13 14 15 ?_;refine aX 16 ?_;refine aV 17 (fun K hK=>?_)
  ·go_simp;obtain⟨aZ,bx⟩:=qm (aL.out.setB (Z) (by omega)) bk;obtain⟨u3,eU,bS⟩:=aZ.out.op.row;have aN:(fun w':World=>w'.cell? ⟨sb,13,none⟩=some (.int .u32 c.A)) (w2.setCell ⟨sb,14,none⟩ (.int .u32 (Z))):=(bS.cell 13).trans rfl;clear bS eU;refine kH hK aN fun hHeld=>?_
   clear hK K;refine aY ?_;clear hHeld aN;go_wp2_with fail;refine(dy sb mb lb ty o _ _ _ 2 2 _ aZ.out rfl).mono (cu bx fun w4 db eF=>?_);go_wp2_with fail
   go_end0
   exact⟨_,rfl,db.out,eF.out⟩
theorem DA (w:World) (h:St w sb mb lb ty o c rv l) (ae:c.ph=2) (hA:0≤c.A∧c.A≤1) (hB:0≤c.B∧c.B≤1) (dP:c.wr=true→c.i<c.rc.length) (di:c.rc.length≤1000000) (fy:c.i<1000) (hj:c.base+(4+(2*c.A+c.B).toNat*c.wd+c.i)<l.length) (fL:4+(2*c.A+c.B).toNat*c.wd≤1000000):Calls Tryz.prog 160 #[.pointer (some ⟨sb,0,none⟩)] w (Did sb mb lb ty o w rv (c.word l (4+(2*c.A+c.B).toNat*c.wd) (·.go 3)).1 (c.word l (4+(2*c.A+c.B).toNat*c.wd) (·.go 3)).2 (.tuple #[])):=by
 obtain⟨aA,bh,am,HF,cL,ct,dn,cQ⟩:=h.start;clear am h;have bP:=hid ae;clear ae;obtain⟨u0,bC,ak⟩:=aA.out.op.row;have c10_0:=ak.ph 10 2 bP;clear ak bC;have fV:=hid fun W (h:St W sb mb lb ty o c rv l)=>nU sb mb lb ty o c rv l W h hA hB
 clear hA hB;obtain⟨FR,kY⟩:∃ x,4+(2*c.A+c.B).toNat*c.wd=x:=⟨_,rfl⟩;rw[kY] at fV hj fL ⊢;clear kY;have fc:=hid fun W (rv:Value) (h:St W sb mb lb ty o c rv l)=>fR sb mb lb ty o c rv l (FR) W h dP di fy hj fL
 clear dP di fy hj fL;rw[Kc.word_eq]
 by_cases ao:c.wd≤c.i+1
 ·rw[if_pos ao];have hd:decide ((c.wd:Int)≤(c.i:Int)+1)=true:=decide_eq_true (by omega);rw[hd] at fc;clear ao hd;go_enter Tryz.func160,Tryz.ntmps160;go_wp2_with fail;refine ea (S:=(fun _:World=>True)) aA bh (fun al=>let ⟨_,_,ak⟩:=al.out.op.row;trivial) fun w1 al aT hHeld=>?_
  refine ai 0 1 2 3 ?_;refine aV 4 (fun K hK=>?_)
  ·go_simp;refine(fV.out _ al.out).mono ?_;rintro ex w2 ⟨rfl,hb⟩;have aL:=hid (al.out.below hb);have bk:=hid (aT.out.trans (Mv.below hb _));clear hb;have ap:(fun _:World=>True) w2:=trivial;refine kH hK ap fun hHeld=>?_
   clear hK K;refine aV 5 (fun K hK=>?_)
   ·go_simp;refine(fc.out _ _ aL.out).mono (fz bk fun w3 rv3 aZ bx=>?_);have aN:(fun _:World=>True) w3:=trivial;refine kH hK aN fun hHeld=>?_
    clear hK K;refine aY ?_;clear hHeld aN;go_wp2_with fail;refine(dy sb mb lb ty o _ _ _ 3 3 _ aZ.out rfl).mono (cu bx fun w4 db eF=>?_);go_wp2_with fail
    go_end0
    exact⟨_,rfl,db.out,eF.out⟩
 ·rw[if_neg ao];have hd:decide ((c.wd:Int)≤(c.i:Int)+1)=false:=decide_eq_false (by omega);rw[hd] at fc;clear ao hd;go_enter Tryz.func160,Tryz.ntmps160;go_wp2_with fail;refine ea (S:=(fun _:World=>True)) aA bh (fun al=>let ⟨_,_,ak⟩:=al.out.op.row;trivial) fun w1 al aT hHeld=>?_
  refine ai 0 1 2 3 ?_;refine aV 4 (fun K hK=>?_)
  ·go_simp;refine(fV.out _ al.out).mono ?_;rintro ex w2 ⟨rfl,hb⟩;have aL:=hid (al.out.below hb);have bk:=hid (aT.out.trans (Mv.below hb _));clear hb;have ap:(fun _:World=>True) w2:=trivial;refine kH hK ap fun hHeld=>?_
   clear hK K;refine aV 5 (fun K hK=>?_)
   ·go_simp;refine(fc.out _ _ aL.out).mono (fz bk fun w3 rv3 aZ bx=>?_);have aN:(fun _:World=>True) w3:=trivial;refine kH hK aN fun hHeld=>?_
    clear hK K;refine aY ?_;clear hHeld aN;go_wp2_with fail
    go_end0
    exact⟨_,rfl,aZ.out,bx.out⟩
theorem DB (w:World) (h:St w sb mb lb ty o c rv l) (ae:c.ph=3) (hA:0≤c.A∧c.A≤1) (hj:c.base+(2+c.A.toNat)<l.length):Calls Tryz.prog 160 #[.pointer (some ⟨sb,0,none⟩)] w (Did sb mb lb ty o w rv (c.go 4) (c.wrm l (2+c.A.toNat) c.B) (.tuple #[])):=by
 obtain⟨aA,bh,am,HF,cL,ct,dn,cQ⟩:=h.start;clear am h;have bP:=hid ae;clear ae;obtain⟨u0,bC,ak⟩:=aA.out.op.row;have c10_0:=ak.ph 10 3 bP;clear ak bC;have HW:=hid fun W (h:St W sb mb lb ty o c rv l)=>ef sb mb lb ty o c rv l (2+c.A) (2+c.A.toNat) c.B W h (by omega) hj ⟨HF.out.B0,HF.out.B1⟩
 clear hj;have hs:IntKind.i64.wrap (2+c.A)=2+c.A:=ag (by omega) (by omega);have cO:IntKind.i64.wrap c.A=c.A:=ag (by omega) (by omega);have FW:=hA.1;have DQ:=hA.2;clear hA;go_enter Tryz.func160,Tryz.ntmps160;go_wp2_with fail;refine ea (S:=(FK sb c)) aA bh (fun al=>let ⟨_,_,ak⟩:=al.out.op.row;⟨(ak.cell 13).trans rfl,(ak.cell 14).trans rfl⟩) fun w1 al aT hHeld=>?_
 refine ai 0 1 2 3 ?_;refine ai 4 5 6 7 ?_;refine ai 8 9 10 11 ?_;refine bv 12 13 ?_;refine aX 14 ?_;refine aV 15 (fun K hK=>?_)
 ·go_simp;refine(HW.out _ al.out).mono (cu aT fun w2 aL bk=>?_);obtain⟨u2,bI,av⟩:=aL.out.op.row;have ap:(FK sb c) w2:=⟨(av.cell 13).trans rfl,(av.cell 14).trans rfl⟩;clear av bI;refine kH hK ap fun hHeld=>?_
  clear hK K;refine aY ?_;clear hHeld ap;go_wp2_with fail;refine(dy sb mb lb ty o _ _ _ 4 4 _ aL.out rfl).mono (cu bk fun w3 aZ bx=>?_);go_wp2_with fail
  go_end0
  exact⟨_,rfl,aZ.out,bx.out⟩
theorem DC (w:World) (h:St w sb mb lb ty o c rv l) (ae:c.ph=4) (hj:c.base+0<l.length):Calls Tryz.prog 160 #[.pointer (some ⟨sb,0,none⟩)] w (Did sb mb lb ty o w rv (c.fin 0) (c.wrm l 0 c.A) (.tuple #[])):=by
 obtain⟨aA,bh,am,HF,cL,ct,dn,cQ⟩:=h.start;clear am h;have bP:=hid ae;clear ae;obtain⟨u0,bC,ak⟩:=aA.out.op.row;have c10_0:=ak.ph 10 4 bP;clear ak bC;have HW:=hid fun W (h:St W sb mb lb ty o c rv l)=>ef sb mb lb ty o c rv l 0 0 c.A W h (by omega) hj ⟨HF.out.A0,HF.out.A1⟩
 clear hj;go_enter Tryz.func160,Tryz.ntmps160;go_wp2_with fail;refine ea (S:=(fun w':World=>w'.cell? ⟨sb,13,none⟩=some (.int .u32 c.A))) aA bh (fun al=>let ⟨_,_,ak⟩:=al.out.op.row;(ak.cell 13).trans rfl) fun w1 al aT hHeld=>?_
 refine ai 0 1 2 3 ?_;refine ai 4 5 6 7 ?_;refine aV 8 (fun K hK=>?_)
 ·go_simp;refine(HW.out _ al.out).mono (cu aT fun w2 aL bk=>?_);obtain⟨u2,bI,av⟩:=aL.out.op.row;have ap:(fun w':World=>w'.cell? ⟨sb,13,none⟩=some (.int .u32 c.A)) w2:=(av.cell 13).trans rfl;clear av bI;refine kH hK ap fun hHeld=>?_
  clear hK K;refine aY ?_;clear hHeld ap;go_wp2_with fail;refine(fT sb mb lb ty o _ _ _ 0 _ aL.out).mono (fz bk fun w3 rv3 aZ bx=>?_);go_wp2_with fail
  go_end0
  exact⟨_,rfl,aZ.out,bx.out⟩
theorem Du (w:World) (h:St w sb mb lb ty o c rv l) (ae:c.ph=0) (hj:c.base+0<l.length):Calls Tryz.prog 161 #[.pointer (some ⟨sb,0,none⟩)] w (Did sb mb lb ty o w rv (({ c with A:=c.rdm l 0%2 }:Kc).go 1) l (.tuple #[])):=by
 obtain⟨aA,bh,am,HF,cL,ct,dn,cQ⟩:=h.start;clear am h;have bP:=hid ae;clear ae;obtain⟨u0,bC,ak⟩:=aA.out.op.row;have c10_0:=ak.ph 10 0 bP;clear ak bC;have hz:=cR hj aA.out.mem.w32;have HR:=hid fun W (h:St W sb mb lb ty o c rv l)=>cS sb mb lb ty o c rv l 0 0 W h (by omega) hj
 obtain⟨z,aP⟩:∃ x,c.rdm l 0=x:=⟨_,rfl⟩;rw[aP] at HR hz;try rw[aP]
 have lH:=hid aP;clear aP hj;have eJ:=hz.1;have d8:=hz.2;clear hz;have mi:=nd eJ d8;have hb:=(show 0≤z%2∧z%2≤1 by omega);obtain⟨Z,hZ⟩:∃ x,z%2=x:=⟨_,rfl⟩;rw[hZ] at mi hb ⊢;clear hZ;go_enter Tryz.func161,Tryz.ntmps161;go_wp2_with fail;refine(HR.out _ aA.out).mono (cu bh fun w1 al aT=>?_);obtain⟨u1,iz,bV⟩:=al.out.op.row;have c13_1:=bV.at 13 (.int .u32 c.A);have f13_1:=bV.frozen 13;clear bV iz;go_wp2_with fail;obtain⟨aL,bk⟩:=qm (al.out.setA (Z) (by omega)) aT;go_wp2_with fail;refine(dy sb mb lb ty o _ _ _ 1 1 _ aL.out rfl).mono (cu bk fun w3 aZ bx=>?_);go_wp2_with fail
 go_end0
 exact⟨_,rfl,aZ.out,bx.out⟩
theorem Dv (w:World) (h:St w sb mb lb ty o c rv l) (ae:c.ph=1) (hj:c.base+1<l.length):Calls Tryz.prog 161 #[.pointer (some ⟨sb,0,none⟩)] w (Did sb mb lb ty o w rv (c.go 2) (c.wrm l 1 c.A) (.tuple #[])):=by
 obtain⟨aA,bh,am,HF,cL,ct,dn,cQ⟩:=h.start;clear am h;have bP:=hid ae;clear ae;obtain⟨u0,bC,ak⟩:=aA.out.op.row;have c10_0:=ak.ph 10 1 bP;clear ak bC;have HW:=hid fun W (h:St W sb mb lb ty o c rv l)=>ef sb mb lb ty o c rv l 1 1 c.A W h (by omega) hj ⟨HF.out.A0,HF.out.A1⟩
 clear hj;go_enter Tryz.func161,Tryz.ntmps161;go_wp2_with fail;refine ea (S:=(fun w':World=>w'.cell? ⟨sb,13,none⟩=some (.int .u32 c.A))) aA bh (fun al=>let ⟨_,_,ak⟩:=al.out.op.row;(ak.cell 13).trans rfl) fun w1 al aT hHeld=>?_
 refine ai 0 1 2 3 ?_;refine ai 4 5 6 7 ?_;refine aV 8 (fun K hK=>?_)
 ·go_simp;refine(HW.out _ al.out).mono (cu aT fun w2 aL bk=>?_);obtain⟨u2,bI,av⟩:=aL.out.op.row;have ap:(fun w':World=>w'.cell? ⟨sb,13,none⟩=some (.int .u32 c.A)) w2:=(av.cell 13).trans rfl;clear av bI;refine kH hK ap fun hHeld=>?_
  clear hK K;refine aY ?_;clear hHeld ap;go_wp2_with fail;refine(dy sb mb lb ty o _ _ _ 2 2 _ aL.out rfl).mono (cu bk fun w3 aZ bx=>?_);go_wp2_with fail
  go_end0
  exact⟨_,rfl,aZ.out,bx.out⟩
theorem Dw (w:World) (h:St w sb mb lb ty o c rv l) (ae:c.ph=2) (hA:0≤c.A∧c.A≤1) (hj:c.base+(2+c.A.toNat)<l.length):Calls Tryz.prog 161 #[.pointer (some ⟨sb,0,none⟩)] w (Did sb mb lb ty o w rv (({ c with B:=c.rdm l (2+c.A.toNat)%2 }:Kc).go 3) l (.tuple #[])):=by
 obtain⟨aA,bh,am,HF,cL,ct,dn,cQ⟩:=h.start;clear am h;have bP:=hid ae;clear ae;obtain⟨u0,bC,ak⟩:=aA.out.op.row;have c10_0:=ak.ph 10 2 bP;clear ak bC;have hz:=cR hj aA.out.mem.w32;have HR:=hid fun W (h:St W sb mb lb ty o c rv l)=>cS sb mb lb ty o c rv l (2+c.A) (2+c.A.toNat) W h (by omega) hj
 obtain⟨z,aP⟩:∃ x,c.rdm l (2+c.A.toNat)=x:=⟨_,rfl⟩;rw[aP] at HR hz;try rw[aP]
 have lH:=hid aP;clear aP hj;have eJ:=hz.1;have d8:=hz.2;clear hz;have mi:=nd eJ d8;have hb:=(show 0≤z%2∧z%2≤1 by omega);obtain⟨Z,hZ⟩:∃ x,z%2=x:=⟨_,rfl⟩;rw[hZ] at mi hb ⊢;clear hZ;have hs:IntKind.i64.wrap (2+c.A)=2+c.A:=ag (by omega) (by omega);have cO:IntKind.i64.wrap c.A=c.A:=ag (by omega) (by omega);have FW:=hA.1;have DQ:=hA.2;clear hA;go_enter Tryz.func161,Tryz.ntmps161;go_wp2_with fail;refine ea (S:=(fun w':World=>w'.cell? ⟨sb,13,none⟩=some (.int .u32 c.A))) aA bh (fun al=>let ⟨_,_,ak⟩:=al.out.op.row;(ak.cell 13).trans rfl) fun w1 al aT hHeld=>?_
 refine ai 0 1 2 3 ?_;refine ai 4 5 6 7 ?_;refine bv 8 9 ?_;refine aX 10 ?_;refine aV 11 (fun K hK=>?_)
 ·go_simp;refine(HR.out _ al.out).mono (cu aT fun w2 aL bk=>?_);obtain⟨u2,bI,av⟩:=aL.out.op.row;have ap:(fun w':World=>w'.cell? ⟨sb,13,none⟩=some (.int .u32 c.A)) w2:=(av.cell 13).trans rfl;have c14_2:=av.at 14 (.int .u32 c.B);have f14_2:=av.frozen 14;clear av bI;refine kH hK ap fun hHeld=>?_
  clear hK K;refine ai 12 13 14 15 ?_;refine aV 16 (fun K hK=>?_)
  ·go_simp;obtain⟨aZ,bx⟩:=qm (aL.out.setB (Z) (by omega)) bk;obtain⟨u3,eU,bS⟩:=aZ.out.op.row;have aN:(fun w':World=>w'.cell? ⟨sb,13,none⟩=some (.int .u32 c.A)) (w2.setCell ⟨sb,14,none⟩ (.int .u32 (Z))):=(bS.cell 13).trans rfl;clear bS eU;refine kH hK aN fun hHeld=>?_
   clear hK K;refine aY ?_;clear hHeld aN;go_wp2_with fail;refine(dy sb mb lb ty o _ _ _ 3 3 _ aZ.out rfl).mono (cu bx fun w4 db eF=>?_);go_wp2_with fail
   go_end0
   exact⟨_,rfl,db.out,eF.out⟩
theorem Dx (w:World) (h:St w sb mb lb ty o c rv l) (ae:c.ph=3) (hA:0≤c.A∧c.A≤1) (hB:0≤c.B∧c.B≤1) (dP:c.wr=true→c.i<c.rc.length) (di:c.rc.length≤1000000) (fy:c.i<1000) (hj:c.base+(4+(2*c.A+c.B).toNat*c.wd+c.i)<l.length) (fL:4+(2*c.A+c.B).toNat*c.wd≤1000000):Calls Tryz.prog 161 #[.pointer (some ⟨sb,0,none⟩)] w (Did sb mb lb ty o w rv (c.word l (4+(2*c.A+c.B).toNat*c.wd) (·.fin 0)).1 (c.word l (4+(2*c.A+c.B).toNat*c.wd) (·.fin 0)).2 (.tuple #[])):=by
 obtain⟨aA,bh,am,HF,cL,ct,dn,cQ⟩:=h.start;clear am h;have bP:=hid ae;clear ae;obtain⟨u0,bC,ak⟩:=aA.out.op.row;have c10_0:=ak.ph 10 3 bP;clear ak bC;have fV:=hid fun W (h:St W sb mb lb ty o c rv l)=>nU sb mb lb ty o c rv l W h hA hB
 clear hA hB;obtain⟨FR,kY⟩:∃ x,4+(2*c.A+c.B).toNat*c.wd=x:=⟨_,rfl⟩;rw[kY] at fV hj fL ⊢;clear kY;have fc:=hid fun W (rv:Value) (h:St W sb mb lb ty o c rv l)=>fR sb mb lb ty o c rv l (FR) W h dP di fy hj fL
 clear dP di fy hj fL;rw[Kc.word_eq]
 by_cases ao:c.wd≤c.i+1
 ·rw[if_pos ao];have hd:decide ((c.wd:Int)≤(c.i:Int)+1)=true:=decide_eq_true (by omega);rw[hd] at fc;clear ao hd;go_enter Tryz.func161,Tryz.ntmps161;go_wp2_with fail;refine ea (S:=(fun _:World=>True)) aA bh (fun al=>let ⟨_,_,ak⟩:=al.out.op.row;trivial) fun w1 al aT hHeld=>?_
  refine ai 0 1 2 3 ?_;refine aV 4 (fun K hK=>?_)
  ·go_simp;refine(fV.out _ al.out).mono ?_;rintro ex w2 ⟨rfl,hb⟩;have aL:=hid (al.out.below hb);have bk:=hid (aT.out.trans (Mv.below hb _));clear hb;have ap:(fun _:World=>True) w2:=trivial;refine kH hK ap fun hHeld=>?_
   clear hK K;refine aV 5 (fun K hK=>?_)
   ·go_simp;refine(fc.out _ _ aL.out).mono (fz bk fun w3 rv3 aZ bx=>?_);have aN:(fun _:World=>True) w3:=trivial;refine kH hK aN fun hHeld=>?_
    clear hK K;refine aY ?_;clear hHeld aN;go_wp2_with fail;refine(fT sb mb lb ty o _ _ _ 0 _ aZ.out).mono (fz bx fun w4 rv4 db eF=>?_);go_wp2_with fail
    go_end0
    exact⟨_,rfl,db.out,eF.out⟩
 ·rw[if_neg ao];have hd:decide ((c.wd:Int)≤(c.i:Int)+1)=false:=decide_eq_false (by omega);rw[hd] at fc;clear ao hd;go_enter Tryz.func161,Tryz.ntmps161;go_wp2_with fail;refine ea (S:=(fun _:World=>True)) aA bh (fun al=>let ⟨_,_,ak⟩:=al.out.op.row;trivial) fun w1 al aT hHeld=>?_
  refine ai 0 1 2 3 ?_;refine aV 4 (fun K hK=>?_)
  ·go_simp;refine(fV.out _ al.out).mono ?_;rintro ex w2 ⟨rfl,hb⟩;have aL:=hid (al.out.below hb);have bk:=hid (aT.out.trans (Mv.below hb _));clear hb;have ap:(fun _:World=>True) w2:=trivial;refine kH hK ap fun hHeld=>?_
   clear hK K;refine aV 5 (fun K hK=>?_)
   ·go_simp;refine(fc.out _ _ aL.out).mono (fz bk fun w3 rv3 aZ bx=>?_);have aN:(fun _:World=>True) w3:=trivial;refine kH hK aN fun hHeld=>?_
    clear hK K;refine aY ?_;clear hHeld aN;go_wp2_with fail
    go_end0
    exact⟨_,rfl,aZ.out,bx.out⟩
end
end Go.Proofs.YtabfcjohdgjkoaaGreatDoor
