/- The kind four: each step of a write, and of a read. -/
import Derived.Test.YtolmpehgeinlkaaGreatDoorZcE
namespace Go.Proofs.YtolmpehgeinlkaaGreatDoor
open Go.RowKit
open Go.Lib (hid)
attribute [local go_sem] Oper.semAt_some
set_option maxHeartbeats 1000000
set_option maxRecDepth 100000
abbrev F1 (a0:Nat) (a1:Kc) (w':World):Prop:=w'.cell? ⟨a0,13,none⟩=some (.int .u32 a1.A)∧w'.cell? ⟨a0,14,none⟩=some (.int .u32 a1.B)∧w'.cell? ⟨a0,1,none⟩=some (.int .i64 (a1.wd:Int))
abbrev CD (a0:Nat) (a1:Kc) (w':World):Prop:=w'.cell? ⟨a0,13,none⟩=some (.int .u32 a1.A)∧w'.cell? ⟨a0,14,none⟩=some (.int .u32 a1.B)
namespace Kc
def wst (c:Kc) (l:List Int) (frm:Nat):Kc:={ c with rc:=if c.wr then c.rc else c.rc++[c.rdm l (frm+c.i)],i:=c.i+1 }
def wmem (c:Kc) (l:List Int) (frm:Nat):List Int:=if c.wr then c.wrm l (frm+c.i) (c.rc.getD c.i 0) else l
theorem word_eq (c:Kc) (l:List Int) (frm:Nat) (last:Kc→Kc):c.word l frm last=(if c.wd≤c.i+1 then last (c.wst l frm) else c.wst l frm,c.wmem l frm):=by
 unfold word wst wmem;cases c.wr <;> rfl
end Kc
section
variable {sb mb lb:Nat} {ty:TypeId} {o:Ob} {c:Kc} {rv:Value} {l:List Int}
theorem St.setA {w:World} (h:St w sb mb lb ty o c rv l) (a:Int) (ha:0≤a∧a<4294967296):St (w.setCell ⟨sb,13,none⟩ (.int .u32 a)) sb mb lb ty o { c with A:=a } rv l∧Mv sb mb lb w (w.setCell ⟨sb,13,none⟩ (.int .u32 a)) rv rv:=by
 obtain⟨u,hu,hr⟩:=h.op.row;have ht:Tch (fun b=>b=sb) w (w.setCell ⟨sb,13,none⟩ (.int .u32 a)):=(Tch.refl (fun b=>b=sb) w).set (b:=sb) rfl 13 _;have hf:=h.op.fits;exact⟨h.upd (c':={ c with A:=a }) ht hu (hr.set 13 _) ⟨hf.kd,hf.wd,hf.sl,hf.cap,hf.nr,hf.wd1,hf.nr1,hf.sl1,hf.cap1,hf.rd1,hf.base1,hf.size1,hf.i1,hf.tr1,hf.st1,ha.1,ha.2,hf.B0,hf.B1⟩ (.inl ⟨rfl,rfl⟩),Mv.own ht (.inl rfl)⟩
theorem St.setB {w:World} (h:St w sb mb lb ty o c rv l) (a:Int) (ha:0≤a∧a<4294967296):St (w.setCell ⟨sb,14,none⟩ (.int .u32 a)) sb mb lb ty o { c with B:=a } rv l∧Mv sb mb lb w (w.setCell ⟨sb,14,none⟩ (.int .u32 a)) rv rv:=by
 obtain⟨u,hu,hr⟩:=h.op.row;have ht:Tch (fun b=>b=sb) w (w.setCell ⟨sb,14,none⟩ (.int .u32 a)):=(Tch.refl (fun b=>b=sb) w).set (b:=sb) rfl 14 _;have hf:=h.op.fits;exact⟨h.upd (c':={ c with B:=a }) ht hu (hr.set 14 _) ⟨hf.kd,hf.wd,hf.sl,hf.cap,hf.nr,hf.wd1,hf.nr1,hf.sl1,hf.cap1,hf.rd1,hf.base1,hf.size1,hf.i1,hf.tr1,hf.st1,hf.A0,hf.A1,ha.1,ha.2⟩ (.inl ⟨rfl,rfl⟩),Mv.own ht (.inl rfl)⟩
end
theorem kp (a b:Nat) (ha:a<4294967296) (hb:b<4294967296):bits .and .u32 (a:Int) (b:Int)=((a&&& b:Nat):Int):=by
 have hx:a&&& b<2 ^ 32:=Nat.and_lt_two_pow _ (by omega)
 have h1:(BitVec.ofInt 32 (a:Int)).toNat=a:=by
  rw[BitVec.ofInt_natCast,BitVec.toNat_ofNat];exact Nat.mod_eq_of_lt (by omega)
 have h2:(BitVec.ofInt 32 (b:Int)).toNat=b:=by
  rw[BitVec.ofInt_natCast,BitVec.toNat_ofNat];exact Nat.mod_eq_of_lt (by omega)
 show IntKind.u32.wrap ((BitVec.ofInt 32 (a:Int)&&& BitVec.ofInt 32 (b:Int)).toNat:Int)=_;rw[BitVec.toNat_and,h1,h2,aa (by omega) (by omega)]
theorem jV {a b:Int} (h1:0≤a) (h2:a≤20) (h3:0≤b) (h4:b≤16):0≤a*b∧a*b≤320:=
 ⟨Int.mul_nonneg h1 h3,Int.le_trans (Int.mul_le_mul h2 h4 h3 (by omega)) (by omega)⟩
theorem lD {z:Int} (h0:0≤z) (h1:z<4294967296):bits BinOp.and IntKind.u32 z 1=z%2:=by
 have:=kp z.toNat 1 (by omega) (by omega);rw[show((z.toNat:Nat):Int)=z by omega,Nat.and_one_is_mod] at this;rw[show(1:Int)=((1:Nat):Int) by rfl,this];omega
theorem EW {z:Int} (h0:0≤z) (h1:z<4294967296):(1 - bits BinOp.and IntKind.u32 z 1)%4294967296=Kc.one z:=by
 rw[lD h0 h1];unfold Kc.one;omega
theorem Bq {z:Int} (h0:0≤z) (h1:z<4294967296):IntKind.u32.wrap (1 - bits BinOp.and IntKind.u32 z 1)=Kc.one z:=by
 rw[lD h0 h1];unfold Kc.one;simp[IntKind.wrap,IntKind.signed,IntKind.bits];omega
theorem iF (z:Int):0≤Kc.one z∧Kc.one z≤1:=by
 unfold Kc.one;omega
section
variable (sb mb lb:Nat) (ty:TypeId) (o:Ob) (c:Kc) (rv:Value) (l:List Int)
theorem fr (frm:Nat) (w:World) (h:St w sb mb lb ty o c rv l) (hw:c.wr=true→c.i<c.rc.length) (hr:c.rc.length≤1000000) (dD:c.i<1000) (hj:c.base+(frm+c.i)<l.length) (fj:frm≤1000000):
  Calls Tryz.prog 160 #[.pointer (some ⟨sb,0,none⟩),.int .i64 (frm:Int)] w (Did sb mb lb ty o w rv (c.wst l frm) (c.wmem l frm) (.bool (decide ((c.wd:Int)≤(c.i:Int)+1)))):=by
 unfold Kc.wst Kc.wmem;cases bM:c.wr
 ·simp only[Bool.false_eq_true,if_false];exact BT sb mb lb ty o c rv l frm w h bM hr dD hj fj
 ·simp only[if_true];exact Ao sb mb lb ty o c rv l frm w h bM (hw bM) dD hj fj
theorem mJ (w:World) (h:St w sb mb lb ty o c rv l) (hA:0≤c.A∧c.A≤1) (hB:0≤c.B∧c.B≤1):Calls Tryz.prog 161 #[.pointer (some ⟨sb,0,none⟩)] w fun e w'=>e=.returned (.int .i64 ((4+(2*c.A+c.B).toNat*c.wd:Nat):Int))∧Below w.heap.size w w':=by
 obtain⟨aj,ay,ah,HF,bp,aS,bx,bj⟩:=h.start;clear ah h;have ox:=hid (Below.refl w.heap.size w);have lr:=HF.out.wd1;have e1:IntKind.u32.wrap (2*c.A)=2*c.A:=aa (by omega) (by omega);have e2:IntKind.u32.wrap (2*c.A+c.B)=2*c.A+c.B:=aa (by omega) (by omega);have m1:=jV (a:=2*c.A+c.B) (b:=(c.wd:Int)) (by omega) (by omega) (by omega) (by omega);have e3:IntKind.i64.wrap ((2*c.A+c.B)*(c.wd:Int))=(2*c.A+c.B)*(c.wd:Int):=ac (by omega) (by omega);have e4:IntKind.i64.wrap (4+(2*c.A+c.B)*(c.wd:Int))=4+(2*c.A+c.B)*(c.wd:Int):=ac (by omega) (by omega);have e5:IntKind.i64.wrap (2*c.A+c.B)=2*c.A+c.B:=ac (by omega) (by omega)
 have hq:((4+(2*c.A+c.B).toNat*c.wd:Nat):Int)=4+(2*c.A+c.B)*(c.wd:Int):=by
  rw[Int.natCast_add,Int.natCast_mul,Int.toNat_of_nonneg (by omega)];rfl
 rw[hq];have a0:0≤2*c.A:=by omega
 have a1:2*c.A<4294967296:=by omega
 have a2:0≤2*c.A+c.B:=by omega
 have a3:2*c.A+c.B<4294967296:=by omega
 clear hq m1 hA hB lr;go_enter Tryz.func161,Tryz.ntmps161;go_wp2_with fail;obtain⟨u0,bN,ag⟩:=aj.out.drew.op.row;have ct:(F1 sb c) w.drew:=⟨(ag.cell 13).trans rfl,(ag.cell 14).trans rfl,(ag.cell 1).trans (by rw[← bp.out];rfl)⟩;have ai:=hid aj.out.drew;have au:=hid (ay.out.trans (Mv.drew w _));clear ag bN;have bT:=hid ox.out.drew;refine dR ct fun w1 aW hHeld=>?_
 rw[aW] at ai au bT;clear aW ct;refine ap 0 1 2 3 ?_;refine ap 4 5 6 7 ?_;refine ap 8 9 10 11 ?_;refine ap 12 13 14 15 ?_;refine ap 16 17 18 19 ?_;refine bw 20 21 ?_;refine bh ?_;clear hHeld;go_wp2_with fail;go_ret;exact⟨rfl,bT.out⟩
theorem B8 (w:World) (h:St w sb mb lb ty o c rv l) (ae:c.ph=0) (hj:c.base+1<l.length):Calls Tryz.prog 139 #[.pointer (some ⟨sb,0,none⟩)] w (Did sb mb lb ty o w rv (({ c with A:=Kc.one (c.rdm l 1) }:Kc).go 1) l (.tuple #[])):=by
 obtain⟨aj,ay,ah,HF,bp,aS,bx,bj⟩:=h.start;clear ah h;have aI:=hid ae;clear ae;obtain⟨u0,bN,ag⟩:=aj.out.op.row;have c10_0:=ag.ph 10 0 aI;clear ag bN;have hz:=cR hj aj.out.mem.w32;have HR:=hid fun W (h:St W sb mb lb ty o c rv l)=>cX sb mb lb ty o c rv l 1 1 W h (by omega) hj
 obtain⟨z,ao⟩:∃ x,c.rdm l 1=x:=⟨_,rfl⟩;rw[ao] at HR hz;try rw[ao]
 have cm:=hid ao;clear ao hj;have dU:=hz.1;have dA:=hz.2;clear hz;have dI:=EW dU dA;have hb:=iF z;obtain⟨Z,hZ⟩:∃ x,Kc.one z=x:=⟨_,rfl⟩;rw[hZ] at dI hb ⊢;clear hZ;go_enter Tryz.func139,Tryz.ntmps139;go_wp2_with fail;refine(HR.out _ aj.out).mono (bF ay fun w1 ai au=>?_);obtain⟨u1,gS,bi⟩:=ai.out.op.row;have c13_1:=bi.at 13 (.int .u32 c.A);have f13_1:=bi.frozen 13;clear bi gS;go_wp2_with fail;obtain⟨ar,aE⟩:=fW (ai.out.setA (Z) (by omega)) au;go_wp2_with fail;refine(dh sb mb lb ty o _ _ _ 1 1 _ ar.out rfl).mono (bF aE fun w3 aM bf=>?_);go_wp2_with fail
 go_end0
 exact⟨_,rfl,aM.out,bf.out⟩
theorem B6 (w:World) (h:St w sb mb lb ty o c rv l) (ae:c.ph=1) (hA:0≤c.A∧c.A≤1) (hj:c.base+(2+c.A.toNat)<l.length):Calls Tryz.prog 139 #[.pointer (some ⟨sb,0,none⟩)] w (Did sb mb lb ty o w rv (({ c with B:=Kc.one (c.rdm l (2+c.A.toNat)) }:Kc).go 2) l (.tuple #[])):=by
 obtain⟨aj,ay,ah,HF,bp,aS,bx,bj⟩:=h.start;clear ah h;have aI:=hid ae;clear ae;obtain⟨u0,bN,ag⟩:=aj.out.op.row;have c10_0:=ag.ph 10 1 aI;clear ag bN;have hz:=cR hj aj.out.mem.w32;have HR:=hid fun W (h:St W sb mb lb ty o c rv l)=>cX sb mb lb ty o c rv l (2+c.A) (2+c.A.toNat) W h (by omega) hj
 obtain⟨z,ao⟩:∃ x,c.rdm l (2+c.A.toNat)=x:=⟨_,rfl⟩;rw[ao] at HR hz;try rw[ao]
 have cm:=hid ao;clear ao hj;have dU:=hz.1;have dA:=hz.2;clear hz;have dI:=Bq dU dA;have hb:=iF z;obtain⟨Z,hZ⟩:∃ x,Kc.one z=x:=⟨_,rfl⟩;rw[hZ] at dI hb ⊢;clear hZ;have hs:IntKind.i64.wrap (2+c.A)=2+c.A:=ac (by omega) (by omega);have gl:IntKind.i64.wrap c.A=c.A:=ac (by omega) (by omega);have CS:=hA.1;have Ef:=hA.2;clear hA;go_enter Tryz.func139,Tryz.ntmps139;go_wp2_with fail;refine dM (S:=(fun w':World=>w'.cell? ⟨sb,13,none⟩=some (.int .u32 c.A))) aj ay (fun ai=>let ⟨_,_,ag⟩:=ai.out.op.row;(ag.cell 13).trans rfl) fun w1 ai au hHeld=>?_
 refine ap 0 1 2 3 ?_;refine ap 4 5 6 7 ?_;refine bw 8 9 ?_;refine aF 10 ?_;refine aJ 11 (fun K hK=>?_)
 ·go_simp;refine(HR.out _ ai.out).mono (bF au fun w2 ar aE=>?_);obtain⟨u2,bU,aC⟩:=ar.out.op.row;have aB:(fun w':World=>w'.cell? ⟨sb,13,none⟩=some (.int .u32 c.A)) w2:=(aC.cell 13).trans rfl;have c14_2:=aC.at 14 (.int .u32 c.B);have f14_2:=aC.frozen 14;clear aC bU;refine kH hK aB fun hHeld=>?_
  clear hK K;refine ap 12 13 14 15 ?_;refine aF 16 ?_;refine aJ 17 (fun K hK=>?_)
  ·go_simp;obtain⟨aM,bf⟩:=fW (ar.out.setB (Z) (by omega)) aE;obtain⟨u3,ez,bC⟩:=aM.out.op.row;have aQ:(fun w':World=>w'.cell? ⟨sb,13,none⟩=some (.int .u32 c.A)) (w2.setCell ⟨sb,14,none⟩ (.int .u32 (Z))):=(bC.cell 13).trans rfl;clear bC ez;refine kH hK aQ fun hHeld=>?_
   clear hK K;refine bh ?_;clear hHeld aQ;go_wp2_with fail;refine(dh sb mb lb ty o _ _ _ 2 2 _ aM.out rfl).mono (bF bf fun w4 cq dd=>?_);go_wp2_with fail
   go_end0
   exact⟨_,rfl,cq.out,dd.out⟩
theorem Be (w:World) (h:St w sb mb lb ty o c rv l) (ae:c.ph=2) (hA:0≤c.A∧c.A≤1) (hB:0≤c.B∧c.B≤1) (bM:c.wr=true→c.i<c.rc.length) (cJ:c.rc.length≤1000000) (dD:c.i<1000) (hj:c.base+(4+(2*c.A+c.B).toNat*c.wd+c.i)<l.length) (fj:4+(2*c.A+c.B).toNat*c.wd≤1000000):Calls Tryz.prog 139 #[.pointer (some ⟨sb,0,none⟩)] w (Did sb mb lb ty o w rv (c.word l (4+(2*c.A+c.B).toNat*c.wd) (·.go 3)).1 (c.word l (4+(2*c.A+c.B).toNat*c.wd) (·.go 3)).2 (.tuple #[])):=by
 obtain⟨aj,ay,ah,HF,bp,aS,bx,bj⟩:=h.start;clear ah h;have aI:=hid ae;clear ae;obtain⟨u0,bN,ag⟩:=aj.out.op.row;have c10_0:=ag.ph 10 2 aI;clear ag bN;have fM:=hid fun W (h:St W sb mb lb ty o c rv l)=>mJ sb mb lb ty o c rv l W h hA hB
 clear hA hB;obtain⟨FR,jY⟩:∃ x,4+(2*c.A+c.B).toNat*c.wd=x:=⟨_,rfl⟩;rw[jY] at fM hj fj ⊢;clear jY;have eG:=hid fun W (rv:Value) (h:St W sb mb lb ty o c rv l)=>fr sb mb lb ty o c rv l (FR) W h bM cJ dD hj fj
 clear bM cJ dD hj fj;rw[Kc.word_eq]
 by_cases ak:c.wd≤c.i+1
 ·rw[if_pos ak];have hd:decide ((c.wd:Int)≤(c.i:Int)+1)=true:=decide_eq_true (by omega);rw[hd] at eG;clear ak hd;go_enter Tryz.func139,Tryz.ntmps139;go_wp2_with fail;refine dM (S:=(fun _:World=>True)) aj ay (fun ai=>let ⟨_,_,ag⟩:=ai.out.op.row;trivial) fun w1 ai au hHeld=>?_
  refine ap 0 1 2 3 ?_;refine aJ 4 (fun K hK=>?_)
  ·go_simp;refine(fM.out _ ai.out).mono ?_;rintro ex w2 ⟨rfl,hb⟩;have ar:=hid (ai.out.below hb);have aE:=hid (au.out.trans (Mv.below hb _));clear hb;have aB:(fun _:World=>True) w2:=trivial;refine kH hK aB fun hHeld=>?_
   clear hK K;refine aJ 5 (fun K hK=>?_)
   ·go_simp;refine(eG.out _ _ ar.out).mono (cS aE fun w3 rv3 aM bf=>?_);have aQ:(fun _:World=>True) w3:=trivial;refine kH hK aQ fun hHeld=>?_
    clear hK K;refine bh ?_;clear hHeld aQ;go_wp2_with fail;refine(dh sb mb lb ty o _ _ _ 3 3 _ aM.out rfl).mono (bF bf fun w4 cq dd=>?_);go_wp2_with fail
    go_end0
    exact⟨_,rfl,cq.out,dd.out⟩
 ·rw[if_neg ak];have hd:decide ((c.wd:Int)≤(c.i:Int)+1)=false:=decide_eq_false (by omega);rw[hd] at eG;clear ak hd;go_enter Tryz.func139,Tryz.ntmps139;go_wp2_with fail;refine dM (S:=(fun _:World=>True)) aj ay (fun ai=>let ⟨_,_,ag⟩:=ai.out.op.row;trivial) fun w1 ai au hHeld=>?_
  refine ap 0 1 2 3 ?_;refine aJ 4 (fun K hK=>?_)
  ·go_simp;refine(fM.out _ ai.out).mono ?_;rintro ex w2 ⟨rfl,hb⟩;have ar:=hid (ai.out.below hb);have aE:=hid (au.out.trans (Mv.below hb _));clear hb;have aB:(fun _:World=>True) w2:=trivial;refine kH hK aB fun hHeld=>?_
   clear hK K;refine aJ 5 (fun K hK=>?_)
   ·go_simp;refine(eG.out _ _ ar.out).mono (cS aE fun w3 rv3 aM bf=>?_);have aQ:(fun _:World=>True) w3:=trivial;refine kH hK aQ fun hHeld=>?_
    clear hK K;refine bh ?_;clear hHeld aQ;go_wp2_with fail
    go_end0
    exact⟨_,rfl,aM.out,bf.out⟩
theorem BY (w:World) (h:St w sb mb lb ty o c rv l) (ae:c.ph=3) (hA:0≤c.A∧c.A≤1) (hj:c.base+(2+c.A.toNat)<l.length):Calls Tryz.prog 139 #[.pointer (some ⟨sb,0,none⟩)] w (Did sb mb lb ty o w rv (c.go 4) (c.wrm l (2+c.A.toNat) c.B) (.tuple #[])):=by
 obtain⟨aj,ay,ah,HF,bp,aS,bx,bj⟩:=h.start;clear ah h;have aI:=hid ae;clear ae;obtain⟨u0,bN,ag⟩:=aj.out.op.row;have c10_0:=ag.ph 10 3 aI;clear ag bN;have HW:=hid fun W (h:St W sb mb lb ty o c rv l)=>dN sb mb lb ty o c rv l (2+c.A) (2+c.A.toNat) c.B W h (by omega) hj ⟨HF.out.B0,HF.out.B1⟩
 clear hj;have hs:IntKind.i64.wrap (2+c.A)=2+c.A:=ac (by omega) (by omega);have gl:IntKind.i64.wrap c.A=c.A:=ac (by omega) (by omega);have CS:=hA.1;have Ef:=hA.2;clear hA;go_enter Tryz.func139,Tryz.ntmps139;go_wp2_with fail;refine dM (S:=(CD sb c)) aj ay (fun ai=>let ⟨_,_,ag⟩:=ai.out.op.row;⟨(ag.cell 13).trans rfl,(ag.cell 14).trans rfl⟩) fun w1 ai au hHeld=>?_
 refine ap 0 1 2 3 ?_;refine ap 4 5 6 7 ?_;refine ap 8 9 10 11 ?_;refine bw 12 13 ?_;refine aF 14 ?_;refine aJ 15 (fun K hK=>?_)
 ·go_simp;refine(HW.out _ ai.out).mono (bF au fun w2 ar aE=>?_);obtain⟨u2,bU,aC⟩:=ar.out.op.row;have aB:(CD sb c) w2:=⟨(aC.cell 13).trans rfl,(aC.cell 14).trans rfl⟩;clear aC bU;refine kH hK aB fun hHeld=>?_
  clear hK K;refine bh ?_;clear hHeld aB;go_wp2_with fail;refine(dh sb mb lb ty o _ _ _ 4 4 _ ar.out rfl).mono (bF aE fun w3 aM bf=>?_);go_wp2_with fail
  go_end0
  exact⟨_,rfl,aM.out,bf.out⟩
theorem Ax (w:World) (h:St w sb mb lb ty o c rv l) (ae:c.ph=4) (hj:c.base+0<l.length):Calls Tryz.prog 139 #[.pointer (some ⟨sb,0,none⟩)] w (Did sb mb lb ty o w rv (c.fin 0) (c.wrm l 0 c.A) (.tuple #[])):=by
 obtain⟨aj,ay,ah,HF,bp,aS,bx,bj⟩:=h.start;clear ah h;have aI:=hid ae;clear ae;obtain⟨u0,bN,ag⟩:=aj.out.op.row;have c10_0:=ag.ph 10 4 aI;clear ag bN;have HW:=hid fun W (h:St W sb mb lb ty o c rv l)=>dN sb mb lb ty o c rv l 0 0 c.A W h (by omega) hj ⟨HF.out.A0,HF.out.A1⟩
 clear hj;go_enter Tryz.func139,Tryz.ntmps139;go_wp2_with fail;refine dM (S:=(fun w':World=>w'.cell? ⟨sb,13,none⟩=some (.int .u32 c.A))) aj ay (fun ai=>let ⟨_,_,ag⟩:=ai.out.op.row;(ag.cell 13).trans rfl) fun w1 ai au hHeld=>?_
 refine ap 0 1 2 3 ?_;refine ap 4 5 6 7 ?_;refine aJ 8 (fun K hK=>?_)
 ·go_simp;refine(HW.out _ ai.out).mono (bF au fun w2 ar aE=>?_);obtain⟨u2,bU,aC⟩:=ar.out.op.row;have aB:(fun w':World=>w'.cell? ⟨sb,13,none⟩=some (.int .u32 c.A)) w2:=(aC.cell 13).trans rfl;clear aC bU;refine kH hK aB fun hHeld=>?_
  clear hK K;refine bh ?_;clear hHeld aB;go_wp2_with fail;refine(fz sb mb lb ty o _ _ _ 0 _ ar.out).mono (cS aE fun w3 rv3 aM bf=>?_);go_wp2_with fail
  go_end0
  exact⟨_,rfl,aM.out,bf.out⟩
theorem B5 (w:World) (h:St w sb mb lb ty o c rv l) (ae:c.ph=0) (hj:c.base+0<l.length):Calls Tryz.prog 140 #[.pointer (some ⟨sb,0,none⟩)] w (Did sb mb lb ty o w rv (({ c with A:=c.rdm l 0%2 }:Kc).go 1) l (.tuple #[])):=by
 obtain⟨aj,ay,ah,HF,bp,aS,bx,bj⟩:=h.start;clear ah h;have aI:=hid ae;clear ae;obtain⟨u0,bN,ag⟩:=aj.out.op.row;have c10_0:=ag.ph 10 0 aI;clear ag bN;have hz:=cR hj aj.out.mem.w32;have HR:=hid fun W (h:St W sb mb lb ty o c rv l)=>cX sb mb lb ty o c rv l 0 0 W h (by omega) hj
 obtain⟨z,ao⟩:∃ x,c.rdm l 0=x:=⟨_,rfl⟩;rw[ao] at HR hz;try rw[ao]
 have cm:=hid ao;clear ao hj;have dU:=hz.1;have dA:=hz.2;clear hz;have dI:=lD dU dA;have hb:=(show 0≤z%2∧z%2≤1 by omega);obtain⟨Z,hZ⟩:∃ x,z%2=x:=⟨_,rfl⟩;rw[hZ] at dI hb ⊢;clear hZ;go_enter Tryz.func140,Tryz.ntmps140;go_wp2_with fail;refine(HR.out _ aj.out).mono (bF ay fun w1 ai au=>?_);obtain⟨u1,gS,bi⟩:=ai.out.op.row;have c13_1:=bi.at 13 (.int .u32 c.A);have f13_1:=bi.frozen 13;clear bi gS;go_wp2_with fail;obtain⟨ar,aE⟩:=fW (ai.out.setA (Z) (by omega)) au;go_wp2_with fail;refine(dh sb mb lb ty o _ _ _ 1 1 _ ar.out rfl).mono (bF aE fun w3 aM bf=>?_);go_wp2_with fail
 go_end0
 exact⟨_,rfl,aM.out,bf.out⟩
theorem AG (w:World) (h:St w sb mb lb ty o c rv l) (ae:c.ph=1) (hj:c.base+1<l.length):Calls Tryz.prog 140 #[.pointer (some ⟨sb,0,none⟩)] w (Did sb mb lb ty o w rv (c.go 2) (c.wrm l 1 c.A) (.tuple #[])):=by
 obtain⟨aj,ay,ah,HF,bp,aS,bx,bj⟩:=h.start;clear ah h;have aI:=hid ae;clear ae;obtain⟨u0,bN,ag⟩:=aj.out.op.row;have c10_0:=ag.ph 10 1 aI;clear ag bN;have HW:=hid fun W (h:St W sb mb lb ty o c rv l)=>dN sb mb lb ty o c rv l 1 1 c.A W h (by omega) hj ⟨HF.out.A0,HF.out.A1⟩
 clear hj;go_enter Tryz.func140,Tryz.ntmps140;go_wp2_with fail;refine dM (S:=(fun w':World=>w'.cell? ⟨sb,13,none⟩=some (.int .u32 c.A))) aj ay (fun ai=>let ⟨_,_,ag⟩:=ai.out.op.row;(ag.cell 13).trans rfl) fun w1 ai au hHeld=>?_
 refine ap 0 1 2 3 ?_;refine ap 4 5 6 7 ?_;refine aJ 8 (fun K hK=>?_)
 ·go_simp;refine(HW.out _ ai.out).mono (bF au fun w2 ar aE=>?_);obtain⟨u2,bU,aC⟩:=ar.out.op.row;have aB:(fun w':World=>w'.cell? ⟨sb,13,none⟩=some (.int .u32 c.A)) w2:=(aC.cell 13).trans rfl;clear aC bU;refine kH hK aB fun hHeld=>?_
  clear hK K;refine bh ?_;clear hHeld aB;go_wp2_with fail;refine(dh sb mb lb ty o _ _ _ 2 2 _ ar.out rfl).mono (bF aE fun w3 aM bf=>?_);go_wp2_with fail
  go_end0
  exact⟨_,rfl,aM.out,bf.out⟩
theorem AQ (w:World) (h:St w sb mb lb ty o c rv l) (ae:c.ph=2) (hA:0≤c.A∧c.A≤1) (hj:c.base+(2+c.A.toNat)<l.length):Calls Tryz.prog 140 #[.pointer (some ⟨sb,0,none⟩)] w (Did sb mb lb ty o w rv (({ c with B:=c.rdm l (2+c.A.toNat)%2 }:Kc).go 3) l (.tuple #[])):=by
 obtain⟨aj,ay,ah,HF,bp,aS,bx,bj⟩:=h.start;clear ah h;have aI:=hid ae;clear ae;obtain⟨u0,bN,ag⟩:=aj.out.op.row;have c10_0:=ag.ph 10 2 aI;clear ag bN;have hz:=cR hj aj.out.mem.w32;have HR:=hid fun W (h:St W sb mb lb ty o c rv l)=>cX sb mb lb ty o c rv l (2+c.A) (2+c.A.toNat) W h (by omega) hj
 obtain⟨z,ao⟩:∃ x,c.rdm l (2+c.A.toNat)=x:=⟨_,rfl⟩;rw[ao] at HR hz;try rw[ao]
 have cm:=hid ao;clear ao hj;have dU:=hz.1;have dA:=hz.2;clear hz;have dI:=lD dU dA;have hb:=(show 0≤z%2∧z%2≤1 by omega);obtain⟨Z,hZ⟩:∃ x,z%2=x:=⟨_,rfl⟩;rw[hZ] at dI hb ⊢;clear hZ;have hs:IntKind.i64.wrap (2+c.A)=2+c.A:=ac (by omega) (by omega);have gl:IntKind.i64.wrap c.A=c.A:=ac (by omega) (by omega);have CS:=hA.1;have Ef:=hA.2;clear hA;go_enter Tryz.func140,Tryz.ntmps140;go_wp2_with fail;refine dM (S:=(fun w':World=>w'.cell? ⟨sb,13,none⟩=some (.int .u32 c.A))) aj ay (fun ai=>let ⟨_,_,ag⟩:=ai.out.op.row;(ag.cell 13).trans rfl) fun w1 ai au hHeld=>?_
 refine ap 0 1 2 3 ?_;refine ap 4 5 6 7 ?_;refine bw 8 9 ?_;refine aF 10 ?_;refine aJ 11 (fun K hK=>?_)
 ·go_simp;refine(HR.out _ ai.out).mono (bF au fun w2 ar aE=>?_);obtain⟨u2,bU,aC⟩:=ar.out.op.row;have aB:(fun w':World=>w'.cell? ⟨sb,13,none⟩=some (.int .u32 c.A)) w2:=(aC.cell 13).trans rfl;have c14_2:=aC.at 14 (.int .u32 c.B);have f14_2:=aC.frozen 14;clear aC bU;refine kH hK aB fun hHeld=>?_
  clear hK K;refine ap 12 13 14 15 ?_;refine aJ 16 (fun K hK=>?_)
  ·go_simp;obtain⟨aM,bf⟩:=fW (ar.out.setB (Z) (by omega)) aE;obtain⟨u3,ez,bC⟩:=aM.out.op.row;have aQ:(fun w':World=>w'.cell? ⟨sb,13,none⟩=some (.int .u32 c.A)) (w2.setCell ⟨sb,14,none⟩ (.int .u32 (Z))):=(bC.cell 13).trans rfl;clear bC ez;refine kH hK aQ fun hHeld=>?_
   clear hK K;refine bh ?_;clear hHeld aQ;go_wp2_with fail;refine(dh sb mb lb ty o _ _ _ 3 3 _ aM.out rfl).mono (bF bf fun w4 cq dd=>?_);go_wp2_with fail
   go_end0
   exact⟨_,rfl,cq.out,dd.out⟩
theorem AZ (w:World) (h:St w sb mb lb ty o c rv l) (ae:c.ph=3) (hA:0≤c.A∧c.A≤1) (hB:0≤c.B∧c.B≤1) (bM:c.wr=true→c.i<c.rc.length) (cJ:c.rc.length≤1000000) (dD:c.i<1000) (hj:c.base+(4+(2*c.A+c.B).toNat*c.wd+c.i)<l.length) (fj:4+(2*c.A+c.B).toNat*c.wd≤1000000):Calls Tryz.prog 140 #[.pointer (some ⟨sb,0,none⟩)] w (Did sb mb lb ty o w rv (c.word l (4+(2*c.A+c.B).toNat*c.wd) (·.fin 0)).1 (c.word l (4+(2*c.A+c.B).toNat*c.wd) (·.fin 0)).2 (.tuple #[])):=by
 obtain⟨aj,ay,ah,HF,bp,aS,bx,bj⟩:=h.start;clear ah h;have aI:=hid ae;clear ae;obtain⟨u0,bN,ag⟩:=aj.out.op.row;have c10_0:=ag.ph 10 3 aI;clear ag bN;have fM:=hid fun W (h:St W sb mb lb ty o c rv l)=>mJ sb mb lb ty o c rv l W h hA hB
 clear hA hB;obtain⟨FR,jY⟩:∃ x,4+(2*c.A+c.B).toNat*c.wd=x:=⟨_,rfl⟩;rw[jY] at fM hj fj ⊢;clear jY;have eG:=hid fun W (rv:Value) (h:St W sb mb lb ty o c rv l)=>fr sb mb lb ty o c rv l (FR) W h bM cJ dD hj fj
 clear bM cJ dD hj fj;rw[Kc.word_eq]
 by_cases ak:c.wd≤c.i+1
 ·rw[if_pos ak];have hd:decide ((c.wd:Int)≤(c.i:Int)+1)=true:=decide_eq_true (by omega);rw[hd] at eG;clear ak hd;go_enter Tryz.func140,Tryz.ntmps140;go_wp2_with fail;refine dM (S:=(fun _:World=>True)) aj ay (fun ai=>let ⟨_,_,ag⟩:=ai.out.op.row;trivial) fun w1 ai au hHeld=>?_
  refine ap 0 1 2 3 ?_;refine aJ 4 (fun K hK=>?_)
  ·go_simp;refine(fM.out _ ai.out).mono ?_;rintro ex w2 ⟨rfl,hb⟩;have ar:=hid (ai.out.below hb);have aE:=hid (au.out.trans (Mv.below hb _));clear hb;have aB:(fun _:World=>True) w2:=trivial;refine kH hK aB fun hHeld=>?_
   clear hK K;refine aJ 5 (fun K hK=>?_)
   ·go_simp;refine(eG.out _ _ ar.out).mono (cS aE fun w3 rv3 aM bf=>?_);have aQ:(fun _:World=>True) w3:=trivial;refine kH hK aQ fun hHeld=>?_
    clear hK K;refine bh ?_;clear hHeld aQ;go_wp2_with fail;refine(fz sb mb lb ty o _ _ _ 0 _ aM.out).mono (cS bf fun w4 rv4 cq dd=>?_);go_wp2_with fail
    go_end0
    exact⟨_,rfl,cq.out,dd.out⟩
 ·rw[if_neg ak];have hd:decide ((c.wd:Int)≤(c.i:Int)+1)=false:=decide_eq_false (by omega);rw[hd] at eG;clear ak hd;go_enter Tryz.func140,Tryz.ntmps140;go_wp2_with fail;refine dM (S:=(fun _:World=>True)) aj ay (fun ai=>let ⟨_,_,ag⟩:=ai.out.op.row;trivial) fun w1 ai au hHeld=>?_
  refine ap 0 1 2 3 ?_;refine aJ 4 (fun K hK=>?_)
  ·go_simp;refine(fM.out _ ai.out).mono ?_;rintro ex w2 ⟨rfl,hb⟩;have ar:=hid (ai.out.below hb);have aE:=hid (au.out.trans (Mv.below hb _));clear hb;have aB:(fun _:World=>True) w2:=trivial;refine kH hK aB fun hHeld=>?_
   clear hK K;refine aJ 5 (fun K hK=>?_)
   ·go_simp;refine(eG.out _ _ ar.out).mono (cS aE fun w3 rv3 aM bf=>?_);have aQ:(fun _:World=>True) w3:=trivial;refine kH hK aQ fun hHeld=>?_
    clear hK K;refine bh ?_;clear hHeld aQ;go_wp2_with fail
    go_end0
    exact⟨_,rfl,aM.out,bf.out⟩
end
end Go.Proofs.YtolmpehgeinlkaaGreatDoor
