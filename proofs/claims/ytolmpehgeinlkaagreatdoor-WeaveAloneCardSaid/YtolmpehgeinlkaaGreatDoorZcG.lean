/- The kind four: each step of a write, and of a read. -/
import Derived.Test.YtolmpehgeinlkaaGreatDoorZcE
namespace Go.Proofs.YtolmpehgeinlkaaGreatDoor
open Go.RowKit
open Go.Lib (hid)
attribute [local go_sem] Oper.semAt_some
set_option maxHeartbeats 1000000
set_option maxRecDepth 100000
abbrev QOgG0 (a0:Nat) (a1:Kc) (w':World):Prop:=w'.cell? ⟨a0,13,none⟩=some (.int .u32 a1.A)∧w'.cell? ⟨a0,14,none⟩=some (.int .u32 a1.B)∧w'.cell? ⟨a0,1,none⟩=some (.int .i64 (a1.wd:Int))
abbrev QOgG1 (a0:Nat) (a1:Kc) (w':World):Prop:=w'.cell? ⟨a0,13,none⟩=some (.int .u32 a1.A)∧w'.cell? ⟨a0,14,none⟩=some (.int .u32 a1.B)
namespace Kc
def wst (c:Kc) (l:List Int) (frm:Nat):Kc:={ c with rc:=if c.wr then c.rc else c.rc++[c.rdm l (frm+c.i)],i:=c.i+1 }
def wmem (c:Kc) (l:List Int) (frm:Nat):List Int:=if c.wr then c.wrm l (frm+c.i) (c.rc.getD c.i 0) else l
theorem word_eq (c:Kc) (l:List Int) (frm:Nat) (last:Kc→Kc):c.word l frm last=(if c.wd≤c.i+1 then last (c.wst l frm) else c.wst l frm,c.wmem l frm):=by
 unfold word wst wmem;cases c.wr <;> rfl
end Kc
section
variable {sb mb lb:Nat} {ty:TypeId} {o:Ob} {c:Kc} {rv:Value} {l:List Int}
theorem St.setA {w:World} (h:St w sb mb lb ty o c rv l) (a:Int) (ha:0≤a∧a<4294967296):St (w.setCell ⟨sb,13,none⟩ (.int .u32 a)) sb mb lb ty o { c with A:=a } rv l∧Mv sb mb lb w (w.setCell ⟨sb,13,none⟩ (.int .u32 a)) rv rv:=by
 obtain⟨u,hu,hr⟩:=h.op.row;have ht:Tch (fun b=>b=sb) w (w.setCell ⟨sb,13,none⟩ (.int .u32 a)):=(Tch.refl (fun b=>b=sb) w).set (b:=sb) rfl 13 _;have hf:=h.op.fits;exact⟨h.upd (c':={ c with A:=a }) ht hu (hr.set 13 _) ⟨hf.kd,hf.wd,hf.sl,hf.cap,hf.nr,hf.wd1,hf.nr1,hf.sl1,hf.cap1,hf.rd1,hf.base1,hf.size1,hf.i1,hf.tr1,hf.st1,ha.1,ha.2,hf.B0,hf.B1⟩ (.inl ⟨rfl,rfl⟩),Mv.own ht (.inl rfl)⟩
theorem St.setB {w:World} (h:St w sb mb lb ty o c rv l) (a:Int) (ha:0≤a∧a<4294967296):St (w.setCell ⟨sb,14,none⟩ (.int .u32 a)) sb mb lb ty o { c with B:=a } rv l∧Mv sb mb lb w (w.setCell ⟨sb,14,none⟩ (.int .u32 a)) rv rv:=by
 obtain⟨u,hu,hr⟩:=h.op.row;have ht:Tch (fun b=>b=sb) w (w.setCell ⟨sb,14,none⟩ (.int .u32 a)):=(Tch.refl (fun b=>b=sb) w).set (b:=sb) rfl 14 _;have hf:=h.op.fits;exact⟨h.upd (c':={ c with B:=a }) ht hu (hr.set 14 _) ⟨hf.kd,hf.wd,hf.sl,hf.cap,hf.nr,hf.wd1,hf.nr1,hf.sl1,hf.cap1,hf.rd1,hf.base1,hf.size1,hf.i1,hf.tr1,hf.st1,hf.A0,hf.A1,ha.1,ha.2⟩ (.inl ⟨rfl,rfl⟩),Mv.own ht (.inl rfl)⟩
end
theorem bits_and_u32_nat (a b:Nat) (ha:a<4294967296) (hb:b<4294967296):bits .and .u32 (a:Int) (b:Int)=((a&&& b:Nat):Int):=by
 have hx:a&&& b<2 ^ 32:=Nat.and_lt_two_pow _ (by omega)
 have h1:(BitVec.ofInt 32 (a:Int)).toNat=a:=by
  rw[BitVec.ofInt_natCast,BitVec.toNat_ofNat];exact Nat.mod_eq_of_lt (by omega)
 have h2:(BitVec.ofInt 32 (b:Int)).toNat=b:=by
  rw[BitVec.ofInt_natCast,BitVec.toNat_ofNat];exact Nat.mod_eq_of_lt (by omega)
 show IntKind.u32.wrap ((BitVec.ofInt 32 (a:Int)&&& BitVec.ofInt 32 (b:Int)).toNat:Int)=_;rw[BitVec.toNat_and,h1,h2,sh_wrap32 (by omega) (by omega)]
theorem mul_bd4 {a b:Int} (h1:0≤a) (h2:a≤20) (h3:0≤b) (h4:b≤16):0≤a*b∧a*b≤320:=
 ⟨Int.mul_nonneg h1 h3,Int.le_trans (Int.mul_le_mul h2 h4 h3 (by omega)) (by omega)⟩
theorem and_one {z:Int} (h0:0≤z) (h1:z<4294967296):bits BinOp.and IntKind.u32 z 1=z%2:=by
 have:=bits_and_u32_nat z.toNat 1 (by omega) (by omega);rw[show((z.toNat:Nat):Int)=z by omega,Nat.and_one_is_mod] at this;rw[show(1:Int)=((1:Nat):Int) by rfl,this];omega
theorem one_is {z:Int} (h0:0≤z) (h1:z<4294967296):(1 - bits BinOp.and IntKind.u32 z 1)%4294967296=Kc.one z:=by
 rw[and_one h0 h1];unfold Kc.one;omega
theorem one_is' {z:Int} (h0:0≤z) (h1:z<4294967296):IntKind.u32.wrap (1 - bits BinOp.and IntKind.u32 z 1)=Kc.one z:=by
 rw[and_one h0 h1];unfold Kc.one;simp[IntKind.wrap,IntKind.signed,IntKind.bits];omega
theorem one_bd (z:Int):0≤Kc.one z∧Kc.one z≤1:=by
 unfold Kc.one;omega
section
variable (sb mb lb:Nat) (ty:TypeId) (o:Ob) (c:Kc) (rv:Value) (l:List Int)
theorem word_o (frm:Nat) (w:World) (h:St w sb mb lb ty o c rv l) (hw:c.wr=true→c.i<c.rc.length) (hr:c.rc.length≤1000000) (hi2:c.i<1000) (hj:c.base+(frm+c.i)<l.length) (hf1:frm≤1000000):
  Calls Tryz.prog 160 #[.pointer (some ⟨sb,0,none⟩),.int .i64 (frm:Int)] w (Did sb mb lb ty o w rv (c.wst l frm) (c.wmem l frm) (.bool (decide ((c.wd:Int)≤(c.i:Int)+1)))):=by
 unfold Kc.wst Kc.wmem;cases hwr:c.wr
 ·simp only[Bool.false_eq_true,if_false];exact wordr_o sb mb lb ty o c rv l frm w h hwr hr hi2 hj hf1
 ·simp only[if_true];exact wordw_o sb mb lb ty o c rv l frm w h hwr (hw hwr) hi2 hj hf1
theorem fourFrom_o (w:World) (h:St w sb mb lb ty o c rv l) (hA:0≤c.A∧c.A≤1) (hB:0≤c.B∧c.B≤1):Calls Tryz.prog 161 #[.pointer (some ⟨sb,0,none⟩)] w fun e w'=>e=.returned (.int .i64 ((4+(2*c.A+c.B).toNat*c.wd:Nat):Int))∧Below w.heap.size w w':=by
 obtain⟨HS0,HM0,hfit,HF,HWD,HSL,HCP,HNR⟩:=h.start;clear hfit h;have HB0:=hid (Below.refl w.heap.size w);have hwd:=HF.out.wd1;have e1:IntKind.u32.wrap (2*c.A)=2*c.A:=sh_wrap32 (by omega) (by omega);have e2:IntKind.u32.wrap (2*c.A+c.B)=2*c.A+c.B:=sh_wrap32 (by omega) (by omega);have m1:=mul_bd4 (a:=2*c.A+c.B) (b:=(c.wd:Int)) (by omega) (by omega) (by omega) (by omega);have e3:IntKind.i64.wrap ((2*c.A+c.B)*(c.wd:Int))=(2*c.A+c.B)*(c.wd:Int):=sh_wrap (by omega) (by omega);have e4:IntKind.i64.wrap (4+(2*c.A+c.B)*(c.wd:Int))=4+(2*c.A+c.B)*(c.wd:Int):=sh_wrap (by omega) (by omega);have e5:IntKind.i64.wrap (2*c.A+c.B)=2*c.A+c.B:=sh_wrap (by omega) (by omega)
 have hq:((4+(2*c.A+c.B).toNat*c.wd:Nat):Int)=4+(2*c.A+c.B)*(c.wd:Int):=by
  rw[Int.natCast_add,Int.natCast_mul,Int.toNat_of_nonneg (by omega)];rfl
 rw[hq];have a0:0≤2*c.A:=by omega
 have a1:2*c.A<4294967296:=by omega
 have a2:0≤2*c.A+c.B:=by omega
 have a3:2*c.A+c.B<4294967296:=by omega
 clear hq m1 hA hB hwd;go_enter Tryz.func161,Tryz.ntmps161;go_wp2_with fail;obtain⟨u0,hu0,hr0⟩:=HS0.out.drew.op.row;have hSd:(QOgG0 sb c) w.drew:=⟨(hr0.cell 13).trans rfl,(hr0.cell 14).trans rfl,(hr0.cell 1).trans (by rw[← HWD.out];rfl)⟩;have HS1:=hid HS0.out.drew;have HM1:=hid (HM0.out.trans (Mv.drew w _));clear hr0 hu0;have HB1:=hid HB0.out.drew;refine rgn hSd fun w1 hw9 hHeld=>?_
 rw[hw9] at HS1 HM1 HB1;clear hw9 hSd;refine tk4 0 1 2 3 ?_;refine tk4 4 5 6 7 ?_;refine tk4 8 9 10 11 ?_;refine tk4 12 13 14 15 ?_;refine tk4 16 17 18 19 ?_;refine tk2 20 21 ?_;refine dnH ?_;clear hHeld;go_wp2_with fail;go_ret;exact⟨rfl,HB1.out⟩
theorem four_w0 (w:World) (h:St w sb mb lb ty o c rv l) (hph:c.ph=0) (hj:c.base+1<l.length):Calls Tryz.prog 139 #[.pointer (some ⟨sb,0,none⟩)] w (Did sb mb lb ty o w rv (({ c with A:=Kc.one (c.rdm l 1) }:Kc).go 1) l (.tuple #[])):=by
 obtain⟨HS0,HM0,hfit,HF,HWD,HSL,HCP,HNR⟩:=h.start;clear hfit h;have HPH:=hid hph;clear hph;obtain⟨u0,hu0,hr0⟩:=HS0.out.op.row;have c10_0:=hr0.ph 10 0 HPH;clear hr0 hu0;have hz:=rdm_bd hj HS0.out.mem.w32;have HR:=hid fun W (h:St W sb mb lb ty o c rv l)=>read_o sb mb lb ty o c rv l 1 1 W h (by omega) hj
 obtain⟨z,hz'⟩:∃ x,c.rdm l 1=x:=⟨_,rfl⟩;rw[hz'] at HR hz;try rw[hz']
 have Hz':=hid hz';clear hz' hj;have hz0:=hz.1;have hz1:=hz.2;clear hz;have hone:=one_is hz0 hz1;have hb:=one_bd z;obtain⟨Z,hZ⟩:∃ x,Kc.one z=x:=⟨_,rfl⟩;rw[hZ] at hone hb ⊢;clear hZ;go_enter Tryz.func139,Tryz.ntmps139;go_wp2_with fail;refine(HR.out _ HS0.out).mono (mvK HM0 fun w1 HS1 HM1=>?_);obtain⟨u1,hu1,hr1⟩:=HS1.out.op.row;have c13_1:=hr1.at 13 (.int .u32 c.A);have f13_1:=hr1.frozen 13;clear hr1 hu1;go_wp2_with fail;obtain⟨HS2,HM2⟩:=nxx (HS1.out.setA (Z) (by omega)) HM1;go_wp2_with fail;refine(go_o sb mb lb ty o _ _ _ 1 1 _ HS2.out rfl).mono (mvK HM2 fun w3 HS3 HM3=>?_);go_wp2_with fail
 go_end0
 exact⟨_,rfl,HS3.out,HM3.out⟩
theorem four_w1 (w:World) (h:St w sb mb lb ty o c rv l) (hph:c.ph=1) (hA:0≤c.A∧c.A≤1) (hj:c.base+(2+c.A.toNat)<l.length):Calls Tryz.prog 139 #[.pointer (some ⟨sb,0,none⟩)] w (Did sb mb lb ty o w rv (({ c with B:=Kc.one (c.rdm l (2+c.A.toNat)) }:Kc).go 2) l (.tuple #[])):=by
 obtain⟨HS0,HM0,hfit,HF,HWD,HSL,HCP,HNR⟩:=h.start;clear hfit h;have HPH:=hid hph;clear hph;obtain⟨u0,hu0,hr0⟩:=HS0.out.op.row;have c10_0:=hr0.ph 10 1 HPH;clear hr0 hu0;have hz:=rdm_bd hj HS0.out.mem.w32;have HR:=hid fun W (h:St W sb mb lb ty o c rv l)=>read_o sb mb lb ty o c rv l (2+c.A) (2+c.A.toNat) W h (by omega) hj
 obtain⟨z,hz'⟩:∃ x,c.rdm l (2+c.A.toNat)=x:=⟨_,rfl⟩;rw[hz'] at HR hz;try rw[hz']
 have Hz':=hid hz';clear hz' hj;have hz0:=hz.1;have hz1:=hz.2;clear hz;have hone:=one_is' hz0 hz1;have hb:=one_bd z;obtain⟨Z,hZ⟩:∃ x,Kc.one z=x:=⟨_,rfl⟩;rw[hZ] at hone hb ⊢;clear hZ;have hs:IntKind.i64.wrap (2+c.A)=2+c.A:=sh_wrap (by omega) (by omega);have hs2:IntKind.i64.wrap c.A=c.A:=sh_wrap (by omega) (by omega);have hA0:=hA.1;have hA1:=hA.2;clear hA;go_enter Tryz.func139,Tryz.ntmps139;go_wp2_with fail;refine rgK (S:=(fun w':World=>w'.cell? ⟨sb,13,none⟩=some (.int .u32 c.A))) HS0 HM0 (fun HS1=>let ⟨_,_,hr0⟩:=HS1.out.op.row;(hr0.cell 13).trans rfl) fun w1 HS1 HM1 hHeld=>?_
 refine tk4 0 1 2 3 ?_;refine tk4 4 5 6 7 ?_;refine tk2 8 9 ?_;refine tkH 10 ?_;refine clH 11 (fun K hK=>?_)
 ·go_simp;refine(HR.out _ HS1.out).mono (mvK HM1 fun w2 HS2 HM2=>?_);obtain⟨u2,hu2,hr2⟩:=HS2.out.op.row;have hSx2:(fun w':World=>w'.cell? ⟨sb,13,none⟩=some (.int .u32 c.A)) w2:=(hr2.cell 13).trans rfl;have c14_2:=hr2.at 14 (.int .u32 c.B);have f14_2:=hr2.frozen 14;clear hr2 hu2;refine kH hK hSx2 fun hHeld=>?_
  clear hK K;refine tk4 12 13 14 15 ?_;refine tkH 16 ?_;refine clH 17 (fun K hK=>?_)
  ·go_simp;obtain⟨HS3,HM3⟩:=nxx (HS2.out.setB (Z) (by omega)) HM2;obtain⟨u3,hu3,hr3⟩:=HS3.out.op.row;have hSx3:(fun w':World=>w'.cell? ⟨sb,13,none⟩=some (.int .u32 c.A)) (w2.setCell ⟨sb,14,none⟩ (.int .u32 (Z))):=(hr3.cell 13).trans rfl;clear hr3 hu3;refine kH hK hSx3 fun hHeld=>?_
   clear hK K;refine dnH ?_;clear hHeld hSx3;go_wp2_with fail;refine(go_o sb mb lb ty o _ _ _ 2 2 _ HS3.out rfl).mono (mvK HM3 fun w4 HS4 HM4=>?_);go_wp2_with fail
   go_end0
   exact⟨_,rfl,HS4.out,HM4.out⟩
theorem four_w2 (w:World) (h:St w sb mb lb ty o c rv l) (hph:c.ph=2) (hA:0≤c.A∧c.A≤1) (hB:0≤c.B∧c.B≤1) (hwr:c.wr=true→c.i<c.rc.length) (hrl:c.rc.length≤1000000) (hi2:c.i<1000) (hj:c.base+(4+(2*c.A+c.B).toNat*c.wd+c.i)<l.length) (hf1:4+(2*c.A+c.B).toNat*c.wd≤1000000):Calls Tryz.prog 139 #[.pointer (some ⟨sb,0,none⟩)] w (Did sb mb lb ty o w rv (c.word l (4+(2*c.A+c.B).toNat*c.wd) (·.go 3)).1 (c.word l (4+(2*c.A+c.B).toNat*c.wd) (·.go 3)).2 (.tuple #[])):=by
 obtain⟨HS0,HM0,hfit,HF,HWD,HSL,HCP,HNR⟩:=h.start;clear hfit h;have HPH:=hid hph;clear hph;obtain⟨u0,hu0,hr0⟩:=HS0.out.op.row;have c10_0:=hr0.ph 10 2 HPH;clear hr0 hu0;have HFR:=hid fun W (h:St W sb mb lb ty o c rv l)=>fourFrom_o sb mb lb ty o c rv l W h hA hB
 clear hA hB;obtain⟨FR,hFR⟩:∃ x,4+(2*c.A+c.B).toNat*c.wd=x:=⟨_,rfl⟩;rw[hFR] at HFR hj hf1 ⊢;clear hFR;have HWO:=hid fun W (rv:Value) (h:St W sb mb lb ty o c rv l)=>word_o sb mb lb ty o c rv l (FR) W h hwr hrl hi2 hj hf1
 clear hwr hrl hi2 hj hf1;rw[Kc.word_eq]
 by_cases hlast:c.wd≤c.i+1
 ·rw[if_pos hlast];have hd:decide ((c.wd:Int)≤(c.i:Int)+1)=true:=decide_eq_true (by omega);rw[hd] at HWO;clear hlast hd;go_enter Tryz.func139,Tryz.ntmps139;go_wp2_with fail;refine rgK (S:=(fun _:World=>True)) HS0 HM0 (fun HS1=>let ⟨_,_,hr0⟩:=HS1.out.op.row;trivial) fun w1 HS1 HM1 hHeld=>?_
  refine tk4 0 1 2 3 ?_;refine clH 4 (fun K hK=>?_)
  ·go_simp;refine(HFR.out _ HS1.out).mono ?_;rintro ex w2 ⟨rfl,hb⟩;have HS2:=hid (HS1.out.below hb);have HM2:=hid (HM1.out.trans (Mv.below hb _));clear hb;have hSx2:(fun _:World=>True) w2:=trivial;refine kH hK hSx2 fun hHeld=>?_
   clear hK K;refine clH 5 (fun K hK=>?_)
   ·go_simp;refine(HWO.out _ _ HS2.out).mono (mvD HM2 fun w3 rv3 HS3 HM3=>?_);have hSx3:(fun _:World=>True) w3:=trivial;refine kH hK hSx3 fun hHeld=>?_
    clear hK K;refine dnH ?_;clear hHeld hSx3;go_wp2_with fail;refine(go_o sb mb lb ty o _ _ _ 3 3 _ HS3.out rfl).mono (mvK HM3 fun w4 HS4 HM4=>?_);go_wp2_with fail
    go_end0
    exact⟨_,rfl,HS4.out,HM4.out⟩
 ·rw[if_neg hlast];have hd:decide ((c.wd:Int)≤(c.i:Int)+1)=false:=decide_eq_false (by omega);rw[hd] at HWO;clear hlast hd;go_enter Tryz.func139,Tryz.ntmps139;go_wp2_with fail;refine rgK (S:=(fun _:World=>True)) HS0 HM0 (fun HS1=>let ⟨_,_,hr0⟩:=HS1.out.op.row;trivial) fun w1 HS1 HM1 hHeld=>?_
  refine tk4 0 1 2 3 ?_;refine clH 4 (fun K hK=>?_)
  ·go_simp;refine(HFR.out _ HS1.out).mono ?_;rintro ex w2 ⟨rfl,hb⟩;have HS2:=hid (HS1.out.below hb);have HM2:=hid (HM1.out.trans (Mv.below hb _));clear hb;have hSx2:(fun _:World=>True) w2:=trivial;refine kH hK hSx2 fun hHeld=>?_
   clear hK K;refine clH 5 (fun K hK=>?_)
   ·go_simp;refine(HWO.out _ _ HS2.out).mono (mvD HM2 fun w3 rv3 HS3 HM3=>?_);have hSx3:(fun _:World=>True) w3:=trivial;refine kH hK hSx3 fun hHeld=>?_
    clear hK K;refine dnH ?_;clear hHeld hSx3;go_wp2_with fail
    go_end0
    exact⟨_,rfl,HS3.out,HM3.out⟩
theorem four_w3 (w:World) (h:St w sb mb lb ty o c rv l) (hph:c.ph=3) (hA:0≤c.A∧c.A≤1) (hj:c.base+(2+c.A.toNat)<l.length):Calls Tryz.prog 139 #[.pointer (some ⟨sb,0,none⟩)] w (Did sb mb lb ty o w rv (c.go 4) (c.wrm l (2+c.A.toNat) c.B) (.tuple #[])):=by
 obtain⟨HS0,HM0,hfit,HF,HWD,HSL,HCP,HNR⟩:=h.start;clear hfit h;have HPH:=hid hph;clear hph;obtain⟨u0,hu0,hr0⟩:=HS0.out.op.row;have c10_0:=hr0.ph 10 3 HPH;clear hr0 hu0;have HW:=hid fun W (h:St W sb mb lb ty o c rv l)=>write_o sb mb lb ty o c rv l (2+c.A) (2+c.A.toNat) c.B W h (by omega) hj ⟨HF.out.B0,HF.out.B1⟩
 clear hj;have hs:IntKind.i64.wrap (2+c.A)=2+c.A:=sh_wrap (by omega) (by omega);have hs2:IntKind.i64.wrap c.A=c.A:=sh_wrap (by omega) (by omega);have hA0:=hA.1;have hA1:=hA.2;clear hA;go_enter Tryz.func139,Tryz.ntmps139;go_wp2_with fail;refine rgK (S:=(QOgG1 sb c)) HS0 HM0 (fun HS1=>let ⟨_,_,hr0⟩:=HS1.out.op.row;⟨(hr0.cell 13).trans rfl,(hr0.cell 14).trans rfl⟩) fun w1 HS1 HM1 hHeld=>?_
 refine tk4 0 1 2 3 ?_;refine tk4 4 5 6 7 ?_;refine tk4 8 9 10 11 ?_;refine tk2 12 13 ?_;refine tkH 14 ?_;refine clH 15 (fun K hK=>?_)
 ·go_simp;refine(HW.out _ HS1.out).mono (mvK HM1 fun w2 HS2 HM2=>?_);obtain⟨u2,hu2,hr2⟩:=HS2.out.op.row;have hSx2:(QOgG1 sb c) w2:=⟨(hr2.cell 13).trans rfl,(hr2.cell 14).trans rfl⟩;clear hr2 hu2;refine kH hK hSx2 fun hHeld=>?_
  clear hK K;refine dnH ?_;clear hHeld hSx2;go_wp2_with fail;refine(go_o sb mb lb ty o _ _ _ 4 4 _ HS2.out rfl).mono (mvK HM2 fun w3 HS3 HM3=>?_);go_wp2_with fail
  go_end0
  exact⟨_,rfl,HS3.out,HM3.out⟩
theorem four_w4 (w:World) (h:St w sb mb lb ty o c rv l) (hph:c.ph=4) (hj:c.base+0<l.length):Calls Tryz.prog 139 #[.pointer (some ⟨sb,0,none⟩)] w (Did sb mb lb ty o w rv (c.fin 0) (c.wrm l 0 c.A) (.tuple #[])):=by
 obtain⟨HS0,HM0,hfit,HF,HWD,HSL,HCP,HNR⟩:=h.start;clear hfit h;have HPH:=hid hph;clear hph;obtain⟨u0,hu0,hr0⟩:=HS0.out.op.row;have c10_0:=hr0.ph 10 4 HPH;clear hr0 hu0;have HW:=hid fun W (h:St W sb mb lb ty o c rv l)=>write_o sb mb lb ty o c rv l 0 0 c.A W h (by omega) hj ⟨HF.out.A0,HF.out.A1⟩
 clear hj;go_enter Tryz.func139,Tryz.ntmps139;go_wp2_with fail;refine rgK (S:=(fun w':World=>w'.cell? ⟨sb,13,none⟩=some (.int .u32 c.A))) HS0 HM0 (fun HS1=>let ⟨_,_,hr0⟩:=HS1.out.op.row;(hr0.cell 13).trans rfl) fun w1 HS1 HM1 hHeld=>?_
 refine tk4 0 1 2 3 ?_;refine tk4 4 5 6 7 ?_;refine clH 8 (fun K hK=>?_)
 ·go_simp;refine(HW.out _ HS1.out).mono (mvK HM1 fun w2 HS2 HM2=>?_);obtain⟨u2,hu2,hr2⟩:=HS2.out.op.row;have hSx2:(fun w':World=>w'.cell? ⟨sb,13,none⟩=some (.int .u32 c.A)) w2:=(hr2.cell 13).trans rfl;clear hr2 hu2;refine kH hK hSx2 fun hHeld=>?_
  clear hK K;refine dnH ?_;clear hHeld hSx2;go_wp2_with fail;refine(end_o sb mb lb ty o _ _ _ 0 _ HS2.out).mono (mvD HM2 fun w3 rv3 HS3 HM3=>?_);go_wp2_with fail
  go_end0
  exact⟨_,rfl,HS3.out,HM3.out⟩
theorem four_r0 (w:World) (h:St w sb mb lb ty o c rv l) (hph:c.ph=0) (hj:c.base+0<l.length):Calls Tryz.prog 140 #[.pointer (some ⟨sb,0,none⟩)] w (Did sb mb lb ty o w rv (({ c with A:=c.rdm l 0%2 }:Kc).go 1) l (.tuple #[])):=by
 obtain⟨HS0,HM0,hfit,HF,HWD,HSL,HCP,HNR⟩:=h.start;clear hfit h;have HPH:=hid hph;clear hph;obtain⟨u0,hu0,hr0⟩:=HS0.out.op.row;have c10_0:=hr0.ph 10 0 HPH;clear hr0 hu0;have hz:=rdm_bd hj HS0.out.mem.w32;have HR:=hid fun W (h:St W sb mb lb ty o c rv l)=>read_o sb mb lb ty o c rv l 0 0 W h (by omega) hj
 obtain⟨z,hz'⟩:∃ x,c.rdm l 0=x:=⟨_,rfl⟩;rw[hz'] at HR hz;try rw[hz']
 have Hz':=hid hz';clear hz' hj;have hz0:=hz.1;have hz1:=hz.2;clear hz;have hone:=and_one hz0 hz1;have hb:=(show 0≤z%2∧z%2≤1 by omega);obtain⟨Z,hZ⟩:∃ x,z%2=x:=⟨_,rfl⟩;rw[hZ] at hone hb ⊢;clear hZ;go_enter Tryz.func140,Tryz.ntmps140;go_wp2_with fail;refine(HR.out _ HS0.out).mono (mvK HM0 fun w1 HS1 HM1=>?_);obtain⟨u1,hu1,hr1⟩:=HS1.out.op.row;have c13_1:=hr1.at 13 (.int .u32 c.A);have f13_1:=hr1.frozen 13;clear hr1 hu1;go_wp2_with fail;obtain⟨HS2,HM2⟩:=nxx (HS1.out.setA (Z) (by omega)) HM1;go_wp2_with fail;refine(go_o sb mb lb ty o _ _ _ 1 1 _ HS2.out rfl).mono (mvK HM2 fun w3 HS3 HM3=>?_);go_wp2_with fail
 go_end0
 exact⟨_,rfl,HS3.out,HM3.out⟩
theorem four_r1 (w:World) (h:St w sb mb lb ty o c rv l) (hph:c.ph=1) (hj:c.base+1<l.length):Calls Tryz.prog 140 #[.pointer (some ⟨sb,0,none⟩)] w (Did sb mb lb ty o w rv (c.go 2) (c.wrm l 1 c.A) (.tuple #[])):=by
 obtain⟨HS0,HM0,hfit,HF,HWD,HSL,HCP,HNR⟩:=h.start;clear hfit h;have HPH:=hid hph;clear hph;obtain⟨u0,hu0,hr0⟩:=HS0.out.op.row;have c10_0:=hr0.ph 10 1 HPH;clear hr0 hu0;have HW:=hid fun W (h:St W sb mb lb ty o c rv l)=>write_o sb mb lb ty o c rv l 1 1 c.A W h (by omega) hj ⟨HF.out.A0,HF.out.A1⟩
 clear hj;go_enter Tryz.func140,Tryz.ntmps140;go_wp2_with fail;refine rgK (S:=(fun w':World=>w'.cell? ⟨sb,13,none⟩=some (.int .u32 c.A))) HS0 HM0 (fun HS1=>let ⟨_,_,hr0⟩:=HS1.out.op.row;(hr0.cell 13).trans rfl) fun w1 HS1 HM1 hHeld=>?_
 refine tk4 0 1 2 3 ?_;refine tk4 4 5 6 7 ?_;refine clH 8 (fun K hK=>?_)
 ·go_simp;refine(HW.out _ HS1.out).mono (mvK HM1 fun w2 HS2 HM2=>?_);obtain⟨u2,hu2,hr2⟩:=HS2.out.op.row;have hSx2:(fun w':World=>w'.cell? ⟨sb,13,none⟩=some (.int .u32 c.A)) w2:=(hr2.cell 13).trans rfl;clear hr2 hu2;refine kH hK hSx2 fun hHeld=>?_
  clear hK K;refine dnH ?_;clear hHeld hSx2;go_wp2_with fail;refine(go_o sb mb lb ty o _ _ _ 2 2 _ HS2.out rfl).mono (mvK HM2 fun w3 HS3 HM3=>?_);go_wp2_with fail
  go_end0
  exact⟨_,rfl,HS3.out,HM3.out⟩
theorem four_r2 (w:World) (h:St w sb mb lb ty o c rv l) (hph:c.ph=2) (hA:0≤c.A∧c.A≤1) (hj:c.base+(2+c.A.toNat)<l.length):Calls Tryz.prog 140 #[.pointer (some ⟨sb,0,none⟩)] w (Did sb mb lb ty o w rv (({ c with B:=c.rdm l (2+c.A.toNat)%2 }:Kc).go 3) l (.tuple #[])):=by
 obtain⟨HS0,HM0,hfit,HF,HWD,HSL,HCP,HNR⟩:=h.start;clear hfit h;have HPH:=hid hph;clear hph;obtain⟨u0,hu0,hr0⟩:=HS0.out.op.row;have c10_0:=hr0.ph 10 2 HPH;clear hr0 hu0;have hz:=rdm_bd hj HS0.out.mem.w32;have HR:=hid fun W (h:St W sb mb lb ty o c rv l)=>read_o sb mb lb ty o c rv l (2+c.A) (2+c.A.toNat) W h (by omega) hj
 obtain⟨z,hz'⟩:∃ x,c.rdm l (2+c.A.toNat)=x:=⟨_,rfl⟩;rw[hz'] at HR hz;try rw[hz']
 have Hz':=hid hz';clear hz' hj;have hz0:=hz.1;have hz1:=hz.2;clear hz;have hone:=and_one hz0 hz1;have hb:=(show 0≤z%2∧z%2≤1 by omega);obtain⟨Z,hZ⟩:∃ x,z%2=x:=⟨_,rfl⟩;rw[hZ] at hone hb ⊢;clear hZ;have hs:IntKind.i64.wrap (2+c.A)=2+c.A:=sh_wrap (by omega) (by omega);have hs2:IntKind.i64.wrap c.A=c.A:=sh_wrap (by omega) (by omega);have hA0:=hA.1;have hA1:=hA.2;clear hA;go_enter Tryz.func140,Tryz.ntmps140;go_wp2_with fail;refine rgK (S:=(fun w':World=>w'.cell? ⟨sb,13,none⟩=some (.int .u32 c.A))) HS0 HM0 (fun HS1=>let ⟨_,_,hr0⟩:=HS1.out.op.row;(hr0.cell 13).trans rfl) fun w1 HS1 HM1 hHeld=>?_
 refine tk4 0 1 2 3 ?_;refine tk4 4 5 6 7 ?_;refine tk2 8 9 ?_;refine tkH 10 ?_;refine clH 11 (fun K hK=>?_)
 ·go_simp;refine(HR.out _ HS1.out).mono (mvK HM1 fun w2 HS2 HM2=>?_);obtain⟨u2,hu2,hr2⟩:=HS2.out.op.row;have hSx2:(fun w':World=>w'.cell? ⟨sb,13,none⟩=some (.int .u32 c.A)) w2:=(hr2.cell 13).trans rfl;have c14_2:=hr2.at 14 (.int .u32 c.B);have f14_2:=hr2.frozen 14;clear hr2 hu2;refine kH hK hSx2 fun hHeld=>?_
  clear hK K;refine tk4 12 13 14 15 ?_;refine clH 16 (fun K hK=>?_)
  ·go_simp;obtain⟨HS3,HM3⟩:=nxx (HS2.out.setB (Z) (by omega)) HM2;obtain⟨u3,hu3,hr3⟩:=HS3.out.op.row;have hSx3:(fun w':World=>w'.cell? ⟨sb,13,none⟩=some (.int .u32 c.A)) (w2.setCell ⟨sb,14,none⟩ (.int .u32 (Z))):=(hr3.cell 13).trans rfl;clear hr3 hu3;refine kH hK hSx3 fun hHeld=>?_
   clear hK K;refine dnH ?_;clear hHeld hSx3;go_wp2_with fail;refine(go_o sb mb lb ty o _ _ _ 3 3 _ HS3.out rfl).mono (mvK HM3 fun w4 HS4 HM4=>?_);go_wp2_with fail
   go_end0
   exact⟨_,rfl,HS4.out,HM4.out⟩
theorem four_r3 (w:World) (h:St w sb mb lb ty o c rv l) (hph:c.ph=3) (hA:0≤c.A∧c.A≤1) (hB:0≤c.B∧c.B≤1) (hwr:c.wr=true→c.i<c.rc.length) (hrl:c.rc.length≤1000000) (hi2:c.i<1000) (hj:c.base+(4+(2*c.A+c.B).toNat*c.wd+c.i)<l.length) (hf1:4+(2*c.A+c.B).toNat*c.wd≤1000000):Calls Tryz.prog 140 #[.pointer (some ⟨sb,0,none⟩)] w (Did sb mb lb ty o w rv (c.word l (4+(2*c.A+c.B).toNat*c.wd) (·.fin 0)).1 (c.word l (4+(2*c.A+c.B).toNat*c.wd) (·.fin 0)).2 (.tuple #[])):=by
 obtain⟨HS0,HM0,hfit,HF,HWD,HSL,HCP,HNR⟩:=h.start;clear hfit h;have HPH:=hid hph;clear hph;obtain⟨u0,hu0,hr0⟩:=HS0.out.op.row;have c10_0:=hr0.ph 10 3 HPH;clear hr0 hu0;have HFR:=hid fun W (h:St W sb mb lb ty o c rv l)=>fourFrom_o sb mb lb ty o c rv l W h hA hB
 clear hA hB;obtain⟨FR,hFR⟩:∃ x,4+(2*c.A+c.B).toNat*c.wd=x:=⟨_,rfl⟩;rw[hFR] at HFR hj hf1 ⊢;clear hFR;have HWO:=hid fun W (rv:Value) (h:St W sb mb lb ty o c rv l)=>word_o sb mb lb ty o c rv l (FR) W h hwr hrl hi2 hj hf1
 clear hwr hrl hi2 hj hf1;rw[Kc.word_eq]
 by_cases hlast:c.wd≤c.i+1
 ·rw[if_pos hlast];have hd:decide ((c.wd:Int)≤(c.i:Int)+1)=true:=decide_eq_true (by omega);rw[hd] at HWO;clear hlast hd;go_enter Tryz.func140,Tryz.ntmps140;go_wp2_with fail;refine rgK (S:=(fun _:World=>True)) HS0 HM0 (fun HS1=>let ⟨_,_,hr0⟩:=HS1.out.op.row;trivial) fun w1 HS1 HM1 hHeld=>?_
  refine tk4 0 1 2 3 ?_;refine clH 4 (fun K hK=>?_)
  ·go_simp;refine(HFR.out _ HS1.out).mono ?_;rintro ex w2 ⟨rfl,hb⟩;have HS2:=hid (HS1.out.below hb);have HM2:=hid (HM1.out.trans (Mv.below hb _));clear hb;have hSx2:(fun _:World=>True) w2:=trivial;refine kH hK hSx2 fun hHeld=>?_
   clear hK K;refine clH 5 (fun K hK=>?_)
   ·go_simp;refine(HWO.out _ _ HS2.out).mono (mvD HM2 fun w3 rv3 HS3 HM3=>?_);have hSx3:(fun _:World=>True) w3:=trivial;refine kH hK hSx3 fun hHeld=>?_
    clear hK K;refine dnH ?_;clear hHeld hSx3;go_wp2_with fail;refine(end_o sb mb lb ty o _ _ _ 0 _ HS3.out).mono (mvD HM3 fun w4 rv4 HS4 HM4=>?_);go_wp2_with fail
    go_end0
    exact⟨_,rfl,HS4.out,HM4.out⟩
 ·rw[if_neg hlast];have hd:decide ((c.wd:Int)≤(c.i:Int)+1)=false:=decide_eq_false (by omega);rw[hd] at HWO;clear hlast hd;go_enter Tryz.func140,Tryz.ntmps140;go_wp2_with fail;refine rgK (S:=(fun _:World=>True)) HS0 HM0 (fun HS1=>let ⟨_,_,hr0⟩:=HS1.out.op.row;trivial) fun w1 HS1 HM1 hHeld=>?_
  refine tk4 0 1 2 3 ?_;refine clH 4 (fun K hK=>?_)
  ·go_simp;refine(HFR.out _ HS1.out).mono ?_;rintro ex w2 ⟨rfl,hb⟩;have HS2:=hid (HS1.out.below hb);have HM2:=hid (HM1.out.trans (Mv.below hb _));clear hb;have hSx2:(fun _:World=>True) w2:=trivial;refine kH hK hSx2 fun hHeld=>?_
   clear hK K;refine clH 5 (fun K hK=>?_)
   ·go_simp;refine(HWO.out _ _ HS2.out).mono (mvD HM2 fun w3 rv3 HS3 HM3=>?_);have hSx3:(fun _:World=>True) w3:=trivial;refine kH hK hSx3 fun hHeld=>?_
    clear hK K;refine dnH ?_;clear hHeld hSx3;go_wp2_with fail
    go_end0
    exact⟨_,rfl,HS3.out,HM3.out⟩
end
end Go.Proofs.YtolmpehgeinlkaaGreatDoor
