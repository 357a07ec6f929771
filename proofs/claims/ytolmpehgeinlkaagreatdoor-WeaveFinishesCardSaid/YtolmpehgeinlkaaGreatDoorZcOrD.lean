/- The document's operation: note, a record's next word. -/
import Derived.Test.YtolmpehgeinlkaaGreatDoorZcOrA
import Derived.Test.YtolmpehgeinlkaaGreatDoorZcShG
namespace Go.Proofs.YtolmpehgeinlkaaGreatDoor
open Go.RowKit
open Go.Lib (hid)
attribute [local go_sem] Oper.semAt_some
set_option maxHeartbeats 2000000
set_option maxRecDepth 100000
abbrev uO (a0:Nat) (a1:Ob) (a2:Kc) (w':World):Prop:=w'.cell? ⟨a0,0,none⟩=some (.int .i64 a1.k)∧w'.cell? ⟨a0,1,none⟩=some (.int .i64 a1.wd)∧w'.cell? ⟨a0,2,none⟩=some (.int .i64 a1.s)∧w'.cell? ⟨a0,3,none⟩=some (.int .i64 a1.c)∧w'.cell? ⟨a0,4,none⟩=some (.int .u32 a1.st)∧w'.cell? ⟨a0,5,none⟩=some (.slice a1.I a1.ni a1.ci)∧w'.cell? ⟨a0,6,none⟩=some (.int .i64 a1.wr)∧w'.cell? ⟨a0,7,none⟩=some (.slice a1.R a1.nr a1.cr)∧w'.cell? ⟨a0,12,none⟩=some (.int .i64 (a2.i:Int))
abbrev ux (a0:Nat) (a1:Kc) (a2:Ob) (w':World):Prop:=w'.cell? ⟨a0,9,none⟩=some (.int .i64 a1.op)∧w'.cell? ⟨a0,0,none⟩=some (.int .i64 a2.k)
abbrev Cn (a0:Nat) (a1:Kc) (a2 a3 a4:Nat) (a5:Int) (w':World):Prop:=w'.cell? ⟨a0,12,none⟩=some (.int .i64 (a1.i:Int))∧w'.cell? ⟨a0,38,none⟩=some (.slice (some ⟨a2,a3,none⟩) a1.rc.length a4)∧w'.cell? ⟨a2,a3+a1.i,none⟩=some (.int .u32 a5)
abbrev yF (a0:Nat) (a1:Kc) (w':World):Prop:=w'.cell? ⟨a0,12,none⟩=some (.int .i64 ((a1.i:Int)+1))∧w'.cell? ⟨a0,1,none⟩=some (.int .i64 (a1.wd:Int))
section
variable (yb lb cap:Nat) (o:Ob) (c:Kc) (rv:Value) (l:List Int)
theorem zo {R:Nat} {v:Nat→Bool} {s:Nat} (h:¬ s<R):Kc.noteR R v (s:Int)=v:=by
 funext k
 unfold Kc.noteR;rw[decide_eq_false (show ¬ (s:Int)<(R:Int) by omega),Bool.and_false,Bool.or_false]
theorem AP {R:Nat} {v:Nat→Bool} {s:Nat} (h:s<R) (k:Nat):Kc.noteR R v (s:Int) k=(v k || decide (k=s)):=by
 unfold Kc.noteR;rw[decide_eq_true (show(s:Int)<(R:Int) by omega),Bool.and_true]
 congr 1
 rw[decide_eq_decide];omega
theorem vc (s R:Nat) (w:World) (h:SR w yb lb cap o c rv l) (hs:s<4294967296) (hR:cU o=(R:Int)) (I0:R≤20) (Fz:s<R):Calls Tryz.prog 127 #[.pointer (some ⟨yb,0,none⟩),.int .u32 (s:Int)] w (uA yb lb cap o w rv { c with used:=Kc.noteR R c.used (s:Int) } l (.tuple #[])):=by
 obtain⟨aj,ay,ah,HF,bp,aS,bx,bj⟩:=h.start;clear ah h;have EY:=hid fun W=>kC o (by have:=bj.out;have:=HF.out.nr1;omega) W
 rw[hR] at EY;have hd:decide ((s:Int)<(R:Int))=true:=decide_eq_true (by omega);have hw:IntKind.i64.wrap (s:Int)=(s:Int):=ac (by omega) (by omega);have HP:=hid Fz;have JC:s<20:=by omega
 clear hR Fz;unfold af at EY;have ag:=aj.out.row;have c0_0:=ag.at 0 (.int .i64 o.k);have c1_0:=ag.at 1 (.int .i64 o.wd);have c2_0:=ag.at 2 (.int .i64 o.s);have c3_0:=ag.at 3 (.int .i64 o.c);have c4_0:=ag.at 4 (.int .u32 o.st);have c5_0:=ag.at 5 (.slice o.I o.ni o.ci);have c6_0:=ag.at 6 (.int .i64 o.wr);have c7_0:=ag.at 7 (.slice o.R o.nr o.cr);clear ag;go_enter Tryz.func127,Tryz.ntmps127;go_wp2_with fail;refine(EY.out _).mono ?_;rintro ex w1 ⟨rfl,hb⟩;have ai:=hid (aj.out.below hb);have au:=hid (ay.out.trans (Mv.below hb _));clear hb;have hr:=ai.out.row;have hc:=nW hr s JC;have hg:=hr.frozen (18+s);have dU:(0:Int)≤(s:Int):=by omega
 have dA:(s:Int)<20:=by omega
 clear hr;go_wp2_with fail;obtain⟨bZ,fq⟩:=ai.out.note s JC (Kc.noteR R c.used (s:Int)) (AP HP.out)
 go_end0
 exact⟨rfl,bZ,au.out.trans fq⟩
theorem sE (s R:Nat) (w:World) (h:SR w yb lb cap o c rv l) (hs:s<4294967296) (hR:cU o=(R:Int)) (_hR2:R≤20) (Fz:¬ s<R):Calls Tryz.prog 127 #[.pointer (some ⟨yb,0,none⟩),.int .u32 (s:Int)] w (uA yb lb cap o w rv { c with used:=Kc.noteR R c.used (s:Int) } l (.tuple #[])):=by
 obtain⟨aj,ay,ah,HF,bp,aS,bx,bj⟩:=h.start;clear ah h;have EY:=hid fun W=>kC o (by have:=bj.out;have:=HF.out.nr1;omega) W
 rw[hR] at EY;have hd:decide ((s:Int)<(R:Int))=false:=decide_eq_false (by omega);have hw:IntKind.i64.wrap (s:Int)=(s:Int):=ac (by omega) (by omega);have HP:=hid Fz;clear hR Fz;unfold af at EY;have ag:=aj.out.row;have c0_0:=ag.at 0 (.int .i64 o.k);have c1_0:=ag.at 1 (.int .i64 o.wd);have c2_0:=ag.at 2 (.int .i64 o.s);have c3_0:=ag.at 3 (.int .i64 o.c);have c4_0:=ag.at 4 (.int .u32 o.st);have c5_0:=ag.at 5 (.slice o.I o.ni o.ci);have c6_0:=ag.at 6 (.int .i64 o.wr);have c7_0:=ag.at 7 (.slice o.R o.nr o.cr);clear ag;go_enter Tryz.func127,Tryz.ntmps127;go_wp2_with fail;refine(EY.out _).mono ?_;rintro ex w1 ⟨rfl,hb⟩;have ai:=hid (aj.out.below hb);have au:=hid (ay.out.trans (Mv.below hb _));clear hb;go_wp2_with fail
 go_end0
 rw[zo HP.out];exact⟨rfl,ai.out,au.out⟩
theorem kO (z:Int) (R:Nat) (w:World) (h:SR w yb lb cap o c rv l) (hz:0≤z∧z<4294967296) (hR:cU o=(R:Int)) (I0:R≤20):Calls Tryz.prog 127 #[.pointer (some ⟨yb,0,none⟩),.int .u32 z] w (uA yb lb cap o w rv { c with used:=Kc.noteR R c.used z } l (.tuple #[])):=by
 obtain⟨s,rfl⟩:∃ s:Nat,z=(s:Int):=⟨z.toNat,by omega⟩
 by_cases hs:s<R
 ·exact vc yb lb cap o c rv l s R w h (by omega) hR I0 hs
 ·exact sE yb lb cap o c rv l s R w h (by omega) hR I0 hs
end
section
variable {yb lb cap:Nat} {w w':World} {rv rv':Value} {o:Ob} {c c':Kc} {l l':List Int} {B LL:Nat}
theorem SR.cellB (h:SR w yb lb cap o c rv l) (hB:c.base=B) (hL:B+LL=l.length) (j:Nat) (hj:j<LL):w.cell? ⟨lb,B+j,none⟩=some (.int .u32 (c.rdm l j))∧w.frozen? ⟨lb,B+j,none⟩=false∧0≤c.rdm l j∧c.rdm l j<4294967296:=by
 subst hB;exact h.cell j (by omega)
theorem SR.putB (h:SR w yb lb cap o c rv l) (hB:c.base=B) (hL:B+LL=l.length) (j:Nat) (hj:j<LL) (v:Int) (hv:0≤v∧v<4294967296):SR (w.setCell ⟨lb,B+j,none⟩ (.int .u32 v)) yb lb cap o c rv (c.wrm l j v)∧Mv yb lb lb w (w.setCell ⟨lb,B+j,none⟩ (.int .u32 v)) rv rv:=by
 subst hB;exact h.put j (by omega) v hv
theorem SR.app {v':Value} {w9:World} {z:Int} (h:SR w yb lb cap o c rv l) (hz:0≤z∧z<4294967296) (cT:w9.ownsRow 0 22 1 v' (c.rc.length+1) ((bB .u32).all c.rc++[.int .u32 z])) (ht:Tch (fun b=>rv.ownBlock=some b) w w9) (jI:v'.ownBlock=rv.ownBlock∨v'.ownBlock=some w.heap.size):
  SR (w9.setCell ⟨yb,38,none⟩ v') yb lb cap o { c with rc:=c.rc++[z] } v' l∧Mv yb lb lb w (w9.setCell ⟨yb,38,none⟩ v') rv v':=by
 have ev:=h.row.tch ht h.s2;have aZ:=h.row.lt
 have oQ:lb<w.heap.size:=by
  obtain⟨cur,hc⟩:=jP h.mem;exact hc.lt
 have i7:∀ b,b<w.heap.size→rv.ownBlock≠some b→v'.ownBlock≠some b:=fun b hb hn e=>by
  rcases jI with q | q
  ·exact hn (q ▸ e)
  ·rw[q] at e;have:=Option.some.inj e;omega
 have G3:=aG h.mem ht (fun b hb e=>h.s3 (by have:lb=b:=Option.some.inj hb;rw[this,e]));have km:Tch (fun b=>b=yb) w9 (w9.setCell ⟨yb,38,none⟩ v'):=(Tch.refl (fun b=>b=yb) w9).set (b:=yb) rfl 38 v';have hf:=h.fits;refine⟨⟨ev.set 38 v',aG (uC rfl cT) km (fun b hb e=>i7 yb aZ h.s2 (by rw[hb,e])),?_,⟨hf.kd,hf.wd,hf.sl,hf.cap,hf.nr,hf.wd1,hf.nr1,hf.sl1,hf.cap1,hf.rd1,hf.base1,hf.size1,hf.i1,hf.tr1,hf.st1,hf.A0,hf.A1,hf.B0,hf.B1⟩,aG G3 km (fun b hb e=>h.s1 (by have:lb=b:=Option.some.inj hb;rw[this,e])),h.w32,h.len,h.s1,i7 yb aZ h.s2,i7 lb oQ h.s3,h.opk⟩,⟨(ht.mono fun _ _ q=>.inr (.inr (.inr q))).set (.inl rfl) 38 v',fun b hb=>?_⟩⟩
 ·intro x hx
  rcases List.mem_append.1 hx with q | q
  ·exact h.w32r x q
  ·rw[List.mem_singleton.1 q];exact hz
 ·rcases jI with q | q
  ·exact .inl (q ▸ hb)
  ·rw[q] at hb;exact .inr (by have:=Option.some.inj hb;omega)
end
section
variable (yb lb cap:Nat) (o:Ob) (c:Kc) (rv:Value) (l:List Int)
def Kc.wend (c:Kc) (row:Int):Kc:=if row<0 then c.fin 0 else c.go row.toNat
def Kc.wdone (c:Kc) (row:Int) (d:Kc):Kc:=if c.wd≤c.i+1 then d.wend row else d
theorem qk (B LL CC:Nat) (z:Int) (Hd frm:Nat) (row:Int) (w:World) (h:SR w yb lb cap o c rv l) (az:c.base=B) (aD:B+LL=l.length) (hk:bG o.k=true) (hH:bn o=(Hd:Int)) (E5:Hd≤5) (hz:0≤z∧z≤20) (mU:frm=Hd+z.toNat*c.wd) (hj:frm+c.i<LL) (dD:c.i<1000) (bM:c.wr=true) (hi:c.i<c.rc.length):
  Calls Tryz.prog 125 #[.pointer (some ⟨yb,0,none⟩),.slice (some ⟨lb,B,none⟩) LL CC,.int .u32 z,.int .i64 row] w (aU yb lb cap o w rv (c.wdone row (c.wst l frm)) (c.wmem l frm) (.tuple #[])):=by
 have aj:=hid h;have ay:=hid (Mv.refl (sb:=yb) (mb:=lb) (lb:=lb) w rv);have ah:=h.fits;have bp:=hid ah.wd;have aS:=hid ah.sl;have bx:=hid ah.cap;have bj:=hid ah.nr;have aA:=oy hk h.opk;rw[bM] at aA;have dy:=ah.wd1;have lr:=ah.wd;have Cg:=ah.nr1;have yC:0≤o.wd:=by omega
 have ES:o.wd≤8:=by omega
 have m1:0≤z*o.wd:=Int.mul_nonneg hz.1 yC;have m2:z*o.wd≤20*8:=Int.mul_le_mul hz.2 ES yC (by decide);have e0:IntKind.i64.wrap z=z:=ac (by omega) (by omega);have e1:IntKind.i64.wrap (z*o.wd)=z*o.wd:=ac (by omega) (by omega);have e2:IntKind.i64.wrap ((Hd:Int)+z*o.wd)=(Hd:Int)+z*o.wd:=ac (by omega) (by omega);have e3:IntKind.i64.wrap ((Hd:Int)+z*o.wd+(c.i:Int))=(Hd:Int)+z*o.wd+(c.i:Int):=ac (by omega) (by omega)
 have BB:(Hd:Int)+z*o.wd+(c.i:Int)=((frm+c.i:Nat):Int):=by
  rw[mU,Int.natCast_add,Int.natCast_add,Int.natCast_mul,Int.toNat_of_nonneg hz.1,lr]
 have fo:=hid fun W=>ku o (by have:=bj.out;omega) W
 rw[hH] at fo;unfold af at fo;have ig:=hid fun W=>bc o.k W hk
 obtain⟨HI,Gz⟩:∃ x:Int,(Hd:Int)=x:=⟨_,rfl⟩;rw[Gz] at fo e2 e3 BB;obtain⟨AT,tS⟩:∃ x,frm+c.i=x:=⟨_,rfl⟩;rw[tS] at BB hj;have Jh:=hid BB;have Hh:=hid tS;have sj:=hid aA;have ax:=hid (And.intro az aD);have HJ:=hid hj;have zW:=hid bM;have kg:=hid dD;have jA:=hid hi;have pP:(0:Int)≤(c.i:Int):=by omega
 have LD:(c.i:Int)≤1000:=by omega
 have cD:=hid hk;clear h ah aA dy lr Cg yC ES m1 m2 Gz hH mU BB tS hj az aD hk bM dD hi hz;go_enter Tryz.func125,Tryz.ntmps125;go_wp2_with fail;have ag:=aj.out.drew.row;have ct:(uO yb o c) w.drew:=(by and_intros <;> exact ag.c rfl);have ai:=hid aj.out.drew;have au:=hid (ay.out.trans (Mv.drew w _));clear ag;refine dR ct fun w1 aW hHeld=>?_
 rw[aW] at ai au;clear aW ct;refine ap 0 1 2 3 ?_;refine ap 5 6 7 8 ?_;refine ap 9 10 11 12 ?_;refine ap 14 15 16 17 ?_;refine aJ 4 (fun K hK=>?_)
 ·go_simp;refine(fo.out _).mono ?_;rintro ex w2 ⟨rfl,hb⟩;have ar:=hid (ai.out.below hb);have aE:=hid (au.out.trans (Mv.below hb _));clear hb;have aC:=ar.out.row;have aB:(uO yb o c) w2:=(by and_intros <;> exact aC.c rfl);clear aC;refine kH hK aB fun hHeld=>?_
  clear hK K;refine bw 13 18 ?_;refine aF 19 ?_;refine bh ?_;clear hHeld aB;rw[Jh.out];have I5:(AT:Int)<(LL:Int):=by have:=HJ.out;omega
  have JO:(0:Int)≤(AT:Int):=by omega
  clear e0 e1 e2 e3;go_wp2_with fail;have aA:=sj.out;have aC:=ar.out.drew.row;have ct:(ux yb c o) w2.drew:=⟨(aC.cell 9).trans rfl,(aC.cell 0).trans rfl⟩;have aM:=hid ar.out.drew;have bf:=hid (aE.out.trans (Mv.drew w2 _));clear aC;refine dR ct fun w3 aW hHeld=>?_
  rw[aW] at aM bf;clear aW ct;refine ap 0 1 2 3 ?_;refine ap 4 5 6 7 ?_;refine aF 8 ?_;refine aJ 9 (fun K hK=>?_)
  ·go_simp;refine(ig.out _).mono ?_;rintro ex w4 ⟨rfl,rfl⟩;have cq:=aM;have dd:=bf;have dZ:=cq.out.row;have ed:(ux yb c o) w4:=⟨(dZ.cell 9).trans rfl,(dZ.cell 0).trans rfl⟩;clear dZ;refine kH hK ed fun hHeld=>?_
   clear hK K;refine aF 10 ?_;refine bh ?_;clear hHeld ed;clear aA;go_wp2_with fail;obtain⟨A,cp,C8,pZ,FS,bH⟩:=cq.out.rc.sl;obtain⟨x,hx⟩:=eF jA.out;have KD:c.rc.getD c.i 0=x:=by rw[List.getD_eq_getElem?_getD,hx];rfl
   have H9:=cq.out.w32r.get hx;obtain⟨rb,ro,hA,I1,ba⟩:=bH c.i x hx;subst hA
   have Kf:w4.cell? ⟨rb,ro+c.i,none⟩=some (.int .u32 x):=by
    have:=ba 0 _ rfl
    simpa [bB,Enc.of1] using this
   have DO:=hid C8;have bA:(c.i:Int)<(c.rc.length:Int):=by have:=jA.out;omega
   have nn:((c.i:Int)).toNat=c.i:=by omega
   have zf:=hid H9;have Ld:=hid KD;have BZ:=hid hx;have dV:=hid cq.out.drew;have fS:=hid (dd.out.trans (Mv.drew w4 _));have hr:=dV.out.row;have ct:(Cn yb c rb ro cp x) w4.drew:=⟨(hr.cell 12).trans rfl,(hr.cell 38).trans (by rw[← DO.out];rfl),Kf⟩;clear hr C8 pZ FS bH H9 KD hx I1 ba Kf;refine dR ct fun w5 aW hHeld=>?_
   rw[aW] at dV fS;clear aW ct;refine ap 0 1 2 3 ?_;refine ap 4 5 6 7 ?_;refine ap 8 9 10 11 ?_;refine aF 12 ?_;refine aJ 13 (fun K hK=>?_)
   ·obtain⟨mA,gA,_,_⟩:=dV.out.cellB ax.out.1 ax.out.2 AT HJ.out;go_simp;obtain⟨hs,hm⟩:=dV.out.putB ax.out.1 ax.out.2 AT HJ.out x zf.out;obtain⟨ja,pq⟩:=nx hs fS hm;have aN:(Cn yb c rb ro cp x) (w5.setCell ⟨lb,B+AT,none⟩ (.int .u32 x)):=⟨(hs.row.cell 12).trans rfl,(hs.row.cell 38).trans (by rw[← DO.out];rfl),rC DO.out hs.rc BZ.out⟩;clear hs hm;refine kH hK aN fun hHeld=>?_
    clear hK K;refine bh ?_;clear hHeld aN nn bA mA gA;generalize w5.setCell ⟨lb,B+AT,none⟩ (.int .u32 x)=w6 at ja pq ⊢
    have hE:SR w6 yb lb cap o c rv (c.wmem l frm):=by
     unfold Kc.wmem;rw[if_pos zW.out,Hh.out,Ld.out];exact ja.out
    have CR:({ c with i:=c.i+1 }:Kc)=c.wst l frm:=by unfold Kc.wst;rw[if_pos zW.out]
    have j4:=hid hE;have jQ:=hid CR;clear hE CR DO zf Ld BZ;have pJ:=pq;have hr:=j4.out.row;have c12:=hr.at 12 (.int .i64 (c.i:Int));have f12:=hr.frozen 12;have c1w:=hr.at 1 (.int .i64 (c.wd:Int)) (by rw[← bp.out];rfl);clear hr;go_wp2_with fail;obtain⟨kf,hm⟩:=j4.out.setI kg.out
    have hs:SR (w6.setCell ⟨yb,12,none⟩ (.int .i64 ((c.i:Int)+1))) yb lb cap o (c.wst l frm) rv (c.wmem l frm):=by
     rw[← jQ.out];exact kf
    have nc:=hid hs.drew;have qg:=hid ((pJ.out.trans hm).trans (Mv.drew _ _));have c12':(w6.setCell ⟨yb,12,none⟩ (.int .i64 ((c.i:Int)+1))).drew.cell? ⟨yb,12,none⟩=some (.int .i64 ((c.i:Int)+1)):=(hs.row.cell 12).trans (by show some (Value.int .i64 (((c.wst l frm).i:Nat):Int))=_;rfl);have c1':(w6.setCell ⟨yb,12,none⟩ (.int .i64 ((c.i:Int)+1))).drew.cell? ⟨yb,1,none⟩=some (.int .i64 (c.wd:Int)):=(hs.row.cell 1).trans (by rw[← bp.out];rfl);clear hs kf hm c12 f12 c1w;obtain⟨bd,hd⟩:∃ b,decide ((c.i:Int)+1<(c.wd:Int))=b:=⟨_,rfl⟩;have eJ:=hid hd;refine dR (S:=(yF yb c)) ⟨c12',c1'⟩ fun wd aW hHeld=>?_
    rw[aW] at nc qg;clear aW;refine ap 0 1 2 3 ?_;refine ap 4 5 6 7 ?_;refine bw 8 9 ?_;refine bh ?_;clear hHeld hd;cases bd
    ·have eC:=hid (show c.wd≤c.i+1 by have:=of_decide_eq_false eJ.out;omega)
     by_cases bm:row<0
     ·have hq:decide (row<0)=true:=decide_eq_true bm;have HQ:=hid bm;clear bm;go_wp2_with fail;refine(eu yb lb cap o _ _ _ 0 _ nc.out cD.out).mono (cS qg fun w9 rv9 tU xh=>?_);go_wp2_with fail
      go_end0
      exact⟨_,rfl,(by unfold Kc.wdone Kc.wend;rw[if_pos eC.out];rw[if_pos HQ.out];exact tU.out),xh.out⟩
     ·obtain⟨q,rfl⟩:∃ q:Nat,row=(q:Int):=⟨row.toNat,by omega⟩;have hq:decide ((q:Int)<0)=false:=decide_eq_false (by omega);clear bm;go_wp2_with fail;refine(dO yb lb cap o _ _ _ (q) q _ nc.out rfl).mono (bF qg fun w9 tU xh=>?_);go_wp2_with fail
      go_end0
      exact⟨_,rfl,(by unfold Kc.wdone Kc.wend;rw[if_pos eC.out];rw[if_neg (by omega)];exact tU.out),xh.out⟩
    ·have eC:=hid (show ¬ c.wd≤c.i+1 by have:=of_decide_eq_true eJ.out;omega);go_wp2_with fail
     go_end0
     exact⟨_,rfl,(by unfold Kc.wdone;rw[if_neg eC.out];exact nc.out),qg.out⟩
theorem qS (B LL CC:Nat) (z:Int) (Hd frm:Nat) (row:Int) (w:World) (h:SR w yb lb cap o c rv l) (az:c.base=B) (aD:B+LL=l.length) (hk:bG o.k=true) (hH:bn o=(Hd:Int)) (E5:Hd≤5) (hz:0≤z∧z≤20) (mU:frm=Hd+z.toNat*c.wd) (hj:frm+c.i<LL) (dD:c.i<1000) (bM:c.wr=false) (hi:c.rc.length≤1000000):
  Calls Tryz.prog 125 #[.pointer (some ⟨yb,0,none⟩),.slice (some ⟨lb,B,none⟩) LL CC,.int .u32 z,.int .i64 row] w (aU yb lb cap o w rv (c.wdone row (c.wst l frm)) (c.wmem l frm) (.tuple #[])):=by
 have aj:=hid h;have ay:=hid (Mv.refl (sb:=yb) (mb:=lb) (lb:=lb) w rv);have ah:=h.fits;have bp:=hid ah.wd;have aS:=hid ah.sl;have bx:=hid ah.cap;have bj:=hid ah.nr;have aA:=oy hk h.opk;rw[bM] at aA;have dy:=ah.wd1;have lr:=ah.wd;have Cg:=ah.nr1;have yC:0≤o.wd:=by omega
 have ES:o.wd≤8:=by omega
 have m1:0≤z*o.wd:=Int.mul_nonneg hz.1 yC;have m2:z*o.wd≤20*8:=Int.mul_le_mul hz.2 ES yC (by decide);have e0:IntKind.i64.wrap z=z:=ac (by omega) (by omega);have e1:IntKind.i64.wrap (z*o.wd)=z*o.wd:=ac (by omega) (by omega);have e2:IntKind.i64.wrap ((Hd:Int)+z*o.wd)=(Hd:Int)+z*o.wd:=ac (by omega) (by omega);have e3:IntKind.i64.wrap ((Hd:Int)+z*o.wd+(c.i:Int))=(Hd:Int)+z*o.wd+(c.i:Int):=ac (by omega) (by omega)
 have BB:(Hd:Int)+z*o.wd+(c.i:Int)=((frm+c.i:Nat):Int):=by
  rw[mU,Int.natCast_add,Int.natCast_add,Int.natCast_mul,Int.toNat_of_nonneg hz.1,lr]
 have fo:=hid fun W=>ku o (by have:=bj.out;omega) W
 rw[hH] at fo;unfold af at fo;have ig:=hid fun W=>bc o.k W hk
 obtain⟨HI,Gz⟩:∃ x:Int,(Hd:Int)=x:=⟨_,rfl⟩;rw[Gz] at fo e2 e3 BB;obtain⟨AT,tS⟩:∃ x,frm+c.i=x:=⟨_,rfl⟩;rw[tS] at BB hj;have Jh:=hid BB;have Hh:=hid tS;have sj:=hid aA;have ax:=hid (And.intro az aD);have HJ:=hid hj;have zW:=hid bM;have kg:=hid dD;have jA:=hid hi;have pP:(0:Int)≤(c.i:Int):=by omega
 have LD:(c.i:Int)≤1000:=by omega
 have cD:=hid hk;clear h ah aA dy lr Cg yC ES m1 m2 Gz hH mU BB tS hj az aD hk bM dD hi hz;go_enter Tryz.func125,Tryz.ntmps125;go_wp2_with fail;have ag:=aj.out.drew.row;have ct:(uO yb o c) w.drew:=(by and_intros <;> exact ag.c rfl);have ai:=hid aj.out.drew;have au:=hid (ay.out.trans (Mv.drew w _));clear ag;refine dR ct fun w1 aW hHeld=>?_
 rw[aW] at ai au;clear aW ct;refine ap 0 1 2 3 ?_;refine ap 5 6 7 8 ?_;refine ap 9 10 11 12 ?_;refine ap 14 15 16 17 ?_;refine aJ 4 (fun K hK=>?_)
 ·go_simp;refine(fo.out _).mono ?_;rintro ex w2 ⟨rfl,hb⟩;have ar:=hid (ai.out.below hb);have aE:=hid (au.out.trans (Mv.below hb _));clear hb;have aC:=ar.out.row;have aB:(uO yb o c) w2:=(by and_intros <;> exact aC.c rfl);clear aC;refine kH hK aB fun hHeld=>?_
  clear hK K;refine bw 13 18 ?_;refine aF 19 ?_;refine bh ?_;clear hHeld aB;rw[Jh.out];have I5:(AT:Int)<(LL:Int):=by have:=HJ.out;omega
  have JO:(0:Int)≤(AT:Int):=by omega
  clear e0 e1 e2 e3;go_wp2_with fail;have aA:=sj.out;have aC:=ar.out.drew.row;have ct:(ux yb c o) w2.drew:=⟨(aC.cell 9).trans rfl,(aC.cell 0).trans rfl⟩;have aM:=hid ar.out.drew;have bf:=hid (aE.out.trans (Mv.drew w2 _));clear aC;refine dR ct fun w3 aW hHeld=>?_
  rw[aW] at aM bf;clear aW ct;refine ap 0 1 2 3 ?_;refine ap 4 5 6 7 ?_;refine aF 8 ?_;refine aJ 9 (fun K hK=>?_)
  ·go_simp;refine(ig.out _).mono ?_;rintro ex w4 ⟨rfl,rfl⟩;have cq:=aM;have dd:=bf;have dZ:=cq.out.row;have ed:(ux yb c o) w4:=⟨(dZ.cell 9).trans rfl,(dZ.cell 0).trans rfl⟩;clear dZ;refine kH hK ed fun hHeld=>?_
   clear hK K;refine aF 10 ?_;refine bh ?_;clear hHeld ed;clear aA;go_wp2_with fail;obtain⟨mz,gz,zb0,zb1⟩:=cq.out.cellB ax.out.1 ax.out.2 AT HJ.out;obtain⟨x,hx⟩:∃ x,c.rdm l AT=x:=⟨_,rfl⟩;rw[hx] at mz zb0 zb1;have zf:=hid (And.intro zb0 zb1);have BZ:=hid hx;have dV:=hid cq.out.drew;have fS:=hid (dd.out.trans (Mv.drew w4 _));have hr:=dV.out.row;have ct:(fun w':World=>w'.cell? ⟨lb,B+AT,none⟩=some (.int .u32 x)) w4.drew:=mz;have c38:w4.drew.cell? ⟨yb,38,none⟩=some rv:=(hr.cell 38).trans rfl;clear hr mz gz zb0 zb1 hx;refine dR (S:=(fun w':World=>w'.cell? ⟨lb,B+AT,none⟩=some (.int .u32 x))) ct fun w5 aW hHeld=>?_
   rw[aW] at c38 dV fS;clear aW ct;refine ap 0 1 2 3 ?_;refine ap 5 6 7 8 ?_;refine jX [4,9] ?_;refine gN (fun K hK=>?_) ?_
   ·go_simp;refine kH hK hHeld fun hHeld=>?_
    clear hK K;refine aJ 9 (fun K hK=>?_)
    ·go_simp;have ck:=bt w5 (.cells #[.int .u32 x] 22);have fP:=hid (dV.out.below ck);have sG:=hid (fS.out.trans (Mv.below ck rv));have qJ:(fun w':World=>w'.cell? ⟨lb,B+AT,none⟩=some (.int .u32 x)) (w5.alloc (.cells #[.int .u32 x] 22)):=(fP.out.cellB ax.out.1 ax.out.2 AT HJ.out).1.trans (by show some (Value.int .u32 (c.rdm l AT))=_;rw[BZ.out]);have c38a:(w5.alloc (.cells #[.int .u32 x] 22)).cell? ⟨yb,38,none⟩=some rv:=(fP.out.row.cell 38).trans rfl;clear ck;refine kH hK qJ fun hHeld=>?_
     clear hK K;refine aJ 10 (fun K hK=>?_)
     ·refine cY (by rfl) (.tmp 56) (.tmp 61) 23 (by rfl) u32Ty 0 fP.out.rc (by rfl) (bD w5 [.int .u32 x] _ _ rfl) (by rfl) (by rfl) (by simp[Value.oneCell']) (by have:=jA.out;unfold maxLen;omega) (by have:=jA.out;omega) (Nat.zero_le _) ?_;intro v' w9 bk da cN;obtain⟨A9,M9,c9,rfl⟩:=aR bk;have tj:=hid bk;have sL:=hid da;have nL:=hid cN;have ev:=fP.out.row.tch da fP.out.s2;have mw:(fun w':World=>w'.cell? ⟨lb,B+AT,none⟩=some (.int .u32 x)) w9:=da.cell hHeld fP.out.s3;have c38n:w9.cell? ⟨yb,38,none⟩=some rv:=(ev.cell 38).trans rfl;have f38n:=ev.frozen 38;clear bk da cN ev;refine kH hK mw fun hHeld=>?_
      clear hK K;refine bw 11 12 ?_;refine aJ 13 (fun K hK=>?_)
      ·go_simp;obtain⟨pI,t8⟩:=fP.out.app zf.out tj.out sL.out nL.out;have uh:=hid pI;have uJ:=hid (sG.out.trans t8);have kI:(fun w':World=>w'.cell? ⟨lb,B+AT,none⟩=some (.int .u32 x)) (w9.setCell ⟨yb,38,none⟩ (.slice A9 M9 c9)):=(pI.cellB ax.out.1 ax.out.2 AT HJ.out).1.trans (by show some (Value.int .u32 (c.rdm l AT))=_;rw[BZ.out]);clear pI t8;refine kH hK kI fun hHeld=>?_
       clear hK K;refine bh ?_;clear hHeld;generalize w9.setCell ⟨yb,38,none⟩ (.slice A9 M9 c9)=w6 at uh uJ ⊢
       have hE:SR w6 yb lb cap o { c with rc:=c.rc++[c.rdm l (frm+c.i)] } (.slice A9 M9 c9) (c.wmem l frm):=by
        unfold Kc.wmem;rw[if_neg (by rw[zW.out];decide),Hh.out,BZ.out];exact uh.out
       have CR:({ c with rc:=c.rc++[c.rdm l (frm+c.i)],i:=c.i+1 }:Kc)=c.wst l frm:=by unfold Kc.wst;rw[if_neg (by rw[zW.out];decide)]
       have ja:=hid hE;have pq:=uJ;have jQ:=hid CR;clear hE CR;have hr:=ja.out.row;have c12:=hr.at 12 (.int .i64 (c.i:Int));have f12:=hr.frozen 12;have c1w:=hr.at 1 (.int .i64 (c.wd:Int)) (by rw[← bp.out];rfl);clear hr;go_wp2_with fail;obtain⟨kf,hm⟩:=ja.out.setI kg.out
       have hs:SR (w6.setCell ⟨yb,12,none⟩ (.int .i64 ((c.i:Int)+1))) yb lb cap o (c.wst l frm) (.slice A9 M9 c9) (c.wmem l frm):=by
        rw[← jQ.out];exact kf
       have j4:=hid hs.drew;have pJ:=hid ((pq.out.trans hm).trans (Mv.drew _ _));have c12':(w6.setCell ⟨yb,12,none⟩ (.int .i64 ((c.i:Int)+1))).drew.cell? ⟨yb,12,none⟩=some (.int .i64 ((c.i:Int)+1)):=(hs.row.cell 12).trans (by show some (Value.int .i64 (((c.wst l frm).i:Nat):Int))=_;rfl);have c1':(w6.setCell ⟨yb,12,none⟩ (.int .i64 ((c.i:Int)+1))).drew.cell? ⟨yb,1,none⟩=some (.int .i64 (c.wd:Int)):=(hs.row.cell 1).trans (by rw[← bp.out];rfl);clear hs kf hm c12 f12 c1w;obtain⟨bd,hd⟩:∃ b,decide ((c.i:Int)+1<(c.wd:Int))=b:=⟨_,rfl⟩;have eJ:=hid hd;refine dR (S:=(yF yb c)) ⟨c12',c1'⟩ fun wd aW hHeld=>?_
       rw[aW] at j4 pJ;clear aW;refine ap 0 1 2 3 ?_;refine ap 4 5 6 7 ?_;refine bw 8 9 ?_;refine bh ?_;clear hHeld hd;cases bd
       ·have eC:=hid (show c.wd≤c.i+1 by have:=of_decide_eq_false eJ.out;omega)
        by_cases bm:row<0
        ·have hq:decide (row<0)=true:=decide_eq_true bm;have HQ:=hid bm;clear bm;go_wp2_with fail;refine(eu yb lb cap o _ _ _ 0 _ j4.out cD.out).mono (cS pJ fun w8 rv8 nc qg=>?_);go_wp2_with fail
         go_end0
         exact⟨_,rfl,(by unfold Kc.wdone Kc.wend;rw[if_pos eC.out];rw[if_pos HQ.out];exact nc.out),qg.out⟩
        ·obtain⟨q,rfl⟩:∃ q:Nat,row=(q:Int):=⟨row.toNat,by omega⟩;have hq:decide ((q:Int)<0)=false:=decide_eq_false (by omega);clear bm;go_wp2_with fail;refine(dO yb lb cap o _ _ _ (q) q _ j4.out rfl).mono (bF pJ fun w8 nc qg=>?_);go_wp2_with fail
         go_end0
         exact⟨_,rfl,(by unfold Kc.wdone Kc.wend;rw[if_pos eC.out];rw[if_neg (by omega)];exact nc.out),qg.out⟩
       ·have eC:=hid (show ¬ c.wd≤c.i+1 by have:=of_decide_eq_true eJ.out;omega);go_wp2_with fail
        go_end0
        exact⟨_,rfl,(by unfold Kc.wdone;rw[if_neg eC.out];exact j4.out),pJ.out⟩
   ·refine gN (fun K hK=>?_) AllReadyH.nil
    ·go_simp;have ck:=bt w5 (.cells #[.int .u32 x] 22);have fP:=hid (dV.out.below ck);have sG:=hid (fS.out.trans (Mv.below ck rv));have qJ:(fun w':World=>w'.cell? ⟨lb,B+AT,none⟩=some (.int .u32 x)) (w5.alloc (.cells #[.int .u32 x] 22)):=(fP.out.cellB ax.out.1 ax.out.2 AT HJ.out).1.trans (by show some (Value.int .u32 (c.rdm l AT))=_;rw[BZ.out]);have c38a:(w5.alloc (.cells #[.int .u32 x] 22)).cell? ⟨yb,38,none⟩=some rv:=(fP.out.row.cell 38).trans rfl;clear ck;refine kH hK qJ fun hHeld=>?_
     clear hK K;refine aJ 4 (fun K hK=>?_)
     ·go_simp;refine kH hK hHeld fun hHeld=>?_
      clear hK K;refine aJ 10 (fun K hK=>?_)
      ·refine cY (by rfl) (.tmp 56) (.tmp 61) 23 (by rfl) u32Ty 0 fP.out.rc (by rfl) (bD w5 [.int .u32 x] _ _ rfl) (by rfl) (by rfl) (by simp[Value.oneCell']) (by have:=jA.out;unfold maxLen;omega) (by have:=jA.out;omega) (Nat.zero_le _) ?_;intro v' w9 bk da cN;obtain⟨A9,M9,c9,rfl⟩:=aR bk;have tj:=hid bk;have sL:=hid da;have nL:=hid cN;have ev:=fP.out.row.tch da fP.out.s2;have mw:(fun w':World=>w'.cell? ⟨lb,B+AT,none⟩=some (.int .u32 x)) w9:=da.cell hHeld fP.out.s3;have c38n:w9.cell? ⟨yb,38,none⟩=some rv:=(ev.cell 38).trans rfl;have f38n:=ev.frozen 38;clear bk da cN ev;refine kH hK mw fun hHeld=>?_
       clear hK K;refine bw 11 12 ?_;refine aJ 13 (fun K hK=>?_)
       ·go_simp;obtain⟨pI,t8⟩:=fP.out.app zf.out tj.out sL.out nL.out;have uh:=hid pI;have uJ:=hid (sG.out.trans t8);have kI:(fun w':World=>w'.cell? ⟨lb,B+AT,none⟩=some (.int .u32 x)) (w9.setCell ⟨yb,38,none⟩ (.slice A9 M9 c9)):=(pI.cellB ax.out.1 ax.out.2 AT HJ.out).1.trans (by show some (Value.int .u32 (c.rdm l AT))=_;rw[BZ.out]);clear pI t8;refine kH hK kI fun hHeld=>?_
        clear hK K;refine bh ?_;clear hHeld;generalize w9.setCell ⟨yb,38,none⟩ (.slice A9 M9 c9)=w6 at uh uJ ⊢
        have hE:SR w6 yb lb cap o { c with rc:=c.rc++[c.rdm l (frm+c.i)] } (.slice A9 M9 c9) (c.wmem l frm):=by
         unfold Kc.wmem;rw[if_neg (by rw[zW.out];decide),Hh.out,BZ.out];exact uh.out
        have CR:({ c with rc:=c.rc++[c.rdm l (frm+c.i)],i:=c.i+1 }:Kc)=c.wst l frm:=by unfold Kc.wst;rw[if_neg (by rw[zW.out];decide)]
        have ja:=hid hE;have pq:=uJ;have jQ:=hid CR;clear hE CR;have hr:=ja.out.row;have c12:=hr.at 12 (.int .i64 (c.i:Int));have f12:=hr.frozen 12;have c1w:=hr.at 1 (.int .i64 (c.wd:Int)) (by rw[← bp.out];rfl);clear hr;go_wp2_with fail;obtain⟨kf,hm⟩:=ja.out.setI kg.out
        have hs:SR (w6.setCell ⟨yb,12,none⟩ (.int .i64 ((c.i:Int)+1))) yb lb cap o (c.wst l frm) (.slice A9 M9 c9) (c.wmem l frm):=by
         rw[← jQ.out];exact kf
        have j4:=hid hs.drew;have pJ:=hid ((pq.out.trans hm).trans (Mv.drew _ _));have c12':(w6.setCell ⟨yb,12,none⟩ (.int .i64 ((c.i:Int)+1))).drew.cell? ⟨yb,12,none⟩=some (.int .i64 ((c.i:Int)+1)):=(hs.row.cell 12).trans (by show some (Value.int .i64 (((c.wst l frm).i:Nat):Int))=_;rfl);have c1':(w6.setCell ⟨yb,12,none⟩ (.int .i64 ((c.i:Int)+1))).drew.cell? ⟨yb,1,none⟩=some (.int .i64 (c.wd:Int)):=(hs.row.cell 1).trans (by rw[← bp.out];rfl);clear hs kf hm c12 f12 c1w;obtain⟨bd,hd⟩:∃ b,decide ((c.i:Int)+1<(c.wd:Int))=b:=⟨_,rfl⟩;have eJ:=hid hd;refine dR (S:=(yF yb c)) ⟨c12',c1'⟩ fun wd aW hHeld=>?_
        rw[aW] at j4 pJ;clear aW;refine ap 0 1 2 3 ?_;refine ap 4 5 6 7 ?_;refine bw 8 9 ?_;refine bh ?_;clear hHeld hd;cases bd
        ·have eC:=hid (show c.wd≤c.i+1 by have:=of_decide_eq_false eJ.out;omega)
         by_cases bm:row<0
         ·have hq:decide (row<0)=true:=decide_eq_true bm;have HQ:=hid bm;clear bm;go_wp2_with fail;refine(eu yb lb cap o _ _ _ 0 _ j4.out cD.out).mono (cS pJ fun w8 rv8 nc qg=>?_);go_wp2_with fail
          go_end0
          exact⟨_,rfl,(by unfold Kc.wdone Kc.wend;rw[if_pos eC.out];rw[if_pos HQ.out];exact nc.out),qg.out⟩
         ·obtain⟨q,rfl⟩:∃ q:Nat,row=(q:Int):=⟨row.toNat,by omega⟩;have hq:decide ((q:Int)<0)=false:=decide_eq_false (by omega);clear bm;go_wp2_with fail;refine(dO yb lb cap o _ _ _ (q) q _ j4.out rfl).mono (bF pJ fun w8 nc qg=>?_);go_wp2_with fail
          go_end0
          exact⟨_,rfl,(by unfold Kc.wdone Kc.wend;rw[if_pos eC.out];rw[if_neg (by omega)];exact nc.out),qg.out⟩
        ·have eC:=hid (show ¬ c.wd≤c.i+1 by have:=of_decide_eq_true eJ.out;omega);go_wp2_with fail
         go_end0
         exact⟨_,rfl,(by unfold Kc.wdone;rw[if_neg eC.out];exact j4.out),pJ.out⟩
end
end Go.Proofs.YtolmpehgeinlkaaGreatDoor
