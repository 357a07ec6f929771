/- The document's step, joined. -/
import Derived.Test.YtolmpehgeinlkaaGreatDoorZcOrJ
namespace Go.Proofs.YtolmpehgeinlkaaGreatDoor
open Go.RowKit
open Go.Lib (hid)
attribute [local go_sem] Oper.semAt_some
set_option maxHeartbeats 2000000
set_option maxRecDepth 100000
abbrev Di (a0:Nat) (a1:Ob) (a2:Kc) (w':World):Prop:=w'.cell? ⟨a0,0,none⟩=some (.int .i64 a1.k)∧w'.cell? ⟨a0,1,none⟩=some (.int .i64 a1.wd)∧w'.cell? ⟨a0,2,none⟩=some (.int .i64 a1.s)∧w'.cell? ⟨a0,3,none⟩=some (.int .i64 a1.c)∧w'.cell? ⟨a0,4,none⟩=some (.int .u32 a1.st)∧w'.cell? ⟨a0,5,none⟩=some (.slice a1.I a1.ni a1.ci)∧w'.cell? ⟨a0,6,none⟩=some (.int .i64 a1.wr)∧w'.cell? ⟨a0,7,none⟩=some (.slice a1.R a1.nr a1.cr)∧w'.cell? ⟨a0,8,none⟩=some (.int .i64 (a2.base:Int))∧w'.cell? ⟨a0,39,none⟩=some (.bool false)
abbrev Dd (a0:Nat) (a1:Kc) (a2:Ob) (w':World):Prop:=w'.cell? ⟨a0,9,none⟩=some (.int .i64 a1.op)∧w'.cell? ⟨a0,0,none⟩=some (.int .i64 a2.k)
section
variable (yb lb cap:Nat) (o:Ob) (c:Kc) (rv:Value) (l:List Int)
def LR (k:Int) (wr:Bool):Nat:=match k.toNat,wr with
 | 1,true=>81
 | 1,false=>82
 | 2,true=>83
 | 2,false=>84
 | 3,true=>85
 | 3,false=>86
 | 4,true=>87
 | 4,false=>87
 | 5,true=>88
 | 5,false=>89
 | 6,true=>90
 | 6,false=>90
 | _,_=>0
def MD (k:Int) (wr:Bool) (y l:Value):Array Value:=if k=4∨k=6 then #[y,l,.bool wr] else #[y,l]
theorem dl (w:World) (h:SR w yb lb cap o c rv l) (ho:o.Ok) (bX:c.over=false) (Ai:c.base≤l.length) (bK:av o≤(l.length:Int) - (c.base:Int)) (kf:0<av o) (hk:bG o.k=true) (k:Int) (wr:Bool) (dj:o.k=k) (bM:c.wr=wr) (dQ:c.steps<1000000) (fy:l.length≤cap) (d:Kc) (l2:List Int) (HW:∀ (W:World),SR W yb lb cap o { c with steps:=c.steps+1 } rv l→Calls Tryz.prog (LR k wr) (MD k wr (.pointer (some ⟨yb,0,none⟩)) (.slice (some ⟨lb,c.base,none⟩) (l.length - c.base) (cap - c.base))) W (aU yb lb cap o W rv d l2 (.tuple #[]))):Calls Tryz.prog 48 #[.pointer (some ⟨yb,0,none⟩),.slice (some ⟨lb,0,none⟩) l.length cap] w (aU yb lb cap o w rv d l2 (.bool true)):=by
 obtain⟨aj,ay,ah,HF,bp,aS,bx,bj⟩:=h.start;have ML:=ah.base1;have MS:=h.len;have Cq:=hid fun W=>lN o ho W
 unfold af at Cq;clear h ah ho;have vQ:=hid bX;have FE:decide ((l.length:Int)<(c.base:Int))=false:=decide_eq_false (by omega);have LS:decide (l.length<c.base)=false:=decide_eq_false (by omega);have ew:IntKind.i64.wrap ((l.length:Int) - (c.base:Int))=(l.length:Int) - (c.base:Int):=ac (by omega) (by omega);have fZ:decide ((l.length:Int) - (c.base:Int)<av o)=false:=decide_eq_false (by omega);have aA:=oy hk aj.out.opk;rw[bM] at aA;have sj:=hid aA;have ig:=hid fun W=>bc o.k W hk
 have Fg:=hid HW
 have l6:k=1∨k=2∨k=3∨k=4∨k=5∨k=6:=by
  rcases oo o.k with q | q
  ·rw[← dj];exact q.2
  ·rw[q.1] at hk;cases hk
 have Ec:=hid (And.intro l6 dj);have lA:=hid dQ;have jU:c.base<l.length:=by omega
 clear bX aA bM hk HW dj l6;go_enter Tryz.func48,Tryz.ntmps48;go_wp2_with fail;refine kj (S:=(Di yb o c)) aj ay (fun ai=>(by and_intros <;> first | exact ai.out.row.c rfl | exact(ai.out.row.cell 39).trans (by show some (Value.bool c.over)=_;rw[vQ.out]))) fun w1 ai au hHeld=>?_
 refine ap 0 1 2 3 ?_;refine ap 4 5 6 7 ?_;refine ap 8 9 10 11 ?_;refine ap 12 13 14 15 ?_;refine ap 16 17 19 20 ?_;refine ap 21 22 23 24 ?_;refine aF 25 ?_;refine aJ 18 (fun K hK=>?_)
 ·go_simp;refine(Cq.out _).mono ?_;rintro ex w2 ⟨rfl,hb⟩;have ar:=hid (ai.out.below hb);have aE:=hid (au.out.trans (Mv.below hb _));clear hb;have aN:(Di yb o c) w2:=(by and_intros <;> first | exact ar.out.row.c rfl | exact(ar.out.row.cell 39).trans (by show some (Value.bool c.over)=_;rw[vQ.out]));refine kH hK aN fun hHeld=>?_
  clear hK K;refine bw 26 27 ?_;refine bh ?_;clear hHeld aN;have aC:=ar.out.row;have c15_2:=aC.at 15 (.int .i64 (c.steps:Int));have c8_2:=aC.at 8 (.int .i64 (c.base:Int));have f15_2:=aC.frozen 15;clear aC;have iZ:(0:Int)≤(c.base:Int):=by omega
  have am:(c.base:Int)≤(l.length:Int):=by omega
  have bu:¬ cap=c.base:=by omega
  have cW:((c.base:Int)).toNat=c.base:=by omega
  have gK:(c.base:Int)≤(cap:Int):=by omega
  have df:(l.length:Int)≤(cap:Int):=by omega
  have est:IntKind.i64.wrap ((c.steps:Int)+1)=(c.steps:Int)+1:=ac (by omega) (by have:=lA.out;omega);go_wp2_with fail;obtain⟨aM,bf⟩:=uj (w2.setCell ⟨yb,15,none⟩ (.int .i64 ((c.steps:Int)+1))) (ar.out.setSt lA.out) aE;clear iZ am bu cW gK df est;have hd:=sj.out;refine kj (S:=(Dd yb c o)) aM bf (fun cq=>⟨(cq.out.row.cell 9).trans rfl,(cq.out.row.cell 0).trans rfl⟩) fun w4 cq dd hHeld=>?_
  refine ap 0 1 2 3 ?_;refine ap 4 5 6 7 ?_;refine aF 8 ?_;refine aJ 9 (fun K hK=>?_)
  ·go_simp;refine(ig.out _).mono ?_;rintro ex w5 ⟨rfl,rfl⟩;have dV:=cq;have fS:=dd;have aN:(Dd yb c o) w5:=⟨(dV.out.row.cell 9).trans rfl,(dV.out.row.cell 0).trans rfl⟩;refine kH hK aN fun hHeld=>?_
   clear hK K;refine bw 10 11 ?_;refine bh ?_;clear hHeld aN;clear hd;obtain⟨l6,dj⟩:=Ec.out
   rcases l6 with rfl | rfl | rfl | rfl | rfl | rfl
   ·have kb1:(o.k==1)=true:=by rw[dj];rfl
    cases wr <;> (go_wp2_with fail;refine(Fg.out _ dV.out).mono ?_;rintro ex wz ⟨rvz,rfl,hs,hm⟩;go_wp2_with fail;go_ret;exact⟨_,rfl,hs,fS.out.trans hm⟩)
   ·have kb1:(o.k==1)=false:=by rw[dj];rfl
    have kb2:(o.k==2)=true:=by rw[dj];rfl
    cases wr <;> (go_wp2_with fail;refine(Fg.out _ dV.out).mono ?_;rintro ex wz ⟨rvz,rfl,hs,hm⟩;go_wp2_with fail;go_ret;exact⟨_,rfl,hs,fS.out.trans hm⟩)
   ·have kb1:(o.k==1)=false:=by rw[dj];rfl
    have kb2:(o.k==2)=false:=by rw[dj];rfl
    have kb3:(o.k==3)=true:=by rw[dj];rfl
    cases wr <;> (go_wp2_with fail;refine(Fg.out _ dV.out).mono ?_;rintro ex wz ⟨rvz,rfl,hs,hm⟩;go_wp2_with fail;go_ret;exact⟨_,rfl,hs,fS.out.trans hm⟩)
   ·have kb1:(o.k==1)=false:=by rw[dj];rfl
    have kb2:(o.k==2)=false:=by rw[dj];rfl
    have kb3:(o.k==3)=false:=by rw[dj];rfl
    have kb4:(o.k==4)=true:=by rw[dj];rfl
    cases wr <;> (go_wp2_with fail;refine(Fg.out _ dV.out).mono ?_;rintro ex wz ⟨rvz,rfl,hs,hm⟩;go_wp2_with fail;go_ret;exact⟨_,rfl,hs,fS.out.trans hm⟩)
   ·have kb1:(o.k==1)=false:=by rw[dj];rfl
    have kb2:(o.k==2)=false:=by rw[dj];rfl
    have kb3:(o.k==3)=false:=by rw[dj];rfl
    have kb4:(o.k==4)=false:=by rw[dj];rfl
    have kb5:(o.k==5)=true:=by rw[dj];rfl
    cases wr <;> (go_wp2_with fail;refine(Fg.out _ dV.out).mono ?_;rintro ex wz ⟨rvz,rfl,hs,hm⟩;go_wp2_with fail;go_ret;exact⟨_,rfl,hs,fS.out.trans hm⟩)
   ·have kb1:(o.k==1)=false:=by rw[dj];rfl
    have kb2:(o.k==2)=false:=by rw[dj];rfl
    have kb3:(o.k==3)=false:=by rw[dj];rfl
    have kb4:(o.k==4)=false:=by rw[dj];rfl
    have kb5:(o.k==5)=false:=by rw[dj];rfl
    have kb6:(o.k==6)=true:=by rw[dj];rfl
    cases wr <;> (go_wp2_with fail;refine(Fg.out _ dV.out).mono ?_;rintro ex wz ⟨rvz,rfl,hs,hm⟩;go_wp2_with fail;go_ret;exact⟨_,rfl,hs,fS.out.trans hm⟩)
end
end Go.Proofs.YtolmpehgeinlkaaGreatDoor
namespace Go.Proofs.YtolmpehgeinlkaaGreatDoor
open Go.RowKit
section
variable (yb lb cap:Nat) (o:Ob) (c d:Kc) (rv:Value) (l:List Int)
theorem rg (w:World) (h:SR w yb lb cap o d rv l) (ho:o.Ok) (hI:Kc.Inv c) (hr:Kc.Rel c d) (bX:c.over=false) (bK:av o=(c.size:Int)) (bJ:c.base≤l.length∧c.size≤l.length - c.base) (fy:l.length≤cap) (dS:c.kd=1) (aA:c.op=2):Calls Tryz.prog 48 #[.pointer (some ⟨yb,0,none⟩),.slice (some ⟨lb,0,none⟩) l.length cap] w (aU yb lb cap o w rv (d.stepR l).1 (d.stepR l).2 (.bool true)):=by
 have S:=hI.sta;have G:=hI.gen;have ly:=hI.st;obtain⟨hd,_,_⟩:=Kc.rel_of (by omega) (by omega) hr;subst hd;have dj:o.k=1:=h.fits.kd.trans dS;have hk:bG o.k=true:=by rw[dj];rfl
 have bM:(d).wr=true:=by show(_ || _)=_;rw[show(d).op=2 from aA];rfl
 have hs:=S.s1 dS;have h1:=S.wd1;have fB:(d).op=2:=aA;obtain⟨hA,hB,hp⟩:=hI.d1 dS;obtain⟨hq,fN⟩:=(hp bX).1 (by show(_==_)=true;rw[fB];rfl);have hH:=gp dj
 have e:(d).stepR l=Kc.four ({ d with steps:=(d).steps+1 }:Kc) l:=by
  unfold Kc.stepR;simp only;rw[if_pos (show(d).kd=1 from dS)]
 rw[e];refine dl yb lb cap o (d) rv l w h ho bX bJ.1 (by show av o≤(l.length:Int) - (((d).base:Nat):Int);omega) (by omega) hk 1 true dj bM (by show d.steps<1000000;omega) fy _ _ (fun W hW=>?_);exact rJ yb lb cap o { d with steps:=(d).steps+1 } rv l (d).base (l.length - (d).base) (cap - (d).base) W hW rfl (by omega) hk (by show(_==_)=true;rw[fB];rfl) (fun q=>G.wrl q bX) (by show d.rc.length≤1000000;have:=G.rcl;omega) G.i8 (by show d.tr<1000;have:=G.tr;omega) h1 hH (show 4+4*d.wd≤_ by omega) hA hB hq fN
theorem rA (w:World) (h:SR w yb lb cap o d rv l) (ho:o.Ok) (hI:Kc.Inv c) (hr:Kc.Rel c d) (bX:c.over=false) (bK:av o=(c.size:Int)) (bJ:c.base≤l.length∧c.size≤l.length - c.base) (fy:l.length≤cap) (dS:c.kd=1) (aA:c.op=1):Calls Tryz.prog 48 #[.pointer (some ⟨yb,0,none⟩),.slice (some ⟨lb,0,none⟩) l.length cap] w (aU yb lb cap o w rv (d.stepR l).1 (d.stepR l).2 (.bool true)):=by
 have S:=hI.sta;have G:=hI.gen;have ly:=hI.st;obtain⟨hd,_,_⟩:=Kc.rel_of (by omega) (by omega) hr;subst hd;have dj:o.k=1:=h.fits.kd.trans dS;have hk:bG o.k=true:=by rw[dj];rfl
 have bM:(d).wr=false:=by show(_ || _)=_;rw[show(d).op=1 from aA];rfl
 have hs:=S.s1 dS;have h1:=S.wd1;have fB:(d).op=1:=aA;obtain⟨hA,hB,hp⟩:=hI.d1 dS;obtain⟨hq,fN⟩:=(hp bX).2 (by show(_==_)=false;rw[fB];rfl);have hH:=gp dj
 have e:(d).stepR l=Kc.four ({ d with steps:=(d).steps+1 }:Kc) l:=by
  unfold Kc.stepR;simp only;rw[if_pos (show(d).kd=1 from dS)]
 rw[e];refine dl yb lb cap o (d) rv l w h ho bX bJ.1 (by show av o≤(l.length:Int) - (((d).base:Nat):Int);omega) (by omega) hk 1 false dj bM (by show d.steps<1000000;omega) fy _ _ (fun W hW=>?_);exact tW yb lb cap o { d with steps:=(d).steps+1 } rv l (d).base (l.length - (d).base) (cap - (d).base) W hW rfl (by omega) hk (by show(_==_)=false;rw[fB];rfl) (fun q=>G.wrl q bX) (by show d.rc.length≤1000000;have:=G.rcl;omega) G.i8 (by show d.tr<1000;have:=G.tr;omega) h1 hH (show 4+4*d.wd≤_ by omega) hA hB hq fN
theorem sW (w:World) (h:SR w yb lb cap o d rv l) (ho:o.Ok) (hI:Kc.Inv c) (hr:Kc.Rel c d) (bX:c.over=false) (bK:av o=(c.size:Int)) (bJ:c.base≤l.length∧c.size≤l.length - c.base) (fy:l.length≤cap) (dS:c.kd=3) (aA:c.op=2):Calls Tryz.prog 48 #[.pointer (some ⟨yb,0,none⟩),.slice (some ⟨lb,0,none⟩) l.length cap] w (aU yb lb cap o w rv (d.stepR l).1 (d.stepR l).2 (.bool true)):=by
 have S:=hI.sta;have G:=hI.gen;have ly:=hI.st;obtain⟨hd,_,_⟩:=Kc.rel_of (by omega) (by omega) hr;subst hd;have dj:o.k=3:=h.fits.kd.trans dS;have hk:bG o.k=true:=by rw[dj];rfl
 have bM:(d).wr=true:=by show(_ || _)=_;rw[show(d).op=2 from aA];rfl
 have hs:=S.s3 dS;have h1:=S.wd1;have fB:(d).op=2:=aA;obtain⟨hA,hB,hp⟩:=hI.d3 dS;obtain⟨hq,fN⟩:=(hp bX).1 (by show(_==_)=true;rw[fB];rfl);have hH:=iq dj
 have e:(d).stepR l=Kc.seq ({ d with steps:=(d).steps+1 }:Kc) l:=by
  unfold Kc.stepR;simp only;rw[if_neg (show ¬ d.kd=1 by omega),if_neg (show ¬ d.kd=2 by omega),if_pos (show(d).kd=3 from dS)]
 rw[e];refine dl yb lb cap o (d) rv l w h ho bX bJ.1 (by show av o≤(l.length:Int) - (((d).base:Nat):Int);omega) (by omega) hk 3 true dj bM (by show d.steps<1000000;omega) fy _ _ (fun W hW=>?_);exact sB yb lb cap o { d with steps:=(d).steps+1 } rv l (d).base (l.length - (d).base) (cap - (d).base) W hW rfl (by omega) hk (by show(_==_)=true;rw[fB];rfl) (fun q=>G.wrl q bX) (by show d.rc.length≤1000000;have:=G.rcl;omega) G.i8 (by show d.tr<1000;have:=G.tr;omega) h1 hH (show 1+d.wd≤_ by omega) hq fN
theorem sT (w:World) (h:SR w yb lb cap o d rv l) (ho:o.Ok) (hI:Kc.Inv c) (hr:Kc.Rel c d) (bX:c.over=false) (bK:av o=(c.size:Int)) (bJ:c.base≤l.length∧c.size≤l.length - c.base) (fy:l.length≤cap) (dS:c.kd=3) (aA:c.op=1):Calls Tryz.prog 48 #[.pointer (some ⟨yb,0,none⟩),.slice (some ⟨lb,0,none⟩) l.length cap] w (aU yb lb cap o w rv (d.stepR l).1 (d.stepR l).2 (.bool true)):=by
 have S:=hI.sta;have G:=hI.gen;have ly:=hI.st;obtain⟨hd,_,_⟩:=Kc.rel_of (by omega) (by omega) hr;subst hd;have dj:o.k=3:=h.fits.kd.trans dS;have hk:bG o.k=true:=by rw[dj];rfl
 have bM:(d).wr=false:=by show(_ || _)=_;rw[show(d).op=1 from aA];rfl
 have hs:=S.s3 dS;have h1:=S.wd1;have fB:(d).op=1:=aA;obtain⟨hA,hB,hp⟩:=hI.d3 dS;obtain⟨hq,fN⟩:=(hp bX).2 (by show(_==_)=false;rw[fB];rfl);have hH:=iq dj
 have e:(d).stepR l=Kc.seq ({ d with steps:=(d).steps+1 }:Kc) l:=by
  unfold Kc.stepR;simp only;rw[if_neg (show ¬ d.kd=1 by omega),if_neg (show ¬ d.kd=2 by omega),if_pos (show(d).kd=3 from dS)]
 rw[e];refine dl yb lb cap o (d) rv l w h ho bX bJ.1 (by show av o≤(l.length:Int) - (((d).base:Nat):Int);omega) (by omega) hk 3 false dj bM (by show d.steps<1000000;omega) fy _ _ (fun W hW=>?_);exact vU yb lb cap o { d with steps:=(d).steps+1 } rv l (d).base (l.length - (d).base) (cap - (d).base) W hW rfl (by omega) hk (by show(_==_)=false;rw[fB];rfl) (fun q=>G.wrl q bX) (by show d.rc.length≤1000000;have:=G.rcl;omega) G.i8 (by show d.tr<1000;have:=G.tr;omega) h1 hH (show 1+d.wd≤_ by omega) hq fN
theorem rf (w:World) (h:SR w yb lb cap o d rv l) (ho:o.Ok) (hI:Kc.Inv c) (hr:Kc.Rel c d) (bX:c.over=false) (bK:av o=(c.size:Int)) (bJ:c.base≤l.length∧c.size≤l.length - c.base) (fy:l.length≤cap) (dS:c.kd=4) (aA:c.op=2):Calls Tryz.prog 48 #[.pointer (some ⟨yb,0,none⟩),.slice (some ⟨lb,0,none⟩) l.length cap] w (aU yb lb cap o w rv (d.stepR l).1 (d.stepR l).2 (.bool true)):=by
 have S:=hI.sta;have G:=hI.gen;have ly:=hI.st;obtain⟨hd,_,_⟩:=Kc.rel_of (by omega) (by omega) hr;subst hd;have dj:o.k=4:=h.fits.kd.trans dS;have hk:bG o.k=true:=by rw[dj];rfl
 have bM:(d).wr=true:=by show(_ || _)=_;rw[show(d).op=2 from aA];rfl
 have hs:=S.s4 dS;have h1:=S.wd1;have fB:(d).op=2:=aA;obtain⟨hA,hB,hp⟩:=hI.d4 dS;obtain⟨hq,fN⟩:=hp bX;have hH:=gq dj;have gl:=S.sl4 dS
 have e:(d).stepR l=Kc.ringR' ({ d with steps:=(d).steps+1 }:Kc) l:=by
  unfold Kc.stepR;simp only;rw[if_neg (show ¬ d.kd=1 by omega),if_neg (show ¬ d.kd=2 by omega),if_neg (show ¬ d.kd=3 by omega),if_pos (show(d).kd=4 from dS)]
 rw[e];refine dl yb lb cap o (d) rv l w h ho bX bJ.1 (by show av o≤(l.length:Int) - (((d).base:Nat):Int);omega) (by omega) hk 4 true dj bM (by show d.steps<1000000;omega) fy _ _ (fun W hW=>?_);exact rI yb lb cap o { d with steps:=(d).steps+1 } rv l (d).base (l.length - (d).base) (cap - (d).base) W hW rfl (by omega) hk (by show(_==_)=true;rw[fB];rfl) (fun q=>G.wrl q bX) (by show d.rc.length≤1000000;have:=G.rcl;omega) G.i8 (by show d.tr<1000;have:=G.tr;omega) h1 hH (show 1≤d.sl by omega) (show 1+d.sl*d.wd≤_ by omega) hq fN
theorem qH (w:World) (h:SR w yb lb cap o d rv l) (ho:o.Ok) (hI:Kc.Inv c) (hr:Kc.Rel c d) (bX:c.over=false) (bK:av o=(c.size:Int)) (bJ:c.base≤l.length∧c.size≤l.length - c.base) (fy:l.length≤cap) (dS:c.kd=4) (aA:c.op=1):Calls Tryz.prog 48 #[.pointer (some ⟨yb,0,none⟩),.slice (some ⟨lb,0,none⟩) l.length cap] w (aU yb lb cap o w rv (d.stepR l).1 (d.stepR l).2 (.bool true)):=by
 have S:=hI.sta;have G:=hI.gen;have ly:=hI.st;obtain⟨hd,_,_⟩:=Kc.rel_of (by omega) (by omega) hr;subst hd;have dj:o.k=4:=h.fits.kd.trans dS;have hk:bG o.k=true:=by rw[dj];rfl
 have bM:(d).wr=false:=by show(_ || _)=_;rw[show(d).op=1 from aA];rfl
 have hs:=S.s4 dS;have h1:=S.wd1;have fB:(d).op=1:=aA;obtain⟨hA,hB,hp⟩:=hI.d4 dS;obtain⟨hq,fN⟩:=hp bX;have hH:=gq dj;have gl:=S.sl4 dS
 have e:(d).stepR l=Kc.ringR' ({ d with steps:=(d).steps+1 }:Kc) l:=by
  unfold Kc.stepR;simp only;rw[if_neg (show ¬ d.kd=1 by omega),if_neg (show ¬ d.kd=2 by omega),if_neg (show ¬ d.kd=3 by omega),if_pos (show(d).kd=4 from dS)]
 rw[e];refine dl yb lb cap o (d) rv l w h ho bX bJ.1 (by show av o≤(l.length:Int) - (((d).base:Nat):Int);omega) (by omega) hk 4 false dj bM (by show d.steps<1000000;omega) fy _ _ (fun W hW=>?_);exact tA yb lb cap o { d with steps:=(d).steps+1 } rv l (d).base (l.length - (d).base) (cap - (d).base) W hW rfl (by omega) hk (by show(_==_)=false;rw[fB];rfl) (fun q=>G.wrl q bX) (by show d.rc.length≤1000000;have:=G.rcl;omega) G.i8 (by show d.tr<1000;have:=G.tr;omega) h1 hH (show 1≤d.sl by omega) (show 1+d.sl*d.wd≤_ by omega) hq fN
theorem rR (w:World) (h:SR w yb lb cap o d rv l) (ho:o.Ok) (hI:Kc.Inv c) (hr:Kc.Rel c d) (bX:c.over=false) (bK:av o=(c.size:Int)) (bJ:c.base≤l.length∧c.size≤l.length - c.base) (fy:l.length≤cap) (dS:c.kd=6) (aA:c.op=3):Calls Tryz.prog 48 #[.pointer (some ⟨yb,0,none⟩),.slice (some ⟨lb,0,none⟩) l.length cap] w (aU yb lb cap o w rv (d.stepR l).1 (d.stepR l).2 (.bool true)):=by
 have S:=hI.sta;have G:=hI.gen;have ly:=hI.st;obtain⟨hd,_,_⟩:=Kc.rel_of (by omega) (by omega) hr;subst hd;have dj:o.k=6:=h.fits.kd.trans dS;have hk:bG o.k=true:=by rw[dj];rfl
 have bM:(d).wr=true:=by show(_ || _)=_;rw[show(d).op=3 from aA];rfl
 have hs:=S.s6 dS;have h1:=S.wd1;have fB:(d).op=3:=aA;obtain⟨hA,hB,hp⟩:=hI.d6 dS;obtain⟨hq,fN⟩:=hp bX;have hH:=gu dj;have gl:=S.sl6 dS
 have e:(d).stepR l=Kc.fifoR' ({ d with steps:=(d).steps+1 }:Kc) l:=by
  unfold Kc.stepR;simp only;rw[if_neg (show ¬ d.kd=1 by omega),if_neg (show ¬ d.kd=2 by omega),if_neg (show ¬ d.kd=3 by omega),if_neg (show ¬ d.kd=4 by omega),if_neg (show ¬ d.kd=5 by omega)]
 rw[e];refine dl yb lb cap o (d) rv l w h ho bX bJ.1 (by show av o≤(l.length:Int) - (((d).base:Nat):Int);omega) (by omega) hk 6 true dj bM (by show d.steps<1000000;omega) fy _ _ (fun W hW=>?_);exact vG yb lb cap o { d with steps:=(d).steps+1 } rv l (d).base (l.length - (d).base) (cap - (d).base) W hW rfl (by omega) hk (by show(_==_)=true;rw[fB];rfl) (fun q=>G.wrl q bX) (by show d.rc.length≤1000000;have:=G.rcl;omega) G.i8 (by show d.tr<1000;have:=G.tr;omega) h1 hH gl (show 2+d.sl*d.wd≤_ by omega) hq fN
theorem qr (w:World) (h:SR w yb lb cap o d rv l) (ho:o.Ok) (hI:Kc.Inv c) (hr:Kc.Rel c d) (bX:c.over=false) (bK:av o=(c.size:Int)) (bJ:c.base≤l.length∧c.size≤l.length - c.base) (fy:l.length≤cap) (dS:c.kd=6) (aA:c.op=4):Calls Tryz.prog 48 #[.pointer (some ⟨yb,0,none⟩),.slice (some ⟨lb,0,none⟩) l.length cap] w (aU yb lb cap o w rv (d.stepR l).1 (d.stepR l).2 (.bool true)):=by
 have S:=hI.sta;have G:=hI.gen;have ly:=hI.st;obtain⟨hd,_,_⟩:=Kc.rel_of (by omega) (by omega) hr;subst hd;have dj:o.k=6:=h.fits.kd.trans dS;have hk:bG o.k=true:=by rw[dj];rfl
 have bM:(d).wr=false:=by show(_ || _)=_;rw[show(d).op=4 from aA];rfl
 have hs:=S.s6 dS;have h1:=S.wd1;have fB:(d).op=4:=aA;obtain⟨hA,hB,hp⟩:=hI.d6 dS;obtain⟨hq,fN⟩:=hp bX;have hH:=gu dj;have gl:=S.sl6 dS
 have e:(d).stepR l=Kc.fifoR' ({ d with steps:=(d).steps+1 }:Kc) l:=by
  unfold Kc.stepR;simp only;rw[if_neg (show ¬ d.kd=1 by omega),if_neg (show ¬ d.kd=2 by omega),if_neg (show ¬ d.kd=3 by omega),if_neg (show ¬ d.kd=4 by omega),if_neg (show ¬ d.kd=5 by omega)]
 rw[e];refine dl yb lb cap o (d) rv l w h ho bX bJ.1 (by show av o≤(l.length:Int) - (((d).base:Nat):Int);omega) (by omega) hk 6 false dj bM (by show d.steps<1000000;omega) fy _ _ (fun W hW=>?_);exact sq yb lb cap o { d with steps:=(d).steps+1 } rv l (d).base (l.length - (d).base) (cap - (d).base) W hW rfl (by omega) hk (by show(_==_)=false;rw[fB];rfl) (fun q=>G.wrl q bX) (by show d.rc.length≤1000000;have:=G.rcl;omega) G.i8 (by show d.tr<1000;have:=G.tr;omega) h1 hH gl (show 2+d.sl*d.wd≤_ by omega) hq fN
theorem qF (w:World) (h:SR w yb lb cap o d rv l) (ho:o.Ok) (hI:Kc.Inv c) (hr:Kc.Rel c d) (bX:c.over=false) (bK:av o=(c.size:Int)) (bJ:c.base≤l.length∧c.size≤l.length - c.base) (fy:l.length≤cap) (dS:c.kd=2) (aA:c.op=2):Calls Tryz.prog 48 #[.pointer (some ⟨yb,0,none⟩),.slice (some ⟨lb,0,none⟩) l.length cap] w (aU yb lb cap o w rv (d.stepR l).1 (d.stepR l).2 (.bool true)):=by
 have S:=hI.sta;have G:=hI.gen;have ly:=hI.st;unfold Kc.Rel at hr;rw[if_pos ⟨dS,aA⟩] at hr;obtain⟨v,hd,_⟩:=hr;subst hd;have dj:o.k=2:=h.fits.kd.trans dS;have hk:bG o.k=true:=by rw[dj];rfl
 have bM:(c.asR v).wr=true:=by show(_ || _)=_;rw[show(c.asR v).op=2 from aA];rfl
 have hs:=S.s2 dS;have h1:=S.wd1;have fB:(c.asR v).op=2:=aA;have fT:=h.fits.nr;have hH:bn o=((1+c.nr:Nat):Int):=by have:=gv dj;have:o.nr=c.nr:=fT;omega
 have hR:cU o=((c.nr+2:Nat):Int):=by have:=mg dj;have:o.nr=c.nr:=fT;omega
 obtain⟨hA,hB,hp⟩:=hI.d2 dS;obtain⟨hq,_,_,dP,fN,mr⟩:=(hp bX).1 (by show(_==_)=true;rw[aA];rfl)
 have e:(c.asR v).stepR l=Kc.chenWriteR ({ c.asR v with steps:=(c.asR v).steps+1 }:Kc) l:=by
  unfold Kc.stepR;simp only;rw[if_neg (show ¬ (c.asR v).kd=1 from by show ¬ c.kd=1;omega),if_pos (show(c.asR v).kd=2 from dS),if_pos (by show(_==_)=true;rw[show(c.asR v).op=2 from aA];decide)]
 rw[e];refine dl yb lb cap o (c.asR v) rv l w h ho bX bJ.1 (by show av o≤(l.length:Int) - ((c.base:Nat):Int);omega) (by omega) hk 2 true dj bM (by show c.steps<1000000;omega) fy _ _ (fun W hW=>?_);exact rH yb lb cap o { c.asR v with steps:=(c.asR v).steps+1 } rv l c.base (l.length - c.base) (cap - c.base) W hW rfl (by omega) hk (fun q=>G.wrl q bX) (by show c.rc.length≤1000000;have:=G.rcl;omega) G.i8 (by show c.tr<1000;have:=G.tr;omega) h1 hH hR S.nr1 S.nr4 S.rd (show 1+c.nr+(c.nr+2)*c.wd≤_ by omega) hB hq dP fN mr
theorem qT (w:World) (h:SR w yb lb cap o d rv l) (ho:o.Ok) (hI:Kc.Inv c) (hr:Kc.Rel c d) (bX:c.over=false) (bK:av o=(c.size:Int)) (bJ:c.base≤l.length∧c.size≤l.length - c.base) (fy:l.length≤cap) (dS:c.kd=2) (aA:c.op=1):Calls Tryz.prog 48 #[.pointer (some ⟨yb,0,none⟩),.slice (some ⟨lb,0,none⟩) l.length cap] w (aU yb lb cap o w rv (d.stepR l).1 (d.stepR l).2 (.bool true)):=by
 have S:=hI.sta;have G:=hI.gen;have ly:=hI.st;obtain⟨hd,_,_⟩:=Kc.rel_of (Or.inr (by omega)) (by omega) hr;subst hd;have dj:o.k=2:=h.fits.kd.trans dS;have hk:bG o.k=true:=by rw[dj];rfl
 have bM:(d).wr=false:=by show(_ || _)=_;rw[show(d).op=1 from aA];rfl
 have hs:=S.s2 dS;have h1:=S.wd1;have fB:(d).op=1:=aA;have fT:=h.fits.nr;have hH:bn o=((1+d.nr:Nat):Int):=by have:=gv dj;have:o.nr=d.nr:=fT;omega
 have hR:cU o=((d.nr+2:Nat):Int):=by have:=mg dj;have:o.nr=d.nr:=fT;omega
 obtain⟨hA,hB,hp⟩:=hI.d2 dS;obtain⟨hq,mr⟩:=(hp bX).2 (by show(_==_)=false;rw[aA];rfl)
 have e:(d).stepR l=Kc.chen ({ d with steps:=(d).steps+1 }:Kc) l:=by
  unfold Kc.stepR;simp only;rw[if_neg (show ¬ d.kd=1 by omega),if_pos (show(d).kd=2 from dS),if_neg (by show ¬ (_==_)=true;rw[show(d).op=1 from aA];decide)]
 rw[e];refine dl yb lb cap o (d) rv l w h ho bX bJ.1 (by show av o≤(l.length:Int) - (((d).base:Nat):Int);omega) (by omega) hk 2 false dj bM (by show d.steps<1000000;omega) fy _ _ (fun W hW=>?_);exact tk yb lb cap o { d with steps:=(d).steps+1 } rv l (d).base (l.length - (d).base) (cap - (d).base) W hW rfl (by omega) hk (by show(_==_)=false;rw[fB];rfl) (fun q=>G.wrl q bX) (by show d.rc.length≤1000000;have:=G.rcl;omega) G.i8 (by show d.tr<1000;have:=G.tr;omega) h1 hH hR S.nr1 S.nr4 S.rd (show 1+d.nr+(d.nr+2)*d.wd≤_ by omega) hB hq mr
theorem tG (w:World) (h:SR w yb lb cap o d rv l) (ho:o.Ok) (hI:Kc.Inv c) (hr:Kc.Rel c d) (bX:c.over=false) (bK:av o=(c.size:Int)) (bJ:c.base≤l.length∧c.size≤l.length - c.base) (fy:l.length≤cap) (dS:c.kd=5) (aA:c.op=2):Calls Tryz.prog 48 #[.pointer (some ⟨yb,0,none⟩),.slice (some ⟨lb,0,none⟩) l.length cap] w (aU yb lb cap o w rv (d.stepR l).1 (d.stepR l).2 (.bool true)):=by
 have S:=hI.sta;have G:=hI.gen;have ly:=hI.st;unfold Kc.Rel at hr;rw[if_neg (by omega),if_pos ⟨dS,aA⟩] at hr;obtain⟨v,hd,_⟩:=hr;subst hd;have dj:o.k=5:=h.fits.kd.trans dS;have hk:bG o.k=true:=by rw[dj];rfl
 have bM:(c.asR v).wr=true:=by show(_ || _)=_;rw[show(c.asR v).op=2 from aA];rfl
 have hs:=S.s5 dS;have h1:=S.wd1;have fB:(c.asR v).op=2:=aA;have fT:=h.fits.nr;have hH:bn o=((1+c.nr:Nat):Int):=by have:=io dj;have:o.nr=c.nr:=fT;omega
 have hR:cU o=((c.sl:Nat):Int):=by have:=pD dj;have:o.s=(c.sl:Int):=h.fits.sl;omega
 obtain⟨hA,hB,hp⟩:=hI.d5 dS;obtain⟨C3,hq,_,_,dP,fN⟩:=(hp bX).1 (by show(_==_)=true;rw[aA];rfl)
 have e:(c.asR v).stepR l=Kc.cabWriteR ({ c.asR v with steps:=(c.asR v).steps+1 }:Kc) l:=by
  unfold Kc.stepR;simp only;rw[if_neg (show ¬ (c.asR v).kd=1 from by show ¬ c.kd=1;omega),if_neg (show ¬ (c.asR v).kd=2 from by show ¬ c.kd=2;omega),if_neg (show ¬ (c.asR v).kd=3 from by show ¬ c.kd=3;omega),if_neg (show ¬ (c.asR v).kd=4 from by show ¬ c.kd=4;omega),if_pos (show(c.asR v).kd=5 from dS),if_pos (by show(_==_)=true;rw[show(c.asR v).op=2 from aA];decide)]
 rw[e];refine dl yb lb cap o (c.asR v) rv l w h ho bX bJ.1 (by show av o≤(l.length:Int) - ((c.base:Nat):Int);omega) (by omega) hk 5 true dj bM (by show c.steps<1000000;omega) fy _ _ (fun W hW=>?_);exact tK yb lb cap o { c.asR v with steps:=(c.asR v).steps+1 } rv l c.base (l.length - c.base) (cap - c.base) W hW rfl (by omega) hk (fun q=>G.wrl q bX) (by show c.rc.length≤1000000;have:=G.rcl;omega) G.i8 (by show c.tr<1000;have:=G.tr;omega) h1 hH hR S.nr1 S.nr4 S.rd (S.sl5 dS) S.sl16 (show 1+c.nr+c.sl*c.wd≤_ by omega) hB C3 hq dP fN
theorem wD (c:Kc):∃ p b,c.cabRow={ c with ph:=p,B:=b }∧(p=c.ph∨p=5):=by
 unfold Kc.cabRow
 split
 ·exact⟨5,0,rfl,.inr rfl⟩
 ·exact⟨c.ph,c.B,rfl,.inl rfl⟩
theorem sn (w:World) (h:SR w yb lb cap o d rv l) (ho:o.Ok) (hI:Kc.Inv c) (hr:Kc.Rel c d) (bX:c.over=false) (bK:av o=(c.size:Int)) (bJ:c.base≤l.length∧c.size≤l.length - c.base) (fy:l.length≤cap) (dS:c.kd=5) (aA:c.op=1):Calls Tryz.prog 48 #[.pointer (some ⟨yb,0,none⟩),.slice (some ⟨lb,0,none⟩) l.length cap] w (aU yb lb cap o w rv (d.stepR l).1 (d.stepR l).2 (.bool true)):=by
 have S:=hI.sta;have G:=hI.gen;have ly:=hI.st;unfold Kc.Rel at hr;rw[if_neg (by omega),if_neg (by omega),if_pos dS] at hr;obtain⟨hd,JJ,aO⟩:=hr;obtain⟨p,b,he,F7⟩:=wD c;rw[he] at hd;subst hd;have dj:o.k=5:=h.fits.kd.trans dS;have hk:bG o.k=true:=by rw[dj];rfl
 have bM:(({ c with ph:=p,B:=b }:Kc)).wr=false:=by show(_ || _)=_;rw[show(({ c with ph:=p,B:=b }:Kc)).op=1 from aA];rfl
 have hs:=S.s5 dS;have h1:=S.wd1;have fB:(({ c with ph:=p,B:=b }:Kc)).op=1:=aA;have fT:=h.fits.nr;have hH:bn o=((1+c.nr:Nat):Int):=by have:=io dj;have:o.nr=c.nr:=fT;omega
 have hR:cU o=((c.sl:Nat):Int):=by have:=pD dj;have:o.s=(c.sl:Int):=h.fits.sl;omega
 obtain⟨hA,hB,hp⟩:=hI.d5 dS;obtain⟨hq,xO⟩:=(hp bX).2 (by show(_==_)=false;rw[aA];rfl)
 have e:(({ c with ph:=p,B:=b }:Kc)).stepR l=Kc.cabReadR ({ ({ c with ph:=p,B:=b }:Kc) with steps:=(({ c with ph:=p,B:=b }:Kc)).steps+1 }:Kc) l:=by
  unfold Kc.stepR;simp only;rw[if_neg (show ¬ (({ c with ph:=p,B:=b }:Kc)).kd=1 from by show ¬ c.kd=1;omega),if_neg (show ¬ (({ c with ph:=p,B:=b }:Kc)).kd=2 from by show ¬ c.kd=2;omega),if_neg (show ¬ (({ c with ph:=p,B:=b }:Kc)).kd=3 from by show ¬ c.kd=3;omega),if_neg (show ¬ (({ c with ph:=p,B:=b }:Kc)).kd=4 from by show ¬ c.kd=4;omega),if_pos (show(({ c with ph:=p,B:=b }:Kc)).kd=5 from dS),if_neg (by show ¬ (_==_)=true;rw[show(({ c with ph:=p,B:=b }:Kc)).op=1 from aA];decide)]
 rw[e];refine dl yb lb cap o (({ c with ph:=p,B:=b }:Kc)) rv l w h ho bX bJ.1 (by show av o≤(l.length:Int) - ((c.base:Nat):Int);omega) (by omega) hk 5 false dj bM (by show c.steps<1000000;omega) fy _ _ (fun W hW=>?_);exact v6 yb lb cap o { ({ c with ph:=p,B:=b }:Kc) with steps:=(({ c with ph:=p,B:=b }:Kc)).steps+1 } rv l c.base (l.length - c.base) (cap - c.base) W hW rfl (by omega) hk (fun q=>G.wrl q bX) (by show c.rc.length≤1000000;have:=G.rcl;omega) G.i8 (by show c.tr<1000;have:=G.tr;omega) h1 hH hR S.nr1 S.nr4 S.rd (S.sl5 dS) S.sl16 (show 1+c.nr+c.sl*c.wd≤_ by omega) hA (show p≤5 by omega) (fun q=>xO (by have:p=3:=q;omega))
theorem AC (w:World) (h:SR w yb lb cap o d rv l) (ho:o.Ok) (hI:Kc.Inv c) (hr:Kc.Rel c d) (bX:c.over=false) (bK:av o=(c.size:Int)) (bJ:c.base≤l.length∧c.size≤l.length - c.base) (fy:l.length≤cap):Calls Tryz.prog 48 #[.pointer (some ⟨yb,0,none⟩),.slice (some ⟨lb,0,none⟩) l.length cap] w (aU yb lb cap o w rv (d.stepR l).1 (d.stepR l).2 (.bool true)):=by
 rcases hI.sta.kd with q | q | q | q | q | q
 ·rcases hI.sta.op5 (by omega) with p | p
  ·exact rg yb lb cap o c d rv l w h ho hI hr bX bK bJ fy q p
  ·exact rA yb lb cap o c d rv l w h ho hI hr bX bK bJ fy q p
 ·rcases hI.sta.op5 (by omega) with p | p
  ·exact qF yb lb cap o c d rv l w h ho hI hr bX bK bJ fy q p
  ·exact qT yb lb cap o c d rv l w h ho hI hr bX bK bJ fy q p
 ·rcases hI.sta.op5 (by omega) with p | p
  ·exact sW yb lb cap o c d rv l w h ho hI hr bX bK bJ fy q p
  ·exact sT yb lb cap o c d rv l w h ho hI hr bX bK bJ fy q p
 ·rcases hI.sta.op5 (by omega) with p | p
  ·exact rf yb lb cap o c d rv l w h ho hI hr bX bK bJ fy q p
  ·exact qH yb lb cap o c d rv l w h ho hI hr bX bK bJ fy q p
 ·rcases hI.sta.op5 (by omega) with p | p
  ·exact tG yb lb cap o c d rv l w h ho hI hr bX bK bJ fy q p
  ·exact sn yb lb cap o c d rv l w h ho hI hr bX bK bJ fy q p
 ·rcases hI.sta.op6 q with p | p
  ·exact rR yb lb cap o c d rv l w h ho hI hr bX bK bJ fy q p
  ·exact qr yb lb cap o c d rv l w h ho hI hr bX bK bJ fy q p
end
end Go.Proofs.YtolmpehgeinlkaaGreatDoor
