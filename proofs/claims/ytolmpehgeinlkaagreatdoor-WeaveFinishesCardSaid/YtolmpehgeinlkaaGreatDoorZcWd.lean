/- What is wrong of what is to be done: weave.Fault. -/
import Derived.Test.YtolmpehgeinlkaaGreatDoorZcWb
namespace Go.Proofs.YtolmpehgeinlkaaGreatDoor
open Go.RowKit
open Go.Lib (hid)
attribute [local go_sem] Oper.semAt_some
set_option maxHeartbeats 2000000
set_option maxRecDepth 100000
abbrev CB (a0 a1 a2 a3:Nat) (a4:OV) (w':World):Prop:=w'.cell? ⟨a0,8,none⟩=some (.pointer (some ⟨a1,0,none⟩))∧w'.cell? ⟨a2,a3*3+1,none⟩=some (.pointer (some ⟨a4.xb,0,none⟩))
theorem gO {l:List Cl} {i:Nat} {x:Cl} (f:Cl→Cl) (h:l[i]?=some x):l.modify i f=l.set i (f x):=by
 apply List.ext_getElem?;intro j;rw[List.getElem?_modify,List.getElem?_set]
 by_cases e:i=j
 ·subst e;rw[if_pos rfl,h];simp[(List.getElem?_eq_some_iff.1 h).1]
 ·rw[if_neg e];cases l[j]? <;> simp[e]
def Lm.CallOk (L:Lm):Prop:=∀ (k:Nat) (p:Pr) (c:Kc),L.ps[k]?=some p→p.op=some c→p.call<L.calls.length
theorem Lm.beg_call {bg:Nat→Td→Kc} {L L1:Lm} {k:Nat} {p p1:Pr} (h:L.CallOk) (hp:L.ps[k]?=some p) (e:Lm.beg bg L k p=some (L1,p1)) (c:Kc) (hc:p1.op=some c):p1.call<L1.calls.length∧L1.now=L.now:=by
 unfold Lm.beg at e
 split at e
 ·split at e
  ·cases e
  ·cases e;exact⟨by simp,rfl⟩
 ·cases e;exact⟨h k p c hp hc,rfl⟩
section
variable {N:Nat} {W:World} {o:Ob} {lb pb mb ml pc:Nat} {cv:Value} {tg:Nat→Nat} {L:Lm} {gs:List PG} {es:List CV} {w:World}
def TurnR (N:Nat) (W:World) (o:Ob) (lb pb mb ml pc:Nat) (L:Lm) (k:Int) (e:Ending) (w':World):Prop:=
 e=.returned (.bool (Lm.turn? (cK o) Kc.step L k).isSome)∧∃ cv1 tg1 gs1 es1,LoomS N W o lb pb mb ml pc cv1 tg1 (Lm.turn (cK o) Kc.step L k) gs1 es1 w'
theorem TurnR.no {k:Int} {w':World} (h:LoomS N W o lb pb mb ml pc cv tg L gs es w') (e:Lm.turn? (cK o) Kc.step L k=none):TurnR N W o lb pb mb ml pc L k (.returned (.bool false)) w':=by
 refine⟨by rw[e];rfl,cv,tg,gs,es,?_⟩;unfold Lm.turn;rw[e];exact h
theorem TurnR.yes {k:Int} {w':World} {L':Lm} (h:LoomS N W o lb pb mb ml pc cv tg L' gs es w') (e:Lm.turn? (cK o) Kc.step L k=some L'):TurnR N W o lb pb mb ml pc L k (.returned (.bool true)) w':=by
 refine⟨by rw[e];rfl,cv,tg,gs,es,?_⟩;unfold Lm.turn;rw[e];exact h
theorem LoomS.cvrow (h:LoomS N W o lb pb mb ml pc cv tg L gs es w) (h0:0<es.length):∃ cb cc,cv=.slice (some ⟨cb,0,none⟩) es.length cc:=by
 rcases h.calls.2 with ⟨_,e⟩ | ⟨g,cap,cur,e,_⟩
 ·omega
 ·exact⟨g,cap,e⟩
theorem oa (h:LoomS N W o lb pb mb ml pc cv tg L gs es w) (k:Int) (hk:k<0∨(gs.length:Int)≤k):
  Calls Tryz.prog 27 #[.pointer (some ⟨lb,0,none⟩),.int .i64 k] w (TurnR N W o lb pb mb ml pc L k):=by
 have c9:=h.row.at 9 (.slice (some ⟨pb,0,none⟩) gs.length pc)
 have hn:Lm.turn? (cK o) Kc.step L k=none:=by
  unfold Lm.turn?
  by_cases q:k<0
  ·rw[if_pos q]
  ·rw[if_neg q];have:L.ps[k.toNat]?=none:=by rw[List.getElem?_eq_none_iff,← h.len];omega
   rw[this]
 have HR:=hid (TurnR.no h hn)
 by_cases q:k<0
 ·have d0:decide (k<0)=true:=decide_eq_true q;clear h hk hn q;go_enter Tryz.func27,Tryz.ntmps27;go_wp2_with fail;go_ret;exact HR.out
 ·have d0:decide (k<0)=false:=decide_eq_false q;have d1:decide ((gs.length:Int)≤k)=true:=decide_eq_true (by omega);clear h hk hn q;go_enter Tryz.func27,Tryz.ntmps27;go_wp2_with fail;go_ret;exact HR.out
def FG (N:Nat) (W:World) (o:Ob) (lb pb mb ml pc:Nat) (cv:Value) (L:Lm) (gs:List PG) (es:List CV) (k:Nat) (p:Pr) (c:Kc) (v:OV) (e:Ending) (w':World):Prop:=
 e=.returned (.bool true)∧∃ tg' g' v',LoomS N W o lb pb mb ml pc cv tg' { L with ps:=L.ps.set k { p with op:=some (c.step L.mem).1 },mem:=(c.step L.mem).2 } (gs.set k g') es w'∧g'.op=some v'∧v'.xb=v.xb∧OpOk tg' k o w' (c.step L.mem).1 v'
theorem Bp {k:Nat} {g:PG} {p:Pr} {c:Kc} {v:OV} (h:LoomS N W o lb pb mb ml pc cv tg L gs es w) (hg:gs[k]?=some g) (hp:L.ps[k]?=some p) (hv:g.op=some v) (aA:OpOk tg k o w c v) (bX:c.over=false) (oQ:c.size=L.mem.length) (hT:Tab64 W) (hG:(0:Nat)<N):
  Calls Tryz.prog 50 #[.pointer (some ⟨v.xb,0,none⟩),.pointer (some ⟨mb,0,none⟩)] w (FG N W o lb pb mb ml pc cv L gs es k p c v):=by
 have hn:∀ a b,tg a≠tg b→a≠b:=fun a b q e=>q (by rw[e])
 have bJ:c.can L.mem=true:=by
  unfold Kc.can;rw[bX,aA.base];simp[oQ]
 have p7:tg 0=0:=by
  by_cases q:tg 0=0
  ·exact q
  ·have:=(h.tn _ q).1;omega
 have h1:=wN v.xb v.sb mb ml v.ty o c v.rv v.mp L.mem w aA.oj h.mem aA.inv bJ (hn _ _ (by rw[aA.ts,h.tm];omega)) (hn _ _ (by rw[aA.ts,h.tw];omega)) (fun q=>by have:=aA.tr _ q;rw[h.tm] at this;omega) (fun q=>by have:=aA.tr _ q;rw[h.tw] at this;omega) (hn _ _ (by rw[aA.tx,h.tm];omega)) (hn _ _ (by rw[aA.tx,h.tw];omega))
  (fun j hj=>(h.bel.cell (p:=⟨_,j,none⟩) hG).trans (hT j hj)) (by
   rintro(q | q | q | q)
   ·have:=aA.ts;rw[← q,p7] at this;omega
   ·have:=h.tm;rw[← q,p7] at this;omega
   ·have:=h.tw;rw[← q,p7] at this;omega
   ·have:=aA.tr _ q;rw[p7] at this;omega)
 refine h1.mono fun e w' q=>?_
 obtain⟨rv',he,tt,hm,_,nv⟩:=q;have sU:=Kc.left_step (l:=L.mem) bX aA.inv.sta.wd1 aA.inv.sta.nr1 aA.inv.sta.cap1;obtain⟨tg',g',hL,E6,kQ⟩:=h.step hg hp hv aA tt hm nv (aA.inv.step bX h.mem.w32) (sU.2.2.2.2.2.2.2.2.1.trans aA.base) (by rw[sU.2.2.2.2.2.2.2.2.2.1];exact aA.size);exact⟨he,tg',g',_,hL,E6,rfl,kQ⟩
theorem rq (h:LoomS N W o lb pb mb ml pc cv tg L gs es w) (ho:o.Ok) (k:Nat) (hk:k<gs.length) (FM:k≤1000) (hI:L.InvL (cK o) L.mem.length) (hC:L.CallOk) (hT:Tab64 W) (hG:(0:Nat)<N)
  (kQ:∀ g,gs[k]?=some g→∀ t ∈ g.ts,cZ o 0 t.op (pU k) t.r.length=0∧t.r.length≤1000) (D8:es.length≤1000) (mj:L.now≤1000000):
  Calls Tryz.prog 27 #[.pointer (some ⟨lb,0,none⟩),.int .i64 (k:Int)] w (TurnR N W o lb pb mb ml pc L (k:Int)):=by
 have c9:=h.row.at 9 (.slice (some ⟨pb,0,none⟩) gs.length pc);obtain⟨g,hg⟩:∃ g,gs[k]?=some g:=⟨_,List.getElem?_eq_getElem hk⟩;obtain⟨p,hp⟩:∃ p,L.ps[k]?=some p:=⟨_,List.getElem?_eq_getElem (by rw[← h.len];exact hk)⟩;have Ly:=hid (Ee h ho hg hp FM (kQ g hg) D8 mj)
 have ht?:Lm.turn? (cK o) Kc.step L (k:Int)=Lm.one (cK o) Kc.step L k p:=by
  unfold Lm.turn?;rw[if_neg (by omega),Int.toNat_natCast,hp]
 have lS:=hid ht?;have d0:decide ((k:Int)<0)=false:=decide_eq_false (by omega);have d1:decide ((gs.length:Int)≤(k:Int))=false:=decide_eq_false (by omega);have HI:=hid hI;have HC:=hid hC;have ns:=hid (And.intro hT hG);have CE:=hid hp;have bu:(k:Int)≤1000:=by omega
 have cW:(0:Int)≤(k:Int):=by omega
 have wS:=hid h.len;have Nh:=hid hk;have la:=hid mj;clear h ho hg hp kQ D8 mj hI hC hT hG ht? hk;go_enter Tryz.func27,Tryz.ntmps27;go_wp2_with fail;refine Ly.out.mono ?_;intro e w1 Ls
 rcases Ls with ⟨hn,rfl,hL⟩ | ⟨L1,p1,cv1,tg1,gs1,es1,hb,rfl,hL⟩
 ·have HR:=hid (TurnR.no hL (k:=(k:Int)) (by rw[lS.out];unfold Lm.one;rw[hn]));clear hn hL;go_wp2_with fail;go_ret;exact HR.out
 ·obtain⟨c,hc,bX,hinv,iG,dt,ld,IZ,fq⟩:=Lm.beg_op HI.out CE.out hb;obtain⟨rS,Fm⟩:=Lm.beg_call HC.out CE.out hb c hc;obtain⟨ts1,oc1,q1⟩:=p1;dsimp only at hc;subst hc;dsimp only at rS;have cP:k<gs1.length:=by rw[hL.len];exact(List.getElem?_eq_some_iff.1 ld).1
  obtain⟨g1,AX⟩:∃ g,gs1[k]?=some g:=⟨_,List.getElem?_eq_getElem cP⟩;have K6:=hL.ps k g1 _ AX ld
  obtain⟨v,hv,aA⟩:∃ v,g1.op=some v∧OpOk tg1 k o w1 c v:=by
   rcases K6.op with ⟨q,_⟩ | ⟨c',v,q1,q2,q3⟩
   ·cases q
   ·cases q1;exact⟨v,q2,q3⟩
  have B3:=hid hL;have c9b:=hL.row.at 9 (.slice (some ⟨pb,0,none⟩) gs1.length pc);have Iu:(k:Int)<(gs1.length:Int):=by omega
  have bT:=hid hb;have vQ:=hid bX;have IN:=hid (And.intro hinv (And.intro iG dt));have GC:=hid ld;have au:=hid fq;have ud:=hid AX;have K9:=hid hv;have sj:=hid aA;have Af:=hid rS;have ri:=hid Fm;have tT:=hid cP;clear hL hb bX hinv iG dt ld IZ fq AX hv aA rS Fm K6 cP;go_wp2_with fail;have lW:=hid (B3.out.below (Below.refl _ w1).drew);have Gp:=hid (sj.out.tch (T:=fun _=>False) (Tch.refl _ w1).drew (fun _ q=>q.elim));clear c9 c9b Iu;refine dR (S:=(CB lb mb pb k v)) ⟨(lW.out.row.cell 8).trans rfl,ch lW.out.procs ud.out (j:=1) (by show some (Value.pointer g1.ptr)=_;unfold PG.ptr;rw[K9.out];rfl)⟩ fun w2 aW hHeld=>?_
  rw[aW] at lW Gp;clear aW;refine ap 0 1 2 3 ?_;refine ap 4 5 6 7 ?_;refine aJ 8 (fun K hK=>?_)
  ·go_simp;refine(Bp lW.out ud.out GC.out K9.out Gp.out vQ.out (IN.out.2.2.trans (by rw[au.out])) ns.out.1 ns.out.2).mono ?_;rintro ex w3 ⟨rfl,tg3,g3,v3,KN,IY,Jy,Gl⟩;have gV:=hid KN;have IR:(gs1.set k g3)[k]?=some g3:=by simp[tT.out]
   have Ht:=hid IR;have EM:=hid (And.intro IY Jy);have IT:=hid Gl;have aN:(CB lb mb pb k v) w3:=⟨(gV.out.row.cell 8).trans rfl,ch gV.out.procs IR (j:=1) (by show some (Value.pointer g3.ptr)=_;unfold PG.ptr;rw[IY];show some (Value.pointer (some ⟨v3.xb,0,none⟩))=_;rw[Jy])⟩;clear KN IY Jy Gl IR;refine kH hK aN fun hHeld=>?_
   clear hK K;refine bh ?_;have Mw:=hid hHeld.2;clear hHeld aN;have My:=Mw.out;have IE:((L1.ps.set k ⟨ts1,some (c.step L1.mem).1,q1⟩):List Pr)[k]?=some ⟨ts1,some (c.step L1.mem).1,q1⟩:=by simp[(List.getElem?_eq_some_iff.1 GC.out).1]
   have Ir:=hid IE;have Ek:=C0 gV.out Ht.out IE;have eptr:g3.ptr=some ⟨v.xb,0,none⟩:=by unfold PG.ptr;rw[EM.out.1];show some (⟨v3.xb,0,none⟩:Addr)=_;rw[EM.out.2]
   rw[eptr] at Ek;have I3:=hid Ek;clear IE Ek eptr;go_wp2_with fail;refine I3.out.mono ?_;rintro e w4 ⟨rfl,Fq⟩;rw[Fq];clear Fq;have dI:Lm.turn? (cK o) Kc.step L (k:Int)=some (Lm.go Kc.step L1 k ⟨ts1,some c,q1⟩ c):=by rw[lS.out];unfold Lm.one;rw[bT.out]
   have zx:=hid dI;clear dI;have MI:IntKind.i64.wrap ((L1.now:Int)+1)=(L1.now:Int)+1:=ac (by omega) (by have h1:=ri.out;have h2:=la.out;omega);cases hd:(Pr.done ⟨ts1,some (c.step L1.mem).1,q1⟩)
   ·have HD:=hid (show(c.step L1.mem).1.over=false from hd);clear hd;have c11:=gV.out.row.at 11 (.int .i64 (L1.now:Int));have f11:=gV.out.row.frozen 11;go_wp2_with fail;go_ret;refine TurnR.yes (tg:=tg3) (cv:=cv1) (gs:=gs1.set k g3) (es:=es1) (L':=Lm.go Kc.step L1 k ⟨ts1,some c,q1⟩ c) ?_ zx.out;have jq:=gV.out.tick (L1.now+1);unfold Lm.go;rw[HD.out];exact jq
   ·have HD:=hid (show(c.step L1.mem).1.over=true from hd);clear hd;have GH:=gV.out.ps k g3 _ Ht.out Ir.out;have gW:q1=g3.call:=GH.call;have bA:es1.length=L1.calls.length:=by have:=gV.out.cx;rw[← this,List.length_map]
    have I2:q1<es1.length:=by have:=Af.out;omega
    obtain⟨cb,cc,Jb⟩:=gV.out.cvrow (by omega);subst Jb;obtain⟨e1,Dt⟩:∃ e,es1[q1]?=some e:=⟨_,List.getElem?_eq_getElem I2⟩;have jK:L1.calls[q1]?=some e1.x:=by have:=gV.out.cx;rw[← this,List.getElem?_map,Dt];rfl
    have jQ:=hid Dt;have ut:=hid jK;have KW:=hid I2;have IU:=hid gW;have dP:(q1:Int)<(es1.length:Int):=by omega
    have jJ:(0:Int)≤(q1:Int):=by omega
    clear GH gW bA I2 Dt jK;go_wp2_with fail;have fi:=hid (gV.out.below (Below.refl _ w3).drew);have ER:=hid (IT.out.tch (T:=fun _=>False) (Tch.refl _ w3).drew (fun _ q=>q.elim));refine dR (S:=(fun w':World=>w'.cell? ⟨lb,10,none⟩=some (.slice (some ⟨cb,0,none⟩) es1.length cc)∧w'.cell? ⟨pb,k*3+2,none⟩=some (.int .i64 (q1:Int)))) ⟨(fi.out.row.cell 10).trans rfl,ch fi.out.procs Ht.out (j:=2) (by rw[IU.out];rfl)⟩ fun w5 aW hHeld=>?_
    rw[aW] at fi ER;clear aW;refine ap 0 1 2 3 ?_;refine ap 4 5 6 7 ?_;refine bw 8 9 ?_;refine bh ?_;clear hHeld;have p5:w5.cell? ⟨pb,k*3+1,none⟩=some (.pointer (some ⟨v.xb,0,none⟩)):=ch fi.out.procs Ht.out (j:=1) (by show some (Value.pointer g3.ptr)=_;unfold PG.ptr;rw[EM.out.1];show some (Value.pointer (some ⟨v3.xb,0,none⟩))=_;rw[EM.out.2]);have Fj:=vX v3.xb v3.sb v3.ty o (c.step L1.mem).1 v3.rv v3.mp w5 ER.out.oj ER.out.inv;rw[EM.out.2] at Fj;have Ma:=hid Fj;clear Fj jJ dP;go_wp2_with fail;refine Ma.out.mono ?_;rintro e w6 ⟨v8,rfl,uq,GZ⟩;obtain⟨A7,c7,rfl,_,_⟩:=uq.ws;obtain⟨tg6,Fs,FJ,_⟩:=(fi.out.below GZ).markrec uq (fun b q=>(fi.out.tn b q).2) fi.out.low;have uB:=hid Fs;have JX:=hid FJ;have Hq:Go.RowKit.Hid (Ws w6 w6.heap.size A7 (c.step L1.mem).1.sr):=hid (by obtain⟨_,_,e,_,h⟩:=uq.ws;cases e;exact h);have wC:(c.step L1.mem).1.sr=(c.step L1.mem).1.rc:=by unfold Kc.sr;rw[HD.out];rfl
    have J9:(c.step L1.mem).1.sc=(c.step L1.mem).1.code:=by unfold Kc.sc;rw[HD.out];rfl
    have Ag:=hid (And.intro wC J9);clear uq GZ Fs FJ wC J9;have d11:=uB.out.row.at 11 (.int .i64 (L1.now:Int));have e6:w6.cell? ⟨cb,q1*7+6,none⟩=some (.int .i64 e1.x.e):=ch uB.out.calls jQ.out (j:=6) rfl;have f6:=cj uB.out.calls (q1*7+6);have jr:=uB.out.recs e1 (List.mem_of_getElem? jQ.out);have KT:=uB.out.callset jQ.out (e1:=⟨{ e1.x with e:=L1.now },e1.A,e1.c⟩) (j:=6) (v:=.int .i64 (L1.now:Int)) rfl (by decide) jr;have gI:=hid KT;have IC:=hid (show(es1.set q1 (⟨{ e1.x with e:=L1.now },e1.A,e1.c⟩:CV))[q1]?=some ⟨{ e1.x with e:=L1.now },e1.A,e1.c⟩ by simp[KW.out]);have e4:(w6.setCell ⟨cb,q1*7+6,none⟩ (.int .i64 (L1.now:Int))).cell? ⟨cb,q1*7+4,none⟩=some (.int .i64 e1.x.c):=ch gI.out.calls IC.out (j:=4) rfl;have f4:=cj gI.out.calls (q1*7+4);have GI:=gI.out.recs _ (List.mem_of_getElem? IC.out);have AY:=gI.out.callset IC.out (e1:=⟨{ e1.x with e:=L1.now,c:=(c.step L1.mem).1.sc },e1.A,e1.c⟩) (j:=4) (v:=.int .i64 (c.step L1.mem).1.sc) rfl (by decide) GI;simp only[List.set_set] at AY;have nJ:=hid AY;clear KT AY jr GI
    by_cases vO:k=0
    ·have dk:decide (0<k)=false:=decide_eq_false (by omega);have g11:((w6.setCell ⟨cb,q1*7+6,none⟩ (.int .i64 (L1.now:Int))).setCell ⟨cb,q1*7+4,none⟩ (.int .i64 (c.step L1.mem).1.sc)).cell? ⟨lb,11,none⟩=some (.int .i64 (L1.now:Int)):=(nJ.out.row.cell 11).trans rfl;have KQ:=nJ.out.row.frozen 11;go_wp2_with fail;go_ret;refine TurnR.yes (tg:=tg6) (cv:=.slice (some ⟨cb,0,none⟩) es1.length cc) (gs:=gs1.set k g3) (es:=es1.set q1 ⟨{ e1.x with e:=L1.now,c:=(c.step L1.mem).1.sc },e1.A,e1.c⟩) (L':=Lm.go Kc.step L1 k ⟨ts1,some c,q1⟩ c) ?_ zx.out;have jq:=nJ.out.tick (L1.now+1);unfold Lm.go;rw[HD.out,if_pos rfl];rw[show L1.calls.modify q1 (gx k L1.now (c.step L1.mem).1)=L1.calls.set q1 (gx k L1.now (c.step L1.mem).1 e1.x) from gO _ ut.out];unfold gx;rw[if_pos vO,← Ag.out.2];exact jq
    ·have dk:decide (0<k)=true:=decide_eq_true (by omega);have K8:=hid (show(es1.set q1 (⟨{ e1.x with e:=L1.now,c:=(c.step L1.mem).1.sc },e1.A,e1.c⟩:CV))[q1]?=some ⟨{ e1.x with e:=L1.now,c:=(c.step L1.mem).1.sc },e1.A,e1.c⟩ by simp[KW.out]);have e3:((w6.setCell ⟨cb,q1*7+6,none⟩ (.int .i64 (L1.now:Int))).setCell ⟨cb,q1*7+4,none⟩ (.int .i64 (c.step L1.mem).1.sc)).cell? ⟨cb,q1*7+3,none⟩=some (.slice e1.A e1.x.r.length e1.c):=ch nJ.out.calls K8.out (j:=3) rfl;have f3:=cj nJ.out.calls (q1*7+3);have dq:=(Tch.refl (fun b=>b=cb) w6).set (b:=cb) rfl (q1*7+6) (.int .i64 (L1.now:Int)) |>.set (b:=cb) rfl (q1*7+4) (.int .i64 (c.step L1.mem).1.sc)
     have In:=nJ.out.callset K8.out (e1:=⟨{ e1.x with e:=L1.now,c:=(c.step L1.mem).1.sc,r:=(c.step L1.mem).1.sr },A7,c7⟩) (j:=3) (v:=.slice A7 (c.step L1.mem).1.sr.length c7) rfl (by decide) ⟨Hq.out.tch dq (fun b off q r=>by have h1:=JX.out b off q;have h2:=uB.out.tc b (by rw[r];rfl);omega) dq.size,JX.out⟩;simp only[List.set_set] at In;have nl:=hid In;clear In dq;have g11:(((w6.setCell ⟨cb,q1*7+6,none⟩ (.int .i64 (L1.now:Int))).setCell ⟨cb,q1*7+4,none⟩ (.int .i64 (c.step L1.mem).1.sc)).setCell ⟨cb,q1*7+3,none⟩ (.slice A7 (c.step L1.mem).1.sr.length c7)).cell? ⟨lb,11,none⟩=some (.int .i64 (L1.now:Int)):=(nl.out.row.cell 11).trans rfl;have KQ:=nl.out.row.frozen 11;go_wp2_with fail;go_ret;refine TurnR.yes (tg:=tg6) (cv:=.slice (some ⟨cb,0,none⟩) es1.length cc) (gs:=gs1.set k g3) (es:=es1.set q1 ⟨{ e1.x with e:=L1.now,c:=(c.step L1.mem).1.sc,r:=(c.step L1.mem).1.sr },A7,c7⟩) (L':=Lm.go Kc.step L1 k ⟨ts1,some c,q1⟩ c) ?_ zx.out;have jq:=nl.out.tick (L1.now+1);unfold Lm.go;rw[HD.out,if_pos rfl];rw[show L1.calls.modify q1 (gx k L1.now (c.step L1.mem).1)=L1.calls.set q1 (gx k L1.now (c.step L1.mem).1 e1.x) from gO _ ut.out];unfold gx;rw[if_neg vO,← Ag.out.2,← Ag.out.1];exact jq
end
set_option maxHeartbeats 2000000
set_option maxRecDepth 100000
def tP:Enc PG:=⟨fun g=>[.slice g.A g.ts.length g.c],1,fun _=>rfl,fun e u hu=>by
 simp only[List.mem_cons,List.not_mem_nil,or_false] at hu
 rcases hu with rfl;rfl,by omega⟩
structure ProcsIn (w:World) (B:Nat) (A:Option Addr) (gs:List PG):Prop where
 hd:SlOf tP w B A gs
 sl:∀ g ∈ gs,SlOf tvE w B g.A g.ts
 cap:∀ g ∈ gs,g.ts.length≤g.c
 ws:∀ g ∈ gs,∀ t ∈ g.ts,Ws w B t.A t.r
theorem ProcsIn.below {w w':World} {B B':Nat} {A:Option Addr} {gs:List PG} (h:ProcsIn w B A gs) (hb:Below B w w') (hB:B≤B'):ProcsIn w' B' A gs:=
 ⟨h.hd.below hb hB,fun g m=>(h.sl g m).below hb hB,h.cap,fun g m t n=>(h.ws g m t n).below hb hB⟩
def je (o:Ob) (k:Nat):Int:=if k=0 then oA o.k else oB o.k
def mf (o:Ob) (k:Nat):Int:=if k=0 then o.wd else 0
def nq (o:Ob) (k:Nat) (t:Td):Int:=if t.op≠je o k then 9 else if (t.r.length:Int)≠mf o k then 4 else 0
def fX (o:Ob) (k:Nat):List Td→Int
 | []=>0
 | t::ts=>if nq o k t=0 then fX o k ts else nq o k t
def hJ (o:Ob):Nat→List (List Td)→Int
 | _,[]=>0
 | k,l::ls=>if fX o k l=0 then hJ o (k+1) ls else fX o k l
def cy (o:Ob) (ls:List (List Td)):Int:=if aT o∧(ls.length:Int)=1+o.nr then hJ o 0 ls else 1
theorem gw {o:Ob} {k:Nat} {l:List Td} {j:Nat} {t:Td} (h:l[j]?=some t):fX o k (l.drop j)=if nq o k t=0 then fX o k (l.drop (j+1)) else nq o k t:=by
 have hj:=(List.getElem?_eq_some_iff.1 h);obtain⟨h1,h2⟩:=hj;rw[List.drop_eq_getElem_cons h1,h2];rfl
theorem iL {o:Ob} {ls:List (List Td)} {k:Nat} {l:List Td} (h:ls[k]?=some l):hJ o k (ls.drop k)=if fX o k l=0 then hJ o (k+1) (ls.drop (k+1)) else fX o k l:=by
 have hj:=(List.getElem?_eq_some_iff.1 h);obtain⟨h1,h2⟩:=hj;rw[List.drop_eq_getElem_cons h1,h2];rfl
theorem oR {o:Ob} {k:Nat} {t:TV} (a:t.op=je o k) (b:(t.r.length:Int)=mf o k):nq o k t.td=0:=by
 exact(if_neg (fun r=>r a)).trans (if_neg (fun r=>r b))
theorem pf {o:Ob} {k:Nat} {t:TV} (a:t.op=je o k) (b:(t.r.length:Int)≠mf o k):nq o k t.td=4:=by
 exact(if_neg (fun r=>r a)).trans (if_pos b)
theorem oO {o:Ob} {k:Nat} {t:TV} (a:t.op≠je o k):nq o k t.td=9:=if_pos a
theorem gd {o:Ob} {i q:Nat} {ls:List (List Td)} {l:List Td} {t:Td} {v:Int} (hf:hJ o i (ls.drop i)=hJ o 0 ls) (hl:ls[i]?=some l) (hq:fX o i (l.drop q)=fX o i l) (ht:l[q]?=some t) (hv:nq o i t=v) (h0:v≠0):hJ o 0 ls=v:=by
 have e:fX o i l=v:=by rw[← hq,gw ht,if_neg (by rw[hv];exact h0),hv]
 rw[← hf,iL hl,if_neg (by rw[e];exact h0),e]
def cg (gs:List PG):List (List Td):=gs.map fun g=>g.ts.map TV.td
theorem dw {gs:List PG} {k:Nat} {g:PG} (h:gs[k]?=some g):(cg gs)[k]?=some (g.ts.map TV.td):=by
 unfold cg;rw[List.getElem?_map,h];rfl
theorem xA (o:Ob) (ho:o.Ok) (A:Option Addr) (n' cap:Nat) (w:World) (h:¬ (aT o∧(n':Int)=1+o.nr)):Calls Tryz.prog 10 #[.agg (af o),.slice A n' cap] w fun e w'=>e=.returned (.int .i64 1)∧Below w.heap.size w w':=by
 have hn:=RowB.new w (af o) 26;have hB:=bt w (.cells (af o) 26);obtain⟨n,aq⟩:∃ n,w.heap.size=n:=⟨_,rfl⟩;rw[aq] at hn hB;have pe:=hid fun W=>rp o ho W
 have HN:=hid hn;have HB:=hid hB;unfold af at pe HN HB;rw[aq]
 by_cases hr:aT o
 ·have hl:¬ (n':Int)=1+o.nr:=fun q=>h ⟨hr,q⟩
  rw[decide_eq_true hr] at pe;have d1:((n':Int) != 1+(o.nr:Int))=true:=by simpa using hl
  have hw:IntKind.i64.wrap (1+(o.nr:Int))=1+(o.nr:Int):=ac (by omega) (by have:=ho.nr1;omega);clear hn hB h hr hl ho;unfold af;go_enter Tryz.func10,Tryz.ntmps10;go_wp2_with fail;refine(pe.out _).mono ?_;rintro e w1 ⟨rfl,hb⟩;have bi:=HN.out.kept hb;have c7:=bi.at 7 (.slice o.R o.nr o.cr);have bT:=hid (bv HB.out hb);clear hb bi;go_wp2_with fail;go_ret;exact⟨rfl,bT.out⟩
 ·rw[decide_eq_false hr] at pe;clear hn hB h hr ho;unfold af;go_enter Tryz.func10,Tryz.ntmps10;go_wp2_with fail;refine(pe.out _).mono ?_;rintro e w1 ⟨rfl,hb⟩;have bT:=hid (bv HB.out hb);clear hb;go_wp2_with fail;go_ret;exact⟨rfl,bT.out⟩
theorem zQ (o:Ob) (ho:o.Ok) (A:Option Addr) (cap:Nat) (gs:List PG) (w:World) (hin:ProcsIn w w.heap.size A gs) (bA:gs.length≤1000) (dq:∀ g ∈ gs,g.ts.length≤1000) (hO:∀ g ∈ gs,∀ t ∈ g.ts,t.r.length≤1000) (hr:aT o) (hl:(gs.length:Int)=1+o.nr):
  Calls Tryz.prog 10 #[.agg (af o),.slice A gs.length cap] w fun e w'=>e=.returned (.int .i64 (hJ o 0 (cg gs)))∧Below w.heap.size w w':=by
 have hn:=RowB.new w (af o) 26;have hB:=bt w (.cells (af o) 26);obtain⟨n,aq⟩:∃ n,w.heap.size=n:=⟨_,rfl⟩;rw[aq] at hn hB;have pe:=hid fun W=>rp o ho W
 have HN:=hid hn;have HB:=hid hB;unfold af at pe HN HB;have tX:=hid hin;have uk:=hid dq;have IB:=hid hO;have nm:=hid bA;have sj:=hid fun W=>zi o.k W
 rw[aq];rw[decide_eq_true hr] at pe;have d1:((gs.length:Int) != 1+(o.nr:Int))=false:=by simpa using hl
 have hw:IntKind.i64.wrap (1+(o.nr:Int))=1+(o.nr:Int):=ac (by omega) (by have:=ho.nr1;omega);clear hn hB hr hl ho hin dq hO bA;unfold af;go_enter Tryz.func10,Tryz.ntmps10;go_wp2_with fail;refine(pe.out _).mono ?_;rintro e w1 ⟨rfl,hb⟩;have bi:=HN.out.kept hb;have c7:=bi.at 7 (.slice o.R o.nr o.cr);have c0:=bi.at 0 (.int .i64 o.k);have bT:=hid (bv HB.out hb);have dF:=hid bi;clear hb bi;go_wp2_with fail;refine(sj.out _).mono ?_;rintro e w2 ⟨rfl,gm⟩;rw[gm];clear gm c7 c0 d1 hw;have wV:=hid (tX.out.below (by rw[aq];exact bT.out) (show w.heap.size≤w1.heap.size by have:=bT.out.size;omega));go_wp2_with fail
 go_loopw [35] (fun j wr=>∃ i:Nat,i≤gs.length∧j=.int .i64 (i:Int)∧hJ o i ((cg gs).drop i)=hJ o 0 (cg gs)∧Below w1.heap.size w1 wr) (fun j _=>gs.length - (intOf j).toNat)
 case atStart=>exact⟨0,Nat.zero_le _,rfl,rfl,Below.refl _ _⟩
 case round=>
  obtain⟨i,hi,rfl,hf,hb⟩:=hrel
  by_cases aZ:i<gs.length
  ·have hd:decide ((i:Int)<(gs.length:Int))=true:=decide_eq_true (by omega);obtain⟨g,hg⟩:∃ g,gs[i]?=some g:=⟨_,List.getElem?_eq_getElem aZ⟩;have hin:=wV.out.below hb hb.size;obtain⟨pb,po,hA,wv,ba⟩:=hin.hd i g hg;have hx:wr.cell? ⟨pb,po+i,none⟩=some (.slice g.A g.ts.length g.c):=by simpa [tP] using ba 0 _ rfl
   have GA:=List.mem_of_getElem? hg;have HG:=hid hg;have Bi:=hid GA;have HF:=hid hf;have Hl:=hid hb;have bj:=hid (dF.out.kept hb);have HI:=hid aZ;have pP:(0:Int)≤(i:Int):=by omega
   have rN:(i:Int)<(gs.length:Int):=by omega
   subst hA;clear hin ba GA hg hf hb wv hi;go_wp2_with fail;have eJ:=hid (Hl.out.trans ((Below.refl wr.heap.size wr).drew.mono Hl.out.size));have Ae:=hid (bj.out.kept (Below.refl _ wr).drew);refine dR (S:=(fun w':World=>w'.cell? ⟨n,1,none⟩=some (.int .i64 o.wd))) ((Ae.out.cell 1).trans rfl) fun w4 aW hHeld=>?_
   rw[aW] at eJ Ae;clear aW;refine ap 0 1 2 3 ?_;refine aF 4 ?_;refine bh ?_;clear hHeld
   by_cases hz:i=0
   ·have dz:decide (0<i)=false:=decide_eq_false (by omega);go_wp2_with fail
    go_loopw [48] (fun j wr=>∃ q:Nat,q≤g.ts.length∧j=.int .i64 (q:Int)∧fX o i ((g.ts.map TV.td).drop q)=fX o i (g.ts.map TV.td)∧Below w1.heap.size w1 wr) (fun j _=>g.ts.length - (intOf j).toNat)
    case atStart=>exact⟨0,Nat.zero_le _,rfl,rfl,eJ.out⟩
    case round=>
     obtain⟨q,hq,rfl,hf,hb⟩:=hrel
     by_cases hlq:q<g.ts.length
     ·have fZ:decide ((q:Int)<(g.ts.length:Int))=true:=decide_eq_true (by omega);obtain⟨t,ht⟩:∃ t,g.ts[q]?=some t:=⟨_,List.getElem?_eq_getElem hlq⟩;have hin:=wV.out.below hb hb.size;obtain⟨tb,to,hA,rW,p8⟩:=hin.sl g Bi.out q t ht;have iV:wr.cell? ⟨tb,to+q*2,none⟩=some (.int .i64 t.op):=by simpa [tvE] using p8 0 _ rfl
      have jK:wr.cell? ⟨tb,to+q*2+1,none⟩=some (.slice t.A t.r.length t.c):=by simpa [tvE,Nat.add_assoc] using p8 1 _ rfl
      have jJ:(0:Int)≤(q:Int):=by omega
      have dP:(q:Int)<(g.ts.length:Int):=by omega
      have n6:=hid hf;have lS:=hid (show(g.ts.map TV.td)[q]?=some t.td by rw[List.getElem?_map,ht];rfl);have Ew:=hid (IB.out g Bi.out t (List.mem_of_getElem? ht));have sy:=hb.alloc hb.size (.cells #[.int .i64 t.op,.slice t.A t.r.length t.c] 45);have yE:=RowB.new wr #[.int .i64 t.op,.slice t.A t.r.length t.c] 45;have Mf:=yE.at 0 (.int .i64 t.op);have Dl:=yE.at 1 (.slice t.A t.r.length t.c);have ka:=hid sy;have Fr:=hid hlq;have db:IntKind.i64.wrap ((q:Int)+1)=(q:Int)+1:=ac (by omega) (by have:=uk.out g Bi.out;omega);rw[hA];clear hin p8 rW hf hb sy yE ht hq
      by_cases e1:t.op=oA o.k
      ·have f1:(t.op != oA o.k)=false:=by simpa using e1
       by_cases e2:(t.r.length:Int)=o.wd
       ·have f2:((t.r.length:Int) != o.wd)=false:=by simpa using e2
        have HE:=hid (And.intro e1 e2);clear e1 e2;go_wp2_with fail;go_roundw
        case rel=>exact⟨q+1,by have:=Fr.out;omega,by go_num,by rw[← n6.out,gw lS.out,if_pos (oR (show t.op=je o i by unfold je;rw[if_pos hz];exact HE.out.1) (show(t.r.length:Int)=mf o i by unfold mf;rw[if_pos hz];exact HE.out.2))],ka.out⟩
        case measure=>simp[intOf];omega
       ·have f2:((t.r.length:Int) != o.wd)=true:=by simpa using e2
        have HE:=hid (And.intro e1 e2);clear e1 e2;go_wp2_with fail;go_ret;exact⟨by rw[gd HF.out (dw HG.out) n6.out lS.out (pf (show t.op=je o i by unfold je;rw[if_pos hz];exact HE.out.1) (show(t.r.length:Int)≠mf o i by unfold mf;rw[if_pos hz];exact HE.out.2)) (by omega)];rfl,by have q:=bT.out;exact q.trans (ka.out.mono (by have:=q.size;omega))⟩
      ·have f1:(t.op != oA o.k)=true:=by simpa using e1
       have HE:=hid e1;clear e1;go_wp2_with fail;go_ret;exact⟨by rw[gd HF.out (dw HG.out) n6.out lS.out (oO (show t.op≠je o i by unfold je;rw[if_pos hz];exact HE.out)) (by omega)];rfl,by have q:=bT.out;exact q.trans (ka.out.mono (by have:=q.size;omega))⟩
     ·have fZ:decide ((q:Int)<(g.ts.length:Int))=false:=decide_eq_false (by omega);have ub:IntKind.i64.wrap ((i:Int)+1)=(i:Int)+1:=ac (by omega) (by have:=HI.out;have:=nm.out;omega);have n6:=hid (show fX o i (g.ts.map TV.td)=0 by rw[← hf,List.drop_eq_nil_of_le (by rw[List.length_map];omega)];rfl);have ka:=hid hb;clear hf hb hq;go_wp2_with fail;go_roundw
      case rel=>exact⟨i+1,by have:=HI.out;omega,by go_num,by rw[← HF.out,iL (dw HG.out),if_pos n6.out],ka.out⟩
      case measure=>simp[intOf];omega
   ·have dz:decide (0<i)=true:=decide_eq_true (by omega);go_wp2_with fail
    go_loopw [48] (fun j wr=>∃ q:Nat,q≤g.ts.length∧j=.int .i64 (q:Int)∧fX o i ((g.ts.map TV.td).drop q)=fX o i (g.ts.map TV.td)∧Below w1.heap.size w1 wr) (fun j _=>g.ts.length - (intOf j).toNat)
    case atStart=>exact⟨0,Nat.zero_le _,rfl,rfl,eJ.out⟩
    case round=>
     obtain⟨q,hq,rfl,hf,hb⟩:=hrel
     by_cases hlq:q<g.ts.length
     ·have fZ:decide ((q:Int)<(g.ts.length:Int))=true:=decide_eq_true (by omega);obtain⟨t,ht⟩:∃ t,g.ts[q]?=some t:=⟨_,List.getElem?_eq_getElem hlq⟩;have hin:=wV.out.below hb hb.size;obtain⟨tb,to,hA,rW,p8⟩:=hin.sl g Bi.out q t ht;have iV:wr.cell? ⟨tb,to+q*2,none⟩=some (.int .i64 t.op):=by simpa [tvE] using p8 0 _ rfl
      have jK:wr.cell? ⟨tb,to+q*2+1,none⟩=some (.slice t.A t.r.length t.c):=by simpa [tvE,Nat.add_assoc] using p8 1 _ rfl
      have jJ:(0:Int)≤(q:Int):=by omega
      have dP:(q:Int)<(g.ts.length:Int):=by omega
      have n6:=hid hf;have lS:=hid (show(g.ts.map TV.td)[q]?=some t.td by rw[List.getElem?_map,ht];rfl);have Ew:=hid (IB.out g Bi.out t (List.mem_of_getElem? ht));have sy:=hb.alloc hb.size (.cells #[.int .i64 t.op,.slice t.A t.r.length t.c] 45);have yE:=RowB.new wr #[.int .i64 t.op,.slice t.A t.r.length t.c] 45;have Mf:=yE.at 0 (.int .i64 t.op);have Dl:=yE.at 1 (.slice t.A t.r.length t.c);have ka:=hid sy;have Fr:=hid hlq;have db:IntKind.i64.wrap ((q:Int)+1)=(q:Int)+1:=ac (by omega) (by have:=uk.out g Bi.out;omega);rw[hA];clear hin p8 rW hf hb sy yE ht hq
      by_cases e1:t.op=oB o.k
      ·have f1:(t.op != oB o.k)=false:=by simpa using e1
       by_cases e2:(t.r.length:Int)=0
       ·have f2:((t.r.length:Int) != 0)=false:=by simpa using e2
        have HE:=hid (And.intro e1 e2);clear e1 e2;go_wp2_with fail;go_roundw
        case rel=>exact⟨q+1,by have:=Fr.out;omega,by go_num,by rw[← n6.out,gw lS.out,if_pos (oR (show t.op=je o i by unfold je;rw[if_neg hz];exact HE.out.1) (show(t.r.length:Int)=mf o i by unfold mf;rw[if_neg hz];exact HE.out.2))],ka.out⟩
        case measure=>simp[intOf];omega
       ·have f2:((t.r.length:Int) != 0)=true:=by simpa using e2
        have HE:=hid (And.intro e1 e2);clear e1 e2;go_wp2_with fail;go_ret;exact⟨by rw[gd HF.out (dw HG.out) n6.out lS.out (pf (show t.op=je o i by unfold je;rw[if_neg hz];exact HE.out.1) (show(t.r.length:Int)≠mf o i by unfold mf;rw[if_neg hz];exact HE.out.2)) (by omega)];rfl,by have q:=bT.out;exact q.trans (ka.out.mono (by have:=q.size;omega))⟩
      ·have f1:(t.op != oB o.k)=true:=by simpa using e1
       have HE:=hid e1;clear e1;go_wp2_with fail;go_ret;exact⟨by rw[gd HF.out (dw HG.out) n6.out lS.out (oO (show t.op≠je o i by unfold je;rw[if_neg hz];exact HE.out)) (by omega)];rfl,by have q:=bT.out;exact q.trans (ka.out.mono (by have:=q.size;omega))⟩
     ·have fZ:decide ((q:Int)<(g.ts.length:Int))=false:=decide_eq_false (by omega);have ub:IntKind.i64.wrap ((i:Int)+1)=(i:Int)+1:=ac (by omega) (by have:=HI.out;have:=nm.out;omega);have n6:=hid (show fX o i (g.ts.map TV.td)=0 by rw[← hf,List.drop_eq_nil_of_le (by rw[List.length_map];omega)];rfl);have ka:=hid hb;clear hf hb hq;go_wp2_with fail;go_roundw
      case rel=>exact⟨i+1,by have:=HI.out;omega,by go_num,by rw[← HF.out,iL (dw HG.out),if_pos n6.out],ka.out⟩
      case measure=>simp[intOf];omega
  ·have hd:decide ((i:Int)<(gs.length:Int))=false:=decide_eq_false (by omega);have HF:=hid (show hJ o 0 (cg gs)=0 by rw[← hf,List.drop_eq_nil_of_le (by unfold cg;rw[List.length_map];omega)];rfl);have ka:=hid hb;clear hf hb hi;go_wp2_with fail;go_ret;exact⟨by rw[HF.out];rfl,by have q:=bT.out;exact q.trans (ka.out.mono (by have:=q.size;omega))⟩
theorem j7 (o:Ob) (ho:o.Ok) (A:Option Addr) (cap:Nat) (gs:List PG) (w:World) (hin:ProcsIn w w.heap.size A gs) (bA:gs.length≤1000) (dq:∀ g ∈ gs,g.ts.length≤1000) (hO:∀ g ∈ gs,∀ t ∈ g.ts,t.r.length≤1000):
  Calls Tryz.prog 10 #[.agg (af o),.slice A gs.length cap] w fun e w'=>e=.returned (.int .i64 (cy o (cg gs)))∧Below w.heap.size w w':=by
 have hl:(cg gs).length=gs.length:=by unfold cg;rw[List.length_map]
 unfold cy;rw[hl]
 by_cases h:aT o∧(gs.length:Int)=1+o.nr
 ·rw[if_pos h];exact zQ o ho A cap gs w hin bA dq hO h.1 h.2
 ·rw[if_neg h];exact xA o ho A gs.length cap w h
end Go.Proofs.YtolmpehgeinlkaaGreatDoor
