/- What is wrong of what is to be done: weave.Fault. -/
import Derived.Test.YtolmpehgeinlkaaGreatDoorZcWb
import Derived.Test.YtolmpehgeinlkaaGreatDoorZcWa
import Derived.Test.YtolmpehgeinlkaaGreatDoorZcShF
namespace Go.Proofs.YtolmpehgeinlkaaGreatDoor
open Go.RowKit
open Go.Lib (hid)
attribute [local go_sem] Oper.semAt_some
set_option maxHeartbeats 2000000
set_option maxRecDepth 100000
abbrev QWvD0 (a0 a1 a2 a3:Nat) (a4:OV) (w':World):Prop:=w'.cell? ⟨a0,8,none⟩=some (.pointer (some ⟨a1,0,none⟩))∧w'.cell? ⟨a2,a3*3+1,none⟩=some (.pointer (some ⟨a4.xb,0,none⟩))
theorem modify_set {l:List Cl} {i:Nat} {x:Cl} (f:Cl→Cl) (h:l[i]?=some x):l.modify i f=l.set i (f x):=by
 apply List.ext_getElem?;intro j;rw[List.getElem?_modify,List.getElem?_set]
 by_cases e:i=j
 ·subst e;rw[if_pos rfl,h];simp[(List.getElem?_eq_some_iff.1 h).1]
 ·rw[if_neg e];cases l[j]? <;> simp[e]
def Lm.CallOk (L:Lm):Prop:=∀ (k:Nat) (p:Pr) (c:Kc),L.ps[k]?=some p→p.op=some c→p.call<L.calls.length
theorem Lm.beg_call {bg:Nat→Td→Kc} {L L1:Lm} {k:Nat} {p p1:Pr} (h:L.CallOk) (hp:L.ps[k]?=some p) (e:Lm.beg bg L k p=some (L1,p1)) (c:Kc) (hc:p1.op=some c):p1.call<L1.calls.length∧L1.now=L.now:=by
 unfold Lm.beg at e
 split at e
 ·split at e
  ·cases e
  ·cases e;exact⟨by simp,rfl⟩
 ·cases e;exact⟨h k p c hp hc,rfl⟩
section
variable {N:Nat} {W:World} {o:Ob} {lb pb mb ml pc:Nat} {cv:Value} {tg:Nat→Nat} {L:Lm} {gs:List PG} {es:List CV} {w:World}
def TurnR (N:Nat) (W:World) (o:Ob) (lb pb mb ml pc:Nat) (L:Lm) (k:Int) (e:Ending) (w':World):Prop:=
 e=.returned (.bool (Lm.turn? (bgO o) Kc.step L k).isSome)∧∃ cv1 tg1 gs1 es1,LoomS N W o lb pb mb ml pc cv1 tg1 (Lm.turn (bgO o) Kc.step L k) gs1 es1 w'
theorem TurnR.no {k:Int} {w':World} (h:LoomS N W o lb pb mb ml pc cv tg L gs es w') (e:Lm.turn? (bgO o) Kc.step L k=none):TurnR N W o lb pb mb ml pc L k (.returned (.bool false)) w':=by
 refine⟨by rw[e];rfl,cv,tg,gs,es,?_⟩;unfold Lm.turn;rw[e];exact h
theorem TurnR.yes {k:Int} {w':World} {L':Lm} (h:LoomS N W o lb pb mb ml pc cv tg L' gs es w') (e:Lm.turn? (bgO o) Kc.step L k=some L'):TurnR N W o lb pb mb ml pc L k (.returned (.bool true)) w':=by
 refine⟨by rw[e];rfl,cv,tg,gs,es,?_⟩;unfold Lm.turn;rw[e];exact h
theorem LoomS.cvrow (h:LoomS N W o lb pb mb ml pc cv tg L gs es w) (h0:0<es.length):∃ cb cc,cv=.slice (some ⟨cb,0,none⟩) es.length cc:=by
 rcases h.calls.2 with ⟨_,e⟩ | ⟨g,cap,cur,e,_⟩
 ·omega
 ·exact⟨g,cap,e⟩
theorem wturn_out (h:LoomS N W o lb pb mb ml pc cv tg L gs es w) (k:Int) (hk:k<0∨(gs.length:Int)≤k):
  Calls Tryz.prog 27 #[.pointer (some ⟨lb,0,none⟩),.int .i64 k] w (TurnR N W o lb pb mb ml pc L k):=by
 have c9:=h.row.at 9 (.slice (some ⟨pb,0,none⟩) gs.length pc)
 have hn:Lm.turn? (bgO o) Kc.step L k=none:=by
  unfold Lm.turn?
  by_cases q:k<0
  ·rw[if_pos q]
  ·rw[if_neg q];have:L.ps[k.toNat]?=none:=by rw[List.getElem?_eq_none_iff,← h.len];omega
   rw[this]
 have HR:=hid (TurnR.no h hn)
 by_cases q:k<0
 ·have d0:decide (k<0)=true:=decide_eq_true q;clear h hk hn q;go_enter Tryz.func27,Tryz.ntmps27;go_wp2_with fail;go_ret;exact HR.out
 ·have d0:decide (k<0)=false:=decide_eq_false q;have d1:decide ((gs.length:Int)≤k)=true:=decide_eq_true (by omega);clear h hk hn q;go_enter Tryz.func27,Tryz.ntmps27;go_wp2_with fail;go_ret;exact HR.out
def StepR (N:Nat) (W:World) (o:Ob) (lb pb mb ml pc:Nat) (cv:Value) (L:Lm) (gs:List PG) (es:List CV) (k:Nat) (p:Pr) (c:Kc) (v:OV) (e:Ending) (w':World):Prop:=
 e=.returned (.bool true)∧∃ tg' g' v',LoomS N W o lb pb mb ml pc cv tg' { L with ps:=L.ps.set k { p with op:=some (c.step L.mem).1 },mem:=(c.step L.mem).2 } (gs.set k g') es w'∧g'.op=some v'∧v'.xb=v.xb∧OpOk tg' k o w' (c.step L.mem).1 v'
theorem wstep_o {k:Nat} {g:PG} {p:Pr} {c:Kc} {v:OV} (h:LoomS N W o lb pb mb ml pc cv tg L gs es w) (hg:gs[k]?=some g) (hp:L.ps[k]?=some p) (hv:g.op=some v) (hop:OpOk tg k o w c v) (hov:c.over=false) (hml:c.size=L.mem.length) (hT:Tab64 W) (hG:(0:Nat)<N):
  Calls Tryz.prog 50 #[.pointer (some ⟨v.xb,0,none⟩),.pointer (some ⟨mb,0,none⟩)] w (StepR N W o lb pb mb ml pc cv L gs es k p c v):=by
 have hn:∀ a b,tg a≠tg b→a≠b:=fun a b q e=>q (by rw[e])
 have hcan:c.can L.mem=true:=by
  unfold Kc.can;rw[hov,hop.base];simp[hml]
 have ht0:tg 0=0:=by
  by_cases q:tg 0=0
  ·exact q
  ·have:=(h.tn _ q).1;omega
 have h1:=ostep_yes v.xb v.sb mb ml v.ty o c v.rv v.mp L.mem w hop.oj h.mem hop.inv hcan (hn _ _ (by rw[hop.ts,h.tm];omega)) (hn _ _ (by rw[hop.ts,h.tw];omega)) (fun q=>by have:=hop.tr _ q;rw[h.tm] at this;omega) (fun q=>by have:=hop.tr _ q;rw[h.tw] at this;omega) (hn _ _ (by rw[hop.tx,h.tm];omega)) (hn _ _ (by rw[hop.tx,h.tw];omega))
  (fun j hj=>(h.bel.cell (p:=⟨_,j,none⟩) hG).trans (hT j hj)) (by
   rintro(q | q | q | q)
   ·have:=hop.ts;rw[← q,ht0] at this;omega
   ·have:=h.tm;rw[← q,ht0] at this;omega
   ·have:=h.tw;rw[← q,ht0] at this;omega
   ·have:=hop.tr _ q;rw[ht0] at this;omega)
 refine h1.mono fun e w' q=>?_
 obtain⟨rv',he,hoj,hm,_,hmv⟩:=q;have hlf:=Kc.left_step (l:=L.mem) hov hop.inv.sta.wd1 hop.inv.sta.nr1 hop.inv.sta.cap1;obtain⟨tg',g',hL,hgo,hok⟩:=h.step hg hp hv hop hoj hm hmv (hop.inv.step hov h.mem.w32) (hlf.2.2.2.2.2.2.2.2.1.trans hop.base) (by rw[hlf.2.2.2.2.2.2.2.2.2.1];exact hop.size);exact⟨he,tg',g',_,hL,hgo,rfl,hok⟩
theorem wturn_in (h:LoomS N W o lb pb mb ml pc cv tg L gs es w) (ho:o.Ok) (k:Nat) (hk:k<gs.length) (hbk:k≤1000) (hI:L.InvL (bgO o) L.mem.length) (hC:L.CallOk) (hT:Tab64 W) (hG:(0:Nat)<N)
  (hok:∀ g,gs[k]?=some g→∀ t ∈ g.ts,begE o 0 t.op (rdK k) t.r.length=0∧t.r.length≤1000) (hes:es.length≤1000) (hnow:L.now≤1000000):
  Calls Tryz.prog 27 #[.pointer (some ⟨lb,0,none⟩),.int .i64 (k:Int)] w (TurnR N W o lb pb mb ml pc L (k:Int)):=by
 have c9:=h.row.at 9 (.slice (some ⟨pb,0,none⟩) gs.length pc);obtain⟨g,hg⟩:∃ g,gs[k]?=some g:=⟨_,List.getElem?_eq_getElem hk⟩;obtain⟨p,hp⟩:∃ p,L.ps[k]?=some p:=⟨_,List.getElem?_eq_getElem (by rw[← h.len];exact hk)⟩;have HBG:=hid (wbeg_o h ho hg hp hbk (hok g hg) hes hnow)
 have ht?:Lm.turn? (bgO o) Kc.step L (k:Int)=Lm.one (bgO o) Kc.step L k p:=by
  unfold Lm.turn?;rw[if_neg (by omega),Int.toNat_natCast,hp]
 have HTQ:=hid ht?;have d0:decide ((k:Int)<0)=false:=decide_eq_false (by omega);have d1:decide ((gs.length:Int)≤(k:Int))=false:=decide_eq_false (by omega);have HI:=hid hI;have HC:=hid hC;have HTB:=hid (And.intro hT hG);have HPP:=hid hp;have hb2:(k:Int)≤1000:=by omega
 have hb3:(0:Int)≤(k:Int):=by omega
 have HLN:=hid h.len;have HKG:=hid hk;have HNW:=hid hnow;clear h ho hg hp hok hes hnow hI hC hT hG ht? hk;go_enter Tryz.func27,Tryz.ntmps27;go_wp2_with fail;refine HBG.out.mono ?_;intro e w1 hbr
 rcases hbr with ⟨hn,rfl,hL⟩ | ⟨L1,p1,cv1,tg1,gs1,es1,hb,rfl,hL⟩
 ·have HR:=hid (TurnR.no hL (k:=(k:Int)) (by rw[HTQ.out];unfold Lm.one;rw[hn]));clear hn hL;go_wp2_with fail;go_ret;exact HR.out
 ·obtain⟨c,hc,hov,hinv,hbase,hsize,hp1,hI1,hm1⟩:=Lm.beg_op HI.out HPP.out hb;obtain⟨hcl,hnw⟩:=Lm.beg_call HC.out HPP.out hb c hc;obtain⟨ts1,oc1,q1⟩:=p1;dsimp only at hc;subst hc;dsimp only at hcl;have hk1:k<gs1.length:=by rw[hL.len];exact(List.getElem?_eq_some_iff.1 hp1).1
  obtain⟨g1,hg1⟩:∃ g,gs1[k]?=some g:=⟨_,List.getElem?_eq_getElem hk1⟩;have hpk:=hL.ps k g1 _ hg1 hp1
  obtain⟨v,hv,hop⟩:∃ v,g1.op=some v∧OpOk tg1 k o w1 c v:=by
   rcases hpk.op with ⟨q,_⟩ | ⟨c',v,q1,q2,q3⟩
   ·cases q
   ·cases q1;exact⟨v,q2,q3⟩
  have HL1:=hid hL;have c9b:=hL.row.at 9 (.slice (some ⟨pb,0,none⟩) gs1.length pc);have hk1':(k:Int)<(gs1.length:Int):=by omega
  have HB1:=hid hb;have HOV:=hid hov;have HIV:=hid (And.intro hinv (And.intro hbase hsize));have HP1:=hid hp1;have HM1:=hid hm1;have HG1:=hid hg1;have HV1:=hid hv;have HOP:=hid hop;have HCL:=hid hcl;have HNX:=hid hnw;have HK1:=hid hk1;clear hL hb hov hinv hbase hsize hp1 hI1 hm1 hg1 hv hop hcl hnw hpk hk1;go_wp2_with fail;have HL2:=hid (HL1.out.below (Below.refl _ w1).drew);have HOP2:=hid (HOP.out.tch (T:=fun _=>False) (Tch.refl _ w1).drew (fun _ q=>q.elim));clear c9 c9b hk1';refine rgn (S:=(QWvD0 lb mb pb k v)) ⟨(HL2.out.row.cell 8).trans rfl,own_get HL2.out.procs HG1.out (j:=1) (by show some (Value.pointer g1.ptr)=_;unfold PG.ptr;rw[HV1.out];rfl)⟩ fun w2 hw9 hHeld=>?_
  rw[hw9] at HL2 HOP2;clear hw9;refine tk4 0 1 2 3 ?_;refine tk4 4 5 6 7 ?_;refine clH 8 (fun K hK=>?_)
  ·go_simp;refine(wstep_o HL2.out HG1.out HP1.out HV1.out HOP2.out HOV.out (HIV.out.2.2.trans (by rw[HM1.out])) HTB.out.1 HTB.out.2).mono ?_;rintro ex w3 ⟨rfl,tg3,g3,v3,hL3,hg3,hx3,hop3⟩;have HL3:=hid hL3;have hG3:(gs1.set k g3)[k]?=some g3:=by simp[HK1.out]
   have HG3:=hid hG3;have HV3:=hid (And.intro hg3 hx3);have HOP3:=hid hop3;have hSx:(QWvD0 lb mb pb k v) w3:=⟨(HL3.out.row.cell 8).trans rfl,own_get HL3.out.procs hG3 (j:=1) (by show some (Value.pointer g3.ptr)=_;unfold PG.ptr;rw[hg3];show some (Value.pointer (some ⟨v3.xb,0,none⟩))=_;rw[hx3])⟩;clear hL3 hg3 hx3 hop3 hG3;refine kH hK hSx fun hHeld=>?_
   clear hK K;refine dnH ?_;have HCX:=hid hHeld.2;clear hHeld hSx;have hp1c:=HCX.out;have hP3:((L1.ps.set k ⟨ts1,some (c.step L1.mem).1,q1⟩):List Pr)[k]?=some ⟨ts1,some (c.step L1.mem).1,q1⟩:=by simp[(List.getElem?_eq_some_iff.1 HP1.out).1]
   have HP3:=hid hP3;have hov3:=wover HL3.out HG3.out hP3;have eptr:g3.ptr=some ⟨v.xb,0,none⟩:=by unfold PG.ptr;rw[HV3.out.1];show some (⟨v3.xb,0,none⟩:Addr)=_;rw[HV3.out.2]
   rw[eptr] at hov3;have HOV3:=hid hov3;clear hP3 hov3 eptr;go_wp2_with fail;refine HOV3.out.mono ?_;rintro e w4 ⟨rfl,hw4⟩;rw[hw4];clear hw4;have hone:Lm.turn? (bgO o) Kc.step L (k:Int)=some (Lm.go Kc.step L1 k ⟨ts1,some c,q1⟩ c):=by rw[HTQ.out];unfold Lm.one;rw[HB1.out]
   have HONE:=hid hone;clear hone;have hwn:IntKind.i64.wrap ((L1.now:Int)+1)=(L1.now:Int)+1:=sh_wrap (by omega) (by have h1:=HNX.out;have h2:=HNW.out;omega);cases hd:(Pr.done ⟨ts1,some (c.step L1.mem).1,q1⟩)
   ·have HD:=hid (show(c.step L1.mem).1.over=false from hd);clear hd;have c11:=HL3.out.row.at 11 (.int .i64 (L1.now:Int));have f11:=HL3.out.row.frozen 11;go_wp2_with fail;go_ret;refine TurnR.yes (tg:=tg3) (cv:=cv1) (gs:=gs1.set k g3) (es:=es1) (L':=Lm.go Kc.step L1 k ⟨ts1,some c,q1⟩ c) ?_ HONE.out;have hfin:=HL3.out.tick (L1.now+1);unfold Lm.go;rw[HD.out];exact hfin
   ·have HD:=hid (show(c.step L1.mem).1.over=true from hd);clear hd;have hpk3:=HL3.out.ps k g3 _ HG3.out HP3.out;have hcall:q1=g3.call:=hpk3.call;have hlen:es1.length=L1.calls.length:=by have:=HL3.out.cx;rw[← this,List.length_map]
    have hqi:q1<es1.length:=by have:=HCL.out;omega
    obtain⟨cb,cc,hcv⟩:=HL3.out.cvrow (by omega);subst hcv;obtain⟨e1,he1⟩:∃ e,es1[q1]?=some e:=⟨_,List.getElem?_eq_getElem hqi⟩;have hx1:L1.calls[q1]?=some e1.x:=by have:=HL3.out.cx;rw[← this,List.getElem?_map,he1];rfl
    have HE1:=hid he1;have HX1:=hid hx1;have HQI:=hid hqi;have HCA:=hid hcall;have hq1:(q1:Int)<(es1.length:Int):=by omega
    have hq0:(0:Int)≤(q1:Int):=by omega
    clear hpk3 hcall hlen hqi he1 hx1;go_wp2_with fail;have HL5:=hid (HL3.out.below (Below.refl _ w3).drew);have HOP5:=hid (HOP3.out.tch (T:=fun _=>False) (Tch.refl _ w3).drew (fun _ q=>q.elim));refine rgn (S:=(fun w':World=>w'.cell? ⟨lb,10,none⟩=some (.slice (some ⟨cb,0,none⟩) es1.length cc)∧w'.cell? ⟨pb,k*3+2,none⟩=some (.int .i64 (q1:Int)))) ⟨(HL5.out.row.cell 10).trans rfl,own_get HL5.out.procs HG3.out (j:=2) (by rw[HCA.out];rfl)⟩ fun w5 hw9 hHeld=>?_
    rw[hw9] at HL5 HOP5;clear hw9;refine tk4 0 1 2 3 ?_;refine tk4 4 5 6 7 ?_;refine tk2 8 9 ?_;refine dnH ?_;clear hHeld;have p5:w5.cell? ⟨pb,k*3+1,none⟩=some (.pointer (some ⟨v.xb,0,none⟩)):=own_get HL5.out.procs HG3.out (j:=1) (by show some (Value.pointer g3.ptr)=_;unfold PG.ptr;rw[HV3.out.1];show some (Value.pointer (some ⟨v3.xb,0,none⟩))=_;rw[HV3.out.2]);have han:=oanswer_o v3.xb v3.sb v3.ty o (c.step L1.mem).1 v3.rv v3.mp w5 HOP5.out.oj HOP5.out.inv;rw[HV3.out.2] at han;have HAN:=hid han;clear han hq0 hq1;go_wp2_with fail;refine HAN.out.mono ?_;rintro e w6 ⟨v8,rfl,hv8,hb6⟩;obtain⟨A7,c7,rfl,_,_⟩:=hv8.ws;obtain⟨tg6,hL6,hr6,_⟩:=(HL5.out.below hb6).markrec hv8 (fun b q=>(HL5.out.tn b q).2) HL5.out.low;have HL6:=hid hL6;have HR6:=hid hr6;have HW6:Go.RowKit.Hid (Ws w6 w6.heap.size A7 (c.step L1.mem).1.sr):=hid (by obtain⟨_,_,e,_,h⟩:=hv8.ws;cases e;exact h);have hsr:(c.step L1.mem).1.sr=(c.step L1.mem).1.rc:=by unfold Kc.sr;rw[HD.out];rfl
    have hsc:(c.step L1.mem).1.sc=(c.step L1.mem).1.code:=by unfold Kc.sc;rw[HD.out];rfl
    have HSR:=hid (And.intro hsr hsc);clear hv8 hb6 hL6 hr6 hsr hsc;have d11:=HL6.out.row.at 11 (.int .i64 (L1.now:Int));have e6:w6.cell? ⟨cb,q1*7+6,none⟩=some (.int .i64 e1.x.e):=own_get HL6.out.calls HE1.out (j:=6) rfl;have f6:=own_frozen HL6.out.calls (q1*7+6);have hrc:=HL6.out.recs e1 (List.mem_of_getElem? HE1.out);have hL7:=HL6.out.callset HE1.out (e1:=⟨{ e1.x with e:=L1.now },e1.A,e1.c⟩) (j:=6) (v:=.int .i64 (L1.now:Int)) rfl (by decide) hrc;have HL7:=hid hL7;have HE7:=hid (show(es1.set q1 (⟨{ e1.x with e:=L1.now },e1.A,e1.c⟩:CV))[q1]?=some ⟨{ e1.x with e:=L1.now },e1.A,e1.c⟩ by simp[HQI.out]);have e4:(w6.setCell ⟨cb,q1*7+6,none⟩ (.int .i64 (L1.now:Int))).cell? ⟨cb,q1*7+4,none⟩=some (.int .i64 e1.x.c):=own_get HL7.out.calls HE7.out (j:=4) rfl;have f4:=own_frozen HL7.out.calls (q1*7+4);have hrc7:=HL7.out.recs _ (List.mem_of_getElem? HE7.out);have hL8:=HL7.out.callset HE7.out (e1:=⟨{ e1.x with e:=L1.now,c:=(c.step L1.mem).1.sc },e1.A,e1.c⟩) (j:=4) (v:=.int .i64 (c.step L1.mem).1.sc) rfl (by decide) hrc7;simp only[List.set_set] at hL8;have HL8:=hid hL8;clear hL7 hL8 hrc hrc7
    by_cases hk0:k=0
    ·have dk:decide (0<k)=false:=decide_eq_false (by omega);have g11:((w6.setCell ⟨cb,q1*7+6,none⟩ (.int .i64 (L1.now:Int))).setCell ⟨cb,q1*7+4,none⟩ (.int .i64 (c.step L1.mem).1.sc)).cell? ⟨lb,11,none⟩=some (.int .i64 (L1.now:Int)):=(HL8.out.row.cell 11).trans rfl;have h11:=HL8.out.row.frozen 11;go_wp2_with fail;go_ret;refine TurnR.yes (tg:=tg6) (cv:=.slice (some ⟨cb,0,none⟩) es1.length cc) (gs:=gs1.set k g3) (es:=es1.set q1 ⟨{ e1.x with e:=L1.now,c:=(c.step L1.mem).1.sc },e1.A,e1.c⟩) (L':=Lm.go Kc.step L1 k ⟨ts1,some c,q1⟩ c) ?_ HONE.out;have hfin:=HL8.out.tick (L1.now+1);unfold Lm.go;rw[HD.out,if_pos rfl];rw[show L1.calls.modify q1 (endC k L1.now (c.step L1.mem).1)=L1.calls.set q1 (endC k L1.now (c.step L1.mem).1 e1.x) from modify_set _ HX1.out];unfold endC;rw[if_pos hk0,← HSR.out.2];exact hfin
    ·have dk:decide (0<k)=true:=decide_eq_true (by omega);have HE8:=hid (show(es1.set q1 (⟨{ e1.x with e:=L1.now,c:=(c.step L1.mem).1.sc },e1.A,e1.c⟩:CV))[q1]?=some ⟨{ e1.x with e:=L1.now,c:=(c.step L1.mem).1.sc },e1.A,e1.c⟩ by simp[HQI.out]);have e3:((w6.setCell ⟨cb,q1*7+6,none⟩ (.int .i64 (L1.now:Int))).setCell ⟨cb,q1*7+4,none⟩ (.int .i64 (c.step L1.mem).1.sc)).cell? ⟨cb,q1*7+3,none⟩=some (.slice e1.A e1.x.r.length e1.c):=own_get HL8.out.calls HE8.out (j:=3) rfl;have f3:=own_frozen HL8.out.calls (q1*7+3);have hts:=(Tch.refl (fun b=>b=cb) w6).set (b:=cb) rfl (q1*7+6) (.int .i64 (L1.now:Int)) |>.set (b:=cb) rfl (q1*7+4) (.int .i64 (c.step L1.mem).1.sc)
     have hL9:=HL8.out.callset HE8.out (e1:=⟨{ e1.x with e:=L1.now,c:=(c.step L1.mem).1.sc,r:=(c.step L1.mem).1.sr },A7,c7⟩) (j:=3) (v:=.slice A7 (c.step L1.mem).1.sr.length c7) rfl (by decide) ⟨HW6.out.tch hts (fun b off q r=>by have h1:=HR6.out b off q;have h2:=HL6.out.tc b (by rw[r];rfl);omega) hts.size,HR6.out⟩;simp only[List.set_set] at hL9;have HL9:=hid hL9;clear hL9 hts;have g11:(((w6.setCell ⟨cb,q1*7+6,none⟩ (.int .i64 (L1.now:Int))).setCell ⟨cb,q1*7+4,none⟩ (.int .i64 (c.step L1.mem).1.sc)).setCell ⟨cb,q1*7+3,none⟩ (.slice A7 (c.step L1.mem).1.sr.length c7)).cell? ⟨lb,11,none⟩=some (.int .i64 (L1.now:Int)):=(HL9.out.row.cell 11).trans rfl;have h11:=HL9.out.row.frozen 11;go_wp2_with fail;go_ret;refine TurnR.yes (tg:=tg6) (cv:=.slice (some ⟨cb,0,none⟩) es1.length cc) (gs:=gs1.set k g3) (es:=es1.set q1 ⟨{ e1.x with e:=L1.now,c:=(c.step L1.mem).1.sc,r:=(c.step L1.mem).1.sr },A7,c7⟩) (L':=Lm.go Kc.step L1 k ⟨ts1,some c,q1⟩ c) ?_ HONE.out;have hfin:=HL9.out.tick (L1.now+1);unfold Lm.go;rw[HD.out,if_pos rfl];rw[show L1.calls.modify q1 (endC k L1.now (c.step L1.mem).1)=L1.calls.set q1 (endC k L1.now (c.step L1.mem).1 e1.x) from modify_set _ HX1.out];unfold endC;rw[if_neg hk0,← HSR.out.2,← HSR.out.1];exact hfin
end
end Go.Proofs.YtolmpehgeinlkaaGreatDoor

namespace Go.Proofs.YtolmpehgeinlkaaGreatDoor
open Go.RowKit
open Go.Lib (hid)
attribute [local go_sem] Oper.semAt_some
set_option maxHeartbeats 2000000
set_option maxRecDepth 100000
def hdE:Enc PG:=⟨fun g=>[.slice g.A g.ts.length g.c],1,fun _=>rfl,fun e u hu=>by
 simp only[List.mem_cons,List.not_mem_nil,or_false] at hu
 rcases hu with rfl;rfl,by omega⟩
structure ProcsIn (w:World) (B:Nat) (A:Option Addr) (gs:List PG):Prop where
 hd:SlOf hdE w B A gs
 sl:∀ g ∈ gs,SlOf tvE w B g.A g.ts
 cap:∀ g ∈ gs,g.ts.length≤g.c
 ws:∀ g ∈ gs,∀ t ∈ g.ts,Ws w B t.A t.r
theorem ProcsIn.below {w w':World} {B B':Nat} {A:Option Addr} {gs:List PG} (h:ProcsIn w B A gs) (hb:Below B w w') (hB:B≤B'):ProcsIn w' B' A gs:=
 ⟨h.hd.below hb hB,fun g m=>(h.sl g m).below hb hB,h.cap,fun g m t n=>(h.ws g m t n).below hb hB⟩
def opK (o:Ob) (k:Nat):Int:=if k=0 then oA o.k else oB o.k
def wdK (o:Ob) (k:Nat):Int:=if k=0 then o.wd else 0
def flt1 (o:Ob) (k:Nat) (t:Td):Int:=if t.op≠opK o k then 9 else if (t.r.length:Int)≠wdK o k then 4 else 0
def fltL (o:Ob) (k:Nat):List Td→Int
 | []=>0
 | t::ts=>if flt1 o k t=0 then fltL o k ts else flt1 o k t
def fltP (o:Ob):Nat→List (List Td)→Int
 | _,[]=>0
 | k,l::ls=>if fltL o k l=0 then fltP o (k+1) ls else fltL o k l
def faultP (o:Ob) (ls:List (List Td)):Int:=if anyR o∧(ls.length:Int)=1+o.nr then fltP o 0 ls else 1
theorem fltL_drop {o:Ob} {k:Nat} {l:List Td} {j:Nat} {t:Td} (h:l[j]?=some t):fltL o k (l.drop j)=if flt1 o k t=0 then fltL o k (l.drop (j+1)) else flt1 o k t:=by
 have hj:=(List.getElem?_eq_some_iff.1 h);obtain⟨h1,h2⟩:=hj;rw[List.drop_eq_getElem_cons h1,h2];rfl
theorem fltP_drop {o:Ob} {ls:List (List Td)} {k:Nat} {l:List Td} (h:ls[k]?=some l):fltP o k (ls.drop k)=if fltL o k l=0 then fltP o (k+1) (ls.drop (k+1)) else fltL o k l:=by
 have hj:=(List.getElem?_eq_some_iff.1 h);obtain⟨h1,h2⟩:=hj;rw[List.drop_eq_getElem_cons h1,h2];rfl
theorem flt1_0 {o:Ob} {k:Nat} {t:TV} (a:t.op=opK o k) (b:(t.r.length:Int)=wdK o k):flt1 o k t.td=0:=by
 exact(if_neg (fun r=>r a)).trans (if_neg (fun r=>r b))
theorem flt1_4 {o:Ob} {k:Nat} {t:TV} (a:t.op=opK o k) (b:(t.r.length:Int)≠wdK o k):flt1 o k t.td=4:=by
 exact(if_neg (fun r=>r a)).trans (if_pos b)
theorem flt1_9 {o:Ob} {k:Nat} {t:TV} (a:t.op≠opK o k):flt1 o k t.td=9:=if_pos a
theorem flt_ret {o:Ob} {i q:Nat} {ls:List (List Td)} {l:List Td} {t:Td} {v:Int} (hf:fltP o i (ls.drop i)=fltP o 0 ls) (hl:ls[i]?=some l) (hq:fltL o i (l.drop q)=fltL o i l) (ht:l[q]?=some t) (hv:flt1 o i t=v) (h0:v≠0):fltP o 0 ls=v:=by
 have e:fltL o i l=v:=by rw[← hq,fltL_drop ht,if_neg (by rw[hv];exact h0),hv]
 rw[← hf,fltP_drop hl,if_neg (by rw[e];exact h0),e]
def tds (gs:List PG):List (List Td):=gs.map fun g=>g.ts.map TV.td
theorem tds_get {gs:List PG} {k:Nat} {g:PG} (h:gs[k]?=some g):(tds gs)[k]?=some (g.ts.map TV.td):=by
 unfold tds;rw[List.getElem?_map,h];rfl
theorem wfault_1 (o:Ob) (ho:o.Ok) (A:Option Addr) (n' cap:Nat) (w:World) (h:¬ (anyR o∧(n':Int)=1+o.nr)):Calls Tryz.prog 10 #[.agg (obA o),.slice A n' cap] w fun e w'=>e=.returned (.int .i64 1)∧Below w.heap.size w w':=by
 have hn:=RowB.new w (obA o) 26;have hB:=(Below.refl w.heap.size w).alloc (Nat.le_refl _) (.cells (obA o) 26);obtain⟨n,hn0⟩:∃ n,w.heap.size=n:=⟨_,rfl⟩;rw[hn0] at hn hB;have HSH:=hid fun W=>shaped_o o ho W
 have HN:=hid hn;have HB:=hid hB;unfold obA at HSH HN HB;rw[hn0]
 by_cases hr:anyR o
 ·have hl:¬ (n':Int)=1+o.nr:=fun q=>h ⟨hr,q⟩
  rw[decide_eq_true hr] at HSH;have d1:((n':Int) != 1+(o.nr:Int))=true:=by simpa using hl
  have hw:IntKind.i64.wrap (1+(o.nr:Int))=1+(o.nr:Int):=sh_wrap (by omega) (by have:=ho.nr1;omega);clear hn hB h hr hl ho;unfold obA;go_enter Tryz.func10,Tryz.ntmps10;go_wp2_with fail;refine(HSH.out _).mono ?_;rintro e w1 ⟨rfl,hb⟩;have hr1:=HN.out.kept hb;have c7:=hr1.at 7 (.slice o.R o.nr o.cr);have HB1:=hid (HB.out.trans (hb.mono (by have:=HB.out.size;omega)));clear hb hr1;go_wp2_with fail;go_ret;exact⟨rfl,HB1.out⟩
 ·rw[decide_eq_false hr] at HSH;clear hn hB h hr ho;unfold obA;go_enter Tryz.func10,Tryz.ntmps10;go_wp2_with fail;refine(HSH.out _).mono ?_;rintro e w1 ⟨rfl,hb⟩;have HB1:=hid (HB.out.trans (hb.mono (by have:=HB.out.size;omega)));clear hb;go_wp2_with fail;go_ret;exact⟨rfl,HB1.out⟩
theorem wfault_2 (o:Ob) (ho:o.Ok) (A:Option Addr) (cap:Nat) (gs:List PG) (w:World) (hin:ProcsIn w w.heap.size A gs) (hlen:gs.length≤1000) (hts:∀ g ∈ gs,g.ts.length≤1000) (hrs:∀ g ∈ gs,∀ t ∈ g.ts,t.r.length≤1000) (hr:anyR o) (hl:(gs.length:Int)=1+o.nr):
  Calls Tryz.prog 10 #[.agg (obA o),.slice A gs.length cap] w fun e w'=>e=.returned (.int .i64 (fltP o 0 (tds gs)))∧Below w.heap.size w w':=by
 have hn:=RowB.new w (obA o) 26;have hB:=(Below.refl w.heap.size w).alloc (Nat.le_refl _) (.cells (obA o) 26);obtain⟨n,hn0⟩:∃ n,w.heap.size=n:=⟨_,rfl⟩;rw[hn0] at hn hB;have HSH:=hid fun W=>shaped_o o ho W
 have HN:=hid hn;have HB:=hid hB;unfold obA at HSH HN HB;have HIN:=hid hin;have HTS:=hid hts;have HRS:=hid hrs;have HLE:=hid hlen;have HOP:=hid fun W=>oops_any o.k W
 rw[hn0];rw[decide_eq_true hr] at HSH;have d1:((gs.length:Int) != 1+(o.nr:Int))=false:=by simpa using hl
 have hw:IntKind.i64.wrap (1+(o.nr:Int))=1+(o.nr:Int):=sh_wrap (by omega) (by have:=ho.nr1;omega);clear hn hB hr hl ho hin hts hrs hlen;unfold obA;go_enter Tryz.func10,Tryz.ntmps10;go_wp2_with fail;refine(HSH.out _).mono ?_;rintro e w1 ⟨rfl,hb⟩;have hr1:=HN.out.kept hb;have c7:=hr1.at 7 (.slice o.R o.nr o.cr);have c0:=hr1.at 0 (.int .i64 o.k);have HB1:=hid (HB.out.trans (hb.mono (by have:=HB.out.size;omega)));have HN1:=hid hr1;clear hb hr1;go_wp2_with fail;refine(HOP.out _).mono ?_;rintro e w2 ⟨rfl,hw2⟩;rw[hw2];clear hw2 c7 c0 d1 hw;have HIN1:=hid (HIN.out.below (by rw[hn0];exact HB1.out) (show w.heap.size≤w1.heap.size by have:=HB1.out.size;omega));go_wp2_with fail
 go_loopw [35] (fun j wr=>∃ i:Nat,i≤gs.length∧j=.int .i64 (i:Int)∧fltP o i ((tds gs).drop i)=fltP o 0 (tds gs)∧Below w1.heap.size w1 wr) (fun j _=>gs.length - (intOf j).toNat)
 case atStart=>exact⟨0,Nat.zero_le _,rfl,rfl,Below.refl _ _⟩
 case round=>
  obtain⟨i,hi,rfl,hf,hb⟩:=hrel
  by_cases hlt:i<gs.length
  ·have hd:decide ((i:Int)<(gs.length:Int))=true:=decide_eq_true (by omega);obtain⟨g,hg⟩:∃ g,gs[i]?=some g:=⟨_,List.getElem?_eq_getElem hlt⟩;have hin:=HIN1.out.below hb hb.size;obtain⟨pb,po,hA,hpb,hcell⟩:=hin.hd i g hg;have hx:wr.cell? ⟨pb,po+i,none⟩=some (.slice g.A g.ts.length g.c):=by simpa [hdE] using hcell 0 _ rfl
   have hgm:=List.mem_of_getElem? hg;have HG:=hid hg;have HGM:=hid hgm;have HF:=hid hf;have HBW:=hid hb;have HNR:=hid (HN1.out.kept hb);have HI:=hid hlt;have hi0:(0:Int)≤(i:Int):=by omega
   have hi1:(i:Int)<(gs.length:Int):=by omega
   subst hA;clear hin hcell hgm hg hf hb hpb hi;go_wp2_with fail;have HBD:=hid ((HBW.out).trans ((Below.refl wr.heap.size wr).drew.mono HBW.out.size));have HND:=hid (HNR.out.kept (Below.refl _ wr).drew);refine rgn (S:=(fun w':World=>w'.cell? ⟨n,1,none⟩=some (.int .i64 o.wd))) ((HND.out.cell 1).trans rfl) fun w4 hw9 hHeld=>?_
   rw[hw9] at HBD HND;clear hw9;refine tk4 0 1 2 3 ?_;refine tkH 4 ?_;refine dnH ?_;clear hHeld
   by_cases hz:i=0
   ·have dz:decide (0<i)=false:=decide_eq_false (by omega);go_wp2_with fail
    go_loopw [48] (fun j wr=>∃ q:Nat,q≤g.ts.length∧j=.int .i64 (q:Int)∧fltL o i ((g.ts.map TV.td).drop q)=fltL o i (g.ts.map TV.td)∧Below w1.heap.size w1 wr) (fun j _=>g.ts.length - (intOf j).toNat)
    case atStart=>exact⟨0,Nat.zero_le _,rfl,rfl,HBD.out⟩
    case round=>
     obtain⟨q,hq,rfl,hf,hb⟩:=hrel
     by_cases hlq:q<g.ts.length
     ·have hd2:decide ((q:Int)<(g.ts.length:Int))=true:=decide_eq_true (by omega);obtain⟨t,ht⟩:∃ t,g.ts[q]?=some t:=⟨_,List.getElem?_eq_getElem hlq⟩;have hin:=HIN1.out.below hb hb.size;obtain⟨tb,to,hA,htb,hct⟩:=hin.sl g HGM.out q t ht;have hx0:wr.cell? ⟨tb,to+q*2,none⟩=some (.int .i64 t.op):=by simpa [tvE] using hct 0 _ rfl
      have hx1:wr.cell? ⟨tb,to+q*2+1,none⟩=some (.slice t.A t.r.length t.c):=by simpa [tvE,Nat.add_assoc] using hct 1 _ rfl
      have hq0:(0:Int)≤(q:Int):=by omega
      have hq1:(q:Int)<(g.ts.length:Int):=by omega
      have HFQ:=hid hf;have HTQ:=hid (show(g.ts.map TV.td)[q]?=some t.td by rw[List.getElem?_map,ht];rfl);have HRQ:=hid (HRS.out g HGM.out t (List.mem_of_getElem? ht));have hb5:=hb.alloc hb.size (.cells #[.int .i64 t.op,.slice t.A t.r.length t.c] 45);have hn5:=RowB.new wr #[.int .i64 t.op,.slice t.A t.r.length t.c] 45;have hy0:=hn5.at 0 (.int .i64 t.op);have hy1:=hn5.at 1 (.slice t.A t.r.length t.c);have HB5:=hid hb5;have HQL:=hid hlq;have hwq:IntKind.i64.wrap ((q:Int)+1)=(q:Int)+1:=sh_wrap (by omega) (by have:=HTS.out g HGM.out;omega);rw[hA];clear hin hct htb hf hb hb5 hn5 ht hq
      by_cases e1:t.op=oA o.k
      ·have f1:(t.op != oA o.k)=false:=by simpa using e1
       by_cases e2:(t.r.length:Int)=o.wd
       ·have f2:((t.r.length:Int) != o.wd)=false:=by simpa using e2
        have HE:=hid (And.intro e1 e2);clear e1 e2;go_wp2_with fail;go_roundw
        case rel=>exact⟨q+1,by have:=HQL.out;omega,by go_num,by rw[← HFQ.out,fltL_drop HTQ.out,if_pos (flt1_0 (show t.op=opK o i by unfold opK;rw[if_pos hz];exact HE.out.1) (show(t.r.length:Int)=wdK o i by unfold wdK;rw[if_pos hz];exact HE.out.2))],HB5.out⟩
        case measure=>simp[intOf];omega
       ·have f2:((t.r.length:Int) != o.wd)=true:=by simpa using e2
        have HE:=hid (And.intro e1 e2);clear e1 e2;go_wp2_with fail;go_ret;exact⟨by rw[flt_ret HF.out (tds_get HG.out) HFQ.out HTQ.out (flt1_4 (show t.op=opK o i by unfold opK;rw[if_pos hz];exact HE.out.1) (show(t.r.length:Int)≠wdK o i by unfold wdK;rw[if_pos hz];exact HE.out.2)) (by omega)];rfl,by have q:=HB1.out;exact q.trans (HB5.out.mono (by have:=q.size;omega))⟩
      ·have f1:(t.op != oA o.k)=true:=by simpa using e1
       have HE:=hid e1;clear e1;go_wp2_with fail;go_ret;exact⟨by rw[flt_ret HF.out (tds_get HG.out) HFQ.out HTQ.out (flt1_9 (show t.op≠opK o i by unfold opK;rw[if_pos hz];exact HE.out)) (by omega)];rfl,by have q:=HB1.out;exact q.trans (HB5.out.mono (by have:=q.size;omega))⟩
     ·have hd2:decide ((q:Int)<(g.ts.length:Int))=false:=decide_eq_false (by omega);have hwi:IntKind.i64.wrap ((i:Int)+1)=(i:Int)+1:=sh_wrap (by omega) (by have:=HI.out;have:=HLE.out;omega);have HFQ:=hid (show fltL o i (g.ts.map TV.td)=0 by rw[← hf,List.drop_eq_nil_of_le (by rw[List.length_map];omega)];rfl);have HB5:=hid hb;clear hf hb hq;go_wp2_with fail;go_roundw
      case rel=>exact⟨i+1,by have:=HI.out;omega,by go_num,by rw[← HF.out,fltP_drop (tds_get HG.out),if_pos HFQ.out],HB5.out⟩
      case measure=>simp[intOf];omega
   ·have dz:decide (0<i)=true:=decide_eq_true (by omega);go_wp2_with fail
    go_loopw [48] (fun j wr=>∃ q:Nat,q≤g.ts.length∧j=.int .i64 (q:Int)∧fltL o i ((g.ts.map TV.td).drop q)=fltL o i (g.ts.map TV.td)∧Below w1.heap.size w1 wr) (fun j _=>g.ts.length - (intOf j).toNat)
    case atStart=>exact⟨0,Nat.zero_le _,rfl,rfl,HBD.out⟩
    case round=>
     obtain⟨q,hq,rfl,hf,hb⟩:=hrel
     by_cases hlq:q<g.ts.length
     ·have hd2:decide ((q:Int)<(g.ts.length:Int))=true:=decide_eq_true (by omega);obtain⟨t,ht⟩:∃ t,g.ts[q]?=some t:=⟨_,List.getElem?_eq_getElem hlq⟩;have hin:=HIN1.out.below hb hb.size;obtain⟨tb,to,hA,htb,hct⟩:=hin.sl g HGM.out q t ht;have hx0:wr.cell? ⟨tb,to+q*2,none⟩=some (.int .i64 t.op):=by simpa [tvE] using hct 0 _ rfl
      have hx1:wr.cell? ⟨tb,to+q*2+1,none⟩=some (.slice t.A t.r.length t.c):=by simpa [tvE,Nat.add_assoc] using hct 1 _ rfl
      have hq0:(0:Int)≤(q:Int):=by omega
      have hq1:(q:Int)<(g.ts.length:Int):=by omega
      have HFQ:=hid hf;have HTQ:=hid (show(g.ts.map TV.td)[q]?=some t.td by rw[List.getElem?_map,ht];rfl);have HRQ:=hid (HRS.out g HGM.out t (List.mem_of_getElem? ht));have hb5:=hb.alloc hb.size (.cells #[.int .i64 t.op,.slice t.A t.r.length t.c] 45);have hn5:=RowB.new wr #[.int .i64 t.op,.slice t.A t.r.length t.c] 45;have hy0:=hn5.at 0 (.int .i64 t.op);have hy1:=hn5.at 1 (.slice t.A t.r.length t.c);have HB5:=hid hb5;have HQL:=hid hlq;have hwq:IntKind.i64.wrap ((q:Int)+1)=(q:Int)+1:=sh_wrap (by omega) (by have:=HTS.out g HGM.out;omega);rw[hA];clear hin hct htb hf hb hb5 hn5 ht hq
      by_cases e1:t.op=oB o.k
      ·have f1:(t.op != oB o.k)=false:=by simpa using e1
       by_cases e2:(t.r.length:Int)=0
       ·have f2:((t.r.length:Int) != 0)=false:=by simpa using e2
        have HE:=hid (And.intro e1 e2);clear e1 e2;go_wp2_with fail;go_roundw
        case rel=>exact⟨q+1,by have:=HQL.out;omega,by go_num,by rw[← HFQ.out,fltL_drop HTQ.out,if_pos (flt1_0 (show t.op=opK o i by unfold opK;rw[if_neg hz];exact HE.out.1) (show(t.r.length:Int)=wdK o i by unfold wdK;rw[if_neg hz];exact HE.out.2))],HB5.out⟩
        case measure=>simp[intOf];omega
       ·have f2:((t.r.length:Int) != 0)=true:=by simpa using e2
        have HE:=hid (And.intro e1 e2);clear e1 e2;go_wp2_with fail;go_ret;exact⟨by rw[flt_ret HF.out (tds_get HG.out) HFQ.out HTQ.out (flt1_4 (show t.op=opK o i by unfold opK;rw[if_neg hz];exact HE.out.1) (show(t.r.length:Int)≠wdK o i by unfold wdK;rw[if_neg hz];exact HE.out.2)) (by omega)];rfl,by have q:=HB1.out;exact q.trans (HB5.out.mono (by have:=q.size;omega))⟩
      ·have f1:(t.op != oB o.k)=true:=by simpa using e1
       have HE:=hid e1;clear e1;go_wp2_with fail;go_ret;exact⟨by rw[flt_ret HF.out (tds_get HG.out) HFQ.out HTQ.out (flt1_9 (show t.op≠opK o i by unfold opK;rw[if_neg hz];exact HE.out)) (by omega)];rfl,by have q:=HB1.out;exact q.trans (HB5.out.mono (by have:=q.size;omega))⟩
     ·have hd2:decide ((q:Int)<(g.ts.length:Int))=false:=decide_eq_false (by omega);have hwi:IntKind.i64.wrap ((i:Int)+1)=(i:Int)+1:=sh_wrap (by omega) (by have:=HI.out;have:=HLE.out;omega);have HFQ:=hid (show fltL o i (g.ts.map TV.td)=0 by rw[← hf,List.drop_eq_nil_of_le (by rw[List.length_map];omega)];rfl);have HB5:=hid hb;clear hf hb hq;go_wp2_with fail;go_roundw
      case rel=>exact⟨i+1,by have:=HI.out;omega,by go_num,by rw[← HF.out,fltP_drop (tds_get HG.out),if_pos HFQ.out],HB5.out⟩
      case measure=>simp[intOf];omega
  ·have hd:decide ((i:Int)<(gs.length:Int))=false:=decide_eq_false (by omega);have HF:=hid (show fltP o 0 (tds gs)=0 by rw[← hf,List.drop_eq_nil_of_le (by unfold tds;rw[List.length_map];omega)];rfl);have HB5:=hid hb;clear hf hb hi;go_wp2_with fail;go_ret;exact⟨by rw[HF.out];rfl,by have q:=HB1.out;exact q.trans (HB5.out.mono (by have:=q.size;omega))⟩
theorem wfault_o (o:Ob) (ho:o.Ok) (A:Option Addr) (cap:Nat) (gs:List PG) (w:World) (hin:ProcsIn w w.heap.size A gs) (hlen:gs.length≤1000) (hts:∀ g ∈ gs,g.ts.length≤1000) (hrs:∀ g ∈ gs,∀ t ∈ g.ts,t.r.length≤1000):
  Calls Tryz.prog 10 #[.agg (obA o),.slice A gs.length cap] w fun e w'=>e=.returned (.int .i64 (faultP o (tds gs)))∧Below w.heap.size w w':=by
 have hl:(tds gs).length=gs.length:=by unfold tds;rw[List.length_map]
 unfold faultP;rw[hl]
 by_cases h:anyR o∧(gs.length:Int)=1+o.nr
 ·rw[if_pos h];exact wfault_2 o ho A cap gs w hin hlen hts hrs h.1 h.2
 ·rw[if_neg h];exact wfault_1 o ho A gs.length cap w h
end Go.Proofs.YtolmpehgeinlkaaGreatDoor
