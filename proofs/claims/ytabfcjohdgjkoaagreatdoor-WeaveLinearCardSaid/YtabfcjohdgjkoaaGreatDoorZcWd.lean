/- What is wrong of what is to be done: weave.Fault. -/
import Derived.Test.YtabfcjohdgjkoaaGreatDoorZcWb
namespace Go.Proofs.YtabfcjohdgjkoaaGreatDoor
open Go.RowKit
open Go.Lib (hid)
attribute [local go_sem] Oper.semAt_some
set_option maxHeartbeats 2000000
set_option maxRecDepth 100000
abbrev FO (a0 a1 a2 a3:Nat) (a4:OV) (w':World):Prop:=w'.cell? ⟨a0,8,none⟩=some (.pointer (some ⟨a1,0,none⟩))∧w'.cell? ⟨a2,a3*3+1,none⟩=some (.pointer (some ⟨a4.xb,0,none⟩))
theorem oK {l:List Cl} {i:Nat} {x:Cl} (f:Cl→Cl) (h:l[i]?=some x):l.modify i f=l.set i (f x):=by
 apply List.ext_getElem?;intro j;rw[List.getElem?_modify,List.getElem?_set]
 by_cases e:i=j
 ·subst e;rw[if_pos rfl,h];simp[(List.getElem?_eq_some_iff.1 h).1]
 ·rw[if_neg e];cases l[j]? <;> simp[e]
def Lm.CallOk (L:Lm):Prop:=∀ (k:Nat) (p:Pr) (c:Kc),L.ps[k]?=some p→p.op=some c→p.call<L.calls.length
theorem Lm.beg_call {bg:Nat→Td→Kc} {L L1:Lm} {k:Nat} {p p1:Pr} (h:L.CallOk) (hp:L.ps[k]?=some p) (e:Lm.beg bg L k p=some (L1,p1)) (c:Kc) (hc:p1.op=some c):p1.call<L1.calls.length∧L1.now=L.now:=by
 unfold Lm.beg at e
 split at e
 ·split at e
  ·cases e
  ·cases e;exact⟨by simp,rfl⟩
 ·cases e;exact⟨h k p c hp hc,rfl⟩
section
variable {N:Nat} {W:World} {o:Ob} {lb pb mb ml pc:Nat} {cv:Value} {tg:Nat→Nat} {L:Lm} {gs:List PG} {es:List CV} {w:World}
def TurnR (N:Nat) (W:World) (o:Ob) (lb pb mb ml pc:Nat) (L:Lm) (k:Int) (e:Ending) (w':World):Prop:=
 e=.returned (.bool (Lm.turn? (eg o) Kc.step L k).isSome)∧∃ cv1 tg1 gs1 es1,LoomS N W o lb pb mb ml pc cv1 tg1 (Lm.turn (eg o) Kc.step L k) gs1 es1 w'
theorem TurnR.no {k:Int} {w':World} (h:LoomS N W o lb pb mb ml pc cv tg L gs es w') (e:Lm.turn? (eg o) Kc.step L k=none):TurnR N W o lb pb mb ml pc L k (.returned (.bool false)) w':=by
 refine⟨by rw[e];rfl,cv,tg,gs,es,?_⟩;unfold Lm.turn;rw[e];exact h
theorem TurnR.yes {k:Int} {w':World} {L':Lm} (h:LoomS N W o lb pb mb ml pc cv tg L' gs es w') (e:Lm.turn? (eg o) Kc.step L k=some L'):TurnR N W o lb pb mb ml pc L k (.returned (.bool true)) w':=by
 refine⟨by rw[e];rfl,cv,tg,gs,es,?_⟩;unfold Lm.turn;rw[e];exact h
theorem LoomS.cvrow (h:LoomS N W o lb pb mb ml pc cv tg L gs es w) (h0:0<es.length):∃ cb cc,cv=.slice (some ⟨cb,0,none⟩) es.length cc:=by
 rcases h.calls.2 with ⟨_,e⟩ | ⟨g,cap,cur,e,_⟩
 ·omega
 ·exact⟨g,cap,e⟩
theorem qt (h:LoomS N W o lb pb mb ml pc cv tg L gs es w) (k:Int) (hk:k<0∨(gs.length:Int)≤k):
  Calls Tryz.prog 32 #[.pointer (some ⟨lb,0,none⟩),.int .i64 k] w (TurnR N W o lb pb mb ml pc L k):=by
 have c9:=h.row.at 9 (.slice (some ⟨pb,0,none⟩) gs.length pc)
 have hn:Lm.turn? (eg o) Kc.step L k=none:=by
  unfold Lm.turn?
  by_cases q:k<0
  ·rw[if_pos q]
  ·rw[if_neg q];have:L.ps[k.toNat]?=none:=by rw[List.getElem?_eq_none_iff,← h.len];omega
   rw[this]
 have HR:=hid (TurnR.no h hn)
 by_cases q:k<0
 ·have d0:decide (k<0)=true:=decide_eq_true q;clear h hk hn q;go_enter Tryz.func32,Tryz.ntmps32;go_wp2_with fail;go_ret;exact HR.out
 ·have d0:decide (k<0)=false:=decide_eq_false q;have d1:decide ((gs.length:Int)≤k)=true:=decide_eq_true (by omega);clear h hk hn q;go_enter Tryz.func32,Tryz.ntmps32;go_wp2_with fail;go_ret;exact HR.out
def Kv (N:Nat) (W:World) (o:Ob) (lb pb mb ml pc:Nat) (cv:Value) (L:Lm) (gs:List PG) (es:List CV) (k:Nat) (p:Pr) (c:Kc) (v:OV) (e:Ending) (w':World):Prop:=
 e=.returned (.bool true)∧∃ tg' g' v',LoomS N W o lb pb mb ml pc cv tg' { L with ps:=L.ps.set k { p with op:=some (c.step L.mem).1 },mem:=(c.step L.mem).2 } (gs.set k g') es w'∧g'.op=some v'∧v'.xb=v.xb∧OpOk tg' k o w' (c.step L.mem).1 v'
theorem Fs {k:Nat} {g:PG} {p:Pr} {c:Kc} {v:OV} (h:LoomS N W o lb pb mb ml pc cv tg L gs es w) (hg:gs[k]?=some g) (hp:L.ps[k]?=some p) (hv:g.op=some v) (aU:OpOk tg k o w c v) (dg:c.over=false) (xn:c.size=L.mem.length) (hT:Tab64 W) (hG:(0:Nat)<N):
  Calls Tryz.prog 59 #[.pointer (some ⟨v.xb,0,none⟩),.pointer (some ⟨mb,0,none⟩)] w (Kv N W o lb pb mb ml pc cv L gs es k p c v):=by
 have hn:∀ a b,tg a≠tg b→a≠b:=fun a b q e=>q (by rw[e])
 have eq:c.can L.mem=true:=by
  unfold Kc.can;rw[dg,aU.base];simp[xn]
 have jY:tg 0=0:=by
  by_cases q:tg 0=0
  ·exact q
  ·have:=(h.tn _ q).1;omega
 have h1:=xN v.xb v.sb mb ml v.ty o c v.rv v.mp L.mem w aU.oj h.mem aU.inv eq (hn _ _ (by rw[aU.ts,h.tm];omega)) (hn _ _ (by rw[aU.ts,h.tw];omega)) (fun q=>by have:=aU.tr _ q;rw[h.tm] at this;omega) (fun q=>by have:=aU.tr _ q;rw[h.tw] at this;omega) (hn _ _ (by rw[aU.tx,h.tm];omega)) (hn _ _ (by rw[aU.tx,h.tw];omega))
  (fun j hj=>(h.bel.cell (p:=⟨_,j,none⟩) hG).trans (hT j hj)) (by
   rintro(q | q | q | q)
   ·have:=aU.ts;rw[← q,jY] at this;omega
   ·have:=h.tm;rw[← q,jY] at this;omega
   ·have:=h.tw;rw[← q,jY] at this;omega
   ·have:=aU.tr _ q;rw[jY] at this;omega)
 refine h1.mono fun e w' q=>?_
 obtain⟨rv',he,ur,hm,_,rP⟩:=q;have ov:=Kc.left_step (l:=L.mem) dg aU.inv.sta.wd1 aU.inv.sta.nr1 aU.inv.sta.cap1;obtain⟨tg',g',hL,N9,kJ⟩:=h.step hg hp hv aU ur hm rP (aU.inv.step dg h.mem.w32) (ov.2.2.2.2.2.2.2.2.1.trans aU.base) (by rw[ov.2.2.2.2.2.2.2.2.2.1];exact aU.size);exact⟨he,tg',g',_,hL,N9,rfl,kJ⟩
theorem tG (h:LoomS N W o lb pb mb ml pc cv tg L gs es w) (ho:o.Ok) (k:Nat) (hk:k<gs.length) (QX:k≤1000) (hI:L.InvL (eg o) L.mem.length) (hC:L.CallOk) (hT:Tab64 W) (hG:(0:Nat)<N)
  (kJ:∀ g,gs[k]?=some g→∀ t ∈ g.ts,fM o 0 t.op (yp k) t.r.length=0∧t.r.length≤1000) (Hw:es.length≤1000) (gl:L.now≤1000000):
  Calls Tryz.prog 32 #[.pointer (some ⟨lb,0,none⟩),.int .i64 (k:Int)] w (TurnR N W o lb pb mb ml pc L (k:Int)):=by
 have c9:=h.row.at 9 (.slice (some ⟨pb,0,none⟩) gs.length pc);obtain⟨g,hg⟩:∃ g,gs[k]?=some g:=⟨_,List.getElem?_eq_getElem hk⟩;obtain⟨p,hp⟩:∃ p,L.ps[k]?=some p:=⟨_,List.getElem?_eq_getElem (by rw[← h.len];exact hk)⟩;have RU:=hid (I5 h ho hg hp QX (kJ g hg) Hw gl)
 have ht?:Lm.turn? (eg o) Kc.step L (k:Int)=Lm.one (eg o) Kc.step L k p:=by
  unfold Lm.turn?;rw[if_neg (by omega),Int.toNat_natCast,hp]
 have rX:=hid ht?;have d0:decide ((k:Int)<0)=false:=decide_eq_false (by omega);have d1:decide ((gs.length:Int)≤(k:Int))=false:=decide_eq_false (by omega);have HI:=hid hI;have HC:=hid hC;have yF:=hid (And.intro hT hG);have FB:=hid hp;have aO:(k:Int)≤1000:=by omega
 have gR:(0:Int)≤(k:Int):=by omega
 have Fy:=hid h.len;have M3:=hid hk;have pJ:=hid gl;clear h ho hg hp kJ Hw gl hI hC hT hG ht? hk;go_enter Tryz.func32,Tryz.ntmps32;go_wp2_with fail;refine RU.out.mono ?_;intro e w1 xj
 rcases xj with ⟨hn,rfl,hL⟩ | ⟨L1,p1,cv1,tg1,gs1,es1,hb,rfl,hL⟩
 ·have HR:=hid (TurnR.no hL (k:=(k:Int)) (by rw[rX.out];unfold Lm.one;rw[hn]));clear hn hL;go_wp2_with fail;go_ret;exact HR.out
 ·obtain⟨c,hc,dg,hinv,cX,fI,fm,QC,fY⟩:=Lm.beg_op HI.out FB.out hb;obtain⟨iw,Rt⟩:=Lm.beg_call HC.out FB.out hb c hc;obtain⟨ts1,oc1,q1⟩:=p1;dsimp only at hc;subst hc;dsimp only at iw;have dU:k<gs1.length:=by rw[hL.len];exact(List.getElem?_eq_some_iff.1 fm).1
  obtain⟨g1,H9⟩:∃ g,gs1[k]?=some g:=⟨_,List.getElem?_eq_getElem dU⟩;have Rz:=hL.ps k g1 _ H9 fm
  obtain⟨v,hv,aU⟩:∃ v,g1.op=some v∧OpOk tg1 k o w1 c v:=by
   rcases Rz.op with ⟨q,_⟩ | ⟨c',v,q1,q2,q3⟩
   ·cases q
   ·cases q1;exact⟨v,q2,q3⟩
  have GC:=hid hL;have c9b:=hL.row.at 9 (.slice (some ⟨pb,0,none⟩) gs1.length pc);have Oe:(k:Int)<(gs1.length:Int):=by omega
  have bT:=hid hb;have Mr:=hid dg;have M2:=hid (And.intro hinv (And.intro cX fI));have Kd:=hid fm;have aT:=hid fY;have PQ:=hid H9;have P9:=hid hv;have J9:=hid aU;have tN:=hid iw;have GH:=hid Rt;have tP:=hid dU;clear hL hb dg hinv cX fI fm QC fY H9 hv aU iw Rt Rz dU;go_wp2_with fail;have vm:=hid (GC.out.below (Below.refl _ w1).drew);have Ka:=hid (J9.out.tch (T:=fun _=>False) (Tch.refl _ w1).drew (fun _ q=>q.elim));clear c9 c9b Oe;refine fg (S:=(FO lb mb pb k v)) ⟨(vm.out.row.cell 8).trans rfl,cA vm.out.procs PQ.out (j:=1) (by show some (Value.pointer g1.ptr)=_;unfold PG.ptr;rw[P9.out];rfl)⟩ fun w2 bq hHeld=>?_
  rw[bq] at vm Ka;clear bq;refine ai 0 1 2 3 ?_;refine ai 4 5 6 7 ?_;refine aV 8 (fun K hK=>?_)
  ·go_simp;refine(Fs vm.out PQ.out Kd.out P9.out Ka.out Mr.out (M2.out.2.2.trans (by rw[aT.out])) yF.out.1 yF.out.2).mono ?_;rintro ex w3 ⟨rfl,tg3,g3,v3,QH,N8,O7,Ll⟩;have kE:=hid QH;have NG:(gs1.set k g3)[k]?=some g3:=by simp[tP.out]
   have Mi:=hid NG;have GR:=hid (And.intro N8 O7);have Nd:=hid Ll;have aw:(FO lb mb pb k v) w3:=⟨(kE.out.row.cell 8).trans rfl,cA kE.out.procs NG (j:=1) (by show some (Value.pointer g3.ptr)=_;unfold PG.ptr;rw[N8];show some (Value.pointer (some ⟨v3.xb,0,none⟩))=_;rw[O7])⟩;clear QH N8 O7 Ll NG;refine kH hK aw fun hHeld=>?_
   clear hK K;refine aY ?_;have RW:=hid hHeld.2;clear hHeld aw;have Tr:=RW.out;have NO:((L1.ps.set k ⟨ts1,some (c.step L1.mem).1,q1⟩):List Pr)[k]?=some ⟨ts1,some (c.step L1.mem).1,q1⟩:=by simp[(List.getElem?_eq_some_iff.1 Kd.out).1]
   have Ng:=hid NO;have Ik:=Gv kE.out Mi.out NO;have eptr:g3.ptr=some ⟨v.xb,0,none⟩:=by unfold PG.ptr;rw[GR.out.1];show some (⟨v3.xb,0,none⟩:Addr)=_;rw[GR.out.2]
   rw[eptr] at Ik;have Nf:=hid Ik;clear NO Ik eptr;go_wp2_with fail;refine Nf.out.mono ?_;rintro e w4 ⟨rfl,kL⟩;rw[kL];clear kL;have mi:Lm.turn? (eg o) Kc.step L (k:Int)=some (Lm.go Kc.step L1 k ⟨ts1,some c,q1⟩ c):=by rw[rX.out];unfold Lm.one;rw[bT.out]
   have GI:=hid mi;clear mi;have qh:IntKind.i64.wrap ((L1.now:Int)+1)=(L1.now:Int)+1:=ag (by omega) (by have h1:=GH.out;have h2:=pJ.out;omega);cases hd:(Pr.done ⟨ts1,some (c.step L1.mem).1,q1⟩)
   ·have HD:=hid (show(c.step L1.mem).1.over=false from hd);clear hd;have c11:=kE.out.row.at 11 (.int .i64 (L1.now:Int));have f11:=kE.out.row.frozen 11;go_wp2_with fail;go_ret;refine TurnR.yes (tg:=tg3) (cv:=cv1) (gs:=gs1.set k g3) (es:=es1) (L':=Lm.go Kc.step L1 k ⟨ts1,some c,q1⟩ c) ?_ GI.out;have dN:=kE.out.tick (L1.now+1);unfold Lm.go;rw[HD.out];exact dN
   ·have HD:=hid (show(c.step L1.mem).1.over=true from hd);clear hd;have Lo:=kE.out.ps k g3 _ Mi.out Ng.out;have iO:q1=g3.call:=Lo.call;have bf:es1.length=L1.calls.length:=by have:=kE.out.cx;rw[← this,List.length_map]
    have OM:q1<es1.length:=by have:=tN.out;omega
    obtain⟨cb,cc,SY⟩:=kE.out.cvrow (by omega);subst SY;obtain⟨e1,N2⟩:∃ e,es1[q1]?=some e:=⟨_,List.getElem?_eq_getElem OM⟩;have lM:L1.calls[q1]?=some e1.x:=by have:=kE.out.cx;rw[← this,List.getElem?_map,N2];rfl
    have qv:=hid N2;have yH:=hid lM;have P0:=hid OM;have MU:=hid iO;have fr:(q1:Int)<(es1.length:Int):=by omega
    have kK:(0:Int)≤(q1:Int):=by omega
    clear Lo iO bf OM N2 lM;go_wp2_with fail;have mU:=hid (kE.out.below (Below.refl _ w3).drew);have GJ:=hid (Nd.out.tch (T:=fun _=>False) (Tch.refl _ w3).drew (fun _ q=>q.elim));refine fg (S:=(fun w':World=>w'.cell? ⟨lb,10,none⟩=some (.slice (some ⟨cb,0,none⟩) es1.length cc)∧w'.cell? ⟨pb,k*3+2,none⟩=some (.int .i64 (q1:Int)))) ⟨(mU.out.row.cell 10).trans rfl,cA mU.out.procs Mi.out (j:=2) (by rw[MU.out];rfl)⟩ fun w5 bq hHeld=>?_
    rw[bq] at mU GJ;clear bq;refine ai 0 1 2 3 ?_;refine ai 4 5 6 7 ?_;refine bv 8 9 ?_;refine aY ?_;clear hHeld;have p5:w5.cell? ⟨pb,k*3+1,none⟩=some (.pointer (some ⟨v.xb,0,none⟩)):=cA mU.out.procs Mi.out (j:=1) (by show some (Value.pointer g3.ptr)=_;unfold PG.ptr;rw[GR.out.1];show some (Value.pointer (some ⟨v3.xb,0,none⟩))=_;rw[GR.out.2]);have Jv:=xJ v3.xb v3.sb v3.ty o (c.step L1.mem).1 v3.rv v3.mp w5 GJ.out.oj GJ.out.inv;rw[GR.out.2] at Jv;have RT:=hid Jv;clear Jv kK fr;go_wp2_with fail;refine RT.out.mono ?_;rintro e w6 ⟨v8,rfl,vZ,zG⟩;obtain⟨A7,c7,rfl,_,_⟩:=vZ.ws;obtain⟨tg6,Jr,Lt,_⟩:=(mU.out.below zG).markrec vZ (fun b q=>(mU.out.tn b q).2) mU.out.low;have CF:=hid Jr;have P1:=hid Lt;have Mw:Go.RowKit.Hid (Ws w6 w6.heap.size A7 (c.step L1.mem).1.sr):=hid (by obtain⟨_,_,e,_,h⟩:=vZ.ws;cases e;exact h);have Gj:(c.step L1.mem).1.sr=(c.step L1.mem).1.rc:=by unfold Kc.sr;rw[HD.out];rfl
    have RD:(c.step L1.mem).1.sc=(c.step L1.mem).1.code:=by unfold Kc.sc;rw[HD.out];rfl
    have Nn:=hid (And.intro Gj RD);clear vZ zG Jr Lt Gj RD;have d11:=CF.out.row.at 11 (.int .i64 (L1.now:Int));have e6:w6.cell? ⟨cb,q1*7+6,none⟩=some (.int .i64 e1.x.e):=cA CF.out.calls qv.out (j:=6) rfl;have f6:=eK CF.out.calls (q1*7+6);have fZ:=CF.out.recs e1 (List.mem_of_getElem? qv.out);have QJ:=CF.out.callset qv.out (e1:=⟨{ e1.x with e:=L1.now },e1.A,e1.c⟩) (j:=6) (v:=.int .i64 (L1.now:Int)) rfl (by decide) fZ;have pI:=hid QJ;have MV:=hid (show(es1.set q1 (⟨{ e1.x with e:=L1.now },e1.A,e1.c⟩:CV))[q1]?=some ⟨{ e1.x with e:=L1.now },e1.A,e1.c⟩ by simp[P0.out]);have e4:(w6.setCell ⟨cb,q1*7+6,none⟩ (.int .i64 (L1.now:Int))).cell? ⟨cb,q1*7+4,none⟩=some (.int .i64 e1.x.c):=cA pI.out.calls MV.out (j:=4) rfl;have f4:=eK pI.out.calls (q1*7+4);have Lu:=pI.out.recs _ (List.mem_of_getElem? MV.out);have DS:=pI.out.callset MV.out (e1:=⟨{ e1.x with e:=L1.now,c:=(c.step L1.mem).1.sc },e1.A,e1.c⟩) (j:=4) (v:=.int .i64 (c.step L1.mem).1.sc) rfl (by decide) Lu;simp only[List.set_set] at DS;have vp:=hid DS;clear QJ DS fZ Lu
    by_cases k9:k=0
    ·have dk:decide (0<k)=false:=decide_eq_false (by omega);have g11:((w6.setCell ⟨cb,q1*7+6,none⟩ (.int .i64 (L1.now:Int))).setCell ⟨cb,q1*7+4,none⟩ (.int .i64 (c.step L1.mem).1.sc)).cell? ⟨lb,11,none⟩=some (.int .i64 (L1.now:Int)):=(vp.out.row.cell 11).trans rfl;have Qk:=vp.out.row.frozen 11;go_wp2_with fail;go_ret;refine TurnR.yes (tg:=tg6) (cv:=.slice (some ⟨cb,0,none⟩) es1.length cc) (gs:=gs1.set k g3) (es:=es1.set q1 ⟨{ e1.x with e:=L1.now,c:=(c.step L1.mem).1.sc },e1.A,e1.c⟩) (L':=Lm.go Kc.step L1 k ⟨ts1,some c,q1⟩ c) ?_ GI.out;have dN:=vp.out.tick (L1.now+1);unfold Lm.go;rw[HD.out,if_pos rfl];rw[show L1.calls.modify q1 (dQ k L1.now (c.step L1.mem).1)=L1.calls.set q1 (dQ k L1.now (c.step L1.mem).1 e1.x) from oK _ yH.out];unfold dQ;rw[if_pos k9,← Nn.out.2];exact dN
    ·have dk:decide (0<k)=true:=decide_eq_true (by omega);have PE:=hid (show(es1.set q1 (⟨{ e1.x with e:=L1.now,c:=(c.step L1.mem).1.sc },e1.A,e1.c⟩:CV))[q1]?=some ⟨{ e1.x with e:=L1.now,c:=(c.step L1.mem).1.sc },e1.A,e1.c⟩ by simp[P0.out]);have e3:((w6.setCell ⟨cb,q1*7+6,none⟩ (.int .i64 (L1.now:Int))).setCell ⟨cb,q1*7+4,none⟩ (.int .i64 (c.step L1.mem).1.sc)).cell? ⟨cb,q1*7+3,none⟩=some (.slice e1.A e1.x.r.length e1.c):=cA vp.out.calls PE.out (j:=3) rfl;have f3:=eK vp.out.calls (q1*7+3);have iy:=(Tch.refl (fun b=>b=cb) w6).set (b:=cb) rfl (q1*7+6) (.int .i64 (L1.now:Int)) |>.set (b:=cb) rfl (q1*7+4) (.int .i64 (c.step L1.mem).1.sc)
     have NL:=vp.out.callset PE.out (e1:=⟨{ e1.x with e:=L1.now,c:=(c.step L1.mem).1.sc,r:=(c.step L1.mem).1.sr },A7,c7⟩) (j:=3) (v:=.slice A7 (c.step L1.mem).1.sr.length c7) rfl (by decide) ⟨Mw.out.tch iy (fun b off q r=>by have h1:=P1.out b off q;have h2:=CF.out.tc b (by rw[r];rfl);omega) iy.size,P1.out⟩;simp only[List.set_set] at NL;have Jg:=hid NL;clear NL iy;have g11:(((w6.setCell ⟨cb,q1*7+6,none⟩ (.int .i64 (L1.now:Int))).setCell ⟨cb,q1*7+4,none⟩ (.int .i64 (c.step L1.mem).1.sc)).setCell ⟨cb,q1*7+3,none⟩ (.slice A7 (c.step L1.mem).1.sr.length c7)).cell? ⟨lb,11,none⟩=some (.int .i64 (L1.now:Int)):=(Jg.out.row.cell 11).trans rfl;have Qk:=Jg.out.row.frozen 11;go_wp2_with fail;go_ret;refine TurnR.yes (tg:=tg6) (cv:=.slice (some ⟨cb,0,none⟩) es1.length cc) (gs:=gs1.set k g3) (es:=es1.set q1 ⟨{ e1.x with e:=L1.now,c:=(c.step L1.mem).1.sc,r:=(c.step L1.mem).1.sr },A7,c7⟩) (L':=Lm.go Kc.step L1 k ⟨ts1,some c,q1⟩ c) ?_ GI.out;have dN:=Jg.out.tick (L1.now+1);unfold Lm.go;rw[HD.out,if_pos rfl];rw[show L1.calls.modify q1 (dQ k L1.now (c.step L1.mem).1)=L1.calls.set q1 (dQ k L1.now (c.step L1.mem).1 e1.x) from oK _ yH.out];unfold dQ;rw[if_neg k9,← Nn.out.2,← Nn.out.1];exact dN
end
set_option maxHeartbeats 2000000
set_option maxRecDepth 100000
def Hs:Enc PG:=⟨fun g=>[.slice g.A g.ts.length g.c],1,fun _=>rfl,fun e u hu=>by
 simp only[List.mem_cons,List.not_mem_nil,or_false] at hu
 rcases hu with rfl;rfl,by omega⟩
structure ProcsIn (w:World) (B:Nat) (A:Option Addr) (gs:List PG):Prop where
 hd:SlOf Hs w B A gs
 sl:∀ g ∈ gs,SlOf tvE w B g.A g.ts
 cap:∀ g ∈ gs,g.ts.length≤g.c
 ws:∀ g ∈ gs,∀ t ∈ g.ts,Ws w B t.A t.r
theorem ProcsIn.below {w w':World} {B B':Nat} {A:Option Addr} {gs:List PG} (h:ProcsIn w B A gs) (hb:Below B w w') (hB:B≤B'):ProcsIn w' B' A gs:=
 ⟨h.hd.below hb hB,fun g m=>(h.sl g m).below hb hB,h.cap,fun g m t n=>(h.ws g m t n).below hb hB⟩
def iR (o:Ob) (k:Nat):Int:=if k=0 then oA o.k else oB o.k
def nB (o:Ob) (k:Nat):Int:=if k=0 then o.wd else 0
def pq (o:Ob) (k:Nat) (t:Td):Int:=if t.op≠iR o k then 9 else if (t.r.length:Int)≠nB o k then 4 else 0
def gE (o:Ob) (k:Nat):List Td→Int
 | []=>0
 | t::ts=>if pq o k t=0 then gE o k ts else pq o k t
def iV (o:Ob):Nat→List (List Td)→Int
 | _,[]=>0
 | k,l::ls=>if gE o k l=0 then iV o (k+1) ls else gE o k l
def dE (o:Ob) (ls:List (List Td)):Int:=if bD o∧(ls.length:Int)=1+o.nr then iV o 0 ls else 1
theorem hX {o:Ob} {k:Nat} {l:List Td} {j:Nat} {t:Td} (h:l[j]?=some t):gE o k (l.drop j)=if pq o k t=0 then gE o k (l.drop (j+1)) else pq o k t:=by
 have hj:=(List.getElem?_eq_some_iff.1 h);obtain⟨h1,h2⟩:=hj;rw[List.drop_eq_getElem_cons h1,h2];rfl
theorem jH {o:Ob} {ls:List (List Td)} {k:Nat} {l:List Td} (h:ls[k]?=some l):iV o k (ls.drop k)=if gE o k l=0 then iV o (k+1) (ls.drop (k+1)) else gE o k l:=by
 have hj:=(List.getElem?_eq_some_iff.1 h);obtain⟨h1,h2⟩:=hj;rw[List.drop_eq_getElem_cons h1,h2];rfl
theorem qL {o:Ob} {k:Nat} {t:TV} (a:t.op=iR o k) (b:(t.r.length:Int)=nB o k):pq o k t.td=0:=by
 exact(if_neg (fun r=>r a)).trans (if_neg (fun r=>r b))
theorem qM {o:Ob} {k:Nat} {t:TV} (a:t.op=iR o k) (b:(t.r.length:Int)≠nB o k):pq o k t.td=4:=by
 exact(if_neg (fun r=>r a)).trans (if_pos b)
theorem qN {o:Ob} {k:Nat} {t:TV} (a:t.op≠iR o k):pq o k t.td=9:=if_pos a
theorem gH {o:Ob} {i q:Nat} {ls:List (List Td)} {l:List Td} {t:Td} {v:Int} (hf:iV o i (ls.drop i)=iV o 0 ls) (hl:ls[i]?=some l) (hq:gE o i (l.drop q)=gE o i l) (ht:l[q]?=some t) (hv:pq o i t=v) (h0:v≠0):iV o 0 ls=v:=by
 have e:gE o i l=v:=by rw[← hq,hX ht,if_neg (by rw[hv];exact h0),hv]
 rw[← hf,jH hl,if_neg (by rw[e];exact h0),e]
def cV (gs:List PG):List (List Td):=gs.map fun g=>g.ts.map TV.td
theorem fi {gs:List PG} {k:Nat} {g:PG} (h:gs[k]?=some g):(cV gs)[k]?=some (g.ts.map TV.td):=by
 unfold cV;rw[List.getElem?_map,h];rfl
theorem Cn (o:Ob) (ho:o.Ok) (A:Option Addr) (n' cap:Nat) (w:World) (h:¬ (bD o∧(n':Int)=1+o.nr)):Calls Tryz.prog 47 #[.agg (af o),.slice A n' cap] w fun e w'=>e=.returned (.int .i64 1)∧Below w.heap.size w w':=by
 have hn:=RowB.new w (af o) 26;have hB:=bK w (.cells (af o) 26);obtain⟨n,aI⟩:∃ n,w.heap.size=n:=⟨_,rfl⟩;rw[aI] at hn hB;have qx:=hid fun W=>tB o ho W
 have HN:=hid hn;have HB:=hid hB;unfold af at qx HN HB;rw[aI]
 by_cases hr:bD o
 ·have hl:¬ (n':Int)=1+o.nr:=fun q=>h ⟨hr,q⟩
  rw[decide_eq_true hr] at qx;have d1:((n':Int) != 1+(o.nr:Int))=true:=by simpa using hl
  have hw:IntKind.i64.wrap (1+(o.nr:Int))=1+(o.nr:Int):=ag (by omega) (by have:=ho.nr1;omega);clear hn hB h hr hl ho;unfold af;go_enter Tryz.func47,Tryz.ntmps47;go_wp2_with fail;refine(qx.out _).mono ?_;rintro e w1 ⟨rfl,hb⟩;have bV:=HN.out.kept hb;have c7:=bV.at 7 (.slice o.R o.nr o.cr);have bT:=hid (eC HB.out hb);clear hb bV;go_wp2_with fail;go_ret;exact⟨rfl,bT.out⟩
 ·rw[decide_eq_false hr] at qx;clear hn hB h hr ho;unfold af;go_enter Tryz.func47,Tryz.ntmps47;go_wp2_with fail;refine(qx.out _).mono ?_;rintro e w1 ⟨rfl,hb⟩;have bT:=hid (eC HB.out hb);clear hb;go_wp2_with fail;go_ret;exact⟨rfl,bT.out⟩
theorem Co (o:Ob) (ho:o.Ok) (A:Option Addr) (cap:Nat) (gs:List PG) (w:World) (hin:ProcsIn w w.heap.size A gs) (bf:gs.length≤1000) (iy:∀ g ∈ gs,g.ts.length≤1000) (gB:∀ g ∈ gs,∀ t ∈ g.ts,t.r.length≤1000) (hr:bD o) (hl:(gs.length:Int)=1+o.nr):
  Calls Tryz.prog 47 #[.agg (af o),.slice A gs.length cap] w fun e w'=>e=.returned (.int .i64 (iV o 0 (cV gs)))∧Below w.heap.size w w':=by
 have hn:=RowB.new w (af o) 26;have hB:=bK w (.cells (af o) 26);obtain⟨n,aI⟩:∃ n,w.heap.size=n:=⟨_,rfl⟩;rw[aI] at hn hB;have qx:=hid fun W=>tB o ho W
 have HN:=hid hn;have HB:=hid hB;unfold af at qx HN HB;have CY:=hid hin;have CG:=hid iy;have Nj:=hid gB;have CZ:=hid bf;have J9:=hid fun W=>AX o.k W
 rw[aI];rw[decide_eq_true hr] at qx;have d1:((gs.length:Int) != 1+(o.nr:Int))=false:=by simpa using hl
 have hw:IntKind.i64.wrap (1+(o.nr:Int))=1+(o.nr:Int):=ag (by omega) (by have:=ho.nr1;omega);clear hn hB hr hl ho hin iy gB bf;unfold af;go_enter Tryz.func47,Tryz.ntmps47;go_wp2_with fail;refine(qx.out _).mono ?_;rintro e w1 ⟨rfl,hb⟩;have bV:=HN.out.kept hb;have c7:=bV.at 7 (.slice o.R o.nr o.cr);have c0:=bV.at 0 (.int .i64 o.k);have bT:=hid (eC HB.out hb);have i9:=hid bV;clear hb bV;go_wp2_with fail;refine(J9.out _).mono ?_;rintro e w2 ⟨rfl,tL⟩;rw[tL];clear tL c7 c0 d1 hw;have wG:=hid (CY.out.below (by rw[aI];exact bT.out) (show w.heap.size≤w1.heap.size by have:=bT.out.size;omega));go_wp2_with fail
 go_loopw [35] (fun j wr=>∃ i:Nat,i≤gs.length∧j=.int .i64 (i:Int)∧iV o i ((cV gs).drop i)=iV o 0 (cV gs)∧Below w1.heap.size w1 wr) (fun j _=>gs.length - (intOf j).toNat)
 case atStart=>exact⟨0,Nat.zero_le _,rfl,rfl,Below.refl _ _⟩
 case round=>
  obtain⟨i,hi,rfl,hf,hb⟩:=hrel
  by_cases aJ:i<gs.length
  ·have hd:decide ((i:Int)<(gs.length:Int))=true:=decide_eq_true (by omega);obtain⟨g,hg⟩:∃ g,gs[i]?=some g:=⟨_,List.getElem?_eq_getElem aJ⟩;have hin:=wG.out.below hb hb.size;obtain⟨pb,po,hA,Im,cJ⟩:=hin.hd i g hg;have hx:wr.cell? ⟨pb,po+i,none⟩=some (.slice g.A g.ts.length g.c):=by simpa [Hs] using cJ 0 _ rfl
   have K5:=List.mem_of_getElem? hg;have HG:=hid hg;have CW:=hid K5;have HF:=hid hf;have Fu:=hid hb;have cQ:=hid (i9.out.kept hb);have HI:=hid aJ;have px:(0:Int)≤(i:Int):=by omega
   have ul:(i:Int)<(gs.length:Int):=by omega
   subst hA;clear hin cJ K5 hg hf hb Im hi;go_wp2_with fail;have iA:=hid (Fu.out.trans ((Below.refl wr.heap.size wr).drew.mono Fu.out.size));have Jh:=hid (cQ.out.kept (Below.refl _ wr).drew);refine fg (S:=(fun w':World=>w'.cell? ⟨n,1,none⟩=some (.int .i64 o.wd))) ((Jh.out.cell 1).trans rfl) fun w4 bq hHeld=>?_
   rw[bq] at iA Jh;clear bq;refine ai 0 1 2 3 ?_;refine aX 4 ?_;refine aY ?_;clear hHeld
   by_cases hz:i=0
   ·have dz:decide (0<i)=false:=decide_eq_false (by omega);go_wp2_with fail
    go_loopw [48] (fun j wr=>∃ q:Nat,q≤g.ts.length∧j=.int .i64 (q:Int)∧gE o i ((g.ts.map TV.td).drop q)=gE o i (g.ts.map TV.td)∧Below w1.heap.size w1 wr) (fun j _=>g.ts.length - (intOf j).toNat)
    case atStart=>exact⟨0,Nat.zero_le _,rfl,rfl,iA.out⟩
    case round=>
     obtain⟨q,hq,rfl,hf,hb⟩:=hrel
     by_cases hlq:q<g.ts.length
     ·have qU:decide ((q:Int)<(g.ts.length:Int))=true:=decide_eq_true (by omega);obtain⟨t,ht⟩:∃ t,g.ts[q]?=some t:=⟨_,List.getElem?_eq_getElem hlq⟩;have hin:=wG.out.below hb hb.size;obtain⟨tb,to,hA,Gk,oh⟩:=hin.sl g CW.out q t ht;have kx:wr.cell? ⟨tb,to+q*2,none⟩=some (.int .i64 t.op):=by simpa [tvE] using oh 0 _ rfl
      have lM:wr.cell? ⟨tb,to+q*2+1,none⟩=some (.slice t.A t.r.length t.c):=by simpa [tvE,Nat.add_assoc] using oh 1 _ rfl
      have kK:(0:Int)≤(q:Int):=by omega
      have fr:(q:Int)<(g.ts.length:Int):=by omega
      have lS:=hid hf;have rX:=hid (show(g.ts.map TV.td)[q]?=some t.td by rw[List.getElem?_map,ht];rfl);have Sg:=hid (Nj.out g CW.out t (List.mem_of_getElem? ht));have nm:=hb.alloc hb.size (.cells #[.int .i64 t.op,.slice t.A t.r.length t.c] 42);have z7:=RowB.new wr #[.int .i64 t.op,.slice t.A t.r.length t.c] 42;have TL:=z7.at 0 (.int .i64 t.op);have sL:=z7.at 1 (.slice t.A t.r.length t.c);have mT:=hid nm;have Jj:=hid hlq;have JJ:IntKind.i64.wrap ((q:Int)+1)=(q:Int)+1:=ag (by omega) (by have:=CG.out g CW.out;omega);rw[hA];clear hin oh Gk hf hb nm z7 ht hq
      by_cases e1:t.op=oA o.k
      ·have f1:(t.op != oA o.k)=false:=by simpa using e1
       by_cases e2:(t.r.length:Int)=o.wd
       ·have f2:((t.r.length:Int) != o.wd)=false:=by simpa using e2
        have HE:=hid (And.intro e1 e2);clear e1 e2;go_wp2_with fail;go_roundw
        case rel=>exact⟨q+1,by have:=Jj.out;omega,by go_num,by rw[← lS.out,hX rX.out,if_pos (qL (show t.op=iR o i by unfold iR;rw[if_pos hz];exact HE.out.1) (show(t.r.length:Int)=nB o i by unfold nB;rw[if_pos hz];exact HE.out.2))],mT.out⟩
        case measure=>simp[intOf];omega
       ·have f2:((t.r.length:Int) != o.wd)=true:=by simpa using e2
        have HE:=hid (And.intro e1 e2);clear e1 e2;go_wp2_with fail;go_ret;exact⟨by rw[gH HF.out (fi HG.out) lS.out rX.out (qM (show t.op=iR o i by unfold iR;rw[if_pos hz];exact HE.out.1) (show(t.r.length:Int)≠nB o i by unfold nB;rw[if_pos hz];exact HE.out.2)) (by omega)];rfl,by have q:=bT.out;exact q.trans (mT.out.mono (by have:=q.size;omega))⟩
      ·have f1:(t.op != oA o.k)=true:=by simpa using e1
       have HE:=hid e1;clear e1;go_wp2_with fail;go_ret;exact⟨by rw[gH HF.out (fi HG.out) lS.out rX.out (qN (show t.op≠iR o i by unfold iR;rw[if_pos hz];exact HE.out)) (by omega)];rfl,by have q:=bT.out;exact q.trans (mT.out.mono (by have:=q.size;omega))⟩
     ·have qU:decide ((q:Int)<(g.ts.length:Int))=false:=decide_eq_false (by omega);have Ix:IntKind.i64.wrap ((i:Int)+1)=(i:Int)+1:=ag (by omega) (by have:=HI.out;have:=CZ.out;omega);have lS:=hid (show gE o i (g.ts.map TV.td)=0 by rw[← hf,List.drop_eq_nil_of_le (by rw[List.length_map];omega)];rfl);have mT:=hid hb;clear hf hb hq;go_wp2_with fail;go_roundw
      case rel=>exact⟨i+1,by have:=HI.out;omega,by go_num,by rw[← HF.out,jH (fi HG.out),if_pos lS.out],mT.out⟩
      case measure=>simp[intOf];omega
   ·have dz:decide (0<i)=true:=decide_eq_true (by omega);go_wp2_with fail
    go_loopw [48] (fun j wr=>∃ q:Nat,q≤g.ts.length∧j=.int .i64 (q:Int)∧gE o i ((g.ts.map TV.td).drop q)=gE o i (g.ts.map TV.td)∧Below w1.heap.size w1 wr) (fun j _=>g.ts.length - (intOf j).toNat)
    case atStart=>exact⟨0,Nat.zero_le _,rfl,rfl,iA.out⟩
    case round=>
     obtain⟨q,hq,rfl,hf,hb⟩:=hrel
     by_cases hlq:q<g.ts.length
     ·have qU:decide ((q:Int)<(g.ts.length:Int))=true:=decide_eq_true (by omega);obtain⟨t,ht⟩:∃ t,g.ts[q]?=some t:=⟨_,List.getElem?_eq_getElem hlq⟩;have hin:=wG.out.below hb hb.size;obtain⟨tb,to,hA,Gk,oh⟩:=hin.sl g CW.out q t ht;have kx:wr.cell? ⟨tb,to+q*2,none⟩=some (.int .i64 t.op):=by simpa [tvE] using oh 0 _ rfl
      have lM:wr.cell? ⟨tb,to+q*2+1,none⟩=some (.slice t.A t.r.length t.c):=by simpa [tvE,Nat.add_assoc] using oh 1 _ rfl
      have kK:(0:Int)≤(q:Int):=by omega
      have fr:(q:Int)<(g.ts.length:Int):=by omega
      have lS:=hid hf;have rX:=hid (show(g.ts.map TV.td)[q]?=some t.td by rw[List.getElem?_map,ht];rfl);have Sg:=hid (Nj.out g CW.out t (List.mem_of_getElem? ht));have nm:=hb.alloc hb.size (.cells #[.int .i64 t.op,.slice t.A t.r.length t.c] 42);have z7:=RowB.new wr #[.int .i64 t.op,.slice t.A t.r.length t.c] 42;have TL:=z7.at 0 (.int .i64 t.op);have sL:=z7.at 1 (.slice t.A t.r.length t.c);have mT:=hid nm;have Jj:=hid hlq;have JJ:IntKind.i64.wrap ((q:Int)+1)=(q:Int)+1:=ag (by omega) (by have:=CG.out g CW.out;omega);rw[hA];clear hin oh Gk hf hb nm z7 ht hq
      by_cases e1:t.op=oB o.k
      ·have f1:(t.op != oB o.k)=false:=by simpa using e1
       by_cases e2:(t.r.length:Int)=0
       ·have f2:((t.r.length:Int) != 0)=false:=by simpa using e2
        have HE:=hid (And.intro e1 e2);clear e1 e2;go_wp2_with fail;go_roundw
        case rel=>exact⟨q+1,by have:=Jj.out;omega,by go_num,by rw[← lS.out,hX rX.out,if_pos (qL (show t.op=iR o i by unfold iR;rw[if_neg hz];exact HE.out.1) (show(t.r.length:Int)=nB o i by unfold nB;rw[if_neg hz];exact HE.out.2))],mT.out⟩
        case measure=>simp[intOf];omega
       ·have f2:((t.r.length:Int) != 0)=true:=by simpa using e2
        have HE:=hid (And.intro e1 e2);clear e1 e2;go_wp2_with fail;go_ret;exact⟨by rw[gH HF.out (fi HG.out) lS.out rX.out (qM (show t.op=iR o i by unfold iR;rw[if_neg hz];exact HE.out.1) (show(t.r.length:Int)≠nB o i by unfold nB;rw[if_neg hz];exact HE.out.2)) (by omega)];rfl,by have q:=bT.out;exact q.trans (mT.out.mono (by have:=q.size;omega))⟩
      ·have f1:(t.op != oB o.k)=true:=by simpa using e1
       have HE:=hid e1;clear e1;go_wp2_with fail;go_ret;exact⟨by rw[gH HF.out (fi HG.out) lS.out rX.out (qN (show t.op≠iR o i by unfold iR;rw[if_neg hz];exact HE.out)) (by omega)];rfl,by have q:=bT.out;exact q.trans (mT.out.mono (by have:=q.size;omega))⟩
     ·have qU:decide ((q:Int)<(g.ts.length:Int))=false:=decide_eq_false (by omega);have Ix:IntKind.i64.wrap ((i:Int)+1)=(i:Int)+1:=ag (by omega) (by have:=HI.out;have:=CZ.out;omega);have lS:=hid (show gE o i (g.ts.map TV.td)=0 by rw[← hf,List.drop_eq_nil_of_le (by rw[List.length_map];omega)];rfl);have mT:=hid hb;clear hf hb hq;go_wp2_with fail;go_roundw
      case rel=>exact⟨i+1,by have:=HI.out;omega,by go_num,by rw[← HF.out,jH (fi HG.out),if_pos lS.out],mT.out⟩
      case measure=>simp[intOf];omega
  ·have hd:decide ((i:Int)<(gs.length:Int))=false:=decide_eq_false (by omega);have HF:=hid (show iV o 0 (cV gs)=0 by rw[← hf,List.drop_eq_nil_of_le (by unfold cV;rw[List.length_map];omega)];rfl);have mT:=hid hb;clear hf hb hi;go_wp2_with fail;go_ret;exact⟨by rw[HF.out];rfl,by have q:=bT.out;exact q.trans (mT.out.mono (by have:=q.size;omega))⟩
theorem Cp (o:Ob) (ho:o.Ok) (A:Option Addr) (cap:Nat) (gs:List PG) (w:World) (hin:ProcsIn w w.heap.size A gs) (bf:gs.length≤1000) (iy:∀ g ∈ gs,g.ts.length≤1000) (gB:∀ g ∈ gs,∀ t ∈ g.ts,t.r.length≤1000):
  Calls Tryz.prog 47 #[.agg (af o),.slice A gs.length cap] w fun e w'=>e=.returned (.int .i64 (dE o (cV gs)))∧Below w.heap.size w w':=by
 have hl:(cV gs).length=gs.length:=by unfold cV;rw[List.length_map]
 unfold dE;rw[hl]
 by_cases h:bD o∧(gs.length:Int)=1+o.nr
 ·rw[if_pos h];exact Co o ho A cap gs w hin bf iy gB h.1 h.2
 ·rw[if_neg h];exact Cn o ho A gs.length cap w h
end Go.Proofs.YtabfcjohdgjkoaaGreatDoor
