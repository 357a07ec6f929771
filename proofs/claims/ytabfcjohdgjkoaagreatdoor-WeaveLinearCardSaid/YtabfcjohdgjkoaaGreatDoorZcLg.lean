/- linreg.Check of calls that tell. -/
import Derived.Test.YtabfcjohdgjkoaaGreatDoorZcLf
import Derived.Test.YtabfcjohdgjkoaaGreatDoorZcLc
namespace Go.Proofs.YtabfcjohdgjkoaaGreatDoor
open Go.RowKit
open Go.Lib (hid)
attribute [local go_sem] Oper.semAt_some
set_option maxHeartbeats 2000000
set_option maxRecDepth 100000
def CI (x:Cl):Bool:=x.q==1&&(x.c==0 || x.c==1) || x.q==2&&x.c==0
theorem zp (x:Cl) (A:Option Addr) (c:Nat) (w:World) (h:CI x=true):Calls Tryz.prog 179 #[kh x A c] w fun r w'=>r=.returned (.bool true)∧Below w.heap.size w w':=by
 obtain⟨p,o,q,r,cc,b,e⟩:=x;unfold kh;simp only;have h:q=1∧(cc=0∨cc=1)∨q=2∧cc=0:=by simpa [CI] using h
 rcases h with ⟨rfl,rfl | rfl⟩ | ⟨rfl,rfl⟩
 all_goals
  go_enter Tryz.func179,Tryz.ntmps179;go_wp2_with fail;go_ret;exact⟨rfl,(Below.refl _ w).alloc (Nat.le_refl _) _⟩
theorem ub (A:Option Addr) (c:Nat) (ws:List Cl) (r:Cl) (Ar:Option Addr) (cr:Nat) (a:Nat) (w:World) (hn:ws.length≤1000) (hl:ClSl w w.heap.size A ws)
  (h1:∀ (k:Nat) (x:Cl),ws[k]?=some x→dx x r=true→k+1≤a) (h2:∀ (k:Nat) (x:Cl),a=k+1→ws[k]?=some x→dx r x=false) (ha:a≤ws.length):
  Calls Tryz.prog 120 #[.slice A ws.length c,kh r Ar cr] w fun e w'=>(∃ lo hi:Nat,e=.returned (.tuple #[.int .i64 (lo:Int),.int .i64 (hi:Int)])∧lo≤a∧a≤hi∧hi≤ws.length)∧Below w.heap.size w w':=by
 have Gx:=hid fun (x y:Cl) (A A':Option Addr) (c c':Nat) (w:World)=>fG x y A A' c c' w
 unfold kh at Gx ⊢;have xj:=ClBox.new w r Ar cr;have hB:=bK w (.cells #[.int .i64 r.p,.int .i64 r.o,.int .i64 r.q,.slice Ar r.r.length cr,.int .i64 r.c,.int .i64 r.b,.int .i64 r.e] 62);have F8:=hl.below hB hB.size;obtain⟨n,aI⟩:∃ n,w.heap.size=n:=⟨_,rfl⟩;rw[aI] at xj hB ⊢;have bY:=hB.size;rw[aI] at bY;have rI:=hid bY;have HB:=hid hB;have CX:=hid h1;have CD:=hid h2;have HA:=hid ha;clear hB h1 h2 ha hl bY;go_enter Tryz.func120,Tryz.ntmps120;go_wp2_with fail;generalize (w.alloc (.cells #[.int .i64 r.p,.int .i64 r.o,.int .i64 r.q,.slice Ar r.r.length cr,.int .i64 r.c,.int .i64 r.b,.int .i64 r.e] 62))=w1 at xj HB F8 rI ⊢;have rG:=hid xj;have HL:=hid F8;clear xj F8 aI;go_wp2_with fail
 go_loopw [6,7,12] (fun v1 v2 j wr=>∃ k lo hi:Nat,k≤ws.length∧j=.int .i64 (k:Int)∧v1=.int .i64 (lo:Int)∧v2=.int .i64 (hi:Int)∧lo≤a∧(a≤k→a≤hi)∧hi≤k∧Below w1.heap.size w1 wr) (fun _ _ j _=>ws.length - (intOf j).toNat)
 case atStart=>exact⟨0,0,0,Nat.zero_le _,rfl,rfl,rfl,Nat.zero_le _,id,Nat.le_refl _,Below.refl _ _⟩
 case round=>
  obtain⟨k,lo,hi,hk,rfl,rfl,rfl,r1,r2,r3,hb⟩:=hrel
  by_cases aJ:k<ws.length
  ·have hd:decide ((k:Int)<(ws.length:Int))=true:=decide_eq_true (by omega);have qU:decide (k<ws.length)=true:=decide_eq_true aJ;obtain⟨x,hx⟩:=bu aJ;obtain⟨b,off,Ax,cx,hA,rN,⟨z0,z1,z2,z3,z4,z5,z6⟩,_⟩:=(HL.out.below hb hb.size) k x hx;have i0:(0:Int)≤(k:Int):=by omega
   have i1:(k:Int)<(ws.length:Int):=by omega
   have JI:IntKind.i64.wrap ((k:Int)+1)=(k:Int)+1:=ag (by omega) (by omega);have bG:=bK wr (.cells #[.int .i64 x.p,.int .i64 x.o,.int .i64 x.q,.slice Ax x.r.length cx,.int .i64 x.c,.int .i64 x.b,.int .i64 x.e] 62);have ar:=ClBox.new wr x Ax cx;have ug:=(rG.out.kept hb).kept bG;have m5:=hb.trans (bG.mono hb.size);obtain⟨W1,kG⟩:∃ W1,wr.alloc (.cells #[.int .i64 x.p,.int .i64 x.o,.int .i64 x.q,.slice Ax x.r.length cx,.int .i64 x.c,.int .i64 x.b,.int .i64 x.e] 62)=W1:=⟨_,rfl⟩;rw[kG] at ar ug m5;have vh:=hid m5;have kD:=hid ar;have cD:=hid ug;have HX:=hid hx;have HR:=hid (And.intro r1 (And.intro r2 r3));have HK:=hid aJ;obtain⟨c0,c1,c2,c3,c4,c5,c6⟩:=ar.cells;obtain⟨d0,d1,d2,d3,d4,d5,d6⟩:=ug.cells;subst hA;clear hb bG hk hx r1 r2 r3 m5 ar ug;go_wp2_with fail;refine(Gx.out x r Ax Ar cx cr _).mono ?_;rintro e w2 ⟨rfl,aO⟩;have lR:=hid (vh.out.trans (aO.mono vh.out.size));have ar:=kD.out.kept aO;have ug:=cD.out.kept aO;clear c0 c1 c2 c3 c4 c5 c6 d0 d1 d2 d3 d4 d5 d6 aO;obtain⟨c0,c1,c2,c3,c4,c5,c6⟩:=ar.cells;obtain⟨d0,d1,d2,d3,d4,d5,d6⟩:=ug.cells;clear ar ug
   rcases q1:dx x r with _ | _
   ·go_wp2_with fail;refine(Gx.out r x Ar Ax cr cx _).mono ?_;rintro e w3 ⟨rfl,gR⟩;have pf:=hid (lR.out.trans (gR.mono lR.out.size));clear gR
    rcases q2:dx r x with _ | _
    ·go_wp2_with fail;go_roundw
     case rel=>exact⟨k+1,lo,k+1,by have:=HK.out;omega,by go_num,rfl,by go_num,HR.out.1,fun h=>h,Nat.le_refl _,pf.out⟩
     case measure=>have:=HK.out;simp[intOf];omega
    ·have KP:a≠k+1:=fun e=>absurd ((CD.out k x e HX.out).symm.trans q2) (by decide)
     have MQ:=hid KP;clear KP;go_wp2_with fail;go_roundw
     case rel=>exact⟨k+1,lo,hi,by have:=HK.out;omega,by go_num,rfl,rfl,HR.out.1,fun h=>HR.out.2.1 (by have:=MQ.out;omega),by have:=HR.out.2.2;omega,pf.out⟩
     case measure=>have:=HK.out;simp[intOf];omega
   ·have CE:=hid (CX.out k x HX.out q1);go_wp2_with fail;refine(Gx.out r x Ar Ax cr cx _).mono ?_;rintro e w3 ⟨rfl,gR⟩;have pf:=hid (lR.out.trans (gR.mono lR.out.size));clear gR
    rcases q2:dx r x with _ | _
    ·go_wp2_with fail;go_roundw
     case rel=>exact⟨k+1,k+1,k+1,by have:=HK.out;omega,by go_num,by go_num,by go_num,CE.out,fun h=>h,Nat.le_refl _,pf.out⟩
     case measure=>have:=HK.out;simp[intOf];omega
    ·have KP:a≠k+1:=fun e=>absurd ((CD.out k x e HX.out).symm.trans q2) (by decide)
     have MQ:=hid KP;clear KP;go_wp2_with fail;go_roundw
     case rel=>exact⟨k+1,k+1,hi,by have:=HK.out;omega,by go_num,by go_num,rfl,CE.out,fun h=>HR.out.2.1 (by have:=MQ.out;omega),by have:=HR.out.2.2;omega,pf.out⟩
     case measure=>have:=HK.out;simp[intOf];omega
  ·have hd:decide ((k:Int)<(ws.length:Int))=false:=decide_eq_false (by omega);obtain rfl:k=ws.length:=by omega
   have HF:=hid (And.intro r1 (And.intro (r2 HA.out) (And.intro r3 (HB.out.trans (hb.mono rI.out)))));clear r1 r2 r3 hb;go_wp2_with fail;go_ret2;exact⟨⟨lo,hi,rfl,HF.out.1,HF.out.2.1,HF.out.2.2.1⟩,HF.out.2.2.2⟩
set_option maxHeartbeats 2000000
set_option maxRecDepth 100000
theorem zj (A:Option Addr) (c:Nat) (l:List Cl) (w:World) (hn:l.length≤1000) (hc:l.length≤c) (hl:ClSl w w.heap.size A l) (hr:eu l=true) (hf:∀ x ∈ l,CI x=true) (hp:∀ x ∈ l,x.q=2→x.p=0):
  Calls Tryz.prog 118 #[.slice A l.length c] w fun e w'=>e=.returned (.bool true)∧Below w.heap.size w w':=by
 have P3:=hid (gS A c l w hn hc hl);rw[hr] at P3;have M0:=hid fun (x:Cl) (A:Option Addr) (c:Nat) (w:World) (h:CI x=true)=>zp x A c w h
 unfold kh at M0;have HL:=hid hl;have HF:=hid hf;have HP:=hid hp;clear hl hf hp hr;go_enter Tryz.func118,Tryz.ntmps118;go_wp2_with fail;refine P3.out.mono ?_;rintro e w1 ⟨rfl,hb⟩;have HB:=hid hb;have rI:=hid hb.size;have GC:=hid (HL.out.below hb hb.size);clear hb;go_wp2_with fail
 go_loopw [3,11] (fun v j wr=>∃ k:Nat,k≤l.length∧j=.int .i64 (k:Int)∧(v=.int .i64 (-1)∨v=.int .i64 0)∧Below w1.heap.size w1 wr) (fun _ j _=>l.length - (intOf j).toNat)
 case atStart=>exact⟨0,Nat.zero_le _,rfl,.inl rfl,Below.refl _ _⟩
 case round=>
  obtain⟨k,hk,rfl,hv,hb⟩:=hrel
  by_cases aJ:k<l.length
  ·have hd:decide ((k:Int)<(l.length:Int))=true:=decide_eq_true (by omega);have qU:decide (k<l.length)=true:=decide_eq_true aJ;obtain⟨x,hx⟩:=bu aJ;obtain⟨b,off,Ax,cx,hA,rN,⟨z0,z1,z2,z3,z4,z5,z6⟩,_⟩:=(GC.out.below hb hb.size) k x hx;have i0:(0:Int)≤(k:Int):=by omega
   have i1:(k:Int)<(l.length:Int):=by omega
   have JI:IntKind.i64.wrap ((k:Int)+1)=(k:Int)+1:=ag (by omega) (by omega);have bG:=bK wr (.cells #[.int .i64 x.p,.int .i64 x.o,.int .i64 x.q,.slice Ax x.r.length cx,.int .i64 x.c,.int .i64 x.b,.int .i64 x.e] 62);have ar:=ClBox.new wr x Ax cx;have m5:=hb.trans (bG.mono hb.size);obtain⟨W1,kG⟩:∃ W1,wr.alloc (.cells #[.int .i64 x.p,.int .i64 x.o,.int .i64 x.q,.slice Ax x.r.length cx,.int .i64 x.c,.int .i64 x.b,.int .i64 x.e] 62)=W1:=⟨_,rfl⟩;rw[kG] at ar m5;have vh:=hid m5;have kD:=hid ar;have PP:=hid (HF.out x (List.mem_of_getElem? hx));have Ms:=hid (HP.out x (List.mem_of_getElem? hx));have HK:=hid aJ;obtain⟨c0,c1,c2,c3,c4,c5,c6⟩:=ar.cells;subst hA;clear hb bG hk hx m5 ar
   rcases hv with rfl | rfl
   ·go_wp2_with fail;refine(M0.out x Ax cx _ PP.out).mono ?_;rintro e w2 ⟨rfl,aO⟩;have lR:=hid (vh.out.trans (aO.mono vh.out.size));have ar:=kD.out.kept aO;clear c0 c1 c2 c3 c4 c5 c6 aO;obtain⟨c0,c1,c2,c3,c4,c5,c6⟩:=ar.cells;clear ar
    by_cases hq:x.q=2
    ·have fr:(x.q != 2)=false:=by simp[hq]
     have Lq:x.p=0:=Ms.out hq;rw[Lq] at c0;clear hq Lq;go_wp2_with fail;go_roundw
     case rel=>exact⟨k+1,by have:=HK.out;omega,by go_num,.inr rfl,lR.out⟩
     case measure=>have:=HK.out;simp[intOf];omega
    ·have fr:(x.q != 2)=true:=by simp[hq]
     clear hq;go_wp2_with fail;go_roundw
     case rel=>exact⟨k+1,by have:=HK.out;omega,by go_num,.inl rfl,lR.out⟩
     case measure=>have:=HK.out;simp[intOf];omega
   ·go_wp2_with fail;refine(M0.out x Ax cx _ PP.out).mono ?_;rintro e w2 ⟨rfl,aO⟩;have lR:=hid (vh.out.trans (aO.mono vh.out.size));have ar:=kD.out.kept aO;clear c0 c1 c2 c3 c4 c5 c6 aO;obtain⟨c0,c1,c2,c3,c4,c5,c6⟩:=ar.cells;clear ar
    by_cases hq:x.q=2
    ·have fr:(x.q != 2)=false:=by simp[hq]
     have Lq:x.p=0:=Ms.out hq;rw[Lq] at c0;clear hq Lq;go_wp2_with fail;go_roundw
     case rel=>exact⟨k+1,by have:=HK.out;omega,by go_num,.inr rfl,lR.out⟩
     case measure=>have:=HK.out;simp[intOf];omega
    ·have fr:(x.q != 2)=true:=by simp[hq]
     clear hq;go_wp2_with fail;go_roundw
     case rel=>exact⟨k+1,by have:=HK.out;omega,by go_num,.inr rfl,lR.out⟩
     case measure=>have:=HK.out;simp[intOf];omega
  ·have hd:decide ((k:Int)<(l.length:Int))=false:=decide_eq_false (by omega);obtain rfl:k=l.length:=by omega
   have Jd:=hid (HB.out.trans (hb.mono rI.out));clear hb;go_wp2_with fail;go_ret;exact⟨rfl,Jd.out⟩
set_option maxHeartbeats 4000000
set_option maxRecDepth 100000
theorem da {P:Program} {w0:World} {cs:Array Value} {ops:Array Oper} {rest:List Oper} {o:Oper} {a:Act} {Q:Exit→Act→World→Prop} (mg:o.guard=none) (s x:Operand) (t:TypeId)
  (ho:o.op=.call { callee:=.builtin .append,args:=#[s,x],argTypes:=#[t,t] }) {e:TypeId} {size bytes:Nat} (hT:ElemTy P t e size bytes) (base:Nat)
  {v:Value} {n:Nat} {xs:List Value} (bU:w0.ownsRow base e size v n xs) (hs:a.eval s=v) (hx:a.eval x=.slice (some ⟨w0.heap.size,0,none⟩) 1 1) (hl:cs.size=size) (h1:cs.toList.all (fun u=>u.oneCell')=true)
  (KE:n+1≤maxLen) (ob:(n+1)*bytes≤140737488355328) (cX:base≤w0.heap.size)
  (h:∀ v' w',w'.ownsRow base e size v' (n+1) (xs++cs.toList)→Below base w0 w'→(w0.alloc (.cells cs e)).grownBy w' v.ownBlock→(v'.ownBlock=v.ownBlock∨v'.ownBlock=some (w0.heap.size+1))→wpList P ops Q rest (a.put o.dst v') w'):wpList P ops Q (o::rest) a (w0.alloc (.cells cs e)):=by
 obtain⟨ht,i,z,hi,hz,fI,yj,AB,bY⟩:=hT;refine wpList_append_own_at _ mg s x t ho base e i z size bytes ht hi hz fI yj AB bY v n xs hs (bU.alloc _) ⟨w0.heap.size,0,none⟩ 1 1 cs.toList hx (by simpa using hl) (cE _ _ _ _ rfl) (fun u hu=>List.all_eq_true.1 h1 u hu) KE ob (by simp;omega) ?_;intro v' w' h2 h3 h4 h5;rw[World.size_alloc] at h5;exact h v' w' h2 (((Below.refl base w0).alloc cX _).trans (gI (bU.alloc _) h3 (Nat.le_refl _) (by simp;omega))) h3 h5
def Apart (v v':Value):Prop:=∀ b,v.ownBlock=some b→v'.ownBlock≠some b
theorem Apart.symm {v v':Value} (h:Apart v v'):Apart v' v:=fun b h1 h2=>h b h2 h1
theorem rj {α:Type} {E:Enc α} {t:TypeId} {base:Nat} {w:World} {v:Value} {l:List α} (h:Own E t base w v l) {b:Nat} (hb:v.ownBlock=some b):base≤b∧b<w.heap.size:=World.ownsRow.lt h b hb
theorem gJ {α:Type} {E:Enc α} {t:TypeId} {base:Nat} {w w':World} {v v1:Value} {l:List α} {o:Obj} (h:Own E t base w v l) (hg:(w.alloc o).grownBy w' v1.ownBlock) (ha:Apart v v1):Own E t base w' v l:=by
 have h':=h.alloc o;refine⟨h.1,?_⟩
 rcases h'.2 with h2 | ⟨g,cap,cur,hv,Ia,hh,r⟩
 ·exact .inl h2
 ·refine .inr ⟨g,cap,cur,hv,Ia,(hg.block g (Array.getElem?_eq_some_iff.1 hh).1 (fun e=>?_)).trans hh,r⟩;exact ha g (by rw[hv];rfl) e.symm
theorem Apart.grown {α:Type} {E:Enc α} {t:TypeId} {base:Nat} {w:World} {v v1 v':Value} {l:List α} (h:Own E t base w v l) (ha:Apart v v1) (hb:v'.ownBlock=v1.ownBlock∨v'.ownBlock=some (w.heap.size+1)):Apart v v':=fun b h1 h2=>by
 rcases hb with e | e
 ·exact ha b h1 (e ▸ h2)
 ·have:=(rj h h1).2;rw[e] at h2
  injection h2 with h2
  omega
theorem DM:ElemTy Tryz.prog 34 62 7 72:=ElemTy.of (z:=.agg #[.int .i64 0,.int .i64 0,.int .i64 0,.slice none 0 0,.int .i64 0,.int .i64 0,.int .i64 0]) Tryz.underlying34 (by kernel_rfl) rfl (by omega)
def HeldC (n1:Nat) (w1:World) (L:List CV):Prop:=∀ e ∈ L,Ws w1 n1 e.A e.x.r∧e.x.r.length≤1000∧True
theorem HeldC.nil (n1:Nat) (w1:World):HeldC n1 w1 []:=fun e h=>by cases h
theorem HeldC.snoc {n1:Nat} {w1:World} {L:List CV} (h:HeldC n1 w1 L) {e:CV} (he:Ws w1 n1 e.A e.x.r∧e.x.r.length≤1000∧True):HeldC n1 w1 (L++[e]):=fun f hf=>by
 rcases List.mem_append.1 hf with q | q
 ·exact h f q
 ·rw[List.mem_singleton.1 q];exact he
theorem iB {w:World} {N:Nat} {A:Option Addr} {L:List CV} (h:SlOf cvE w N A L) (hh:∀ e ∈ L,Ws w N e.A e.x.r∧e.x.r.length≤1000∧True):ClSl w N A (L.map (·.x)):=fun k x hx=>by
 rw[List.getElem?_map,Option.map_eq_some_iff] at hx;obtain⟨e,he,rfl⟩:=hx;obtain⟨b,off,hA,aJ,lJ⟩:=h k e he
 have hj:∀ j u,(cvE.cells e)[j]?=some u→w.cell? ⟨b,off+k*7+j,none⟩=some u:=fun j u hu=>by
  have:=lJ j u hu
  rwa [← Nat.add_assoc] at this
 exact⟨b,off,e.A,e.c,hA,aJ,⟨hj 0 _ rfl,hj 1 _ rfl,hj 2 _ rfl,hj 3 _ rfl,hj 4 _ rfl,hj 5 _ rfl,hj 6 _ rfl⟩,hh e (List.mem_of_getElem? he)⟩
def qu (l:List Cl) (w:World) (z:Ending) (w':World):Prop:=∃ A c es,z=.returned (.slice A es.length c)∧es.map (·.x)=l∧SlOf cvE w' w'.heap.size A es∧(∀ e ∈ es,Ws w' w'.heap.size e.A e.x.r∧e.x.r.length≤1000∧True)∧Below w.heap.size w w'
def vd (l:List Cl) (w:World) (e:Ending) (w':World):Prop:=∃ A1 c1 A2 c2,e=.returned (.tuple #[.slice A1 (l.filter pG).length c1,.slice A2 (l.filter gb).length c2])∧ClSl w' w'.heap.size A1 (l.filter pG)∧ClSl w' w'.heap.size A2 (l.filter gb)∧(l.filter gb).length≤c2∧Below w.heap.size w w'
theorem sp {l:List Cl} {k:Nat} {x:Cl} (P:Cl→Bool) (h:l[k]?=some x):(l.take (k+1)).filter P=(l.take k).filter P++if P x then [x] else []:=by
 rw[bp h,List.filter_append];cases hx:P x <;> simp[hx]
theorem xf (A:Option Addr) (c:Nat) (l:List Cl) (w:World) (hn:l.length≤1000) (hS:Calls Tryz.prog 31 #[.slice A l.length c] w (qu l w)):
  Calls Tryz.prog 119 #[.slice A l.length c] w (vd l w):=by
 have HS:=hid hS;clear hS;go_enter Tryz.func119,Tryz.ntmps119;go_wp2_with fail;refine HS.out.mono ?_;rintro e w1 ⟨A',c',es,rfl,hm,aj,dV,aq⟩;have bf:es.length=l.length:=by rw[← hm,List.length_map]
 have iw:=iB aj dV;rw[hm] at iw;rw[bf];have tN:=hid iw;have bT:=hid aq;clear iw aj dV aq bf hm HS;go_wp2_with fail
 go_loopw [2,3,9] (fun v1 v2 j wr=>∃ (k:Nat) (L1 L2:List CV),k≤l.length∧j=.int .i64 k∧L1.map (·.x)=(l.take k).filter pG∧L2.map (·.x)=(l.take k).filter gb∧Own cvE 62 w1.heap.size wr v1 L1∧Own cvE 62 w1.heap.size wr v2 L2∧HeldC w1.heap.size w1 L1∧HeldC w1.heap.size w1 L2∧Apart v1 v2∧Below w1.heap.size w1 wr) (fun _ _ j _=>l.length - (intOf j).toNat)
 case atStart=>exact⟨0,[],[],Nat.zero_le _,rfl,rfl,rfl,Own.nil _ _,Own.nil _ _,HeldC.nil _ _,HeldC.nil _ _,fun b h=>(by cases h),Below.refl _ _⟩
 case round=>
  obtain⟨k,L1,L2,hk,rfl,e1,e2,bZ,fk,vQ,vR,zC,hb⟩:=hrel
  by_cases aJ:k<l.length
  ·obtain⟨x,hx⟩:=bu aJ;have hd:decide ((k:Int)<(l.length:Int))=true:=decide_eq_true (by omega);have qU:decide (k<l.length)=true:=decide_eq_true aJ;obtain⟨b',off,Ax,cx,hA,rN,⟨h0,h1,h2,h3,h4,h5,h6⟩,dV⟩:=(tN.out.below hb (Nat.le_refl _)) k x hx
   have lj:Ws w1 w1.heap.size Ax x.r∧x.r.length≤1000∧True:=by
    obtain⟨b2,off2,A2,cx2,dZ,mh,⟨g0,g1,g2,g3,g4,g5,g6⟩,AA⟩:=tN.out k x hx;rw[hA] at dZ
    injection dZ with dZ
    injection dZ with q1 q2 q3
    subst q1 q2;have:=(hb.cell (p:=⟨b',off+k*7+3,none⟩) mh).trans g3;rw[h3] at this
    injection this with this
    injection this with this
    rw[this];exact AA
   have F8:L1.length≤k:=by
    have:=congrArg List.length e1;rw[List.length_map] at this;rw[this];exact Nat.le_trans (List.length_filter_le _ _) (by rw[List.length_take];omega)
   have CM:L2.length≤k:=by
    have:=congrArg List.length e2;rw[List.length_map] at this;rw[this];exact Nat.le_trans (List.length_filter_le _ _) (by rw[List.length_take];omega)
   have i0:(0:Int)≤(k:Int):=by omega
   have i1:(k:Int)<(l.length:Int):=by omega
   have JI:IntKind.i64.wrap ((k:Int)+1)=(k:Int)+1:=ag (by omega) (by omega);have bN:=sp pG hx;have cO:=sp gb hx;obtain⟨W1,kG⟩:∃ W1,wr.alloc (.cells #[.int .i64 x.p,.int .i64 x.o,.int .i64 x.q,.slice Ax x.r.length cx,.int .i64 x.c,.int .i64 x.b,.int .i64 x.e] 62)=W1:=⟨_,rfl⟩;have fl:=bK wr (.cells #[.int .i64 x.p,.int .i64 x.o,.int .i64 x.q,.slice Ax x.r.length cx,.int .i64 x.c,.int .i64 x.b,.int .i64 x.e] 62);have ar:=ClBox.new wr x Ax cx;rw[kG] at fl ar;have hB:=hb.trans (fl.mono hb.size);have DT:=bZ.below fl (Nat.le_refl _);have DU:=fk.below fl (Nat.le_refl _);have cX:=hB.size;obtain⟨c0,c1,c2,c3,c4,c5,c6⟩:=ar.cells;have C0:=hid DT;have rW:=hid DU;have HB:=hid hB;have qv:=hid e1;have wD:=hid e2;have CX:=hid vQ;have CD:=hid vR;have yr:=hid zC;have o7:=hid lj;subst hA
   by_cases hq:x.q=2
   ·have fr:(x.q==2)=true:=by simpa using hq
    have g9:pG x=true:=fr;have tL:gb x=false:=by unfold gb;rw[fr];rfl
    rw[g9,if_pos rfl] at bN;rw[tL,if_neg (by decide),List.append_nil] at cO;have pi:=hid (And.intro bN cO);clear hx dV lj bN cO fl ar hb hB DT DU bZ fk e1 e2 vQ vR zC hq g9 tL
    go_wp2_with (first
     | (at_builtin;refine da rfl _ _ 34 rfl DM w1.heap.size C0.out rfl rfl rfl rfl (by unfold maxLen;omega) (by omega) cX ?_;intro v' W4 ju jq qW qY)
     | fail)
    go_roundw
    case rel=>
     refine⟨k+1,L1++[⟨x,Ax,cx⟩],L2,by omega,by go_num,?_,?_,Own.app ju rfl,gJ rW.out qW yr.out.symm,CX.out.snoc o7.out,CD.out,(Apart.grown rW.out yr.out.symm qY).symm,HB.out.trans jq⟩
     ·rw[pi.out.1,List.map_append,qv.out];rfl
     ·rw[pi.out.2,wD.out]
    case measure=>simp[intOf];omega
   ·have fr:(x.q==2)=false:=by simpa using hq
    have g9:pG x=false:=fr;rw[g9,if_neg (by decide),List.append_nil] at bN
    by_cases ht:0≤x.e∧x.c=0
    ·have t1:decide (0≤x.e)=true:=decide_eq_true ht.1;have t2:(x.c==0)=true:=by simp[ht.2]
     have tL:gb x=true:=by unfold gb;rw[fr,t1,t2];rfl
     rw[tL,if_pos rfl] at cO;have pi:=hid (And.intro bN cO);clear hx dV lj bN cO fl ar hb hB DT DU bZ fk e1 e2 vQ vR zC hq g9 tL ht
     go_wp2_with (first
      | (at_builtin;refine da rfl _ _ 34 rfl DM w1.heap.size rW.out rfl rfl rfl rfl (by unfold maxLen;omega) (by omega) cX ?_;intro v' W4 ju jq qW qY)
      | fail)
     go_roundw
     case rel=>
      refine⟨k+1,L1,L2++[⟨x,Ax,cx⟩],by omega,by go_num,?_,?_,gJ C0.out qW yr.out,Own.app ju rfl,CX.out,CD.out.snoc o7.out,Apart.grown C0.out yr.out qY,HB.out.trans jq⟩
      ·rw[pi.out.1,qv.out]
      ·rw[pi.out.2,List.map_append,wD.out];rfl
     case measure=>simp[intOf];omega
    ·have tL:gb x=false:=by
      unfold gb;rw[fr];simp only[Bool.not_false,Bool.true_and,Bool.and_eq_false_iff,decide_eq_false_iff_not,beq_eq_false_iff_ne];omega
     rw[tL,if_neg (by decide),List.append_nil] at cO;have pi:=hid (And.intro bN cO);have Ak:∃ (k':Nat) (L1' L2':List CV),k'≤l.length∧(.int .i64 ((k:Int)+1):Value)=.int .i64 k'∧L1'.map (·.x)=(l.take k').filter pG∧L2'.map (·.x)=(l.take k').filter gb∧L1'=L1∧L2'=L2:=⟨k+1,L1,L2,by omega,by go_num,by rw[bN,e1],by rw[cO,e2],rfl,rfl⟩;have Ki:=hid Ak
     by_cases t1:0≤x.e
     ·have t1':decide (0≤x.e)=true:=decide_eq_true t1;have t2:(x.c==0)=false:=by simpa using fun z=>ht ⟨t1,z⟩
      clear hx dV lj bN cO fl ar hb hB DT DU bZ fk e1 e2 vQ vR zC hq g9 tL ht t1 Ak;go_wp2_with fail;go_roundw
      case rel=>
       obtain⟨k',L1',L2',r1,r2,r3,r4,rfl,rfl⟩:=Ki.out;exact⟨k',L1',L2',r1,r2,r3,r4,C0.out,rW.out,CX.out,CD.out,yr.out,HB.out⟩
      case measure=>simp[intOf];omega
     ·have t1':decide (0≤x.e)=false:=decide_eq_false t1;clear hx dV lj bN cO fl ar hb hB DT DU bZ fk e1 e2 vQ vR zC hq g9 tL ht t1 Ak;go_wp2_with fail;go_roundw
      case rel=>
       obtain⟨k',L1',L2',r1,r2,r3,r4,rfl,rfl⟩:=Ki.out;exact⟨k',L1',L2',r1,r2,r3,r4,C0.out,rW.out,CX.out,CD.out,yr.out,HB.out⟩
      case measure=>simp[intOf];omega
  ·have hd:decide ((k:Int)<(l.length:Int))=false:=decide_eq_false (by omega);obtain rfl:k=l.length:=by omega
   rw[List.take_length] at e1 e2;obtain⟨A1,c1,rfl,_,_,q1⟩:=bZ.sl;obtain⟨A2,c2,rfl,⟨q3,_⟩,_,q2⟩:=fk.sl;have Jk:=hid (iB q1 fun e he=>⟨(vQ e he).1.below hb hb.size,(vQ e he).2⟩);have Jl:=hid (iB q2 fun e he=>⟨(vR e he).1.below hb hb.size,(vR e he).2⟩);rw[e1] at Jk;rw[e2] at Jl;have l1:L1.length=(l.filter pG).length:=by rw[← e1,List.length_map]
   have l2:L2.length=(l.filter gb).length:=by rw[← e2,List.length_map]
   rw[l2] at q3;rw[l1,l2];have Jd:=hid (And.intro q3 (bT.out.trans (hb.mono bT.out.size)));clear hb bZ fk vQ vR zC q1 q2 q3 e1 e2 l1 l2;go_wp2_with fail;go_ret2;exact⟨A1,c1,A2,c2,rfl,Jk.out,Jl.out,Jd.out.1,Jd.out.2⟩
set_option maxHeartbeats 8000000
set_option maxRecDepth 100000
theorem DN:ElemTy Tryz.prog 24 3 1 8:=ElemTy.of (z:=.int .i64 0) Tryz.underlying24 (by kernel_rfl) rfl (by omega)
theorem Gs {l:List Int} {x y:Int} {i:Nat} (h:(l++[x])[i]?=some y):(i<l.length∧l[i]?=some y)∨(i=l.length∧y=x):=by
 rw[List.getElem?_append] at h
 split at h
 ·rename_i q;exact .inl ⟨q,h⟩
 ·rename_i q;rw[List.getElem?_singleton] at h
  split at h
  ·exact .inr ⟨by omega,(Option.some.inj h).symm⟩
  ·cases h
theorem ua (Ai:Option Addr) (ci:Nat) (init:List Int) (A:Option Addr) (c:Nat) (l:List Cl) (w:World) (hn:l.length≤1000) (hc:l.length≤c) (hI:Ws w w.heap.size Ai init) (hin:init.length≤1000) (hl:ClSl w w.heap.size A l) (hr:eu l=true) (hf:∀ x ∈ l,CI x=true) (hp:∀ x ∈ l,x.q=2→x.p=0) (di:∀ x ∈ l,x.r.length≤1000)
  (hS:∀ W,Below w.heap.size w W→Calls Tryz.prog 31 #[.slice A l.length c] W (qu l W)) (a:Nat→Nat) (Lv:RegF init (l.filter pG) (l.filter gb) a):
  Calls Tryz.prog 68 #[.slice Ai init.length ci,.slice A l.length c] w fun e w'=>(∃ v,e=.returned (.tuple #[v,.bool true]))∧Below w.heap.size w w':=by
 have RZ:=hid (zj A c l w hn hc hl hr hf hp);have Kk:=hid fun W hb=>xf A c l W hn (hS W hb)
 have Gx:=hid fun (x y:Cl) (A A':Option Addr) (c c':Nat) (w:World)=>fG x y A A' c c' w
 unfold kh at Gx;have HI:=hid hI;have GO:=hid Lv;have O6:(l.filter pG).length≤1000:=Nat.le_trans (List.length_filter_le _ _) hn;have OP:(l.filter gb).length≤1000:=Nat.le_trans (List.length_filter_le _ _) hn;have bV:∀ x ∈ l.filter pG,x.r.length≤1000:=fun x hx=>di x (List.mem_filter.1 hx).1
 have av:∀ x ∈ l.filter gb,x.r.length≤1000:=fun x hx=>di x (List.mem_filter.1 hx).1
 obtain⟨ws,dV⟩:∃ ws,l.filter pG=ws:=⟨_,rfl⟩;obtain⟨rs,gB⟩:∃ rs,l.filter gb=rs:=⟨_,rfl⟩;unfold vd at Kk;rw[dV,gB] at GO Kk;rw[dV] at O6 bV;rw[gB] at OP av;have GS:=hid bV;have gX:=hid av;clear hI Lv hl hr hf hp di hS dV gB bV av;go_enter Tryz.func68,Tryz.ntmps68;go_wp2_with fail
 go_step3
 go_wp2_with fail;refine RZ.out.mono ?_;rintro e w1 ⟨rfl,aq⟩;have bT:=hid aq;clear aq;go_wp2_with fail;refine(Kk.out _ bT.out).mono ?_;rintro e w2 ⟨A1,c1,A2,c2,rfl,bN,cO,ic,aO⟩;have al:=hid bN;have aL:=hid cO;have cD:=hid (bT.out.trans (aO.mono bT.out.size));have R2:=hid (HI.out.below cD.out cD.out.size);clear bN cO aO;go_wp2_with fail
 go_step3
 go_wp2_with fail
 go_loopw [8,27] (fun v j wr=>∃ (i:Nat) (out:List Int),i≤rs.length∧j=.int .i64 (i:Int)∧Own (bn .i64) 3 w2.heap.size wr v out∧out.length=i∧(∀ (m:Nat) (z:Int),out[m]?=some z→0≤z∧z≤(a m:Int))∧Below w2.heap.size w2 wr) (fun _ j _=>rs.length - (intOf j).toNat)
 case atStart=>exact⟨0,[],Nat.zero_le _,rfl,Own.nil _ _,rfl,fun m z h=>by simp at h,Below.refl _ _⟩
 case round=>
  obtain⟨i,out,hi,rfl,bU,Tq,JF,hb⟩:=hrel;obtain⟨Ao,co,rfl,_⟩:=bU.sl
  by_cases aJ:i<rs.length
  ·have hd:decide ((i:Int)<(rs.length:Int))=true:=decide_eq_true (by omega);have qU:decide (i<rs.length)=true:=decide_eq_true aJ;obtain⟨r,hr⟩:=bu aJ;obtain⟨b,off,Ax,cx,hA,rN,⟨z0,z1,z2,z3,z4,z5,z6⟩,LO,_⟩:=(aL.out.below hb hb.size) i r hr;have i0:(0:Int)≤(i:Int):=by omega
   have i1:(i:Int)<(rs.length:Int):=by omega
   have Ix:IntKind.i64.wrap ((i:Int)+1)=(i:Int)+1:=ag (by omega) (by omega);have bG:=bK wr (.cells #[.int .i64 r.p,.int .i64 r.o,.int .i64 r.q,.slice Ax r.r.length cx,.int .i64 r.c,.int .i64 r.b,.int .i64 r.e] 62);have ar:=ClBox.new wr r Ax cx;have m5:=hb.trans (bG.mono hb.size);have lg:=bU.below bG (Nat.le_refl _);have IA:=LO.below bG bG.size;obtain⟨nb,jI⟩:∃ nb,wr.heap.size=nb:=⟨_,rfl⟩;obtain⟨W1,kG⟩:∃ W1,wr.alloc (.cells #[.int .i64 r.p,.int .i64 r.o,.int .i64 r.q,.slice Ax r.r.length cx,.int .i64 r.c,.int .i64 r.b,.int .i64 r.e] 62)=W1:=⟨_,rfl⟩;rw[kG] at ar m5 lg IA;rw[jI] at ar;have vh:=hid m5;have kD:=hid ar;have GK:=hid lg;have GP:=hid hr;have HK:=hid aJ;have GT:=hid IA;have HO:=hid (And.intro Tq JF);have Sn:=hid (GO.out.f2 i r hr);obtain⟨c0,c1',c2',c3,c4,c5,c6⟩:=ar.cells;subst hA;clear hb bG hi hr m5 ar bU lg LO IA JF;go_wp2_with fail;have qh:=ub A1 c1 ws r Ax cx (a i) W1 O6 (al.out.below vh.out vh.out.size) (fun k x hx hb=>GO.out.f1 i k r x GP.out hx hb) (fun k x e hx=>(GO.out.f3 i k r x GP.out e hx).1) Sn.out;unfold kh at qh;refine qh.mono ?_;rintro e w3 ⟨⟨lo,hi,rfl,g1,g2,g3⟩,gR⟩;have pf:=hid (vh.out.trans (gR.mono vh.out.size));have JU:=hid (kD.out.kept gR);have Kb:=hid (GK.out.below gR (Nat.le_refl _));have Np:=hid (GT.out.below gR gR.size);have HG:=hid (And.intro g1 (And.intro g2 g3));clear qh gR g1 g2 g3 c0 c1' c2' c3 c4 c5 c6;have Q0:i≤c2:=by omega
   have UK:decide ((i:Int)≤(c2:Int))=true:=decide_eq_true (by omega);go_wp2_with fail
   go_loopw [11,42] (fun v j wq=>∃ (m lw:Nat),m≤i∧j=.int .i64 (m:Int)∧v=.int .i64 (lw:Int)∧lw≤a i∧Below w3.heap.size w3 wq) (fun _ j _=>i - (intOf j).toNat)
   case atStart=>exact⟨0,lo,Nat.zero_le _,rfl,rfl,HG.out.1,Below.refl _ _⟩
   case round=>
    obtain⟨m,lw,hm,rfl,rfl,jV,hb⟩:=hrel
    by_cases hltm:m<i
    ·have qV:decide ((m:Int)<(i:Int))=true:=decide_eq_true (by omega);have N1:decide (m<i)=true:=decide_eq_true hltm;obtain⟨q,hq⟩:=bu (show m<rs.length by have:=HK.out;omega);have F3:=pf.out.trans (hb.mono pf.out.size);obtain⟨b9,off9,Aq,cq,hA,Te,⟨y0,y1,y2,y3,y4,y5,y6⟩,_⟩:=(aL.out.below F3 F3.size) m q hq
     have SC:b9=b∧off9=off:=by
      injection hA with hA
      injection hA with h1 h2 _
      exact⟨h1.symm,h2.symm⟩
     obtain⟨rfl,rfl⟩:=SC;have j0:(0:Int)≤(m:Int):=by omega
     have j1:(m:Int)<(i:Int):=by omega
     have UY:IntKind.i64.wrap ((m:Int)+1)=(m:Int)+1:=ag (by omega) (by omega);have bG:=bK wr (.cells #[.int .i64 q.p,.int .i64 q.o,.int .i64 q.q,.slice Aq q.r.length cq,.int .i64 q.c,.int .i64 q.b,.int .i64 q.e] 62);have ar:=ClBox.new wr q Aq cq;have xj:=(JU.out.kept hb).kept bG;have m5:=hb.trans (bG.mono hb.size);obtain⟨W4,NQ⟩:∃ W4,wr.alloc (.cells #[.int .i64 q.p,.int .i64 q.o,.int .i64 q.q,.slice Aq q.r.length cq,.int .i64 q.c,.int .i64 q.b,.int .i64 q.e] 62)=W4:=⟨_,rfl⟩;rw[NQ] at ar xj m5;have rF:=hid m5;have Se:=hid hq;have Mq:=hid jV;have Ml:=hid hltm;obtain⟨c0,c1',c2',c3,c4,c5,c6⟩:=ar.cells;obtain⟨d0,d1,d2,d3,d4,d5,d6⟩:=xj.cells;clear hb F3 bG hm hq jV m5 ar xj hA;go_wp2_with fail;refine(Gx.out q r Aq Ax cq cx _).mono ?_;rintro e w5 ⟨rfl,nm⟩;have Gy:=hid (rF.out.trans (nm.mono rF.out.size));clear nm c0 c1' c2' c3 c4 c5 c6 d0 d1 d2 d3 d4 d5 d6
     rcases q1:dx q r with _ | _
     ·go_wp2_with fail;go_roundw
      case rel=>exact⟨m+1,lw,by have:=Ml.out;omega,by go_num,rfl,Mq.out,Gy.out⟩
      case measure=>have:=Ml.out;simp[intOf];omega
     ·have RR:=hid (GO.out.f5 i m r q GP.out Se.out q1);obtain⟨z,hz⟩:∃ z,out[m]?=some z:=⟨_,List.getElem?_eq_getElem (by have:=HO.out.1;omega)⟩;obtain⟨z0',z1'⟩:=HO.out.2 m z hz;obtain⟨zn,rfl⟩:∃ zn:Nat,z=zn:=⟨z.toNat,by omega⟩;have sG:=Kb.out.below Gy.out (Nat.le_refl _);obtain⟨_,_,e9,_,_,Lz⟩:=sG.sl;cases e9;obtain⟨bo,oo,SD,_,Q5⟩:=Lz m _ hz;have k0:w5.cell? ⟨bo,oo+m,none⟩=some (.int .i64 (zn:Int)):=by simpa [bn,Enc.of1] using Q5 0 _ rfl
      subst SD;have HZ:=hid z1';have bZ:(m:Int)<(out.length:Int):=by have:=HO.out.1;omega
      clear sG hz z0' z1' Lz Q5;go_wp2_with fail;go_roundw
      case rel=>
       refine⟨m+1,if lw<zn then zn else lw,by have:=Ml.out;omega,by go_num,?_,?_,Gy.out⟩
       ·by_cases h:lw<zn
        ·rw[if_pos h];first | rw[if_pos (by omega)] | (congr 1;omega)
        ·rw[if_neg h];first | rw[if_neg (by omega)] | (congr 1;omega)
       ·have h1:=RR.out;have h2:=HZ.out;have h3:=Mq.out
        split <;> omega
      case measure=>have:=Ml.out;simp[intOf];omega
    ·have N1:decide (m<i)=false:=decide_eq_false hltm;have qV:decide ((m:Int)<(i:Int))=false:=decide_eq_false (by omega);have Mq:=hid jV;have rF:=hid (pf.out.trans (hb.mono pf.out.size));have JV:=hid (JU.out.kept hb);have GL:=hid (Kb.out.below hb (Nat.le_refl _));have GU:=hid (Np.out.below hb hb.size);clear hb hm jV hltm;generalize wr=w6 at rF JV GL GU ⊢;go_wp2_with fail
     go_loopw [8,15] (fun v8 v wr=>∃ kk:Nat,v=.int .i64 (kk:Int)∧v8=.slice Ao i co∧kk≤a i∧Below w6.heap.size w6 wr) (fun _ v _=>a i+1 - (intOf v).toNat)
     case atStart=>exact⟨lw,rfl,rfl,Mq.out,Below.refl _ _⟩
     case round=>
      obtain⟨kk,rfl,rfl,Re,hb⟩:=hrel;have la:decide ((kk:Int)≤(hi:Int))=true:=decide_eq_true (by have:=HG.out.2.1;omega);have Tf:decide (kk≤hi)=true:=decide_eq_true (by have:=HG.out.2.1;omega);have CE:=hid Re;have rG:=hid hb;have xj:=JV.out.kept hb;obtain⟨d0,d1,d2,d3,d4,d5,d6⟩:=xj.cells;clear hb Re xj
      by_cases hz:kk=0
      ·subst hz;go_wp2_with fail;refine(ly Ai Ax ci cx init r.r _ (by omega) (by have:=gX.out r (List.mem_of_getElem? GP.out);omega) (R2.out.below (rF.out.trans (rG.out.mono rF.out.size)) (rF.out.trans (rG.out.mono rF.out.size)).size) (GU.out.below rG.out rG.out.size)).mono ?_;rintro e w7 ⟨rfl,p8⟩;have ve:=hid (rG.out.trans (p8.mono rG.out.size));clear p8
       rcases Gi:decide (init=r.r) with _ | _
       ·have yA:=hid (show 0+1≤a i from Nat.pos_of_ne_zero fun h=>absurd (GO.out.f4 i r GP.out h).symm (of_decide_eq_false Gi));go_wp2_with fail;go_roundw
        case rel=>exact⟨0+1,by go_num,rfl,yA.out,ve.out⟩
        case measure=>have:=yA.out;simp[intOf] <;> omega
       ·have cX:=(rF.out.trans (ve.out.mono rF.out.size)).size;have Ii:=HO.out.1;have Ih:=GL.out.below ve.out (Nat.le_refl _);rw[Ii] at Ih;have Nb:=hid Ih;clear Ih;have Gz:=hid (rF.out.trans (ve.out.mono rF.out.size))
        go_wp2_with (first
         | (at_builtin;refine da rfl _ _ 24 rfl DN w2.heap.size Nb.out rfl rfl rfl rfl (by unfold maxLen;omega) (by omega) cX ?_;intro v' W8 Af zI Oa OG)
         | fail)
        go_roundw
        case rel=>
         refine⟨i+1,out++[((0:Nat):Int)],by have:=HK.out;omega,by go_num,Own.app Af rfl,by rw[List.length_append,HO.out.1];rfl,fun m z hz=>?_,Gz.out.trans zI⟩
         rcases Gs hz with ⟨_,hz⟩ | ⟨hm,rfl⟩
         ·exact HO.out.2 m z hz
         ·rw[hm,HO.out.1];have:=CE.out;omega
        case measure=>have:=HK.out;simp[intOf];omega
      ·obtain⟨k',um⟩:∃ k',kk=k'+1:=⟨kk - 1,by omega⟩;have Jf:=hid um;obtain⟨x,hx⟩:=bu (show k'<ws.length by have h1:=CE.out;have h2:=HG.out.2.1;have h3:=HG.out.2.2;omega);have fl:=rF.out.trans (rG.out.mono rF.out.size);obtain⟨b8,off8,A8,c8,SB,Tc,⟨y0,y1,y2,y3,y4,y5,y6⟩,LN,_⟩:=(al.out.below fl fl.size) k' x hx;have No:=hid LN;have Qf:=hid hx;have TH:IntKind.i64.wrap ((kk:Int)+1)=(kk:Int)+1:=ag (by omega) (by have h1:=CE.out;have h2:=HG.out.2.1;have h3:=HG.out.2.2;omega);have H9:decide ((0:Int)<(kk:Int))=true:=decide_eq_true (by omega);have N7:decide (0<kk)=true:=decide_eq_true (by omega);have JI:IntKind.i64.wrap ((kk:Int) - 1)=(k':Int):=by rw[ag (by omega) (by have h1:=CE.out;have h2:=HG.out.2.1;have h3:=HG.out.2.2;omega)];omega
       have j8:(k':Int)<(ws.length:Int):=by have h1:=CE.out;have h2:=HG.out.2.1;have h3:=HG.out.2.2;omega
       subst SB;clear fl hx LN hz um;go_wp2_with fail;refine(ly A8 Ax c8 cx x.r r.r _ (by have:=GS.out x (List.mem_of_getElem? Qf.out);omega) (by have:=gX.out r (List.mem_of_getElem? GP.out);omega) No.out (GU.out.below rG.out rG.out.size)).mono ?_;rintro e w7 ⟨rfl,p8⟩;have ve:=hid (rG.out.trans (p8.mono rG.out.size));clear p8
       rcases Gi:decide (x.r=r.r) with _ | _
       ·have yA:=hid (show kk+1≤a i from Nat.lt_of_le_of_ne CE.out fun h=>absurd (GO.out.f3 i k' r x GP.out (by have:=Jf.out;omega) Qf.out).2.symm (of_decide_eq_false Gi));go_wp2_with fail;go_roundw
        case rel=>exact⟨kk+1,by go_num,rfl,yA.out,ve.out⟩
        case measure=>have:=yA.out;simp[intOf] <;> omega
       ·have cX:=(rF.out.trans (ve.out.mono rF.out.size)).size;have Ii:=HO.out.1;have Ih:=GL.out.below ve.out (Nat.le_refl _);rw[Ii] at Ih;have Nb:=hid Ih;clear Ih;have Gz:=hid (rF.out.trans (ve.out.mono rF.out.size))
        go_wp2_with (first
         | (at_builtin;refine da rfl _ _ 24 rfl DN w2.heap.size Nb.out rfl rfl rfl rfl (by unfold maxLen;omega) (by omega) cX ?_;intro v' W8 Af zI Oa OG)
         | fail)
        go_roundw
        case rel=>
         refine⟨i+1,out++[(kk:Int)],by have:=HK.out;omega,by go_num,Own.app Af rfl,by rw[List.length_append,HO.out.1];rfl,fun m z hz=>?_,Gz.out.trans zI⟩
         rcases Gs hz with ⟨_,hz⟩ | ⟨hm,rfl⟩
         ·exact HO.out.2 m z hz
         ·rw[hm,HO.out.1];have:=CE.out;omega
        case measure=>have:=HK.out;simp[intOf];omega
  ·have hd:decide ((i:Int)<(rs.length:Int))=false:=decide_eq_false (by omega);obtain rfl:i=rs.length:=by omega
   have Jd:=hid (cD.out.trans (hb.mono cD.out.size));clear hb bU JF;go_wp2_with fail;rw[Exit.noGoto_ret];go_ret2;exact⟨⟨_,rfl⟩,Jd.out⟩
set_option maxHeartbeats 1000000
set_option maxRecDepth 100000
theorem sA (A:Option Addr) (c:Nat) (es:List CV) (w:World) (hn:es.length≤1000) (hr:∀ e ∈ es,e.x.r.length≤1000) (aj:SlOf cvE w w.heap.size A es) (hw:∀ e ∈ es,Ws w w.heap.size e.A e.x.r) (hu:(es.map (·.x)).Pairwise fun x y=>x.b<y.b) (W:World) (hb:Below w.heap.size w W):
  Calls Tryz.prog 31 #[.slice A (es.map (·.x)).length c] W (qu (es.map (·.x)) W):=by
 rw[List.length_map];have OT:SlOf cvE W W.heap.size A es:=aj.below hb hb.size;have g9:∀ e ∈ es,Ws W W.heap.size e.A e.x.r:=fun e he=>(hw e he).below hb hb.size
 refine(re A c es W (by omega) (fun e he=>by have:=hr e he;omega) OT g9 hu).mono ?_;rintro z w' ⟨A1,c1,es1,h1,_,h2,h3,h4,h5⟩;exact⟨A1,c1,es1,h1,h2,h3,fun e he=>⟨h4 e he,by have hm:=List.mem_map.1 (h2 ▸ List.mem_map_of_mem (f:=fun (e:CV)=>e.x) he);obtain⟨e2,g1,g2⟩:=hm;rw[← g2];exact hr e2 g1,trivial⟩,h5⟩
theorem xe (Ai:Option Addr) (ci:Nat) (init:List Int) (A:Option Addr) (c:Nat) (es:List CV) (w:World) (hn:es.length≤1000) (hc:es.length≤c) (hI:Ws w w.heap.size Ai init) (hin:init.length≤1000) (aj:SlOf cvE w w.heap.size A es) (hw:∀ e ∈ es,Ws w w.heap.size e.A e.x.r) (hr:eu (es.map (·.x))=true) (hf:∀ x ∈ es.map (·.x),CI x=true) (hp:∀ x ∈ es.map (·.x),x.q=2→x.p=0) (di:∀ e ∈ es,e.x.r.length≤1000) (hu:(es.map (·.x)).Pairwise fun x y=>x.b<y.b) (h:∃ a,RegF init ((es.map (·.x)).filter pG) ((es.map (·.x)).filter gb) a):
  Calls Tryz.prog 37 #[.slice Ai init.length ci,.slice A es.length c] w fun e w'=>e=.returned (.bool true)∧Below w.heap.size w w':=by
 obtain⟨a,ha⟩:=h;have hl:(es.map (·.x)).length=es.length:=List.length_map ..;have hA:=ua Ai ci init A c (es.map (·.x)) w (by omega) (by omega) hI hin (iB aj fun e he=>⟨hw e he,di e he,trivial⟩) hr hf hp (fun x hx=>by obtain⟨e,he,rfl⟩:=List.mem_map.1 hx;exact di e he) (sA A c es w hn di aj hw hu) a ha;rw[hl] at hA;have HA:=hid hA;clear hA hI aj hw hr hf hp di hu ha;go_enter Tryz.func37,Tryz.ntmps37;go_wp2_with fail;refine HA.out.mono ?_;rintro e w1 ⟨⟨v,rfl⟩,hb⟩;have HB:=hid hb;clear hb HA;go_wp2_with fail;go_ret;exact⟨rfl,HB.out⟩
end Go.Proofs.YtabfcjohdgjkoaaGreatDoor
