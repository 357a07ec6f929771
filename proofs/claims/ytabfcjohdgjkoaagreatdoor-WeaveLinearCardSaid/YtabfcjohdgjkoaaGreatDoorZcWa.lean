/- The program's loom: an operation's step, a call's end. -/
import Derived.Test.YtabfcjohdgjkoaaGreatDoorZcOgP
namespace Go.Proofs.YtabfcjohdgjkoaaGreatDoor
structure Td where
 op:Int
 r:List Int
structure Pr where
 left:List Td
 op:Option Kc
 call:Nat
structure Lm where
 ps:List Pr
 mem:List Int
 calls:List Cl
 now:Nat
def Pr.done (p:Pr):Bool:=match p.op with
 | none=>true
 | some c=>c.over
section
variable (bg:Nat→Td→Kc) (st:Kc→List Int→Kc × List Int)
def Lm.beg (L:Lm) (k:Nat) (p:Pr):Option (Lm × Pr):=
 if p.done then
  match p.left with
  | []=>none
  | t::ts=>some ({ L with ps:=L.ps.set k ⟨ts,some (bg k t),L.calls.length⟩,calls:=L.calls++[⟨k,0,t.op,t.r,0,L.now,-1⟩] },⟨ts,some (bg k t),L.calls.length⟩)
 else some (L,p)
def dQ (k now:Nat) (c:Kc) (x:Cl):Cl:={ x with e:=now,c:=c.code,r:=if k=0 then x.r else c.rc }
def Lm.go (L:Lm) (k:Nat) (p:Pr) (c:Kc):Lm:=
 { ps:=L.ps.set k { p with op:=some (st c L.mem).1 },mem:=(st c L.mem).2,calls:=if (st c L.mem).1.over then L.calls.modify p.call (dQ k L.now (st c L.mem).1) else L.calls,now:=L.now+1 }
def Lm.one (L:Lm) (k:Nat) (p:Pr):Option Lm:=
 match Lm.beg bg L k p with
 | some (L1,⟨ts,some c,q⟩)=>some (Lm.go st L1 k ⟨ts,some c,q⟩ c)
 | _=>none
def Lm.turn? (L:Lm) (k:Int):Option Lm:=
 if k<0 then none else match L.ps[k.toNat]? with
  | some p=>Lm.one bg st L k.toNat p
  | none=>none
def Lm.turn (L:Lm) (k:Int):Lm:=(Lm.turn? bg st L k).getD L
def Lm.run (L:Lm) (ks:List Int):Lm:=ks.foldl (fun L k=>Lm.turn bg st L k) L
end
def Pr.Rel (p q:Pr):Prop:=q.left=p.left∧q.call=p.call∧((p.op=none∧q.op=none)∨∃ c d,p.op=some c∧q.op=some d∧Kc.Rel c d)
structure Lm.Rel (L M:Lm):Prop where
 len:M.ps.length=L.ps.length
 ps:∀ (k:Nat) (p q:Pr),L.ps[k]?=some p→M.ps[k]?=some q→Pr.Rel p q
 mem:M.mem=L.mem
 calls:M.calls=L.calls
 now:M.now=L.now
def Lm.Fit (L:Lm):Prop:=∀ (k:Nat) (p:Pr) (c:Kc),L.ps[k]?=some p→p.op=some c→Kc.Fit c
theorem Pr.Rel.done {p q:Pr} (h:Pr.Rel p q):q.done=p.done:=by
 obtain⟨_,_,h⟩:=h;unfold Pr.done
 rcases h with ⟨h1,h2⟩ | ⟨c,d,h1,h2,hr⟩
 ·rw[h1,h2]
 ·rw[h1,h2];exact(Kc.rel_says hr).1
theorem bz {α:Type} {l:List α} {k j:Nat} {x y:α} (h:(l.set k x)[j]?=some y):(j=k∧y=x)∨(j≠k∧l[j]?=some y):=by
 rw[List.getElem?_set] at h
 by_cases e:k=j
 ·rw[if_pos e] at h
  split at h
  ·exact .inl ⟨e.symm,(Option.some.inj h).symm⟩
  ·cases h
 ·rw[if_neg e] at h;exact .inr ⟨fun q=>e q.symm,h⟩
theorem Lm.Rel.set {L M:Lm} (h:Lm.Rel L M) {k:Nat} {p q:Pr} (hp:Pr.Rel p q) (m:List Int) (cs:List Cl) (n:Nat):Lm.Rel ⟨L.ps.set k p,m,cs,n⟩ ⟨M.ps.set k q,m,cs,n⟩:=by
 refine⟨by simp[h.len],fun j p' q' h1 h2=>?_,rfl,rfl,rfl⟩
 rcases bz h1 with ⟨e,rfl⟩ | ⟨e,h1⟩
 ·rcases bz h2 with ⟨_,rfl⟩ | ⟨e',_⟩
  ·exact hp
  ·exact absurd e e'
 ·rcases bz h2 with ⟨e',_⟩ | ⟨_,h2⟩
  ·exact absurd e' e
  ·exact h.ps j p' q' h1 h2
section
variable {bg:Nat→Td→Kc} (Hm:∀ k t,Kc.Rel (bg k t) (bg k t))
include Hm
theorem Lm.Rel.beg {L M:Lm} (h:Lm.Rel L M) {k:Nat} {p q:Pr} (hp:Pr.Rel p q):
  (Lm.beg bg L k p=none∧Lm.beg bg M k q=none)∨∃ L1 M1 p1 q1,Lm.beg bg L k p=some (L1,p1)∧Lm.beg bg M k q=some (M1,q1)∧Lm.Rel L1 M1∧Pr.Rel p1 q1:=by
 obtain⟨Lp,Lm',Lc,Ln⟩:=L;obtain⟨Mp,Mm,Mc,Mn⟩:=M;obtain rfl:=h.mem;obtain rfl:=h.calls;obtain rfl:=h.now;unfold Lm.beg;rw[hp.done];cases hd:p.done
 ·exact .inr ⟨_,_,_,_,rfl,rfl,h,hp⟩
 ·rw[hp.1];cases hl:p.left with
  | nil=>exact .inl ⟨rfl,rfl⟩
  | cons t ts=>exact .inr ⟨_,_,_,_,rfl,rfl,h.set (p:=⟨ts,some (bg k t),_⟩) (q:=⟨ts,some (bg k t),_⟩) ⟨rfl,rfl,.inr ⟨_,_,rfl,rfl,Hm k t⟩⟩ _ _ _,rfl,rfl,.inr ⟨_,_,rfl,rfl,Hm k t⟩⟩
omit Hm in
theorem Lm.Rel.go {L M:Lm} (h:Lm.Rel L M) {k:Nat} {ts:List Td} {c d:Kc} {n:Nat} (hc:Kc.Rel c d) (hf:Kc.Fit c):
  Lm.Rel (Lm.go Kc.step L k ⟨ts,some c,n⟩ c) (Lm.go Kc.stepR M k ⟨ts,some d,n⟩ d):=by
 obtain⟨Lp,Lm',Lc,Ln⟩:=L;obtain⟨Mp,Mm,Mc,Mn⟩:=M;obtain rfl:=h.mem;obtain rfl:=h.calls;obtain rfl:=h.now;unfold Lm.go;dsimp only;obtain⟨d1,SZ,bV⟩:=Kc.rel_step (l:=Mm) hf hc;rw[SZ];obtain⟨s1,s2,s3,s4⟩:=Kc.rel_says bV
 have e:dQ k Mn d1=dQ k Mn (c.step Mm).1:=by
  funext x
  unfold dQ;rw[s2,s3]
 dsimp only;rw[s1,e];exact h.set (p:=⟨ts,some (c.step Mm).1,n⟩) (q:=⟨ts,some d1,n⟩) ⟨rfl,rfl,.inr ⟨_,_,rfl,rfl,bV⟩⟩ _ _ _
theorem Lm.Rel.one {L M:Lm} (h:Lm.Rel L M) {k:Nat} {p q:Pr} (hp:Pr.Rel p q) (hf:∀ c,p.op=some c→Kc.Fit c) (iD:∀ t ∈ p.left,Kc.Fit (bg k t)):
  (Lm.one bg Kc.step L k p=none∧Lm.one bg Kc.stepR M k q=none)∨∃ L1 M1,Lm.one bg Kc.step L k p=some L1∧Lm.one bg Kc.stepR M k q=some M1∧Lm.Rel L1 M1:=by
 unfold Lm.one
 have am:∀ L1 p1 c,Lm.beg bg L k p=some (L1,p1)→p1.op=some c→Kc.Fit c:=fun L1 p1 c h1 h2=>by
  unfold Lm.beg at h1
  split at h1
  ·split at h1
   ·cases h1
   ·rename_i t ts hl;cases h1;cases h2;exact iD t (by rw[hl];exact List.mem_cons_self)
  ·cases h1;exact hf c h2
 rcases Lm.Rel.beg Hm h hp with ⟨h1,h2⟩ | ⟨L1,M1,⟨ts,pc,n⟩,⟨us,qc,m⟩,h1,h2,hr,hq⟩
 ·rw[h1,h2];exact .inl ⟨rfl,rfl⟩
 ·rw[h1,h2];obtain⟨e1,e2,e3⟩:=hq;dsimp only at e1 e2 e3;subst e1 e2
  rcases e3 with ⟨rfl,rfl⟩ | ⟨c,d,rfl,rfl,sC⟩
  ·exact .inl ⟨rfl,rfl⟩
  ·exact .inr ⟨_,_,rfl,rfl,hr.go sC (am _ _ c h1 rfl)⟩
end
structure Lm.Up (L:Lm):Prop where
 up:L.calls.Pairwise fun x y=>x.b<y.b
 lt:∀ x ∈ L.calls,x.b<L.now
theorem sS {l:List Cl} {i:Nat} {f:Cl→Cl} (hf:∀ x,(f x).b=x.b):(l.modify i f).map (·.b)=l.map (·.b):=by
 apply List.ext_getElem?;intro j;rw[List.getElem?_map,List.getElem?_map,List.getElem?_modify];cases l[j]? with
 | none=>rfl
 | some x=>
  by_cases e:i=j
  ·simp[e,hf]
  ·simp[e]
theorem BF {l:List Cl}:(l.Pairwise fun x y=>x.b<y.b)↔(l.map (·.b)).Pairwise (·<·):=(List.pairwise_map).symm
theorem Lm.Up.one {bg:Nat→Td→Kc} {st:Kc→List Int→Kc × List Int} {L L':Lm} {k:Nat} {p:Pr} (h:L.Up) (h1:Lm.one bg st L k p=some L'):L'.Up:=by
 have hb:∀ L1 p1,Lm.beg bg L k p=some (L1,p1)→(L1.calls.Pairwise fun x y=>x.b<y.b)∧(∀ x ∈ L1.calls,x.b<(L1.now:Int)+1):=fun L1 p1 e=>by
  unfold Lm.beg at e
  split at e
  ·split at e
   ·cases e
   ·cases e;refine⟨List.pairwise_append.2 ⟨h.up,List.pairwise_singleton _ _,fun x hx y hy=>?_⟩,fun x hx=>?_⟩
    ·rw[List.mem_singleton.1 hy];exact h.lt x hx
    ·rcases List.mem_append.1 hx with q | q
     ·have:=h.lt x q;show x.b<(L.now:Int)+1;omega
     ·rw[List.mem_singleton.1 q];show(L.now:Int)<(L.now:Int)+1;omega
  ·cases e;exact⟨h.up,fun x hx=>by have:=h.lt x hx;omega⟩
 unfold Lm.one at h1
 split at h1
 ·rename_i L1 ts c q e;cases h1;obtain⟨h2,h3⟩:=hb _ _ e;unfold Lm.go;have hf:∀ x,(dQ k L1.now (st c L1.mem).1 x).b=x.b:=fun _=>rfl
  refine⟨?_,fun x hx=>?_⟩
  ·dsimp only
   split
   ·rw[BF,sS hf,← BF];exact h2
   ·exact h2
  ·show x.b<((L1.now+1:Nat):Int);dsimp only at hx
   have hm:x.b ∈ L1.calls.map (·.b):=by
    split at hx
    ·rw[← sS hf];exact List.mem_map_of_mem hx
    ·exact List.mem_map_of_mem hx
   obtain⟨y,hy,e⟩:=List.mem_map.1 hm;have:=h3 y hy;rw[← e];omega
 ·cases h1
structure Lm.InvL (bg:Nat→Td→Kc) (n:Nat) (L:Lm):Prop where
 op:∀ (k:Nat) (p:Pr) (c:Kc),L.ps[k]?=some p→p.op=some c→Kc.Inv c∧c.base=0∧c.size=n
 left:∀ (k:Nat) (p:Pr) (t:Td),L.ps[k]?=some p→t ∈ p.left→Kc.Inv (bg k t)∧(bg k t).over=false∧(bg k t).base=0∧(bg k t).size=n
theorem Lm.beg_op {bg:Nat→Td→Kc} {L L1:Lm} {k:Nat} {p p1:Pr} {n:Nat} (h:L.InvL bg n) (hp:L.ps[k]?=some p) (e:Lm.beg bg L k p=some (L1,p1)):∃ c,p1.op=some c∧c.over=false∧Kc.Inv c∧c.base=0∧c.size=n∧L1.ps[k]?=some p1∧L1.InvL bg n∧L1.mem=L.mem:=by
 have hk:=(List.getElem?_eq_some_iff.1 hp).1;unfold Lm.beg at e
 split at e
 ·split at e
  ·cases e
  ·rename_i t ts hl;cases e;obtain⟨h1,h2,h3,h4⟩:=h.left k p t hp (by rw[hl];exact List.mem_cons_self);refine⟨_,rfl,h2,h1,h3,h4,by simp[hk],⟨fun j q c hq hc=>?_,fun j q u hq hu=>?_⟩,rfl⟩
   ·rcases bz hq with ⟨rfl,rfl⟩ | ⟨_,hq⟩
    ·cases hc;exact⟨h1,h3,h4⟩
    ·exact h.op j q c hq hc
   ·rcases bz hq with ⟨rfl,rfl⟩ | ⟨_,hq⟩
    ·exact h.left j p u hp (by rw[hl];exact List.mem_cons_of_mem _ hu)
    ·exact h.left j q u hq hu
 ·rename_i hd;cases e;unfold Pr.done at hd;cases hc:p.op with
  | none=>rw[hc] at hd;exact absurd rfl hd
  | some c=>
   rw[hc] at hd;obtain⟨h1,h2,h3⟩:=h.op k p c hp hc;exact⟨c,rfl,by simpa using hd,h1,h2,h3,hp,h,rfl⟩
theorem Lm.InvL.one {bg:Nat→Td→Kc} {L L':Lm} {k:Nat} {p:Pr} {n:Nat} (h:L.InvL bg n) (hw:∀ z ∈ L.mem,0≤z∧z<4294967296) (hp:L.ps[k]?=some p) (e:Lm.one bg Kc.step L k p=some L'):L'.InvL bg n:=by
 unfold Lm.one at e
 split at e
 ·rename_i L1 ts c q e1;cases e;obtain⟨c',hc,dg,hi,hb,hs,fm,h1,hm⟩:=Lm.beg_op h hp e1;cases hc;have ov:=Kc.left_step (l:=L1.mem) dg hi.sta.wd1 hi.sta.nr1 hi.sta.cap1;have S7:=hi.step (l:=L1.mem) dg (by rw[hm];exact hw);refine⟨fun j q' d hq hd=>?_,fun j q' u hq hu=>?_⟩
  ·rcases bz hq with ⟨rfl,rfl⟩ | ⟨_,hq⟩
   ·cases hd;exact⟨S7,ov.2.2.2.2.2.2.2.2.1.trans hb,ov.2.2.2.2.2.2.2.2.2.1.trans hs⟩
   ·exact h1.op j q' d hq hd
  ·rcases bz hq with ⟨rfl,rfl⟩ | ⟨_,hq⟩
   ·exact h1.left j _ u fm hu
   ·exact h1.left j q' u hq hu
 ·cases e
open Go.RowKit
theorem cA {α:Type} {E:Enc α} {t:TypeId} {base:Nat} {w:World} {b n cap:Nat} {l:List α} (h:Own E t base w (.slice (some ⟨b,0,none⟩) n cap) l) {k:Nat} {x:α} (hk:l[k]?=some x) {j:Nat} {u:Value} (hu:(E.cells x)[j]?=some u):w.cell? ⟨b,k*E.size+j,none⟩=some u:=by
 obtain⟨A,c,hv,_,_,aj⟩:=h.sl;cases hv;obtain⟨b',off,e,_,hc⟩:=aj k x hk;cases e
 simpa using hc j u hu
theorem vy {α:Type} {E:Enc α} {x y:α} {j:Nat} {v:Value} (hy:E.cells y=(E.cells x).set j v) (hj:j<E.size):∀ (l:List α) (k:Nat),l[k]?=some x→E.all (l.set k y)=(E.all l).set (k*E.size+j) v
 | [],_,h=>by simp at h
 | a::l,0,h=>by
  obtain rfl:a=x:=by simpa using h
  show E.cells y++E.all l=(E.cells a++E.all l).set (0*E.size+j) v;rw[hy,Nat.zero_mul,Nat.zero_add,List.set_append_left _ _ (by rw[E.len];exact hj)]
 | a::l,k+1,h=>by
  have ih:=vy hy hj l k (by simpa using h);show E.cells a++E.all (l.set k y)=(E.cells a++E.all l).set ((k+1)*E.size+j) v;rw[ih,List.set_append_right _ _ (by rw[E.len,Nat.add_mul];omega),E.len]
  congr 2
  rw[Nat.add_mul];omega
theorem rZ {α:Type} {E:Enc α} {x y:α} (hy:E.cells y=E.cells x):∀ (l:List α) (k:Nat),l[k]?=some x→E.all (l.set k y)=E.all l
 | [],_,h=>by simp at h
 | a::l,0,h=>by
  obtain rfl:a=x:=by simpa using h
  show E.cells y++E.all l=E.cells a++E.all l;rw[hy]
 | a::l,k+1,h=>by
  show E.cells a++E.all (l.set k y)=E.cells a++E.all l;rw[rZ hy l k (by simpa using h)]
theorem wl {α:Type} {E:Enc α} {t:TypeId} {base g n c:Nat} {w:World} {l:List α} (h:Own E t base w (.slice (some ⟨g,0,none⟩) n c) l) {k:Nat} {x y:α} (hk:l[k]?=some x) {j:Nat} {v:Value} (hy:E.cells y=(E.cells x).set j v) (hj:j<E.size):Own E t base (w.setCell ⟨g,k*E.size+j,none⟩ v) (.slice (some ⟨g,0,none⟩) n c) (l.set k y):=by
 have h1:=h.1;unfold Own at *;rw[vy hy hj l k hk];refine⟨by rw[List.length_set,List.length_set];exact h1,?_⟩
 rcases h.2 with ⟨h2,_⟩ | ⟨g',cap,cur,hv,hg,hh,ic,sE,bY,JH⟩
 ·cases h2
 ·injection hv with hA hn hc
  injection hA with hA
  injection hA with hA
  subst hA hn hc;refine .inr ⟨g,c,cur.setIfInBounds (k*E.size+j) v,by simp,hg,RowB.set (w:=w) (n:=g) (arr:=cur) (t:=t) hh _ _,by simpa using ic,sE,by simpa using bY,?_⟩;rw[Array.toList_setIfInBounds,List.take_set,List.length_set,JH]
structure TV where
 op:Int
 A:Option Addr
 c:Nat
 r:List Int
def TV.cells (t:TV):List Value:=[.int .i64 t.op,.slice t.A t.r.length t.c]
def TV.td (t:TV):Td:=⟨t.op,t.r⟩
def tvE:Enc TV:=⟨TV.cells,2,fun _=>rfl,fun e u hu=>by
 simp only[TV.cells,List.mem_cons,List.not_mem_nil,or_false] at hu
 rcases hu with rfl | rfl <;> rfl,by omega⟩
structure OV where
 xb:Nat
 sb:Nat
 ty:TypeId
 rv:Value
 mp:Value
structure PG where
 A:Option Addr
 c:Nat
 ts:List TV
 op:Option OV
 call:Nat
def PG.ptr (g:PG):Option Addr:=g.op.map fun v=>⟨v.xb,0,none⟩
def PG.cells (g:PG):List Value:=[.slice g.A g.ts.length g.c,.pointer g.ptr,.int .i64 (g.call:Int)]
def pgE:Enc PG:=⟨PG.cells,3,fun _=>rfl,fun e u hu=>by
 simp only[PG.cells,List.mem_cons,List.not_mem_nil,or_false] at hu
 rcases hu with rfl | rfl | rfl <;> rfl,by omega⟩
structure CV where
 x:Cl
 A:Option Addr
 c:Nat
def CV.cells (e:CV):List Value:=[.int .i64 e.x.p,.int .i64 e.x.o,.int .i64 e.x.q,.slice e.A e.x.r.length e.c,.int .i64 e.x.c,.int .i64 e.x.b,.int .i64 e.x.e]
def cvE:Enc CV:=⟨CV.cells,7,fun _=>rfl,fun e u hu=>by
 simp only[CV.cells,List.mem_cons,List.not_mem_nil,or_false] at hu
 rcases hu with rfl | rfl | rfl | rfl | rfl | rfl | rfl <;> rfl,by omega⟩
def RO (o:Ob) (mb:Nat) (pv cv:Value) (now:Int):Array Value:=#[.int .i64 o.k,.int .i64 o.wd,.int .i64 o.s,.int .i64 o.c,.int .u32 o.st,.slice o.I o.ni o.ci,.int .i64 o.wr,.slice o.R o.nr o.cr,.pointer (some ⟨mb,0,none⟩),pv,cv,.int .i64 now]
theorem Ws.tch {w w':World} {B:Nat} {A:Option Addr} {l:List Int} {T:Nat→Prop} (h:Ws w B A l) (ht:Tch T w w') (hn:∀ b off,A=some ⟨b,off,none⟩→¬ T b) {B':Nat} (hB:B≤B'):Ws w' B' A l:=
 ⟨fun k x hx=>by
  obtain⟨b,off,e,hb,hc⟩:=h.1 k x hx;exact⟨b,off,e,by omega,fun j u hu=>ht.cell (hc j u hu) (hn b off e)⟩,h.2⟩
section
variable (N:Nat) (tg:Nat→Nat) (k:Nat) (o:Ob) (w:World)
structure OpOk (c:Kc) (v:OV):Prop where
 oj:Oj w v.xb v.sb v.ty o c v.rv v.mp
 inv:Kc.Inv c
 base:c.base=0
 size:(c.size:Int)=aB o
 tx:tg v.xb=3*k+10
 ts:tg v.sb=3*k+11
 tr:∀ b,v.rv.ownBlock=some b→tg b=3*k+12
structure PrOk (g:PG) (p:Pr):Prop where
 left:p.left=g.ts.map TV.td
 sl:SlOf tvE w N g.A g.ts
 cap:g.ts.length≤g.c
 ws:∀ t ∈ g.ts,Ws w N t.A t.r
 call:p.call=g.call
 op:(p.op=none∧g.op=none)∨∃ c v,p.op=some c∧g.op=some v∧OpOk tg k o w c v
end
section
variable {N:Nat} {tg:Nat→Nat} {k:Nat} {o:Ob} {w w':World}
theorem OpOk.tch {c:Kc} {v:OV} {T:Nat→Prop} (h:OpOk tg k o w c v) (ht:Tch T w w') (hT:∀ b,T b→tg b≠3*k+10∧tg b≠3*k+11∧tg b≠3*k+12):OpOk tg k o w' c v:=
 ⟨h.oj.tch ht (fun q=>(hT _ q).1 h.tx) (fun q=>(hT _ q).2.1 h.ts) (fun b hb q=>(hT _ q).2.2 (h.tr b hb)),h.inv,h.base,h.size,h.tx,h.ts,h.tr⟩
theorem PrOk.tch {g:PG} {p:Pr} {T:Nat→Prop} (h:PrOk N tg k o w g p) (ht:Tch T w w') (hb:Below N w w') (hT:∀ b,T b→tg b≠3*k+10∧tg b≠3*k+11∧tg b≠3*k+12):PrOk N tg k o w' g p:=
 ⟨h.left,h.sl.below hb (Nat.le_refl _),h.cap,fun t m=>(h.ws t m).below hb (Nat.le_refl _),h.call,h.op.imp id fun ⟨c,v,e1,e2,q⟩=>⟨c,v,e1,e2,q.tch ht hT⟩⟩
theorem OpOk.mark {c:Kc} {v:OV} {tg':Nat→Nat} (h:OpOk tg k o w c v) (e:∀ b,tg b≠0→tg' b=tg b):OpOk tg' k o w c v:=
 ⟨h.oj,h.inv,h.base,h.size,(e _ (by rw[h.tx];omega)).trans h.tx,(e _ (by rw[h.ts];omega)).trans h.ts,fun b hb=>(e _ (by rw[h.tr b hb];omega)).trans (h.tr b hb)⟩
theorem PrOk.mark {g:PG} {p:Pr} {tg':Nat→Nat} (h:PrOk N tg k o w g p) (e:∀ b,tg b≠0→tg' b=tg b):PrOk N tg' k o w g p:=
 ⟨h.left,h.sl,h.cap,h.ws,h.call,h.op.imp id fun ⟨c,v,e1,e2,q⟩=>⟨c,v,e1,e2,q.mark e⟩⟩
end
structure LoomS (N:Nat) (W:World) (o:Ob) (lb pb mb ml pc:Nat) (cv:Value) (tg:Nat→Nat) (L:Lm) (gs:List PG) (es:List CV) (w:World):Prop where
 row:RowB w lb (RO o mb (.slice (some ⟨pb,0,none⟩) gs.length pc) cv (L.now:Int)) 71
 procs:Own pgE 98 N w (.slice (some ⟨pb,0,none⟩) gs.length pc) gs
 calls:Own cvE 62 N w cv es
 cx:es.map (·.x)=L.calls
 recs:∀ e ∈ es,Ws w w.heap.size e.A e.x.r∧∀ b off,e.A=some ⟨b,off,none⟩→tg b=6
 mem:MemG w mb ml L.mem
 len:gs.length=L.ps.length
 ps:∀ (k:Nat) (g:PG) (p:Pr),gs[k]?=some g→L.ps[k]?=some p→PrOk N tg k o w g p
 tl:tg lb=1
 tp:tg pb=2
 tc:∀ b,cv.ownBlock=some b→tg b=3
 tm:tg mb=4
 tw:tg ml=5
 tn:∀ b,tg b≠0→N≤b∧b<w.heap.size
 bel:Below N W w
 hN:N≤W.heap.size
section
variable {N:Nat} {W:World} {o:Ob} {lb pb mb ml pc:Nat} {cv:Value} {tg:Nat→Nat} {L:Lm} {gs:List PG} {es:List CV} {w w':World}
theorem LoomS.tch {T:Nat→Prop} (h:LoomS N W o lb pb mb ml pc cv tg L gs es w) (ht:Tch T w w') (hb:Below N w w') (hT:∀ b,T b→tg b=0):LoomS N W o lb pb mb ml pc cv tg L gs es w':=by
 have hn:∀ b n,n≠0→tg b=n→¬ T b:=fun b n h0 e q=>h0 (e.symm.trans (hT b q))
 exact⟨h.row.tch ht (hn _ 1 (by decide) h.tl),bl h.procs ht (fun b hb=>by have e:pb=b:=Option.some.inj hb;subst e;exact hn _ 2 (by decide) h.tp),bl h.calls ht (fun b hb=>hn _ 3 (by decide) (h.tc b hb)),h.cx,
  fun e he=>⟨(h.recs e he).1.tch ht (fun b off q=>hn _ 6 (by decide) ((h.recs e he).2 b off q)) ht.size,(h.recs e he).2⟩,h.mem.tch ht (hn _ 4 (by decide) h.tm) (hn _ 5 (by decide) h.tw),h.len,
  fun k g p h1 h2=>(h.ps k g p h1 h2).tch ht hb (fun b q=>by rw[hT b q];omega),h.tl,h.tp,h.tc,h.tm,h.tw,fun b hb=>⟨(h.tn b hb).1,by have:=(h.tn b hb).2;have:=ht.size;omega⟩,h.bel.trans hb,h.hN⟩
theorem LoomS.low (h:LoomS N W o lb pb mb ml pc cv tg L gs es w):N≤w.heap.size:=Nat.le_trans h.hN h.bel.size
theorem LoomS.below (h:LoomS N W o lb pb mb ml pc cv tg L gs es w) (hb:Below w.heap.size w w'):LoomS N W o lb pb mb ml pc cv tg L gs es w':=
 h.tch (T:=fun _=>False) (Tch.of_below _ hb) (hb.mono h.low) (fun _ q=>q.elim)
theorem LoomS.mark {tg':Nat→Nat} (h:LoomS N W o lb pb mb ml pc cv tg L gs es w) (e:∀ b,tg b≠0→tg' b=tg b) (hn:∀ b,tg' b≠0→N≤b∧b<w.heap.size):LoomS N W o lb pb mb ml pc cv tg' L gs es w:=by
 have e':∀ b n,n≠0→tg b=n→tg' b=n:=fun b n h0 q=>(e b (by rw[q];exact h0)).trans q
 exact⟨h.row,h.procs,h.calls,h.cx,fun x hx=>⟨(h.recs x hx).1,fun b off q=>e' b 6 (by decide) ((h.recs x hx).2 b off q)⟩,h.mem,h.len,fun k g p h1 h2=>(h.ps k g p h1 h2).mark e,e' _ 1 (by decide) h.tl,e' _ 2 (by decide) h.tp,fun b hb=>e' b 3 (by decide) (h.tc b hb),e' _ 4 (by decide) h.tm,e' _ 5 (by decide) h.tw,hn,h.bel,h.hN⟩
theorem LoomS.proc {k:Nat} {g g1:PG} {p p1:Pr} {j:Nat} {v:Value} (h:LoomS N W o lb pb mb ml pc cv tg L gs es w) (hg:gs[k]?=some g) (hp:L.ps[k]?=some p) (hy:pgE.cells g1=(pgE.cells g).set j v) (hj:j<3) (kJ:PrOk N tg k o w g1 p1):
  LoomS N W o lb pb mb ml pc cv tg { L with ps:=L.ps.set k p1 } (gs.set k g1) es (w.setCell ⟨pb,k*3+j,none⟩ v):=by
 have ht:=(Tch.refl (fun b=>b=pb) w).set (b:=pb) rfl (k*3+j) v;have iW:=h.low;have Ts:=(h.tn pb (by rw[h.tp];decide)).1;have hb:Below N w (w.setCell ⟨pb,k*3+j,none⟩ v):=ht.below iW (fun i _ q=>by omega);have hn:∀ b n,n≠2→tg b=n→b≠pb:=fun b n h0 e q=>h0 (by rw[← e,q];exact h.tp)
 have hx:∀ (k:Nat) b,b=pb→tg b≠3*k+10∧tg b≠3*k+11∧tg b≠3*k+12:=fun k b q=>by rw[q,h.tp];omega
 have Lr:=wl h.procs hg (E:=pgE) hy hj;refine⟨?_,?_,bl h.calls ht (fun b q=>hn b 3 (by decide) (h.tc b q)),h.cx,fun e he=>⟨(h.recs e he).1.tch ht (fun b off q=>hn b 6 (by decide) ((h.recs e he).2 b off q)) ht.size,(h.recs e he).2⟩,h.mem.tch ht (hn _ 4 (by decide) h.tm) (hn _ 5 (by decide) h.tw),by simp[h.len],fun i g' p' h1 h2=>?_,h.tl,h.tp,h.tc,h.tm,h.tw,fun b hb=>⟨(h.tn b hb).1,by have:=(h.tn b hb).2;have:=ht.size;omega⟩,h.bel.trans hb,h.hN⟩
 ·rw[List.length_set];exact h.row.tch ht (hn _ 1 (by decide) h.tl)
 ·rw[List.length_set];exact Lr
 ·rcases bz h1 with ⟨rfl,rfl⟩ | ⟨e,h1⟩
  ·rcases bz h2 with ⟨_,rfl⟩ | ⟨e',_⟩
   ·exact kJ.tch ht hb (hx i)
   ·exact absurd rfl e'
  ·rcases bz h2 with ⟨e',_⟩ | ⟨_,h2⟩
   ·exact absurd e' e
   ·exact(h.ps i g' p' h1 h2).tch ht hb (hx i)
theorem LoomS.tick (h:LoomS N W o lb pb mb ml pc cv tg L gs es w) (n:Nat):LoomS N W o lb pb mb ml pc cv tg { L with now:=n } gs es (w.setCell ⟨lb,11,none⟩ (.int .i64 (n:Int))):=by
 have ht:=(Tch.refl (fun b=>b=lb) w).set (b:=lb) rfl 11 (.int .i64 (n:Int));have iW:=h.low;have Ts:=(h.tn lb (by rw[h.tl];decide)).1;have hb:Below N w (w.setCell ⟨lb,11,none⟩ (.int .i64 (n:Int))):=ht.below iW (fun i _ q=>by omega);have hn:∀ b n,n≠1→tg b=n→b≠lb:=fun b n h0 e q=>h0 (by rw[← e,q];exact h.tl)
 exact⟨h.row.set 11 _,bl h.procs ht (fun b q=>by have e:pb=b:=Option.some.inj q;subst e;exact hn _ 2 (by decide) h.tp),bl h.calls ht (fun b q=>hn b 3 (by decide) (h.tc b q)),h.cx,fun e he=>⟨(h.recs e he).1.tch ht (fun b off q=>hn b 6 (by decide) ((h.recs e he).2 b off q)) ht.size,(h.recs e he).2⟩,h.mem.tch ht (hn _ 4 (by decide) h.tm) (hn _ 5 (by decide) h.tw),h.len,fun i g' p' h1 h2=>(h.ps i g' p' h1 h2).tch ht hb (fun b q=>by rw[q,h.tl];omega),h.tl,h.tp,h.tc,h.tm,h.tw,fun b hb=>⟨(h.tn b hb).1,by have:=(h.tn b hb).2;have:=ht.size;omega⟩,h.bel.trans hb,h.hN⟩
end
section
variable {N:Nat} {W:World} {o:Ob} {lb pb mb ml pc:Nat} {cv:Value} {tg:Nat→Nat} {L:Lm} {gs:List PG} {es:List CV} {w w':World} {k:Nat} {g:PG} {p:Pr}
theorem LoomS.step {c c':Kc} {v:OV} {rv':Value} {l':List Int} (h:LoomS N W o lb pb mb ml pc cv tg L gs es w) (hg:gs[k]?=some g) (hp:L.ps[k]?=some p) (hv:g.op=some v) (aU:OpOk tg k o w c v)
  (ur:Oj w' v.xb v.sb v.ty o c' rv' (.pointer (some ⟨mb,0,none⟩))) (hm:MemG w' mb ml l') (rP:Mv v.sb mb ml w w' v.rv rv') (hinv:Kc.Inv c') (cX:c'.base=0) (fI:(c'.size:Int)=aB o):
  ∃ tg' g',LoomS N W o lb pb mb ml pc cv tg' { L with ps:=L.ps.set k { p with op:=some c' },mem:=l' } (gs.set k g') es w'∧g'.op=some ⟨v.xb,v.sb,v.ty,rv',.pointer (some ⟨mb,0,none⟩)⟩∧OpOk tg' k o w' c' ⟨v.xb,v.sb,v.ty,rv',.pointer (some ⟨mb,0,none⟩)⟩:=by
 have iW:=h.low;have ht:=rP.tch;have aJ:=World.ownsRow.lt ur.op.rc;have hN:∀ b,tg b≠0→N≤b:=fun b q=>(h.tn b q).1
 have N5:∀ b,fp v.sb mb ml v.rv b→tg b=3*k+11∨tg b=4∨tg b=5∨tg b=3*k+12:=fun b q=>by
  rcases q with q | q | q | q
  ·rw[q];exact .inl aU.ts
  ·rw[q];exact .inr (.inl h.tm)
  ·rw[q];exact .inr (.inr (.inl h.tw))
  ·exact .inr (.inr (.inr (aU.tr b q)))
 have hb:Below N w w':=ht.below iW (fun b _ q=>hN b (by rcases N5 b q with e | e | e | e <;> rw[e] <;> omega))
 have hn:∀ b n,n≠4→n≠5→n≠3*k+11→n≠3*k+12→tg b=n→¬ fp v.sb mb ml v.rv b:=fun b n h1 h2 h3 h4 e q=>by
  rcases N5 b q with e' | e' | e' | e' <;> omega
 obtain⟨tg',rS⟩:∃ t:Nat→Nat,t=fun b=>if w.heap.size≤b∧rv'.ownBlock=some b then 3*k+12 else tg b:=⟨_,rfl⟩
 have m8:∀ b,tg b≠0→tg' b=tg b:=fun b q=>by
  rw[rS];dsimp only;rw[if_neg];rintro⟨q1,_⟩;have:=(h.tn b q).2;omega
 have ah:∀ b,tg' b≠0→N≤b∧b<w'.heap.size:=fun b q=>by
  rw[rS] at q;dsimp only at q
  split at q
  ·rename_i e;exact⟨by omega,(aJ b e.2).2⟩
  ·have:=h.tn b q;have:=ht.size;omega
 have e':∀ b n,n≠0→tg b=n→tg' b=n:=fun b n h0 q=>(m8 b (by rw[q];exact h0)).trans q
 have oy:∀ b,rv'.ownBlock=some b→tg' b=3*k+12:=fun b q=>by
  rcases rP.rv b q with e | e
  ·exact e' b _ (by omega) (aU.tr b e)
  ·rw[rS];dsimp only;rw[if_pos ⟨e,q⟩]
 have kJ:OpOk tg' k o w' c' ⟨v.xb,v.sb,v.ty,rv',.pointer (some ⟨mb,0,none⟩)⟩:=⟨ur,hinv,cX,fI,e' _ _ (by omega) aU.tx,e' _ _ (by omega) aU.ts,oy⟩;refine⟨tg',{ g with op:=some ⟨v.xb,v.sb,v.ty,rv',.pointer (some ⟨mb,0,none⟩)⟩ },?_,rfl,kJ⟩
 have Hr:pgE.cells { g with op:=some ⟨v.xb,v.sb,v.ty,rv',.pointer (some ⟨mb,0,none⟩)⟩ }=pgE.cells g:=by
  show [_,_,_]=[_,_,_];unfold PG.ptr;rw[hv];rfl
 have aC:pgE.all (gs.set k { g with op:=some ⟨v.xb,v.sb,v.ty,rv',.pointer (some ⟨mb,0,none⟩)⟩ })=pgE.all gs:=
  rZ (E:=pgE) Hr gs k hg
 refine⟨?_,?_,bl h.calls ht (fun b q=>hn b 3 (by decide) (by decide) (by omega) (by omega) (h.tc b q)),h.cx,fun e he=>⟨(h.recs e he).1.tch ht (fun b off q=>hn b 6 (by decide) (by decide) (by omega) (by omega) ((h.recs e he).2 b off q)) ht.size,fun b off q=>e' b 6 (by decide) ((h.recs e he).2 b off q)⟩,hm,by simp[h.len],fun i g' p' h1 h2=>?_,e' _ 1 (by decide) h.tl,e' _ 2 (by decide) h.tp,fun b q=>e' b 3 (by decide) (h.tc b q),e' _ 4 (by decide) h.tm,e' _ 5 (by decide) h.tw,ah,h.bel.trans hb,h.hN⟩
 ·rw[List.length_set];exact h.row.tch ht (hn _ 1 (by decide) (by decide) (by omega) (by omega) h.tl)
 ·have:=bl h.procs ht (fun b q=>by have e:pb=b:=Option.some.inj q;subst e;exact hn _ 2 (by decide) (by decide) (by omega) (by omega) h.tp);unfold Own at this ⊢;rw[aC,List.length_set];exact this
 ·rcases bz h1 with ⟨rfl,rfl⟩ | ⟨e,h1⟩
  ·rcases bz h2 with ⟨_,rfl⟩ | ⟨e2,_⟩
   ·have q:=h.ps i g p hg hp;exact⟨q.left,q.sl.below hb (Nat.le_refl _),q.cap,fun t m=>(q.ws t m).below hb (Nat.le_refl _),q.call,.inr ⟨_,_,rfl,rfl,kJ⟩⟩
   ·exact absurd rfl e2
  ·rcases bz h2 with ⟨e2,_⟩ | ⟨_,h2⟩
   ·exact absurd e2 e
   ·exact((h.ps i g' p' h1 h2).tch ht hb (fun b q=>by rcases N5 b q with r | r | r | r <;> rw[r] <;> omega)).mark m8
theorem LoomS.callset {cb n cc i j:Nat} {e e1:CV} {v:Value} (h:LoomS N W o lb pb mb ml pc (.slice (some ⟨cb,0,none⟩) n cc) tg L gs es w) (he:es[i]?=some e) (hy:cvE.cells e1=(cvE.cells e).set j v) (hj:j<7) (hr:Ws w w.heap.size e1.A e1.x.r∧∀ b off,e1.A=some ⟨b,off,none⟩→tg b=6):
  LoomS N W o lb pb mb ml pc (.slice (some ⟨cb,0,none⟩) n cc) tg { L with calls:=L.calls.set i e1.x } gs (es.set i e1) (w.setCell ⟨cb,i*7+j,none⟩ v):=by
 have ht:=(Tch.refl (fun b=>b=cb) w).set (b:=cb) rfl (i*7+j) v;have iW:=h.low;have NW:=h.tc cb rfl;have hb:Below N w (w.setCell ⟨cb,i*7+j,none⟩ v):=ht.below iW (fun q _ r=>by rw[r];exact(h.tn cb (by rw[NW];decide)).1);have hn:∀ b n,n≠3→tg b=n→b≠cb:=fun b n h0 e q=>h0 (by rw[← e,q];exact NW)
 have dV:∀ {A:Option Addr} {l:List Int},Ws w w.heap.size A l→(∀ b off,A=some ⟨b,off,none⟩→tg b=6)→Ws (w.setCell ⟨cb,i*7+j,none⟩ v) (w.setCell ⟨cb,i*7+j,none⟩ v).heap.size A l:=fun h1 h2=>h1.tch ht (fun b off q=>hn b 6 (by decide) (h2 b off q)) ht.size
 refine⟨h.row.tch ht (hn _ 1 (by decide) h.tl),bl h.procs ht (fun b q=>by have e:pb=b:=Option.some.inj q;subst e;exact hn _ 2 (by decide) h.tp),wl h.calls he (E:=cvE) hy hj,by rw[List.map_set,h.cx],fun x hx=>?_,h.mem.tch ht (hn _ 4 (by decide) h.tm) (hn _ 5 (by decide) h.tw),h.len,fun i' g' p' h1 h2=>(h.ps i' g' p' h1 h2).tch ht hb (fun b q=>by rw[q,NW];omega),h.tl,h.tp,h.tc,h.tm,h.tw,fun b hb=>⟨(h.tn b hb).1,by have:=(h.tn b hb).2;have:=ht.size;omega⟩,h.bel.trans hb,h.hN⟩;obtain⟨q,hq⟩:=List.getElem?_of_mem hx
 rcases bz hq with ⟨_,rfl⟩ | ⟨_,hq⟩
 ·exact⟨dV hr.1 hr.2,hr.2⟩
 ·have hm:=h.recs x (List.mem_of_getElem? hq);exact⟨dV hm.1 hm.2,hm.2⟩
theorem LoomS.begun {xb sb M:Nat} {ty:TypeId} {rv:Value} {c:Kc} (h:LoomS N W o lb pb mb ml pc cv tg L gs es w) (hg:gs[k]?=some g) (hp:L.ps[k]?=some p) (ur:Oj w xb sb ty o c rv (.pointer none)) (hinv:Kc.Inv c) (cX:c.base=0) (fI:(c.size:Int)=aB o)
  (h1:M≤xb) (h2:M≤sb) (h3:∀ b,rv.ownBlock=some b→M≤b) (hM:∀ b,tg b≠0→b<M) (NN:N≤M):
  ∃ tg',LoomS N W o lb pb mb ml pc cv tg' { L with ps:=L.ps.set k { p with op:=some c } } (gs.set k { g with op:=some ⟨xb,sb,ty,rv,.pointer none⟩ }) es (w.setCell ⟨pb,k*3+1,none⟩ (.pointer (some ⟨xb,0,none⟩)))∧∀ b,b<M→tg' b=tg b:=by
 obtain⟨tg',rS⟩:∃ t:Nat→Nat,t=fun b=>if b=xb then 3*k+10 else if b=sb then 3*k+11 else if rv.ownBlock=some b then 3*k+12 else tg b:=⟨_,rfl⟩
 have aj:sb<w.heap.size:=by
  obtain⟨u,_,q⟩:=ur.op.row;exact q.lt
 have gB:=ur.op.sep;have aJ:=World.ownsRow.lt ur.op.rc
 have m8:∀ b,tg b≠0→tg' b=tg b:=fun b q=>by
  have hb:=hM b q;rw[rS];dsimp only;rw[if_neg (by omega),if_neg (by omega),if_neg (fun e=>by have:=h3 b e;omega)]
 have ah:∀ b,tg' b≠0→N≤b∧b<w.heap.size:=fun b q=>by
  rw[rS] at q;dsimp only at q
  split at q
  ·rename_i e;subst e;exact⟨by omega,ur.row.lt⟩
  ·split at q
   ·rename_i e;subst e;exact⟨by omega,aj⟩
   ·split at q
    ·rename_i e;exact⟨Nat.le_trans NN (h3 b e),(aJ b e).2⟩
    ·exact h.tn b q
 have hx:tg' xb=3*k+10:=by rw[rS];dsimp only;rw[if_pos rfl]
 have hs:tg' sb=3*k+11:=by rw[rS];dsimp only;rw[if_neg (fun e=>ur.ne e.symm),if_pos rfl]
 have hr:∀ b,rv.ownBlock=some b→tg' b=3*k+12:=fun b e=>by
  rw[rS];dsimp only;rw[if_neg (fun q=>ur.rx (by rw[← q];exact e)),if_neg (fun q=>gB (by rw[← q];exact e)),if_pos e]
 have hm:=h.mark m8 ah;have q:=hm.ps k g p hg hp;exact⟨tg',hm.proc hg hp (j:=1) rfl (by decide) ⟨q.left,q.sl,q.cap,q.ws,q.call,.inr ⟨_,_,rfl,rfl,⟨ur,hinv,cX,fI,hx,hs,hr⟩⟩⟩,fun b hb=>by rw[rS];dsimp only;rw[if_neg (by omega),if_neg (by omega),if_neg (fun e=>by have:=h3 b e;omega)]⟩
theorem LoomS.markrec {A7:Option Addr} {n7 c7 M:Nat} {r:List Int} (h:LoomS N W o lb pb mb ml pc cv tg L gs es w) (hv:OwnW M w (.slice A7 n7 c7) r) (hM:∀ b,tg b≠0→b<M) (NN:N≤M):
  ∃ tg',LoomS N W o lb pb mb ml pc cv tg' L gs es w∧(∀ b off,A7=some ⟨b,off,none⟩→tg' b=6)∧∀ b,b<M→tg' b=tg b:=by
 have aJ:=World.ownsRow.lt hv.1;obtain⟨tg',rS⟩:∃ t:Nat→Nat,t=fun b=>if (Value.slice A7 n7 c7).ownBlock=some b then 6 else tg b:=⟨_,rfl⟩
 have iW:∀ b,b<M→tg' b=tg b:=fun b hb=>by
  rw[rS];dsimp only;rw[if_neg (fun e=>by have:=(aJ b e).1;omega)]
 refine⟨tg',h.mark (fun b q=>iW b (hM b q)) (fun b q=>?_),fun b off e=>?_,iW⟩
 ·rw[rS] at q;dsimp only at q
  split at q
  ·rename_i e;exact⟨Nat.le_trans NN (aJ b e).1,(aJ b e).2⟩
  ·exact h.tn b q
 ·rw[rS];dsimp only;rw[if_pos (by rw[e];rfl)]
theorem LoomS.push {cv':Value} {w9:World} {e:CV} (h:LoomS N W o lb pb mb ml pc cv tg L gs es w) (bU:Own cvE 62 N w9 cv' (es++[e])) (ht:Tch (fun b=>cv.ownBlock=some b) w w9) (sG:cv'.ownBlock=cv.ownBlock∨cv'.ownBlock=some w.heap.size)
  (he:Ws w9 w9.heap.size e.A e.x.r∧∀ b off,e.A=some ⟨b,off,none⟩→tg b=6):
  ∃ tg',LoomS N W o lb pb mb ml pc cv' tg' { L with calls:=L.calls++[e.x] } gs (es++[e]) (w9.setCell ⟨lb,10,none⟩ cv'):=by
 obtain⟨tg',rS⟩:∃ t:Nat→Nat,t=fun b=>if cv'.ownBlock=some b then 3 else tg b:=⟨_,rfl⟩
 have iW:=h.low;have aJ:=World.ownsRow.lt bU;have h9:=ht.size
 have m8:∀ b,tg b≠0→tg' b=tg b:=fun b q=>by
  rw[rS];dsimp only
  by_cases e:cv'.ownBlock=some b
  ·rw[if_pos e]
   rcases sG with r | r
   ·exact(h.tc b (r.symm.trans e)).symm
   ·have:=Option.some.inj (r.symm.trans e);have:=(h.tn b q).2;omega
  ·rw[if_neg e]
 have ah:∀ b,tg' b≠0→N≤b∧b<w9.heap.size:=fun b q=>by
  rw[rS] at q;dsimp only at q
  split at q
  ·rename_i e;exact aJ b e
  ·have:=h.tn b q;omega
 have e':∀ b n,n≠0→tg b=n→tg' b=n:=fun b n h0 q=>(m8 b (by rw[q];exact h0)).trans q
 have xi:Below N w w9:=ht.below iW (fun b _ q=>(h.tn b (by rw[h.tc b q];decide)).1);have hn:∀ b n,n≠3→tg b=n→cv.ownBlock≠some b:=fun b n h0 q r=>h0 (q.symm.trans (h.tc b r))
 have gT:∀ b n,n≠1→tg b=n→b≠lb:=fun b n h0 e q=>h0 (by rw[← e,q];exact h.tl)
 have Ly:=h.row.tch ht (hn _ 1 (by decide) h.tl);have hs:=(Tch.refl (fun b=>b=lb) w9).set (b:=lb) rfl 10 cv';have Jz:=(h.tn lb (by rw[h.tl];decide)).1;have eE:Below N w9 (w9.setCell ⟨lb,10,none⟩ cv'):=hs.below (by omega) (fun i _ q=>by omega);have dV:∀ {A:Option Addr} {l:List Int},Ws w9 w9.heap.size A l→(∀ b off,A=some ⟨b,off,none⟩→tg b=6)→Ws (w9.setCell ⟨lb,10,none⟩ cv') (w9.setCell ⟨lb,10,none⟩ cv').heap.size A l:=fun h1 h2=>h1.tch hs (fun b off q=>gT b 6 (by decide) (h2 b off q)) hs.size
 have h6:∀ {A:Option Addr},(∀ b off,A=some ⟨b,off,none⟩→tg b=6)→∀ b off,A=some ⟨b,off,none⟩→tg' b=6:=fun h2 b off q=>e' b 6 (by decide) (h2 b off q)
 have iw:cv'.ownBlock≠some lb:=fun q=>by
  rcases sG with r | r
  ·exact hn lb 1 (by decide) h.tl (r.symm.trans q)
  ·have:=Option.some.inj (r.symm.trans q);have:=(h.tn lb (by rw[h.tl];decide)).2;omega
 refine⟨tg',⟨Ly.set 10 cv',bl (bl h.procs ht (fun b q=>by have e:pb=b:=Option.some.inj q;subst e;exact hn _ 2 (by decide) h.tp)) hs (fun b q=>by have e:pb=b:=Option.some.inj q;subst e;exact gT _ 2 (by decide) h.tp),bl bU hs (fun b q r=>iw (by rw[← r];exact q)),by simp[h.cx],fun x hx=>?_,(h.mem.tch ht (hn _ 4 (by decide) h.tm) (hn _ 5 (by decide) h.tw)).tch hs (gT _ 4 (by decide) h.tm) (gT _ 5 (by decide) h.tw),h.len,fun i g' p' h1 h2=>?_,e' _ 1 (by decide) h.tl,e' _ 2 (by decide) h.tp,fun b q=>by rw[rS];dsimp only;rw[if_pos q],e' _ 4 (by decide) h.tm,e' _ 5 (by decide) h.tw,fun b q=>⟨(ah b q).1,by have:=(ah b q).2;have:=hs.size;omega⟩,(h.bel.trans xi).trans eE,h.hN⟩⟩
 ·rcases List.mem_append.1 hx with hx | hx
  ·have q:=h.recs x hx;exact⟨dV (q.1.tch ht (fun b off r=>hn b 6 (by decide) (q.2 b off r)) ht.size) q.2,h6 q.2⟩
  ·rw[List.mem_singleton.1 hx];exact⟨dV he.1 he.2,h6 he.2⟩
 ·exact(((h.ps i g' p' h1 h2).tch ht xi (fun b q=>by rw[h.tc b q];omega)).tch hs eE (fun b q=>by rw[q,h.tl];omega)).mark m8
end
end Go.Proofs.YtabfcjohdgjkoaaGreatDoor
