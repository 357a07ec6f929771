/- Histories of calls; a register of words, phase by phase. -/
import Derived.Lib.ItoaNum
import Derived.Lib.Join
import Derived.Lib.SlicesS
import Derived.Test.YtabfcjohdgjkoaaGreatDoorZcXa
namespace Go.Proofs.YtabfcjohdgjkoaaGreatDoor
open Go.RowKit
def dx (x y:Cl):Bool:=decide (0≤x.e)&&decide (x.e<y.b)
def xt (n:Int):Bool:=decide (0≤n)&&decide (n≤1099511627776)
def Dg (x:Cl):Bool:=xt x.p&&xt x.o&&xt x.b&&decide (1≤x.q)&&decide (x.q≤4)&&decide (0≤x.c)&&decide (x.c≤3)&&(x.e==-1 || decide (x.b≤x.e)&&xt x.e)&&decide (x.r.length≤8)
def fU (x y:Cl):Bool:=!(x.p==y.p&&!dx x y&&!dx y x)
theorem kA (x y:Cl):fU x y=fU y x:=by
 unfold fU;rw[Bool.beq_comm (a:=x.p)];cases (y.p==x.p) <;> cases dx x y <;> cases dx y x <;> rfl
def jL (l:List Cl) (i:Nat):Prop:=∀ x,l[i]?=some x→Dg x=true∧∀ k y,k<i→l[k]?=some y→fU x y=true
instance (l:List Cl) (i:Nat):Decidable (jL l i):=
 match h:l[i]? with
 | none=>isTrue fun x hx=>by rw[h] at hx;cases hx
 | some x=>if h2:Dg x=true∧((l.take i).all fun y=>fU x y)=true then isTrue fun x' CQ=>by
   rw[h] at CQ;cases CQ;refine⟨h2.1,fun k y hk hy=>List.all_eq_true.1 h2.2 y ?_⟩;exact List.mem_of_getElem? (by rw[List.getElem?_take_of_lt hk];exact hy)
  else isFalse fun hh=>h2 (by
   obtain⟨a1,a2⟩:=hh x h;refine⟨a1,List.all_eq_true.2 fun y hy=>?_⟩;obtain⟨k,hk⟩:=List.getElem?_of_mem hy
   have qd:k<i:=by
    have:=bQ hk;simp at this;omega
   rw[List.getElem?_take_of_lt qd] at hk;exact a2 k y qd hk)
def eu (l:List Cl):Bool:=decide (∀ i,i<l.length→jL l i)
theorem oQ {l:List Cl} (h:∀ i,i<l.length→jL l i):eu l=true:=decide_eq_true h
theorem mz {l:List Cl} {i:Nat} (hi:i<l.length) (h:¬ jL l i):eu l=false:=decide_eq_false fun hh=>h (hh i hi)
theorem uK {l:List Cl} {i k:Nat} {x y:Cl} (hx:l[i]?=some x) (hy:l[k]?=some y) (eZ:i≠k) (h:fU x y=false):eu l=false:=by
 rcases Nat.lt_or_ge k i with hk | hk
 ·exact mz (bQ hx) fun hh=>by
   have:=(hh x hx).2 k y hk hy;rw[h] at this;cases this
 ·exact mz (bQ hy) fun hh=>by
   have:=(hh y hy).2 i x (by omega) hx;rw[kA,h] at this;cases this
def Pm (c:UInt8):List UInt8→List (List UInt8)
 | []=>[[]]
 | x::l=>if x=c then []::Pm c l else (x::(Pm c l).headD [])::(Pm c l).tail
def Sy (x:UInt8):Bool:=decide (48≤x.toNat)&&decide (x.toNat≤57)
def dv (l:List UInt8):Nat:=l.foldl (fun n x=>10*n+(x.toNat - 48)) 0
def TR (u:Nat):ByteArray:=⟨(Lib.decDigits u).toArray⟩
def Has (l:List Int) (p:Nat) (v:List Int) (d:Nat):Prop:=∀ i,i<d→l.getD (p+i) 0=v.getD i 0
theorem nX {l:List Int} {k j:Nat} {x:Int}:(l.set k x).getD j 0=if k=j∧k<l.length then x else l.getD j 0:=by
 rw[List.getD_eq_getElem?_getD,List.getElem?_set,List.getD_eq_getElem?_getD]
 by_cases h:k=j
 ·subst h
  by_cases q:k<l.length
  ·simp[q]
  ·simp[q]
 ·simp[h]
theorem bt {l:List Int} {k j:Nat} {x:Int} (h:k≠j):(l.set k x).getD j 0=l.getD j 0:=by rw[nX,if_neg (fun e=>h e.1)]
theorem cN {l:List Int} {k:Nat} {x:Int} (h:k<l.length):(l.set k x).getD k 0=x:=by rw[nX,if_pos ⟨rfl,h⟩]
section
variable {l v:List Int} {p d:Nat}
theorem Has.zero:Has l p v 0:=fun i h=>absurd h (Nat.not_lt_zero i)
theorem Has.far (h:Has l p v d) {k:Nat} {x:Int} (hk:k<p∨p+d≤k):Has (l.set k x) p v d:=fun i hi=>by
 rw[bt (by omega)];exact h i hi
theorem Has.next (h:Has l p v d) {x:Int} (hx:x=v.getD d 0) (hl:p+d<l.length):Has (l.set (p+d) x) p v (d+1):=fun i hi=>by
 by_cases e:i=d
 ·subst e;rw[cN hl,hx]
 ·rw[bt (by omega)];exact h i (by omega)
end
def Pre (r v:List Int) (i:Nat):Prop:=r.length=i∧∀ j,j<i→r.getD j 0=v.getD j 0
theorem Pre.zero {v:List Int}:Pre [] v 0:=⟨rfl,fun j h=>absurd h (Nat.not_lt_zero j)⟩
theorem Pre.next {r v:List Int} {i:Nat} {x:Int} (h:Pre r v i) (hx:x=v.getD i 0):Pre (r++[x]) v (i+1):=by
 refine⟨by simp[h.1],fun j hj=>?_⟩;have hl:=h.1;rw[List.getD_eq_getElem?_getD]
 by_cases e:j=i
 ·subst e;rw[List.getElem?_append_right (by omega),hl];simp[hx]
 ·rw[List.getElem?_append_left (by omega),← List.getD_eq_getElem?_getD];exact h.2 j (by omega)
theorem Pre.full {r v:List Int} {d:Nat} (h:Pre r v d) (hv:v.length=d):r=v:=by
 apply List.ext_getElem?;intro j
 by_cases e:j<d
 ·have:=h.2 j e;rw[List.getD_eq_getElem?_getD,List.getD_eq_getElem?_getD,List.getElem?_eq_getElem (by have:=h.1;omega),List.getElem?_eq_getElem (by omega)] at this;rw[List.getElem?_eq_getElem (by have:=h.1;omega),List.getElem?_eq_getElem (by omega)];exact congrArg some this
 ·rw[List.getElem?_eq_none (by have:=h.1;omega),List.getElem?_eq_none (by omega)]
structure Par where
 kd:Int
 wd:Nat
 nr:Nat
 sl:Nat
 st:Int
 sz:Nat
structure Kc.Of (P:Par) (c:Kc):Prop where
 inv:Kc.Inv c
 kd:c.kd=P.kd
 wd:c.wd=P.wd
 nr:c.nr=P.nr
 sl:c.sl=P.sl
 base:c.base=0
 size:c.size=P.sz
 over:c.over=false
theorem Kc.Of.step {P:Par} {c:Kc} {l:List Int} (h:c.Of P) (hl:W32 l):(c.step l).1.op=c.op∧(c.step l).1.rd=c.rd∧((c.step l).1.over=false→(c.step l).1.Of P):=by
 have S:=h.inv.sta;obtain⟨_,e1,e2,e3,e4,e5,e6,e7,e8,e9,e10⟩:=Kc.left_step (l:=l) h.over S.wd1 S.nr1 S.cap1;exact⟨e6,e7,fun ho=>⟨h.inv.step h.over hl,e1.trans h.kd,e2.trans h.wd,e3.trans h.nr,e4.trans h.sl,e8.trans h.base,e9.trans h.size,ho⟩⟩
structure RS where
 l:List Int
 w:Option Kc
 r:Nat→Option Kc
 R:Nat→List Int
 n:Nat
 g:Nat
 lo:Nat→Nat
structure RS.Gn (P:Par) (s:RS):Prop where
 len:s.l.length=P.sz
 w32:W32 s.l
 n1:s.n≤1000
 gn:s.g≤s.n
 R:∀ j,j≤s.n→(s.R j).length=P.wd
 w:∀ c,s.w=some c→c.Of P∧c.op=2∧c.rc=s.R s.n∧1≤s.n
 r:∀ k c,s.r k=some c→c.Of P∧c.op=1∧c.rd=k
 lo:∀ k c,s.r k=some c→s.lo k≤s.g
def upd {α:Type} (f:Nat→α) (k:Nat) (x:α) (j:Nat):α:=if j=k then x else f j
theorem iJ {α:Type} {f:Nat→α} {k:Nat} {x:α}:upd f k x k=x:=if_pos rfl
theorem eM {α:Type} {f:Nat→α} {k j:Nat} {x:α} (h:j≠k):upd f k x j=f j:=if_neg h
def RS.bw (s:RS) (c:Kc):RS:={ s with w:=some c,R:=upd s.R (s.n+1) c.rc,n:=s.n+1 }
def RS.br (s:RS) (k:Nat) (c:Kc):RS:={ s with r:=upd s.r k (some c),lo:=upd s.lo k s.g }
def RS.sw (s:RS) (c:Kc) (l:List Int) (g:Nat):RS:={ s with l:=l,w:=if c.over then none else some c,g:=g }
def RS.sr (s:RS) (k:Nat) (c:Kc) (l:List Int):RS:={ s with l:=l,r:=upd s.r k (if c.over then none else some c) }
structure Kc.New (P:Par) (c:Kc):Prop where
 is:c.Of P
 ph:c.ph=0
 i:c.i=0
 B:c.B=0
 used:∀ k,c.used k=false
section
variable {P:Par} {s:RS} {c:Kc}
theorem Kc.New.wr (h:c.New P) (ho:c.op=2):c.rc.length=P.wd:=by
 rw[← h.is.wd];exact h.is.inv.gen.wrl (by unfold Kc.wr;rw[ho];rfl) h.is.over
theorem RS.sr_get {k j:Nat} {c d:Kc} {l:List Int} (hd:(s.sr k c l).r j=some d):(j=k∧d=c∧c.over=false)∨(j≠k∧s.r j=some d):=by
 have hd:upd s.r k (if c.over then none else some c) j=some d:=hd
 by_cases e:j=k
 ·subst e;rw[iJ] at hd;cases ho:c.over
  ·rw[ho] at hd;exact .inl ⟨rfl,(Option.some.inj (show some c=some d from hd)).symm,rfl⟩
  ·rw[ho] at hd;cases hd
 ·rw[eM e] at hd;exact .inr ⟨e,hd⟩
theorem RS.br_get {k j:Nat} {c d:Kc} (hd:(s.br k c).r j=some d):(j=k∧d=c)∨(j≠k∧s.r j=some d):=by
 have hd:upd s.r k (some c) j=some d:=hd
 by_cases e:j=k
 ·subst e;rw[iJ] at hd;exact .inl ⟨rfl,(Option.some.inj hd).symm⟩
 ·rw[eM e] at hd;exact .inr ⟨e,hd⟩
theorem RS.Gn.bw (h:s.Gn P) (hc:c.New P) (ho:c.op=2) (hn:s.n<1000):(s.bw c).Gn P:=by
 refine⟨h.len,h.w32,hn,by show s.g≤s.n+1;have:=h.gn;omega,fun j hj=>?_,fun d hd=>?_,h.r,h.lo⟩
 ·have hj:j≤s.n+1:=hj;show(upd s.R (s.n+1) c.rc j).length=P.wd
  by_cases e:j=s.n+1
  ·rw[e,iJ];exact hc.wr ho
  ·rw[eM e];exact h.R j (by omega)
 ·obtain rfl:=Option.some.inj (show some c=some d from hd);exact⟨hc.is,ho,(iJ (f:=s.R)).symm,by show 1≤s.n+1;omega⟩
theorem RS.Gn.br (h:s.Gn P) {k:Nat} (hc:c.New P) (ho:c.op=1) (hk:c.rd=k):(s.br k c).Gn P:=by
 have hn:∀ j d,(s.br k c).r j=some d→(j=k∧d=c)∨(j≠k∧s.r j=some d):=fun j d hd=>RS.br_get hd
 refine⟨h.len,h.w32,h.n1,h.gn,h.R,h.w,fun j d hd=>?_,fun j d hd=>?_⟩
 ·rcases hn j d hd with ⟨rfl,rfl⟩ | ⟨_,hd⟩
  ·exact⟨hc.is,ho,hk⟩
  ·exact h.r j d hd
 ·show upd s.lo k s.g j≤s.g
  rcases hn j d hd with ⟨rfl,_⟩ | ⟨e,hd⟩
  ·rw[iJ];exact Nat.le_refl _
  ·rw[eM e];exact h.lo j d hd
theorem RS.Gn.sw (h:s.Gn P) (hw:s.w=some c) {g:Nat} (S5:s.g≤g) (hg:g≤s.n) (fZ:(c.step s.l).1.over=false→(c.step s.l).1.rc=c.rc):(s.sw (c.step s.l).1 (c.step s.l).2 g).Gn P:=by
 obtain⟨h1,h2,h3,h4⟩:=h.w c hw;obtain⟨e1,_,e3⟩:=h1.step h.w32;refine⟨(jB c s.l).trans h.len,Kc.step_w h1.inv h.w32,h.n1,hg,h.R,fun d hd=>?_,h.r,fun k d hd=>Nat.le_trans (h.lo k d hd) S5⟩;have hd:(if (c.step s.l).1.over then none else some (c.step s.l).1)=some d:=hd;cases ho:(c.step s.l).1.over
 ·rw[ho] at hd;obtain rfl:=Option.some.inj (show some (c.step s.l).1=some d from hd);exact⟨e3 ho,e1.trans h2,(fZ ho).trans h3,h4⟩
 ·rw[ho] at hd;cases hd
theorem RS.Gn.sr (h:s.Gn P) {k:Nat} (hr:s.r k=some c):(s.sr k (c.step s.l).1 (c.step s.l).2).Gn P:=by
 obtain⟨h1,h2,h3⟩:=h.r k c hr;obtain⟨e1,e2,e3⟩:=h1.step h.w32;refine⟨(jB c s.l).trans h.len,Kc.step_w h1.inv h.w32,h.n1,h.gn,h.R,h.w,fun j d hd=>?_,fun j d hd=>?_⟩
 ·rcases RS.sr_get hd with ⟨rfl,rfl,ho⟩ | ⟨_,hd⟩
  ·exact⟨e3 ho,e1.trans h2,e2.trans h3⟩
  ·exact h.r j d hd
 ·rcases RS.sr_get hd with ⟨rfl,_,_⟩ | ⟨_,hd⟩
  ·exact h.lo j c hr
  ·exact h.lo j d hd
end
theorem Kc.Of.rdm {P:Par} {c:Kc} (h:c.Of P) (l:List Int) (k:Nat):c.rdm l k=l.getD k 0:=by unfold Kc.rdm;rw[h.base,Nat.zero_add]
theorem Kc.Of.wrm {P:Par} {c:Kc} (h:c.Of P) (l:List Int) (k:Nat) (v:Int):c.wrm l k v=l.set k v:=by unfold Kc.wrm;rw[h.base,Nat.zero_add]
structure Vw (c':Kc) (ph i:Nat) (A B:Int) (used:Nat→Bool) (rc:List Int):Prop where
 ph:c'.ph=ph
 i:c'.i=i
 A:c'.A=A
 B:c'.B=B
 used:c'.used=used
 rc:c'.rc=rc
 over:c'.over=false
structure RegK (P:Par) (J:RS→Prop):Prop where
 bw:∀ (s:RS) (c:Kc),s.Gn P→J s→s.w=none→c.New P→c.op=2→s.n<1000→J (s.bw c)
 br:∀ (s:RS) (k:Nat) (c:Kc),s.Gn P→J s→s.r k=none→c.New P→c.op=1→c.rd=k→c.rc=[]→J (s.br k c)
 sw:∀ (s:RS) (c:Kc),s.Gn P→J s→s.w=some c→∃ g,s.g≤g∧g≤s.n∧((c.step s.l).1.over=true→g=s.n∧(c.step s.l).1.code=0)∧((c.step s.l).1.over=false→(c.step s.l).1.rc=c.rc)∧J (s.sw (c.step s.l).1 (c.step s.l).2 g)
 sr:∀ (s:RS) (k:Nat) (c:Kc),s.Gn P→J s→s.r k=some c→J (s.sr k (c.step s.l).1 (c.step s.l).2)∧((c.step s.l).1.over=true→(c.step s.l).1.code=0∧(∃ a,s.lo k≤a∧a≤s.g∧(c.step s.l).1.rc=s.R a)∨(c.step s.l).1.code=1)
set_option linter.unusedSimpArgs false
def iM (u:Nat→Bool):Int:=(((List.range 64).find? fun k=>!u k).getD 0:Nat)
theorem Kc.Of.five {P:Par} {c:Kc} (h:c.Of P):c.base=0∧c.over=false∧c.wd=P.wd∧c.nr=P.nr∧c.sl=P.sl:=⟨h.base,h.over,h.wd,h.nr,h.sl⟩
section
attribute [local simp] Kc.step Kc.seq Kc.ring Kc.four Kc.chen Kc.cab Kc.fifo Kc.go Kc.fin Kc.word Kc.wr Kc.rdm Kc.wrm Kc.fail
attribute [-simp] List.getD_eq_getElem?_getD
variable {P:Par} {c:Kc} {l:List Int}
theorem Fk (hk:P.kd=3) (h:c.Of P) (h2:c.op=2) (ae:c.ph=0):Vw (c.step l).1 1 0 (l.getD 0 0) c.B c.used c.rc∧(c.step l).2=l:=by
 have q:=h.kd.trans hk;obtain⟨hb,ho,ay,aS,aj⟩:=h.five;refine⟨?_,?_⟩
 ·constructor <;> simp[q,h2,ae,hb,ho,ay,aS,aj]
 ·simp[q,h2,ae,hb,ho,ay,aS,aj]
theorem Fl (hk:P.kd=3) (h:c.Of P) (h2:c.op=2) (ae:c.ph=1):Vw (c.step l).1 2 0 c.A c.B c.used c.rc∧(c.step l).2=l.set 0 ((c.A+1)%4294967296):=by
 have q:=h.kd.trans hk;obtain⟨hb,ho,ay,aS,aj⟩:=h.five;refine⟨?_,?_⟩
 ·constructor <;> simp[q,h2,ae,hb,ho,ay,aS,aj]
 ·simp[q,h2,ae,hb,ho,ay,aS,aj]
theorem Fm (hk:P.kd=3) (h:c.Of P) (h2:c.op=2) (ae:c.ph=2) (hi:c.i<P.wd):(c.step l).2=l.set (1+c.i) (c.rc.getD c.i 0)∧(c.i+1<P.wd∧Vw (c.step l).1 2 (c.i+1) c.A c.B c.used c.rc∨P.wd=c.i+1∧Vw (c.step l).1 3 0 c.A c.B c.used c.rc):=by
 have q:=h.kd.trans hk;obtain⟨hb,ho,ay,aS,aj⟩:=h.five;refine⟨?_,?_⟩
 ·simp[q,h2,ae,hb,ho,ay,aS,aj]
 ·by_cases e:P.wd≤c.i+1
  ·refine .inr ⟨by omega,?_⟩
   constructor <;> simp[q,h2,ae,hb,ho,ay,aS,aj,e]
  ·refine .inl ⟨by omega,?_⟩
   constructor <;> simp[q,h2,ae,hb,ho,ay,aS,aj,e]
theorem Fn (hk:P.kd=3) (h:c.Of P) (h2:c.op=2) (ae:c.ph=3):(c.step l).1.over=true∧(c.step l).1.code=0∧(c.step l).1.rc=[]∧(c.step l).2=l.set 0 ((c.A+2)%4294967296):=by
 have q:=h.kd.trans hk;obtain⟨hb,ho,ay,aS,aj⟩:=h.five;refine⟨?_,?_,?_,?_⟩ <;> simp[q,h2,ae,hb,ho,ay,aS,aj]
theorem Fh (hk:P.kd=3) (h:c.Of P) (h2:c.op=1) (ae:c.ph=0) (he:¬ l.getD 0 0%2=1):Vw (c.step l).1 1 0 (l.getD 0 0) c.B c.used c.rc∧(c.step l).2=l:=by
 have q:=h.kd.trans hk;obtain⟨hb,ho,ay,aS,aj⟩:=h.five;refine⟨?_,?_⟩
 ·constructor <;> simp[q,h2,ae,hb,ho,ay,aS,aj,he]
 ·simp[q,h2,ae,hb,ho,ay,aS,aj,he]
theorem Cj (hk:P.kd=3) (h:c.Of P) (h2:c.op=1) (ae:c.ph=0) (he:l.getD 0 0%2=1):(c.step l).2=l∧((c.step l).1.over=true∧(c.step l).1.code=1∨Vw (c.step l).1 0 0 (l.getD 0 0) c.B c.used []):=by
 have q:=h.kd.trans hk;obtain⟨hb,ho,ay,aS,aj⟩:=h.five;refine⟨?_,?_⟩
 ·simp[q,h2,ae,hb,ho,ay,aS,aj,he]
 ·by_cases e:c.cap≤c.tr+1
  ·exact .inl (by simp[q,h2,ae,hb,ho,ay,aS,aj,he,e])
  ·refine .inr ?_
   constructor <;> simp[q,h2,ae,hb,ho,ay,aS,aj,he,e]
theorem Fi (hk:P.kd=3) (h:c.Of P) (h2:c.op=1) (ae:c.ph=1) (hi:c.i<P.wd):(c.step l).2=l∧(c.i+1<P.wd∧Vw (c.step l).1 1 (c.i+1) c.A c.B c.used (c.rc++[l.getD (1+c.i) 0])∨P.wd=c.i+1∧Vw (c.step l).1 2 0 c.A c.B c.used (c.rc++[l.getD (1+c.i) 0])):=by
 have q:=h.kd.trans hk;obtain⟨hb,ho,ay,aS,aj⟩:=h.five;refine⟨?_,?_⟩
 ·simp[q,h2,ae,hb,ho,ay,aS,aj]
 ·by_cases e:P.wd≤c.i+1
  ·refine .inr ⟨by omega,?_⟩
   constructor <;> simp[q,h2,ae,hb,ho,ay,aS,aj,e]
  ·refine .inl ⟨by omega,?_⟩
   constructor <;> simp[q,h2,ae,hb,ho,ay,aS,aj,e]
theorem Fj (hk:P.kd=3) (h:c.Of P) (h2:c.op=1) (ae:c.ph=2) (he:l.getD 0 0=c.A):(c.step l).1.over=true∧(c.step l).1.code=0∧(c.step l).1.rc=c.rc∧(c.step l).2=l:=by
 have q:=h.kd.trans hk;obtain⟨hb,ho,ay,aS,aj⟩:=h.five;refine⟨?_,?_,?_,?_⟩ <;> simp[q,h2,ae,hb,ho,ay,aS,aj,he]
theorem Ck (hk:P.kd=3) (h:c.Of P) (h2:c.op=1) (ae:c.ph=2) (he:¬ l.getD 0 0=c.A):(c.step l).2=l∧((c.step l).1.over=true∧(c.step l).1.code=1∨Vw (c.step l).1 0 0 c.A c.B c.used []):=by
 have q:=h.kd.trans hk;obtain⟨hb,ho,ay,aS,aj⟩:=h.five;refine⟨?_,?_⟩
 ·simp[q,h2,ae,hb,ho,ay,aS,aj,he]
 ·by_cases e:c.cap≤c.tr+1
  ·exact .inl (by simp[q,h2,ae,hb,ho,ay,aS,aj,he,e])
  ·refine .inr ?_
   constructor <;> simp[q,h2,ae,hb,ho,ay,aS,aj,he,e]
theorem Cg (hk:P.kd=4) (h:c.Of P) (h2:c.op=2) (ae:c.ph=0):Vw (c.step l).1 1 0 (Kc.inc (l.getD 0 0%(P.sl*1048576:Int)) (P.sl*1048576:Int)) c.B c.used c.rc∧(c.step l).2=l:=by
 have q:=h.kd.trans hk;obtain⟨hb,ho,ay,aS,aj⟩:=h.five;refine⟨?_,?_⟩
 ·constructor <;> simp[q,h2,ae,hb,ho,ay,aS,aj]
 ·simp[q,h2,ae,hb,ho,ay,aS,aj]
theorem Ch (hk:P.kd=4) (h:c.Of P) (h2:c.op=2) (ae:c.ph=1) (hi:c.i<P.wd):(c.step l).2=l.set (1+(c.A%P.sl).toNat*P.wd+c.i) (c.rc.getD c.i 0)∧(c.i+1<P.wd∧Vw (c.step l).1 1 (c.i+1) c.A c.B c.used c.rc∨P.wd=c.i+1∧Vw (c.step l).1 2 0 c.A c.B c.used c.rc):=by
 have q:=h.kd.trans hk;obtain⟨hb,ho,ay,aS,aj⟩:=h.five;refine⟨?_,?_⟩
 ·simp[q,h2,ae,hb,ho,ay,aS,aj]
 ·by_cases e:P.wd≤c.i+1
  ·refine .inr ⟨by omega,?_⟩
   constructor <;> simp[q,h2,ae,hb,ho,ay,aS,aj,e]
  ·refine .inl ⟨by omega,?_⟩
   constructor <;> simp[q,h2,ae,hb,ho,ay,aS,aj,e]
theorem Ci (hk:P.kd=4) (h:c.Of P) (h2:c.op=2) (ae:c.ph=2):(c.step l).1.over=true∧(c.step l).1.code=0∧(c.step l).1.rc=[]∧(c.step l).2=l.set 0 c.A:=by
 have q:=h.kd.trans hk;obtain⟨hb,ho,ay,aS,aj⟩:=h.five;refine⟨?_,?_,?_,?_⟩ <;> simp[q,h2,ae,hb,ho,ay,aS,aj]
theorem Cd (hk:P.kd=4) (h:c.Of P) (h2:c.op=1) (ae:c.ph=0):Vw (c.step l).1 1 0 (l.getD 0 0%(P.sl*1048576:Int)) c.B c.used c.rc∧(c.step l).2=l:=by
 have q:=h.kd.trans hk;obtain⟨hb,ho,ay,aS,aj⟩:=h.five;refine⟨?_,?_⟩
 ·constructor <;> simp[q,h2,ae,hb,ho,ay,aS,aj]
 ·simp[q,h2,ae,hb,ho,ay,aS,aj]
theorem Ce (hk:P.kd=4) (h:c.Of P) (h2:c.op=1) (ae:c.ph=1) (hi:c.i<P.wd):(c.step l).2=l∧(c.i+1<P.wd∧Vw (c.step l).1 1 (c.i+1) c.A c.B c.used (c.rc++[l.getD (1+(c.A%P.sl).toNat*P.wd+c.i) 0])∨P.wd=c.i+1∧Vw (c.step l).1 2 0 c.A c.B c.used (c.rc++[l.getD (1+(c.A%P.sl).toNat*P.wd+c.i) 0])):=by
 have q:=h.kd.trans hk;obtain⟨hb,ho,ay,aS,aj⟩:=h.five;refine⟨?_,?_⟩
 ·simp[q,h2,ae,hb,ho,ay,aS,aj]
 ·by_cases e:P.wd≤c.i+1
  ·refine .inr ⟨by omega,?_⟩
   constructor <;> simp[q,h2,ae,hb,ho,ay,aS,aj,e]
  ·refine .inl ⟨by omega,?_⟩
   constructor <;> simp[q,h2,ae,hb,ho,ay,aS,aj,e]
theorem Cf (hk:P.kd=4) (h:c.Of P) (h2:c.op=1) (ae:c.ph=2) (he:Kc.gap c.A (l.getD 0 0%(P.sl*1048576:Int)) (P.sl*1048576:Int)<P.sl - 1):(c.step l).1.over=true∧(c.step l).1.code=0∧(c.step l).1.rc=c.rc∧(c.step l).2=l:=by
 have q:=h.kd.trans hk;obtain⟨hb,ho,ay,aS,aj⟩:=h.five;refine⟨?_,?_,?_,?_⟩ <;> simp[q,h2,ae,hb,ho,ay,aS,aj,he]
theorem yb (hk:P.kd=4) (h:c.Of P) (h2:c.op=1) (ae:c.ph=2) (he:¬ Kc.gap c.A (l.getD 0 0%(P.sl*1048576:Int)) (P.sl*1048576:Int)<P.sl - 1):(c.step l).2=l∧((c.step l).1.over=true∧(c.step l).1.code=1∨Vw (c.step l).1 0 0 c.A c.B c.used []):=by
 have q:=h.kd.trans hk;obtain⟨hb,ho,ay,aS,aj⟩:=h.five;refine⟨?_,?_⟩
 ·simp[q,h2,ae,hb,ho,ay,aS,aj,he]
 ·by_cases e:c.cap≤c.tr+1
  ·exact .inl (by simp[q,h2,ae,hb,ho,ay,aS,aj,he,e])
  ·refine .inr ?_
   constructor <;> simp[q,h2,ae,hb,ho,ay,aS,aj,he,e]
theorem B8 (hk:P.kd=1) (h:c.Of P) (h2:c.op=2) (ae:c.ph=0):Vw (c.step l).1 1 0 (Kc.one (l.getD 1 0)) c.B c.used c.rc∧(c.step l).2=l:=by
 have q:=h.kd.trans hk;obtain⟨hb,ho,ay,aS,aj⟩:=h.five;refine⟨?_,?_⟩
 ·constructor <;> simp[q,h2,ae,hb,ho,ay,aS,aj]
 ·simp[q,h2,ae,hb,ho,ay,aS,aj]
theorem B9 (hk:P.kd=1) (h:c.Of P) (h2:c.op=2) (ae:c.ph=1):Vw (c.step l).1 2 0 c.A (Kc.one (l.getD (2+c.A.toNat) 0)) c.used c.rc∧(c.step l).2=l:=by
 have q:=h.kd.trans hk;obtain⟨hb,ho,ay,aS,aj⟩:=h.five;refine⟨?_,?_⟩
 ·constructor <;> simp[q,h2,ae,hb,ho,ay,aS,aj]
 ·simp[q,h2,ae,hb,ho,ay,aS,aj]
theorem Ca (hk:P.kd=1) (h:c.Of P) (h2:c.op=2) (ae:c.ph=2) (hi:c.i<P.wd):(c.step l).2=l.set (4+(2*c.A+c.B).toNat*P.wd+c.i) (c.rc.getD c.i 0)∧(c.i+1<P.wd∧Vw (c.step l).1 2 (c.i+1) c.A c.B c.used c.rc∨P.wd=c.i+1∧Vw (c.step l).1 3 0 c.A c.B c.used c.rc):=by
 have q:=h.kd.trans hk;obtain⟨hb,ho,ay,aS,aj⟩:=h.five;refine⟨?_,?_⟩
 ·simp[q,h2,ae,hb,ho,ay,aS,aj]
 ·by_cases e:P.wd≤c.i+1
  ·refine .inr ⟨by omega,?_⟩
   constructor <;> simp[q,h2,ae,hb,ho,ay,aS,aj,e]
  ·refine .inl ⟨by omega,?_⟩
   constructor <;> simp[q,h2,ae,hb,ho,ay,aS,aj,e]
theorem Cb (hk:P.kd=1) (h:c.Of P) (h2:c.op=2) (ae:c.ph=3):Vw (c.step l).1 4 0 c.A c.B c.used c.rc∧(c.step l).2=l.set (2+c.A.toNat) c.B:=by
 have q:=h.kd.trans hk;obtain⟨hb,ho,ay,aS,aj⟩:=h.five;refine⟨?_,?_⟩
 ·constructor <;> simp[q,h2,ae,hb,ho,ay,aS,aj]
 ·simp[q,h2,ae,hb,ho,ay,aS,aj]
theorem Cc (hk:P.kd=1) (h:c.Of P) (h2:c.op=2) (ae:c.ph=4):(c.step l).1.over=true∧(c.step l).1.code=0∧(c.step l).1.rc=[]∧(c.step l).2=l.set 0 c.A:=by
 have q:=h.kd.trans hk;obtain⟨hb,ho,ay,aS,aj⟩:=h.five;refine⟨?_,?_,?_,?_⟩ <;> simp[q,h2,ae,hb,ho,ay,aS,aj]
theorem B4 (hk:P.kd=1) (h:c.Of P) (h2:c.op=1) (ae:c.ph=0):Vw (c.step l).1 1 0 (l.getD 0 0%2) c.B c.used c.rc∧(c.step l).2=l:=by
 have q:=h.kd.trans hk;obtain⟨hb,ho,ay,aS,aj⟩:=h.five;refine⟨?_,?_⟩
 ·constructor <;> simp[q,h2,ae,hb,ho,ay,aS,aj]
 ·simp[q,h2,ae,hb,ho,ay,aS,aj]
theorem B5 (hk:P.kd=1) (h:c.Of P) (h2:c.op=1) (ae:c.ph=1):Vw (c.step l).1 2 0 c.A c.B c.used c.rc∧(c.step l).2=l.set 1 c.A:=by
 have q:=h.kd.trans hk;obtain⟨hb,ho,ay,aS,aj⟩:=h.five;refine⟨?_,?_⟩
 ·constructor <;> simp[q,h2,ae,hb,ho,ay,aS,aj]
 ·simp[q,h2,ae,hb,ho,ay,aS,aj]
theorem B6 (hk:P.kd=1) (h:c.Of P) (h2:c.op=1) (ae:c.ph=2):Vw (c.step l).1 3 0 c.A (l.getD (2+c.A.toNat) 0%2) c.used c.rc∧(c.step l).2=l:=by
 have q:=h.kd.trans hk;obtain⟨hb,ho,ay,aS,aj⟩:=h.five;refine⟨?_,?_⟩
 ·constructor <;> simp[q,h2,ae,hb,ho,ay,aS,aj]
 ·simp[q,h2,ae,hb,ho,ay,aS,aj]
theorem B7 (hk:P.kd=1) (h:c.Of P) (h2:c.op=1) (ae:c.ph=3) (hi:c.i<P.wd):(c.step l).2=l∧(c.i+1<P.wd∧Vw (c.step l).1 3 (c.i+1) c.A c.B c.used (c.rc++[l.getD (4+(2*c.A+c.B).toNat*P.wd+c.i) 0])∨P.wd=c.i+1∧(c.step l).1.over=true∧(c.step l).1.code=0∧(c.step l).1.rc=(c.rc++[l.getD (4+(2*c.A+c.B).toNat*P.wd+c.i) 0])):=by
 have q:=h.kd.trans hk;obtain⟨hb,ho,ay,aS,aj⟩:=h.five;refine⟨?_,?_⟩
 ·simp[q,h2,ae,hb,ho,ay,aS,aj]
 ·by_cases e:P.wd≤c.i+1
  ·refine .inr ⟨by omega,?_⟩;refine⟨?_,?_,?_⟩ <;> simp[q,h2,ae,hb,ho,ay,aS,aj,e]
  ·refine .inl ⟨by omega,?_⟩
   constructor <;> simp[q,h2,ae,hb,ho,ay,aS,aj,e]
theorem BP (hk:P.kd=2) (h:c.Of P) (h2:c.op=2) (ae:c.ph=0):Vw (c.step l).1 1 0 (l.getD 0 0) c.B c.used c.rc∧(c.step l).2=l:=by
 have q:=h.kd.trans hk;obtain⟨hb,ho,ay,aS,aj⟩:=h.five;refine⟨?_,?_⟩
 ·constructor <;> simp[q,h2,ae,hb,ho,ay,aS,aj]
 ·simp[q,h2,ae,hb,ho,ay,aS,aj]
theorem BQ (hk:P.kd=2) (h:c.Of P) (h2:c.op=2) (ae:c.ph=1) (hi:c.i+1<P.nr):Vw (c.step l).1 1 (c.i+1) c.A c.B (fun k=>c.used k || decide ((k:Int)=min (l.getD (1+c.i) 0) 20)) c.rc∧(c.step l).2=l:=by
 have q:=h.kd.trans hk;obtain⟨hb,ho,ay,aS,aj⟩:=h.five;refine⟨?_,?_⟩
 ·constructor <;> simp[q,h2,ae,hb,ho,ay,aS,aj,Kc.mark,Nat.not_le.2 hi]
 ·simp[q,h2,ae,hb,ho,ay,aS,aj,Kc.mark,Nat.not_le.2 hi]
theorem x7 (hk:P.kd=2) (h:c.Of P) (h2:c.op=2) (ae:c.ph=1) (hi:P.nr≤c.i+1):Vw (c.step l).1 2 0 c.A (iM (fun k=>(fun k=>c.used k || decide ((k:Int)=min (l.getD (1+c.i) 0) 20)) k || decide ((k:Int)=min (c.A) 20))) (fun k=>(fun k=>c.used k || decide ((k:Int)=min (l.getD (1+c.i) 0) 20)) k || decide ((k:Int)=min (c.A) 20)) c.rc∧(c.step l).2=l:=by
 have q:=h.kd.trans hk;obtain⟨hb,ho,ay,aS,aj⟩:=h.five;refine⟨?_,?_⟩
 ·constructor <;> simp[q,h2,ae,hb,ho,ay,aS,aj,Kc.mark,Kc.free,iM,hi]
 ·simp[q,h2,ae,hb,ho,ay,aS,aj,Kc.mark,Kc.free,iM,hi]
theorem BR (hk:P.kd=2) (h:c.Of P) (h2:c.op=2) (ae:c.ph=2) (hi:c.i<P.wd):(c.step l).2=l.set (1+P.nr+c.B.toNat*P.wd+c.i) (c.rc.getD c.i 0)∧(c.i+1<P.wd∧Vw (c.step l).1 2 (c.i+1) c.A c.B c.used c.rc∨P.wd=c.i+1∧Vw (c.step l).1 3 0 c.A c.B c.used c.rc):=by
 have q:=h.kd.trans hk;obtain⟨hb,ho,ay,aS,aj⟩:=h.five;refine⟨?_,?_⟩
 ·simp[q,h2,ae,hb,ho,ay,aS,aj]
 ·by_cases e:P.wd≤c.i+1
  ·refine .inr ⟨by omega,?_⟩
   constructor <;> simp[q,h2,ae,hb,ho,ay,aS,aj,e]
  ·refine .inl ⟨by omega,?_⟩
   constructor <;> simp[q,h2,ae,hb,ho,ay,aS,aj,e]
theorem BS (hk:P.kd=2) (h:c.Of P) (h2:c.op=2) (ae:c.ph=3):Vw (c.step l).1 4 0 c.A c.B c.used c.rc∧(c.step l).2=l.set 0 c.B:=by
 have q:=h.kd.trans hk;obtain⟨hb,ho,ay,aS,aj⟩:=h.five;refine⟨?_,?_⟩
 ·constructor <;> simp[q,h2,ae,hb,ho,ay,aS,aj]
 ·simp[q,h2,ae,hb,ho,ay,aS,aj]
theorem BT (hk:P.kd=2) (h:c.Of P) (h2:c.op=2) (ae:c.ph=4) (hi:c.i+1<P.nr):Vw (c.step l).1 4 (c.i+1) c.A c.B c.used c.rc∧(c.step l).2=if l.getD (1+c.i) 0=(P.nr+2:Int) then l.set (1+c.i) c.B else l:=by
 have q:=h.kd.trans hk;obtain⟨hb,ho,ay,aS,aj⟩:=h.five;refine⟨?_,?_⟩
 ·constructor <;> simp[q,h2,ae,hb,ho,ay,aS,aj,Nat.not_le.2 hi]
 ·simp[q,h2,ae,hb,ho,ay,aS,aj,Nat.not_le.2 hi]
theorem x8 (hk:P.kd=2) (h:c.Of P) (h2:c.op=2) (ae:c.ph=4) (hi:P.nr≤c.i+1):(c.step l).1.over=true∧(c.step l).1.code=0∧(c.step l).1.rc=[]∧(c.step l).2=if l.getD (1+c.i) 0=(P.nr+2:Int) then l.set (1+c.i) c.B else l:=by
 have q:=h.kd.trans hk;obtain⟨hb,ho,ay,aS,aj⟩:=h.five;refine⟨?_,?_,?_,?_⟩ <;> simp[q,h2,ae,hb,ho,ay,aS,aj,hi]
theorem BK (hk:P.kd=2) (h:c.Of P) (h2:c.op=1) (ae:c.ph=0):Vw (c.step l).1 1 0 c.A c.B c.used c.rc∧(c.step l).2=l.set (1+c.rd) (P.nr+2:Int):=by
 have q:=h.kd.trans hk;obtain⟨hb,ho,ay,aS,aj⟩:=h.five;refine⟨?_,?_⟩
 ·constructor <;> simp[q,h2,ae,hb,ho,ay,aS,aj]
 ·simp[q,h2,ae,hb,ho,ay,aS,aj]
theorem BL (hk:P.kd=2) (h:c.Of P) (h2:c.op=1) (ae:c.ph=1):Vw (c.step l).1 2 0 (l.getD 0 0) c.B c.used c.rc∧(c.step l).2=l:=by
 have q:=h.kd.trans hk;obtain⟨hb,ho,ay,aS,aj⟩:=h.five;refine⟨?_,?_⟩
 ·constructor <;> simp[q,h2,ae,hb,ho,ay,aS,aj]
 ·simp[q,h2,ae,hb,ho,ay,aS,aj]
theorem BM (hk:P.kd=2) (h:c.Of P) (h2:c.op=1) (ae:c.ph=2):Vw (c.step l).1 3 0 c.A c.B c.used c.rc∧(c.step l).2=if l.getD (1+c.rd) 0=(P.nr+2:Int) then l.set (1+c.rd) c.A else l:=by
 have q:=h.kd.trans hk;obtain⟨hb,ho,ay,aS,aj⟩:=h.five;refine⟨?_,?_⟩
 ·constructor <;> simp[q,h2,ae,hb,ho,ay,aS,aj]
 ·simp[q,h2,ae,hb,ho,ay,aS,aj]
theorem BN (hk:P.kd=2) (h:c.Of P) (h2:c.op=1) (ae:c.ph=3):Vw (c.step l).1 4 0 c.A (l.getD (1+c.rd) 0%(P.nr+2:Int)) c.used c.rc∧(c.step l).2=l:=by
 have q:=h.kd.trans hk;obtain⟨hb,ho,ay,aS,aj⟩:=h.five;refine⟨?_,?_⟩
 ·constructor <;> simp[q,h2,ae,hb,ho,ay,aS,aj]
 ·simp[q,h2,ae,hb,ho,ay,aS,aj]
theorem BO (hk:P.kd=2) (h:c.Of P) (h2:c.op=1) (ae:c.ph=4) (hi:c.i<P.wd):(c.step l).2=l∧(c.i+1<P.wd∧Vw (c.step l).1 4 (c.i+1) c.A c.B c.used (c.rc++[l.getD (1+P.nr+c.B.toNat*P.wd+c.i) 0])∨P.wd=c.i+1∧(c.step l).1.over=true∧(c.step l).1.code=0∧(c.step l).1.rc=(c.rc++[l.getD (1+P.nr+c.B.toNat*P.wd+c.i) 0])):=by
 have q:=h.kd.trans hk;obtain⟨hb,ho,ay,aS,aj⟩:=h.five;refine⟨?_,?_⟩
 ·simp[q,h2,ae,hb,ho,ay,aS,aj]
 ·by_cases e:P.wd≤c.i+1
  ·refine .inr ⟨by omega,?_⟩;refine⟨?_,?_,?_⟩ <;> simp[q,h2,ae,hb,ho,ay,aS,aj,e]
  ·refine .inl ⟨by omega,?_⟩
   constructor <;> simp[q,h2,ae,hb,ho,ay,aS,aj,e]
theorem Fd (hk:P.kd=5) (h:c.Of P) (h2:c.op=2) (ae:c.ph=0):Vw (c.step l).1 1 0 (l.getD 0 0%P.sl) c.B c.used c.rc∧(c.step l).2=l:=by
 have q:=h.kd.trans hk;obtain⟨hb,ho,ay,aS,aj⟩:=h.five;refine⟨?_,?_⟩
 ·constructor <;> simp[q,h2,ae,hb,ho,ay,aS,aj]
 ·simp[q,h2,ae,hb,ho,ay,aS,aj]
theorem Fe (hk:P.kd=5) (h:c.Of P) (h2:c.op=2) (ae:c.ph=1) (hz:0<l.getD (1+c.i) 0) (hi:c.i+1<P.nr):Vw (c.step l).1 1 (c.i+1) c.A c.B (fun k=>c.used k || decide ((k:Int)=min (l.getD (1+c.i) 0 - 1) 20)) c.rc∧(c.step l).2=l:=by
 have q:=h.kd.trans hk;obtain⟨hb,ho,ay,aS,aj⟩:=h.five;refine⟨?_,?_⟩
 ·constructor <;> simp[q,h2,ae,hb,ho,ay,aS,aj,Kc.mark,hz,Nat.not_le.2 hi]
 ·simp[q,h2,ae,hb,ho,ay,aS,aj,Kc.mark,hz,Nat.not_le.2 hi]
theorem BI (hk:P.kd=5) (h:c.Of P) (h2:c.op=2) (ae:c.ph=1) (hz:0<l.getD (1+c.i) 0) (hi:P.nr≤c.i+1):Vw (c.step l).1 2 0 c.A (iM (fun k=>(fun k=>c.used k || decide ((k:Int)=min (l.getD (1+c.i) 0 - 1) 20)) k || decide ((k:Int)=min (c.A) 20))) (fun k=>(fun k=>c.used k || decide ((k:Int)=min (l.getD (1+c.i) 0 - 1) 20)) k || decide ((k:Int)=min (c.A) 20)) c.rc∧(c.step l).2=l:=by
 have q:=h.kd.trans hk;obtain⟨hb,ho,ay,aS,aj⟩:=h.five;refine⟨?_,?_⟩
 ·constructor <;> simp[q,h2,ae,hb,ho,ay,aS,aj,Kc.mark,hz,Kc.free,iM,hi]
 ·simp[q,h2,ae,hb,ho,ay,aS,aj,Kc.mark,hz,Kc.free,iM,hi]
theorem BJ (hk:P.kd=5) (h:c.Of P) (h2:c.op=2) (ae:c.ph=1) (hz:¬ 0<l.getD (1+c.i) 0) (hi:c.i+1<P.nr):Vw (c.step l).1 1 (c.i+1) c.A c.B c.used c.rc∧(c.step l).2=l:=by
 have q:=h.kd.trans hk;obtain⟨hb,ho,ay,aS,aj⟩:=h.five;refine⟨?_,?_⟩
 ·constructor <;> simp[q,h2,ae,hb,ho,ay,aS,aj,Kc.mark,hz,Nat.not_le.2 hi]
 ·simp[q,h2,ae,hb,ho,ay,aS,aj,Kc.mark,hz,Nat.not_le.2 hi]
theorem xZ (hk:P.kd=5) (h:c.Of P) (h2:c.op=2) (ae:c.ph=1) (hz:¬ 0<l.getD (1+c.i) 0) (hi:P.nr≤c.i+1):Vw (c.step l).1 2 0 c.A (iM (fun k=>c.used k || decide ((k:Int)=min (c.A) 20))) (fun k=>c.used k || decide ((k:Int)=min (c.A) 20)) c.rc∧(c.step l).2=l:=by
 have q:=h.kd.trans hk;obtain⟨hb,ho,ay,aS,aj⟩:=h.five;refine⟨?_,?_⟩
 ·constructor <;> simp[q,h2,ae,hb,ho,ay,aS,aj,Kc.mark,hz,Kc.free,iM,hi]
 ·simp[q,h2,ae,hb,ho,ay,aS,aj,Kc.mark,hz,Kc.free,iM,hi]
theorem Ff (hk:P.kd=5) (h:c.Of P) (h2:c.op=2) (ae:c.ph=2) (hi:c.i<P.wd):(c.step l).2=l.set (1+P.nr+c.B.toNat*P.wd+c.i) (c.rc.getD c.i 0)∧(c.i+1<P.wd∧Vw (c.step l).1 2 (c.i+1) c.A c.B c.used c.rc∨P.wd=c.i+1∧Vw (c.step l).1 3 0 c.A c.B c.used c.rc):=by
 have q:=h.kd.trans hk;obtain⟨hb,ho,ay,aS,aj⟩:=h.five;refine⟨?_,?_⟩
 ·simp[q,h2,ae,hb,ho,ay,aS,aj]
 ·by_cases e:P.wd≤c.i+1
  ·refine .inr ⟨by omega,?_⟩
   constructor <;> simp[q,h2,ae,hb,ho,ay,aS,aj,e]
  ·refine .inl ⟨by omega,?_⟩
   constructor <;> simp[q,h2,ae,hb,ho,ay,aS,aj,e]
theorem Fg (hk:P.kd=5) (h:c.Of P) (h2:c.op=2) (ae:c.ph=3):(c.step l).1.over=true∧(c.step l).1.code=0∧(c.step l).1.rc=[]∧(c.step l).2=l.set 0 c.B:=by
 have q:=h.kd.trans hk;obtain⟨hb,ho,ay,aS,aj⟩:=h.five;refine⟨?_,?_,?_,?_⟩ <;> simp[q,h2,ae,hb,ho,ay,aS,aj]
theorem E8 (hk:P.kd=5) (h:c.Of P) (h2:c.op=1) (ae:c.ph=0):Vw (c.step l).1 1 0 (l.getD 0 0%P.sl) c.B c.used c.rc∧(c.step l).2=l:=by
 have q:=h.kd.trans hk;obtain⟨hb,ho,ay,aS,aj⟩:=h.five;refine⟨?_,?_⟩
 ·constructor <;> simp[q,h2,ae,hb,ho,ay,aS,aj]
 ·simp[q,h2,ae,hb,ho,ay,aS,aj]
theorem E9 (hk:P.kd=5) (h:c.Of P) (h2:c.op=1) (ae:c.ph=1):Vw (c.step l).1 2 0 c.A c.B c.used c.rc∧(c.step l).2=l.set (1+c.rd) ((c.A+1)%4294967296):=by
 have q:=h.kd.trans hk;obtain⟨hb,ho,ay,aS,aj⟩:=h.five;refine⟨?_,?_⟩
 ·constructor <;> simp[q,h2,ae,hb,ho,ay,aS,aj]
 ·simp[q,h2,ae,hb,ho,ay,aS,aj]
theorem Fa (hk:P.kd=5) (h:c.Of P) (h2:c.op=1) (ae:c.ph=2) (he:l.getD 0 0%P.sl=c.A):Vw (c.step l).1 3 0 c.A c.B c.used c.rc∧(c.step l).2=l:=by
 have q:=h.kd.trans hk;obtain⟨hb,ho,ay,aS,aj⟩:=h.five;refine⟨?_,?_⟩
 ·constructor <;> simp[q,h2,ae,hb,ho,ay,aS,aj,he]
 ·simp[q,h2,ae,hb,ho,ay,aS,aj,he]
theorem BH (hk:P.kd=5) (h:c.Of P) (h2:c.op=1) (ae:c.ph=2) (he:¬ l.getD 0 0%P.sl=c.A):(c.step l).2=l∧(Vw (c.step l).1 4 0 c.A 1 c.used []∨Vw (c.step l).1 0 0 c.A c.B c.used []):=by
 have q:=h.kd.trans hk;obtain⟨hb,ho,ay,aS,aj⟩:=h.five;refine⟨?_,?_⟩
 ·simp[q,h2,ae,hb,ho,ay,aS,aj,he]
 ·by_cases e:c.cap≤c.tr+1
  ·refine .inl ?_
   constructor <;> simp[q,h2,ae,hb,ho,ay,aS,aj,he,e]
  ·refine .inr ?_
   constructor <;> simp[q,h2,ae,hb,ho,ay,aS,aj,he,e]
theorem Fb (hk:P.kd=5) (h:c.Of P) (h2:c.op=1) (ae:c.ph=3) (hi:c.i<P.wd):(c.step l).2=l∧(c.i+1<P.wd∧Vw (c.step l).1 3 (c.i+1) c.A c.B c.used (c.rc++[l.getD (1+P.nr+c.A.toNat*P.wd+c.i) 0])∨P.wd=c.i+1∧Vw (c.step l).1 4 0 c.A c.B c.used (c.rc++[l.getD (1+P.nr+c.A.toNat*P.wd+c.i) 0])):=by
 have q:=h.kd.trans hk;obtain⟨hb,ho,ay,aS,aj⟩:=h.five;refine⟨?_,?_⟩
 ·simp[q,h2,ae,hb,ho,ay,aS,aj]
 ·by_cases e:P.wd≤c.i+1
  ·refine .inr ⟨by omega,?_⟩
   constructor <;> simp[q,h2,ae,hb,ho,ay,aS,aj,e]
  ·refine .inl ⟨by omega,?_⟩
   constructor <;> simp[q,h2,ae,hb,ho,ay,aS,aj,e]
theorem Fc (hk:P.kd=5) (h:c.Of P) (h2:c.op=1) (ae:c.ph=4):(c.step l).1.over=true∧(c.step l).1.code=c.B∧(c.step l).1.rc=(if c.B=0 then c.rc else [])∧(c.step l).2=l.set (1+c.rd) 0:=by
 have q:=h.kd.trans hk;obtain⟨hb,ho,ay,aS,aj⟩:=h.five;refine⟨?_,?_,?_,?_⟩ <;> simp[q,h2,ae,hb,ho,ay,aS,aj,ite_not]
theorem BY (hk:P.kd=6) (h:c.Of P) (h2:c.op=3) (ae:c.ph=0):Vw (c.step l).1 1 0 (l.getD 1 0%(2*P.sl:Int)) c.B c.used c.rc∧(c.step l).2=l:=by
 have q:=h.kd.trans hk;obtain⟨hb,ho,ay,aS,aj⟩:=h.five;refine⟨?_,?_⟩
 ·constructor <;> simp[q,h2,ae,hb,ho,ay,aS,aj]
 ·simp[q,h2,ae,hb,ho,ay,aS,aj]
theorem ya (hk:P.kd=6) (h:c.Of P) (h2:c.op=3) (ae:c.ph=1) (he:(P.sl:Int)≤Kc.gap (l.getD 0 0%(2*P.sl:Int)) c.A (2*P.sl:Int)):(c.step l).1.over=true∧(c.step l).1.code=2∧(c.step l).1.rc=[]∧(c.step l).2=l:=by
 have q:=h.kd.trans hk;obtain⟨hb,ho,ay,aS,aj⟩:=h.five;refine⟨?_,?_,?_,?_⟩ <;> simp[q,h2,ae,hb,ho,ay,aS,aj,he]
theorem BZ (hk:P.kd=6) (h:c.Of P) (h2:c.op=3) (ae:c.ph=1) (he:¬ (P.sl:Int)≤Kc.gap (l.getD 0 0%(2*P.sl:Int)) c.A (2*P.sl:Int)):Vw (c.step l).1 2 0 c.A c.B c.used c.rc∧(c.step l).2=l:=by
 have q:=h.kd.trans hk;obtain⟨hb,ho,ay,aS,aj⟩:=h.five;refine⟨?_,?_⟩
 ·constructor <;> simp[q,h2,ae,hb,ho,ay,aS,aj,he]
 ·simp[q,h2,ae,hb,ho,ay,aS,aj,he]
theorem B2 (hk:P.kd=6) (h:c.Of P) (h2:c.op=3) (ae:c.ph=2) (hi:c.i<P.wd):(c.step l).2=l.set (2+(c.A%P.sl).toNat*P.wd+c.i) (c.rc.getD c.i 0)∧(c.i+1<P.wd∧Vw (c.step l).1 2 (c.i+1) c.A c.B c.used c.rc∨P.wd=c.i+1∧Vw (c.step l).1 3 0 c.A c.B c.used c.rc):=by
 have q:=h.kd.trans hk;obtain⟨hb,ho,ay,aS,aj⟩:=h.five;refine⟨?_,?_⟩
 ·simp[q,h2,ae,hb,ho,ay,aS,aj]
 ·by_cases e:P.wd≤c.i+1
  ·refine .inr ⟨by omega,?_⟩
   constructor <;> simp[q,h2,ae,hb,ho,ay,aS,aj,e]
  ·refine .inl ⟨by omega,?_⟩
   constructor <;> simp[q,h2,ae,hb,ho,ay,aS,aj,e]
theorem B3 (hk:P.kd=6) (h:c.Of P) (h2:c.op=3) (ae:c.ph=3):(c.step l).1.over=true∧(c.step l).1.code=0∧(c.step l).1.rc=[]∧(c.step l).2=l.set 1 (Kc.inc c.A (2*P.sl:Int)):=by
 have q:=h.kd.trans hk;obtain⟨hb,ho,ay,aS,aj⟩:=h.five;refine⟨?_,?_,?_,?_⟩ <;> simp[q,h2,ae,hb,ho,ay,aS,aj]
theorem BU (hk:P.kd=6) (h:c.Of P) (h2:c.op=4) (ae:c.ph=0):Vw (c.step l).1 1 0 (l.getD 0 0%(2*P.sl:Int)) c.B c.used c.rc∧(c.step l).2=l:=by
 have q:=h.kd.trans hk;obtain⟨hb,ho,ay,aS,aj⟩:=h.five;refine⟨?_,?_⟩
 ·constructor <;> simp[q,h2,ae,hb,ho,ay,aS,aj]
 ·simp[q,h2,ae,hb,ho,ay,aS,aj]
theorem x9 (hk:P.kd=6) (h:c.Of P) (h2:c.op=4) (ae:c.ph=1) (he:l.getD 1 0%(2*P.sl:Int)=c.A):(c.step l).1.over=true∧(c.step l).1.code=3∧(c.step l).1.rc=[]∧(c.step l).2=l:=by
 have q:=h.kd.trans hk;obtain⟨hb,ho,ay,aS,aj⟩:=h.five;refine⟨?_,?_,?_,?_⟩ <;> simp[q,h2,ae,hb,ho,ay,aS,aj,he]
theorem BV (hk:P.kd=6) (h:c.Of P) (h2:c.op=4) (ae:c.ph=1) (he:¬ l.getD 1 0%(2*P.sl:Int)=c.A):Vw (c.step l).1 2 0 c.A c.B c.used c.rc∧(c.step l).2=l:=by
 have q:=h.kd.trans hk;obtain⟨hb,ho,ay,aS,aj⟩:=h.five;refine⟨?_,?_⟩
 ·constructor <;> simp[q,h2,ae,hb,ho,ay,aS,aj,he]
 ·simp[q,h2,ae,hb,ho,ay,aS,aj,he]
theorem BW (hk:P.kd=6) (h:c.Of P) (h2:c.op=4) (ae:c.ph=2) (hi:c.i<P.wd):(c.step l).2=l∧(c.i+1<P.wd∧Vw (c.step l).1 2 (c.i+1) c.A c.B c.used (c.rc++[l.getD (2+(c.A%P.sl).toNat*P.wd+c.i) 0])∨P.wd=c.i+1∧Vw (c.step l).1 3 0 c.A c.B c.used (c.rc++[l.getD (2+(c.A%P.sl).toNat*P.wd+c.i) 0])):=by
 have q:=h.kd.trans hk;obtain⟨hb,ho,ay,aS,aj⟩:=h.five;refine⟨?_,?_⟩
 ·simp[q,h2,ae,hb,ho,ay,aS,aj]
 ·by_cases e:P.wd≤c.i+1
  ·refine .inr ⟨by omega,?_⟩
   constructor <;> simp[q,h2,ae,hb,ho,ay,aS,aj,e]
  ·refine .inl ⟨by omega,?_⟩
   constructor <;> simp[q,h2,ae,hb,ho,ay,aS,aj,e]
theorem BX (hk:P.kd=6) (h:c.Of P) (h2:c.op=4) (ae:c.ph=3):(c.step l).1.over=true∧(c.step l).1.code=0∧(c.step l).1.rc=c.rc∧(c.step l).2=l.set 0 (Kc.inc c.A (2*P.sl:Int)):=by
 have q:=h.kd.trans hk;obtain⟨hb,ho,ay,aS,aj⟩:=h.five;refine⟨?_,?_,?_,?_⟩ <;> simp[q,h2,ae,hb,ho,ay,aS,aj]
end
end Go.Proofs.YtabfcjohdgjkoaaGreatDoor
