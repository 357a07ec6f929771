/- weave.Bound. -/
import Derived.Test.YtolmpehgeinlkaaGreatDoorZcWm
import Derived.Deep.DeepCutAuto
namespace Go.Proofs.YtolmpehgeinlkaaGreatDoor
def kS (o:Ob) (t:Td):Nat:=(bI o t.op).toNat
def qG:Option Kc→Nat
 | none=>0
 | some c=>c.left
def mI (o:Ob) (p:Pr):Nat:=qG p.op+(p.left.map (kS o)).sum
def gc (o:Ob) (L:Lm):Nat:=(L.ps.map (mI o)).sum
def kZ (L:Lm):Nat:=(L.ps.map fun p=>p.left.length).sum
theorem pM {α:Type} (f:α→Nat):∀ (l:List α) (k:Nat) (x y:α),l[k]?=some x→((l.set k y).map f).sum+f x=(l.map f).sum+f y
 | [],_,_,_,h=>by simp at h
 | a::l,0,x,y,h=>by
  obtain rfl:a=x:=by simpa using h
  simp only[List.set_cons_zero,List.map_cons,List.sum_cons];omega
 | a::l,k+1,x,y,h=>by
  have ih:=pM f l k x y (by simpa using h);simp only[List.set_cons_succ,List.map_cons,List.sum_cons];omega
theorem BS {o:Ob} {k:Nat} {t:Td} (h:cZ o 0 t.op (pU k) t.r.length=0) (hI:Kc.Inv (cK o k t)):(cK o k t).left≤kS o t:=by
 have h1:=uz h;have h2:(cK o k t).left≤Kc.most o.k o.wd.toNat o.nr o.c.toNat t.op:=Kc.left_start (kd:=o.k) hI.sta.cap1;unfold kS;omega
structure Lm.Fin (o:Ob) (T n:Nat) (L:Lm):Prop where
 good:∃ j,L.Good o j
 cl:L.calls.length+kZ L=T
 now:L.now+gc o L≤n
 ends:∀ (i:Nat) (x:Cl),L.calls[i]?=some x→(0≤x.e∧x.e<(L.now:Int))∨∃ (k:Nat) (p:Pr) (c:Kc),L.ps[k]?=some p∧p.op=some c∧c.over=false∧p.call=i
theorem Lm.Fin.one {o:Ob} {T n k:Nat} {L L':Lm} {p:Pr} (h:L.Fin o T n) (hw:W32 L.mem) (hp:L.ps[k]?=some p) (h1:Lm.one (cK o) Kc.step L k p=some L'):L'.Fin o T n∧gc o L'<gc o L:=by
 obtain⟨j,hg⟩:=h.good;have Hr:=(hg.one hw hp h1).1;obtain⟨L1,ts,c,q,hb,rfl⟩:=Lm.one_some h1;obtain⟨c',JM,bX,hinv,iG,dt,ld,IZ,fq⟩:=Lm.beg_op hg.inv hp hb;cases JM;have Na:=(Kc.left_step (l:=L1.mem) bX hinv.sta.wd1 hinv.sta.nr1 hinv.sta.cap1).1;have hk:=(List.getElem?_eq_some_iff.1 hp).1;have Nl:∀ d:Kc,d.over=true→d.left=0:=fun d e=>Kc.left_zero.2 e
 obtain⟨e1,e2,e3,e4⟩:(Lm.go Kc.step L1 k ⟨ts,some c,q⟩ c).ps=L.ps.set k ⟨ts,some (c.step L1.mem).1,q⟩∧qG (some c)+(ts.map (kS o)).sum≤mI o p∧L1.calls.length+ts.length=L.calls.length+p.left.length∧L1.now=L.now:=by
  rcases Lm.beg_some hb with ⟨rfl,rfl⟩ | ⟨t,ts',hl,Fk,rfl⟩
  ·exact⟨rfl,Nat.le_refl _,rfl,rfl⟩
  ·cases Fk;refine⟨?_,?_,?_,rfl⟩
   ·show(L.ps.set k _).set k _=_;rw[List.set_set]
   ·obtain⟨am,bu,_,_⟩:=hg.inv.left k p t hp (by rw[hl];exact List.mem_cons_self);have:=BS (hg.left k p hp t (by rw[hl];exact List.mem_cons_self)).1 am;unfold mI;rw[hl];simp only[List.map_cons,List.sum_cons,qG];omega
   ·rw[hl];simp only[List.length_append,List.length_cons,List.length_nil];omega
 have rS:(Lm.go Kc.step L1 k ⟨ts,some c,q⟩ c).calls.length=L1.calls.length:=by
  unfold Lm.go;dsimp only
  split
  ·rw[List.length_modify]
  ·rfl
 have mj:(Lm.go Kc.step L1 k ⟨ts,some c,q⟩ c).now=L.now+1:=by show L1.now+1=_;rw[e4]
 have s1:=pM (mI o) L.ps k p ⟨ts,some (c.step L1.mem).1,q⟩ hp;have s2:=pM (fun p:Pr=>p.left.length) L.ps k p ⟨ts,some (c.step L1.mem).1,q⟩ hp;have f1:mI o ⟨ts,some (c.step L1.mem).1,q⟩=(c.step L1.mem).1.left+(ts.map (kS o)).sum:=rfl;have f2:qG (some c)=c.left:=rfl;have t1:gc o (Lm.go Kc.step L1 k ⟨ts,some c,q⟩ c)=((L.ps.set k ⟨ts,some (c.step L1.mem).1,q⟩).map (mI o)).sum:=by unfold gc;rw[e1]
 have t2:kZ (Lm.go Kc.step L1 k ⟨ts,some c,q⟩ c)=((L.ps.set k ⟨ts,some (c.step L1.mem).1,q⟩).map fun p=>p.left.length).sum:=by unfold kZ;rw[e1]
 have t3:gc o L=(L.ps.map (mI o)).sum:=rfl;have t4:kZ L=(L.ps.map fun p=>p.left.length).sum:=rfl;have Aj:=h.now;have Ki:=h.cl;dsimp only at s2;refine⟨⟨⟨_,Hr⟩,by rw[rS,t2];omega,by rw[mj,t1];omega,fun i x hx=>?_⟩,by rw[t1,t3];omega⟩;rw[mj,e1]
 have hin:∀ (i:Nat) (x:Cl),L1.calls[i]?=some x→(0≤x.e∧x.e<(L.now:Int))∨i=q∨∃ (k':Nat) (p':Pr) (c':Kc),k'≠k∧L.ps[k']?=some p'∧p'.op=some c'∧c'.over=false∧p'.call=i:=fun i x hx=>by
  rcases Lm.beg_some hb with ⟨rfl,rfl⟩ | ⟨t,ts',hl,Fk,rfl⟩
  ·rcases h.ends i x hx with r | ⟨k',p',c',r1,r2,r3,r4⟩
   ·exact .inl r
   ·by_cases e:k'=k
    ·subst e;rw[hp] at r1;cases r1;exact .inr (.inl r4.symm)
    ·exact .inr (.inr ⟨k',p',c',e,r1,r2,r3,r4⟩)
  ·cases Fk
   have hd:p.done=true:=by
    unfold Lm.beg at hb
    by_cases e:p.done=true
    ·exact e
    ·rw[if_neg e] at hb;have h2:=congrArg Prod.snd (Option.some.inj hb);dsimp only at h2;rw[h2] at hl;dsimp only at hl;have:=congrArg List.length hl;simp at this
   by_cases hi:i<L.calls.length
   ·have hx:(L.calls++_)[i]?=some x:=hx;rw[List.getElem?_append_left hi] at hx
    rcases h.ends i x hx with r | ⟨k',p',c',r1,r2,r3,r4⟩
    ·exact .inl r
    ·by_cases e:k'=k
     ·subst e;rw[hp] at r1;cases r1;unfold Pr.done at hd;rw[r2] at hd;have hd:c'.over=true:=hd;rw[r3] at hd;cases hd
     ·exact .inr (.inr ⟨k',p',c',e,r1,r2,r3,r4⟩)
   ·have:=(List.getElem?_eq_some_iff.1 hx).1;simp only[List.length_append,List.length_cons,List.length_nil] at this;exact .inr (.inl (by omega))
 have km:(L.ps.set k (⟨ts,some (c.step L1.mem).1,q⟩:Pr))[k]?=some ⟨ts,some (c.step L1.mem).1,q⟩:=by simp[hk]
 unfold Lm.go at hx;dsimp only at hx
 split at hx
 ·rename_i hov';rw[List.getElem?_modify] at hx;cases hy:L1.calls[i]? with
  | none=>rw[hy] at hx;cases hx
  | some y=>
   rw[hy] at hx;have hx:some (if q=i then gx k L1.now (c.step L1.mem).1 y else y)=some x:=hx
   by_cases e:q=i
   ·rw[if_pos e] at hx;cases hx;exact .inl ⟨by show(0:Int)≤(L1.now:Int);omega,by show(L1.now:Int)<_;rw[e4];omega⟩
   ·rw[if_neg e] at hx;cases hx
    rcases hin i _ hy with r | r | ⟨k',p',c',r0,r1,r2,r3,r4⟩
    ·exact .inl ⟨r.1,by omega⟩
    ·exact absurd r.symm e
    ·exact .inr ⟨k',p',c',by rw[List.getElem?_set_ne (Ne.symm r0)];exact r1,r2,r3,r4⟩
 ·rename_i hov'
  rcases hin i x hx with r | r | ⟨k',p',c',r0,r1,r2,r3,r4⟩
  ·exact .inl ⟨r.1,by omega⟩
  ·exact .inr ⟨k,_,_,km,rfl,by simpa using hov',r.symm⟩
  ·exact .inr ⟨k',p',c',by rw[List.getElem?_set_ne (Ne.symm r0)];exact r1,r2,r3,r4⟩
theorem Lm.turn_is {bg:Nat→Td→Kc} {st:Kc→List Int→Kc × List Int} {L L':Lm} {k:Int} (h:Lm.turn? bg st L k=some L'):Lm.turn bg st L k=L':=by unfold Lm.turn;rw[h];rfl
theorem Lm.turn_one {bg:Nat→Td→Kc} {st:Kc→List Int→Kc × List Int} {L L':Lm} {k:Int} (h:Lm.turn? bg st L k=some L'):∃ p,L.ps[k.toNat]?=some p∧Lm.one bg st L k.toNat p=some L':=by
 unfold Lm.turn? at h
 by_cases hk:k<0
 ·rw[if_pos hk] at h;cases h
 ·rw[if_neg hk] at h;cases hp:L.ps[k.toNat]? with
  | none=>rw[hp] at h;cases h
  | some p=>rw[hp] at h;exact⟨p,rfl,h⟩
theorem Lm.Fin.turn {o:Ob} {T n:Nat} {L L':Lm} {k:Int} (h:L.Fin o T n) (hw:W32 L.mem) (h1:Lm.turn? (cK o) Kc.step L k=some L'):L'.Fin o T n∧gc o L'<gc o L:=by
 obtain⟨p,hp,h2⟩:=Lm.turn_one h1;exact h.one hw hp h2
def iv (o:Ob) (k:Int):Nat→Lm→Lm
 | 0,L=>L
 | f+1,L=>match Lm.turn? (cK o) Kc.step L k with
  | some L'=>iv o k f L'
  | none=>L
theorem m7 {o:Ob} {k:Int} {f:Nat} {L L':Lm} (h:Lm.turn? (cK o) Kc.step L k=some L'):iv o k (f+1) L=iv o k f L':=by
 show(match Lm.turn? (cK o) Kc.step L k with | some L'=>iv o k f L' | none=>L)=_;rw[h]
theorem m8 {o:Ob} {k:Int} {f:Nat} {L:Lm} (h:Lm.turn? (cK o) Kc.step L k=none):iv o k f L=L:=by
 cases f with
 | zero=>rfl
 | succ f=>
  show(match Lm.turn? (cK o) Kc.step L k with | some L'=>iv o k f L' | none=>L)=_;rw[h]
def fO (o:Ob) (f:Nat):Nat→Lm→Lm
 | 0,L=>L
 | k+1,L=>iv o (k:Int) f (fO o f k L)
theorem Bs {o:Ob} {T n k:Nat} {L:Lm} {p:Pr} (h:L.Fin o T n) (hp:L.ps[k]?=some p) (h1:Lm.turn? (cK o) Kc.step L (k:Int)=none):p.done=true∧p.left=[]:=by
 obtain⟨j,hg⟩:=h.good;unfold Lm.turn? at h1;rw[if_neg (by omega),Int.toNat_natCast,hp] at h1;have h2:Lm.one (cK o) Kc.step L k p=none:=h1;cases hb:Lm.beg (cK o) L k p with
 | none=>
  unfold Lm.beg at hb
  by_cases e:p.done=true
  ·rw[if_pos e] at hb;cases hl:p.left with
   | nil=>exact⟨e,rfl⟩
   | cons t ts=>rw[hl] at hb;cases hb
  ·rw[if_neg e] at hb;cases hb
 | some r=>
  obtain⟨L1,p1⟩:=r;obtain⟨c,hc,_⟩:=Lm.beg_op hg.inv hp hb;obtain⟨ts,oc,q⟩:=p1;dsimp only at hc;subst hc;unfold Lm.one at h2;rw[hb] at h2;cases h2
open Go.RowKit
open Go.Lib (hid)
attribute [local go_sem] Oper.semAt_some
set_option maxHeartbeats 2000000
set_option maxRecDepth 100000
def gQ (ls:List (List Td)):Nat:=(ls.map List.length).sum
def dW (o:Ob) (ls:List (List Td)):Nat:=(ls.map fun l=>(l.map (kS o)).sum).sum
theorem Lm.Fin.start {o:Ob} {ls:List (List Td)} {m:List Int} (h:(gH ls m).Good o 0):(gH ls m).Fin o (gQ ls) (dW o ls):=by
 have e1:kZ (gH ls m)=gQ ls:=by unfold kZ gH gQ;rw[List.map_map];rfl
 have e2:gc o (gH ls m)=dW o ls:=by
  unfold gc gH dW;rw[List.map_map]
  congr 1
  apply List.map_congr_left;intro l _;show qG none+_=_;exact Nat.zero_add _
 exact⟨⟨0,h⟩,by rw[e1];exact Nat.zero_add _,by rw[e2];exact Nat.le_of_eq (Nat.zero_add _),fun i x hx=>by cases hx⟩
theorem Lm.Fin.any {o:Ob} {T n:Nat} {L:Lm} (h:L.Fin o T n) (hw:W32 L.mem) (k:Int):(Lm.turn (cK o) Kc.step L k).Fin o T n:=by
 cases h1:Lm.turn? (cK o) Kc.step L k with
 | none=>unfold Lm.turn;rw[h1];exact h
 | some L'=>rw[Lm.turn_is h1];exact(h.turn hw h1).1
theorem Lm.Fin.runs {o:Ob} {T n:Nat} {L0:Lm} {ks:List Int} (h:L0.Fin o T n) (hg:Lm.GoodTo o L0 ks ks.length):(Lm.run (cK o) Kc.step L0 ks).Fin o T n:=by
 have h1:∀ j,j≤ks.length→(Lm.run (cK o) Kc.step L0 (ks.take j)).Fin o T n:=fun j=>by
  induction j with
  | zero=>intro _;exact h
  | succ j ih=>
   intro hj;rw[Lm.run_snoc (List.getElem?_eq_getElem (show j<ks.length by omega))];refine(ih (by omega)).any ?_ _
   by_cases e:j<ks.length
   ·exact(hg j (by omega)).2.2 e
   ·omega
 have h2:=h1 ks.length (Nat.le_refl _);rw[List.take_length] at h2;exact h2
def Fdone (L:Lm) (k:Nat):Prop:=∀ (i:Nat) (p:Pr),i<k→L.ps[i]?=some p→p.done=true∧p.left=[]
theorem tu {bg:Nat→Td→Kc} {st:Kc→List Int→Kc × List Int} {L L':Lm} {k:Int} {i:Nat} (h:Lm.turn? bg st L k=some L') (hi:i≠k.toNat):L'.ps[i]?=L.ps[i]?:=by
 obtain⟨p,hp,h1⟩:=Lm.turn_one h;obtain⟨L1,ts,c,q,hb,rfl⟩:=Lm.one_some h1;show(L1.ps.set _ _)[i]?=_;rw[List.getElem?_set_ne (Ne.symm hi)]
 rcases Lm.beg_some hb with ⟨rfl,_⟩ | ⟨t,ts',_,_,rfl⟩
 ·rfl
 ·exact List.getElem?_set_ne (Ne.symm hi)
theorem Fdone.turn {o:Ob} {L L':Lm} {k:Nat} (h:Fdone L k) (h1:Lm.turn? (cK o) Kc.step L (k:Int)=some L'):Fdone L' k:=fun i p hi hp=>by
 rw[tu h1 (by rw[Int.toNat_natCast];omega)] at hp;exact h i p hi hp
theorem Fdone.next {o:Ob} {T n k:Nat} {L:Lm} (h:Fdone L k) (hF:L.Fin o T n) (h1:Lm.turn? (cK o) Kc.step L (k:Int)=none):Fdone L (k+1):=fun i p hi hp=>by
 by_cases e:i<k
 ·exact h i p e hp
 ·obtain rfl:i=k:=by omega
  exact Bs hF hp h1
theorem Lm.Fin.all {o:Ob} {T n:Nat} {L:Lm} (h:L.Fin o T n) (hd:Fdone L L.ps.length):L.calls.length=T∧∀ x ∈ L.calls,0≤x.e∧x.e<(n:Int):=by
 have hz:kZ L=0:=by
  unfold kZ
  have h1:∀ l:List Pr,(∀ p ∈ l,p.left=[])→(l.map fun p=>p.left.length).sum=0:=fun l=>by
   induction l with
   | nil=>intro _;rfl
   | cons a l ih=>
    intro hl;rw[List.map_cons,List.sum_cons,ih (fun p hp=>hl p (List.mem_cons_of_mem _ hp)),hl a List.mem_cons_self];rfl
  refine h1 _ fun p hp=>?_
  obtain⟨i,hi⟩:=List.getElem?_of_mem hp;exact(hd i p (List.getElem?_eq_some_iff.1 hi).1 hi).2
 refine⟨by have:=h.cl;omega,fun x hx=>?_⟩;obtain⟨i,hi⟩:=List.getElem?_of_mem hx;have hn:=h.now
 rcases h.ends i x hi with ⟨r1,r2⟩ | ⟨k,p,c,r1,r2,r3,_⟩
 ·exact⟨r1,by omega⟩
 ·have:=(hd k p (List.getElem?_eq_some_iff.1 r1).1 r1).1;unfold Pr.done at this;rw[r2] at this;have this:c.over=true:=this;rw[r3] at this;cases this
section
variable {N:Nat} {W:World} {o:Ob} {lb pb mb ml pc:Nat} {cv:Value} {tg:Nat→Nat} {L:Lm} {gs:List PG} {es:List CV} {w:World}
theorem vv {T n:Nat} (h:LoomS N W o lb pb mb ml pc cv tg L gs es w) (ho:o.Ok) (hF:L.Fin o T n) (xn:T≤1000) (iR:n≤1000000) (bA:L.ps.length≤1000) (hT:Tab64 W) (hG:(0:Nat)<N) (k:Int):
  Calls Tryz.prog 27 #[.pointer (some ⟨lb,0,none⟩),.int .i64 k] w (TurnR N W o lb pb mb ml pc L k):=by
 obtain⟨j,hg⟩:=hF.good
 by_cases hk:k<0∨(gs.length:Int)≤k
 ·exact oa h k hk
 ·obtain⟨i,rfl⟩:∃ i:Nat,k=i:=⟨k.toNat,by omega⟩;have hl:=h.len;have hc:=h.cx;have hn:=hF.cl;have hw:=hF.now;have D8:es.length=L.calls.length:=by rw[← hc,List.length_map]
  refine rq h ho i (by omega) (by omega) hg.inv hg.call hT hG (fun g e t ht=>?_) (by omega) (by omega);obtain⟨p,hp⟩:∃ p,L.ps[i]?=some p:=⟨_,List.getElem?_eq_getElem (by omega)⟩;exact hg.left i p hp t.td (by rw[(h.ps i g p e hp).left];exact List.mem_map_of_mem ht)
end
def ss (o:Ob) (gs:List PG) (m ks:List Int):Lm:=fO o (dW o (cg gs)) gs.length (Lm.run (cK o) Kc.step (gH (cg gs) m) ks)
def GU (o:Ob) (gs:List PG) (m ks:List Int) (w:World) (z:Ending) (w':World):Prop:=
 ∃ A c es,z=.returned (.tuple #[.slice A es.length c,.int .i64 0])∧(ss o gs m ks).Fin o (gQ (cg gs)) (dW o (cg gs))∧Fdone (ss o gs m ks) (ss o gs m ks).ps.length∧Lm.GoodTo o (gH (cg gs) m) ks ks.length∧es.map (·.x)=(ss o gs m ks).calls∧SlOf cvE w' w'.heap.size A es∧(∀ e ∈ es,Ws w' w'.heap.size e.A e.x.r)∧Below w.heap.size w w'
theorem E4 (o:Ob) (ho:o.Ok) (A B:Option Addr) (cap kn kc:Nat) (gs:List PG) (w:World) (hin:ProcsIn w w.heap.size A gs) (bA:gs.length≤1000) (dq:∀ g ∈ gs,g.ts.length≤1000) (hO:∀ g ∈ gs,∀ t ∈ g.ts,t.r.length≤1000) (hf:cy o (cg gs)≠0):
  Calls Tryz.prog 13 #[.agg (af o),.slice A gs.length cap,.slice B kn kc] w fun e w'=>e=.returned (.tuple #[.slice none 0 0,.int .i64 (cy o (cg gs))])∧Below w.heap.size w w':=by
 have hn:=RowB.new w (af o) 26;have hB:=bt w (.cells (af o) 26);unfold af at hn hB;have HB:=hid hB;have hr:=Ev o ho A B cap kn kc gs _ (hin.below hB hB.size) bA dq hO hf;unfold af at hr;obtain⟨fv,uG⟩:∃ x,cy o (cg gs)=x:=⟨_,rfl⟩;rw[uG] at hr hf ⊢;have HR:=hid hr;have d0:(fv != 0)=true:=by simpa using hf
 clear hn hB hr hf uG hin bA dq hO ho;unfold af;go_enter Tryz.func13,Tryz.ntmps13;go_wp2_with fail;refine HR.out.mono ?_;rintro e w1 ⟨rfl,hb⟩;have bT:=hid (HB.out.trans (hb.mono HB.out.size));clear hb;go_wp2_with fail;go_ret2;exact⟨rfl,bT.out⟩
theorem Ep (o:Ob) (ho:o.Ok) (A B:Option Addr) (cap kc:Nat) (gs:List PG) (l ks:List Int) (w:World) (hin:ProcsIn w w.heap.size A gs) (bA:gs.length≤1000) (dq:∀ g ∈ gs,g.ts.length≤1000) (hO:∀ g ∈ gs,∀ t ∈ g.ts,t.r.length≤1000) (hf:cy o (cg gs)=0)
  (hl:o.ni=l.length) (hI:Ws w w.heap.size o.I l) (hK:SlOf (bB .i64) w w.heap.size B ks) (wE:ks.length≤1000) (hT:Tab64 w) (hG:(0:Nat)<w.heap.size) (xn:gQ (cg gs)≤1000) (iR:dW o (cg gs)≤1000000):
  Calls Tryz.prog 13 #[.agg (af o),.slice A gs.length cap,.slice B ks.length kc] w (GU o gs (bW o l) ks w):=by
 obtain⟨hR,rV,_⟩:=eQ hf
 have mu:Lm.Good o 0 (gH (cg gs) (bW o l)):=Lm.Good.start hf (nf hR hl) (fun x hx t ht=>by
  unfold cg at hx;obtain⟨g,hg,rfl⟩:=List.mem_map.1 hx;obtain⟨u,hu,rfl⟩:=List.mem_map.1 ht;exact⟨hO g hg u hu,ft (hin.ws g hg u hu)⟩)
 have hn:=RowB.new w (af o) 26;have hB:=bt w (.cells (af o) 26);unfold af at hn hB;have HB:=hid hB;have Io:Tab64 (w.alloc (.cells #[.int .i64 o.k,.int .i64 o.wd,.int .i64 o.s,.int .i64 o.c,.int .u32 o.st,.slice o.I o.ni o.ci,.int .i64 o.wr,.slice o.R o.nr o.cr] 26)):=fun j hj=>(hB.cell (p:=⟨_,j,none⟩) hG).trans (hT j hj)
 have qh:=Nat.lt_of_lt_of_le hG hB.size;have hr:=xQ o ho A B cap kc gs l ks _ (hin.below hB hB.size) bA dq hO hf hl (hI.below hB hB.size) (hK.below hB hB.size) wE Io qh;unfold af at hr;have HR:=hid hr;have HC:=hid (And.intro ho (And.intro xn (And.intro iR (And.intro bA (And.intro Io qh)))));have zM:=hid mu;clear hn hr hf hin bA dq hO ho hl hI hK wE hT hG xn iR Io qh hR rV mu hB;unfold af;go_enter Tryz.func13,Tryz.ntmps13;go_wp2_with fail;generalize (w.alloc (.cells #[.int .i64 o.k,.int .i64 o.wd,.int .i64 o.s,.int .i64 o.c,.int .u32 o.st,.slice o.I o.ni o.ci,.int .i64 o.wr,.slice o.R o.nr o.cr] 26))=w0 at HB HR HC ⊢;refine HR.out.mono ?_;rintro e w1 ⟨lb,pb,mb,ml,pc,cv,tg,gs',es,rfl,EF,hL⟩;have IJ:=(Lm.Fin.start zM.out).runs EF;have oL:(Lm.run (cK o) Kc.step (gH (cg gs) (bW o l)) ks).ps.length=gs.length:=by rw[Lm.run_len];show((cg gs).map _).length=_;unfold cg;rw[List.length_map,List.length_map]
 have ye:=hid EF;obtain⟨LK,DF⟩:∃ x,Lm.run (cK o) Kc.step (gH (cg gs) (bW o l)) ks=x:=⟨_,rfl⟩;have I4:=hid DF;rw[DF] at hL IJ oL;have KI:=hid IJ;have Le:=hid hL;have LW:=hid oL;clear EF IJ hL oL DF HR;go_wp2_with fail
 go_loopw [23] (fun jv wq=>∃ i:Nat,i≤gs.length∧jv=.int .i64 (i:Int)∧∃ cv tg gs' es,LoomS w0.heap.size w0 o lb pb mb ml pc cv tg (fO o (dW o (cg gs)) i LK) gs' es wq∧(fO o (dW o (cg gs)) i LK).Fin o (gQ (cg gs)) (dW o (cg gs))∧Fdone (fO o (dW o (cg gs)) i LK) i∧(fO o (dW o (cg gs)) i LK).ps.length=gs.length) (fun jv _=>gs.length - (intOf jv).toNat)
 case atStart=>exact⟨0,Nat.zero_le _,rfl,cv,tg,gs',es,Le.out,KI.out,fun i p hi _=>absurd hi (by omega),LW.out⟩
 case round=>
  clear Le KI;obtain⟨i,hi,rfl,cv,tg,gs',es,hL,hF,hD,oL⟩:=hrel
  by_cases aZ:i<gs.length
  ·have hd:decide ((i:Int)<(gs.length:Int))=true:=decide_eq_true (by omega);have fZ:decide (i<gs.length)=true:=decide_eq_true aZ;have ub:IntKind.i64.wrap ((i:Int)+1)=(i:Int)+1:=ac (by omega) (by have:=HC.out.2.2.2.1;omega);have HL:=hid hL;have HF:=hid hF;have HD:=hid hD;have HP:=hid oL;have HI:=hid aZ;clear hL hF hD oL aZ hi;go_wp2_with fail
   go_loopg [] (dW o (cg gs)) (fun gk wq=>∃ L cv tg gs' es,LoomS w0.heap.size w0 o lb pb mb ml pc cv tg L gs' es wq∧L.Fin o (gQ (cg gs)) (dW o (cg gs))∧Fdone L i∧L.ps.length=gs.length∧gc o L≤gk∧iv o (i:Int) gk L=fO o (dW o (cg gs)) (i+1) LK)
   case atStart=>exact⟨_,cv,tg,gs',es,HL.out,HF.out,HD.out,HP.out,by have:=HF.out.now;omega,rfl⟩
   case round=>
    clear HL HF HD HP;obtain⟨L,cv,tg,gs',es,hL,hF,hD,oL,sU,xH⟩:=hrel;have HT:=hid (vv hL HC.out.1 hF HC.out.2.1 HC.out.2.2.1 (by rw[oL];exact HC.out.2.2.2.1) HC.out.2.2.2.2.1 HC.out.2.2.2.2.2 (i:Int));have iX:=hL.mem.w32;cases ht:Lm.turn? (cK o) Kc.step L (i:Int) with
    | none=>
     have HL:=hid hL;have HF:=hid hF;have HD:=hid (hD.next hF ht);have HP:=hid oL;have HX:=hid ((m8 ht).symm.trans xH);have zk:=hid ht;clear hL hF hD oL sU xH iX ht;go_wp2_with fail;refine HT.out.mono ?_;rintro e w2 ⟨rfl,cv1,tg1,gs1,es1,ii⟩;have e1:Lm.turn (cK o) Kc.step L (i:Int)=L:=by unfold Lm.turn;rw[zk.out];rfl
     rw[e1] at ii;rw[zk.out];have B3:=hid ii;clear ii e1;go_wp2_with fail;go_roundw
     case rel=>exact⟨i+1,by have:=HI.out;omega,by go_num,cv1,tg1,gs1,es1,HX.out ▸ B3.out,HX.out ▸ HF.out,HX.out ▸ HD.out,HX.out ▸ HP.out⟩
     case measure=>have:=HI.out;simp[intOf];omega
    | some L'=>
     have HF:=hid (hF.turn iX ht).1;have HD:=hid (hD.turn ht);have HP:=hid (show L'.ps.length=gs.length by rw[← Lm.turn_is ht,Lm.turn_len,oL])
     obtain⟨g',AX,Hc⟩:∃ g',gk=g'+1∧(gc o L'≤g'∧iv o (i:Int) g' L'=fO o (dW o (cg gs)) (i+1) LK):=by
      have h2:=(hF.turn iX ht).2;obtain⟨g,rfl⟩:∃ g,gk=g+1:=⟨gk - 1,by omega⟩;rw[m7 ht] at xH;exact⟨g,rfl,by omega,xH⟩
     have HG:=hid (And.intro AX Hc);have zk:=hid ht;clear hL hF hD oL sU xH iX ht AX Hc;go_wp2_with fail;refine HT.out.mono ?_;rintro e w2 ⟨rfl,cv1,tg1,gs1,es1,ii⟩;rw[Lm.turn_is zk.out] at ii;rw[zk.out];have B3:=hid ii;clear ii;go_wp2_with fail
     go_roundg g'
     case measure=>have:=HG.out.1;omega
     case rel=>exact⟨L',cv1,tg1,gs1,es1,B3.out,HF.out,HD.out,HP.out,HG.out.2.1,HG.out.2.2⟩
  ·have hd:decide ((i:Int)<(gs.length:Int))=false:=decide_eq_false (by omega);obtain rfl:i=gs.length:=by omega
   obtain⟨A1,c1,rfl,_,_,bH⟩:=hL.calls.sl;have c10:=hL.row.at 10 (.slice A1 es.length c1);obtain⟨jg,hg⟩:=hF.good;have xt:=hL.cx
   have FU:es.length≤1000:=by
    have h1:=congrArg List.length xt;rw[List.length_map] at h1;have h2:=hF.cl;have h3:=HC.out.2.1;omega
   have sk:=uN A1 c1 es wr (by omega) (fun e he=>Nat.le_trans (hg.rl e.x (by rw[← xt];exact List.mem_map_of_mem he)) (by omega)) bH (fun e he=>(hL.recs e he).1) (by rw[xt];exact hg.up.up);rw[xt] at sk;have HS:=hid sk;have HX:=hid (And.intro hF (And.intro hD (And.intro oL (HB.out.trans (hL.bel.mono HB.out.size)))));clear hL hF hD oL aZ hi bH hg xt FU sk;go_wp2_with fail;refine HS.out.mono ?_;rintro z w2 ⟨A2,c2,es2,rfl,hm,bH,jr,bu⟩;have HY:=hid (And.intro hm (And.intro bH (And.intro jr (HX.out.2.2.2.trans (bu.mono HX.out.2.2.2.size)))));clear hm bH jr bu;go_wp2_with fail;go_ret2;refine⟨A2,c2,es2,rfl,?_⟩;unfold ss;rw[I4.out];exact⟨HX.out.1,by rw[HX.out.2.2.1];exact HX.out.2.1,ye.out,HY.out⟩
theorem xC {o:Ob} {k:Nat} {t:Td} (h:cZ o 0 t.op (pU k) t.r.length=0):bI o t.op=(kS o t:Int):=by
 have:=uz h;unfold kS;omega
theorem mT {o:Ob} (_h:aT o) (t:Td):kS o t≤1000:=by
 have hm:∀ c d:Int,1≤c→c≤16→1≤d→d≤8→c*(d+2)≤160:=fun c d h1 h2 h3 h4=>by
  have:=Int.mul_le_mul h2 (show d+2≤10 by omega) (by omega) (by omega);omega
 unfold kS bI
 split
 ·rename_i h1;have:=gb h1;repeat' split
  all_goals omega
 ·split
  ·rename_i h1;have:=f7 h1;repeat' split
   all_goals omega
  ·split
   ·rename_i h1;have:=gj h1;have:=hm o.c o.wd (by omega) (by omega) (by omega) (by omega);repeat' split
    all_goals omega
   ·split
    ·rename_i h1;have:=dc h1;have:=hm o.c o.wd (by omega) (by omega) (by omega) (by omega);repeat' split
     all_goals omega
    ·split
     ·rename_i h1;have:=eM h1;repeat' split
      all_goals omega
     ·split
      ·rename_i h1;have:=ea h1;repeat' split
       all_goals omega
      ·omega
theorem il {α:Type} (f:α→Nat) (m:Nat):∀ l:List α,(∀ x ∈ l,f x≤m)→(l.map f).sum≤l.length*m
 | [],_=>by simp
 | a::l,h=>by
  have h1:=il f m l (fun x hx=>h x (List.mem_cons_of_mem _ hx));have h2:=h a List.mem_cons_self;rw[List.map_cons,List.sum_cons,List.length_cons,Nat.add_mul];omega
theorem Ci {gs:List PG} (h1:gs.length≤20) (h2:∀ g ∈ gs,g.ts.length≤20):gQ (cg gs)≤400:=by
 unfold gQ cg;have:=il List.length 20 (gs.map fun g=>g.ts.map TV.td) (fun l hl=>by obtain⟨g,hg,rfl⟩:=List.mem_map.1 hl;rw[List.length_map];exact h2 g hg);rw[List.length_map] at this;omega
theorem Bc {o:Ob} (hR:aT o) {gs:List PG} (h1:gs.length≤20) (h2:∀ g ∈ gs,g.ts.length≤20):dW o (cg gs)≤400000:=by
 unfold dW cg
 have:=il (fun l:List Td=>(l.map (kS o)).sum) 20000 (gs.map fun g=>g.ts.map TV.td) (fun l hl=>by
  obtain⟨g,hg,rfl⟩:=List.mem_map.1 hl;have h3:=il (kS o) 1000 (g.ts.map TV.td) (fun t _=>mT hR t);rw[List.length_map] at h3;have:=h2 g hg;omega)
 rw[List.length_map] at this;omega
set_option maxHeartbeats 2000000
set_option maxRecDepth 100000
theorem my {α:Type} (f:α→Nat) {l:List α} {i:Nat} {x:α} (h:l[i]?=some x):((l.take (i+1)).map f).sum=((l.take i).map f).sum+f x:=by
 rw[List.take_add_one,h,List.map_append,List.sum_append];simp
def nw (o:Ob) (gs:List PG) (i:Nat):Nat:=((gs.take i).map fun g=>((g.ts.map TV.td).map (kS o)).sum).sum
def mR (o:Ob) (g:PG) (q:Nat):Nat:=((g.ts.take q).map fun t=>kS o t.td).sum
theorem qt {o:Ob} {gs:List PG}:nw o gs gs.length=dW o (cg gs):=by
 unfold nw dW cg;rw[List.take_length,List.map_map];rfl
theorem zm {o:Ob} {g:PG}:mR o g g.ts.length=((g.ts.map TV.td).map (kS o)).sum:=by
 unfold mR;rw[List.take_length,List.map_map];rfl
theorem oq {o:Ob} {gs:List PG} {i:Nat} {g:PG} (h:gs[i]?=some g):nw o gs (i+1)=nw o gs i+mR o g g.ts.length:=by
 rw[zm];exact my _ h
theorem oC {o:Ob} {g:PG} {q:Nat} {t:TV} (h:g.ts[q]?=some t):mR o g (q+1)=mR o g q+kS o t.td:=my (fun t:TV=>kS o t.td) h
theorem xy {o:Ob} (hR:aT o) {gs:List PG} (h2:∀ g ∈ gs,g.ts.length≤20) {i q:Nat} {g:PG} (_hg:g ∈ gs) (hi:i≤20) (hq:q≤20):nw o gs i+mR o g q≤1000000:=by
 have h1:=il (fun g:PG=>((g.ts.map TV.td).map (kS o)).sum) 20000 (gs.take i) (fun g hg=>by
  have h3:=il (kS o) 1000 (g.ts.map TV.td) (fun t _=>mT hR t);rw[List.length_map] at h3;have:=h2 g (List.mem_of_mem_take hg);omega)
 have h4:=il (fun t:TV=>kS o t.td) 1000 (g.ts.take q) (fun t _=>mT hR t.td);rw[List.length_take] at h1 h4;unfold nw mR;omega
theorem xM (o:Ob) (ho:o.Ok) (A:Option Addr) (cap:Nat) (gs:List PG) (w:World) (hin:ProcsIn w w.heap.size A gs) (bA:gs.length≤1000) (dq:∀ g ∈ gs,g.ts.length≤1000) (hO:∀ g ∈ gs,∀ t ∈ g.ts,t.r.length≤1000) (hf:cy o (cg gs)≠0):
  Calls Tryz.prog 14 #[.agg (af o),.slice A gs.length cap] w fun e w'=>e=.returned (.int .i64 0)∧Below w.heap.size w w':=by
 have hF:=fun W (hb:Below w.heap.size w W)=>j7 o ho A cap gs W (hin.below hb hb.size) bA dq hO
 obtain⟨fv,uG⟩:∃ x,cy o (cg gs)=x:=⟨_,rfl⟩;rw[uG] at hF hf;have HF:=hid hF;have d0:(fv != 0)=true:=by simpa using hf
 unfold af at HF;clear hF hf uG hin bA dq hO ho;have hn:=RowB.new w (af o) 26;have hB:=bt w (.cells (af o) 26);obtain⟨n,aq⟩:∃ n,w.heap.size=n:=⟨_,rfl⟩;rw[aq] at hn hB;have HN:=hid hn;have HB:=hid hB;have ij:=hid aq;unfold af at HN HB;clear hn hB;unfold af;rw[aq];go_enter Tryz.func14,Tryz.ntmps14;go_wp2_with fail;generalize (w.alloc (.cells #[.int .i64 o.k,.int .i64 o.wd,.int .i64 o.s,.int .i64 o.c,.int .u32 o.st,.slice o.I o.ni o.ci,.int .i64 o.wr,.slice o.R o.nr o.cr] 26))=w1 at HN HB ⊢;clear aq;have hc:=HN.out.c8;obtain⟨c0,c1,c2,c3,c4,c5,c6,c7⟩:=hc;go_wp2_with fail;refine(HF.out _ (by rw[ij.out];exact HB.out)).mono ?_;rintro e w2 ⟨rfl,hb⟩;have cw:=hid (HB.out.trans (hb.mono (by have:=HN.out.lt;omega)));clear hb c0 c1 c2 c3 c4 c5 c6 c7;go_wp2_with fail;go_ret;exact⟨rfl,cw.out⟩
theorem xL (o:Ob) (ho:o.Ok) (A:Option Addr) (cap:Nat) (gs:List PG) (w:World) (hin:ProcsIn w w.heap.size A gs) (bA:gs.length≤20) (dq:∀ g ∈ gs,g.ts.length≤20) (hO:∀ g ∈ gs,∀ t ∈ g.ts,t.r.length≤1000) (hf:cy o (cg gs)=0):
  Calls Tryz.prog 14 #[.agg (af o),.slice A gs.length cap] w fun e w'=>e=.returned (.int .i64 (dW o (cg gs):Nat))∧Below w.heap.size w w':=by
 have hF:=fun W (hb:Below w.heap.size w W)=>j7 o ho A cap gs W (hin.below hb hb.size) (by omega) (fun g hg=>by have:=dq g hg;omega) hO
 rw[hf] at hF;have hR:=(eQ hf).1;have Ct:=hid fun op W=>Ca o ho op W
 have eJ:=hid fun (k:Nat) (g:PG) (t:TV) (hg:gs[k]?=some g) (ht:t ∈ g.ts)=>xC (k:=k) (iU hf (dw hg) (List.mem_map_of_mem (f:=TV.td) ht))
 have HF:=hid hF;have tX:=hid hin;have HC:=hid (And.intro hR (And.intro bA dq));unfold af at HF Ct;clear hF hf hin bA dq hO ho hR;have hn:=RowB.new w (af o) 26;have hB:=bt w (.cells (af o) 26);obtain⟨n,aq⟩:∃ n,w.heap.size=n:=⟨_,rfl⟩;rw[aq] at hn hB;have HN:=hid hn;have HB:=hid hB;have ij:=hid aq;unfold af at HN HB;clear hn hB;unfold af;rw[aq];go_enter Tryz.func14,Tryz.ntmps14;go_wp2_with fail;generalize (w.alloc (.cells #[.int .i64 o.k,.int .i64 o.wd,.int .i64 o.s,.int .i64 o.c,.int .u32 o.st,.slice o.I o.ni o.ci,.int .i64 o.wr,.slice o.R o.nr o.cr] 26))=w1 at HN HB ⊢;clear aq;have hc:=HN.out.c8;obtain⟨c0,c1,c2,c3,c4,c5,c6,c7⟩:=hc;go_wp2_with fail;refine(HF.out _ (by rw[ij.out];exact HB.out)).mono ?_;rintro e w2 ⟨rfl,hb⟩;have eg:=hid (HN.out.kept hb);have cw:=hid (HB.out.trans (hb.mono (by have:=HN.out.lt;omega)));clear hb c0 c1 c2 c3 c4 c5 c6 c7;go_wp2_with fail
 go_loopw [5,16] (fun sv jv wr=>∃ i:Nat,i≤gs.length∧jv=.int .i64 (i:Int)∧sv=.int .i64 ((nw o gs i:Nat):Int)∧RowB wr n #[.int .i64 o.k,.int .i64 o.wd,.int .i64 o.s,.int .i64 o.c,.int .u32 o.st,.slice o.I o.ni o.ci,.int .i64 o.wr,.slice o.R o.nr o.cr] 26∧Below n w wr) (fun _ jv _=>gs.length - (intOf jv).toNat)
 case atStart=>exact⟨0,Nat.zero_le _,rfl,rfl,eg.out,cw.out⟩
 case round=>
  clear eg cw;obtain⟨i,hi,rfl,rfl,hr,hb⟩:=hrel
  by_cases aZ:i<gs.length
  ·have hd:decide ((i:Int)<(gs.length:Int))=true:=decide_eq_true (by omega);have fZ:decide (i<gs.length)=true:=decide_eq_true aZ;obtain⟨g,hg⟩:∃ g,gs[i]?=some g:=⟨_,List.getElem?_eq_getElem aZ⟩;have iH:=tX.out.below (by rw[ij.out];exact hb) (Nat.le_refl _);obtain⟨pb,po,hA,wv,ba⟩:=iH.hd i g hg;have hx:wr.cell? ⟨pb,po+i,none⟩=some (.slice g.A g.ts.length g.c):=by simpa [tP] using ba 0 _ rfl
   have i0:(0:Int)≤(i:Int):=by omega
   have i1:(i:Int)<(gs.length:Int):=by omega
   have ub:IntKind.i64.wrap ((i:Int)+1)=(i:Int)+1:=ac (by omega) (by have:=HC.out.2.1;omega);have CZ:=hid hb;have Id:=hid hr;have HG:=hid hg;have HI:=hid aZ;have Au:=hid (HC.out.2.2 g (List.mem_of_getElem? hg));obtain⟨S,hS⟩:∃ S,nw o gs i=S:=⟨_,rfl⟩;have HS:=hid hS;rw[hS];subst hA;clear hb hr hg aZ hi iH ba wv hS;go_wp2_with fail
   go_loopw [5,22] (fun sv jv wq=>∃ q:Nat,q≤g.ts.length∧jv=.int .i64 (q:Int)∧sv=.int .i64 ((S+mR o g q:Nat):Int)∧RowB wq n #[.int .i64 o.k,.int .i64 o.wd,.int .i64 o.s,.int .i64 o.c,.int .u32 o.st,.slice o.I o.ni o.ci,.int .i64 o.wr,.slice o.R o.nr o.cr] 26∧Below n w wq) (fun _ jv _=>g.ts.length - (intOf jv).toNat)
   case atStart=>exact⟨0,Nat.zero_le _,rfl,rfl,Id.out,CZ.out⟩
   case round=>
    clear hx i0 i1;obtain⟨q,hq,rfl,rfl,hr,hb⟩:=hrel
    by_cases aZ:q<g.ts.length
    ·have hd:decide ((q:Int)<(g.ts.length:Int))=true:=decide_eq_true (by omega);have uU:decide (q<g.ts.length)=true:=decide_eq_true aZ;obtain⟨t,ht⟩:∃ t,g.ts[q]?=some t:=⟨_,List.getElem?_eq_getElem aZ⟩;have iH:=tX.out.below (by rw[ij.out];exact hb) (Nat.le_refl _);obtain⟨tb,tf,hA,rW,ba⟩:=iH.sl g (List.mem_of_getElem? HG.out) q t ht;have iV:wr.cell? ⟨tb,tf+q*2,none⟩=some (.int .i64 t.op):=by simpa [tvE,TV.cells,Nat.add_assoc] using ba 0 _ rfl
     have jK:wr.cell? ⟨tb,tf+q*2+1,none⟩=some (.slice t.A t.r.length t.c):=by simpa [tvE,TV.cells,Nat.add_assoc] using ba 1 _ rfl
     have q0:(0:Int)≤(q:Int):=by omega
     have q1:(q:Int)<(g.ts.length:Int):=by omega
     have db:IntKind.i64.wrap ((q:Int)+1)=(q:Int)+1:=ac (by omega) (by have:=Au.out;omega);have ck:=bt wr (.cells #[.int .i64 t.op,.slice t.A t.r.length t.c] 45);have BL:=hid (hb.trans (ck.mono (by have:=hr.lt;omega)));have Ew:=hid (hr.kept ck);have HT:=hid ht;have HQ:=hid aZ;have Hs:=eJ.out i g t HG.out (List.mem_of_getElem? ht);have JB:=hid (show bI o t.op=(kS o t.td:Int) from Hs);have GN:=xy HC.out.1 HC.out.2.2 (i:=i) (q:=q) (List.mem_of_getElem? HG.out) (by have h1:=HI.out;have h2:=HC.out.2.1;omega) (by have:=Au.out;omega);have am:=mT HC.out.1 t.td;rw[HS.out] at GN;obtain⟨V,hV⟩:∃ V,S+mR o g q=V:=⟨_,rfl⟩;have HV:=hid hV;have LP:IntKind.i64.wrap ((V:Int)+(kS o t.td:Int))=(V:Int)+(kS o t.td:Int):=ac (by omega) (by omega);rw[hV];rw[hA];have hc:(wr.alloc (.cells #[.int .i64 t.op,.slice t.A t.r.length t.c] 45)).cell? ⟨n,0,none⟩=some (.int .i64 o.k)∧(wr.alloc (.cells #[.int .i64 t.op,.slice t.A t.r.length t.c] 45)).cell? ⟨n,1,none⟩=some (.int .i64 o.wd)∧(wr.alloc (.cells #[.int .i64 t.op,.slice t.A t.r.length t.c] 45)).cell? ⟨n,2,none⟩=some (.int .i64 o.s)∧(wr.alloc (.cells #[.int .i64 t.op,.slice t.A t.r.length t.c] 45)).cell? ⟨n,3,none⟩=some (.int .i64 o.c)∧(wr.alloc (.cells #[.int .i64 t.op,.slice t.A t.r.length t.c] 45)).cell? ⟨n,4,none⟩=some (.int .u32 o.st)∧(wr.alloc (.cells #[.int .i64 t.op,.slice t.A t.r.length t.c] 45)).cell? ⟨n,5,none⟩=some (.slice o.I o.ni o.ci)∧(wr.alloc (.cells #[.int .i64 t.op,.slice t.A t.r.length t.c] 45)).cell? ⟨n,6,none⟩=some (.int .i64 o.wr)∧(wr.alloc (.cells #[.int .i64 t.op,.slice t.A t.r.length t.c] 45)).cell? ⟨n,7,none⟩=some (.slice o.R o.nr o.cr):=(by and_intros <;> exact Ew.out.c rfl);obtain⟨c0,c1,c2,c3,c4,c5,c6,c7⟩:=hc;clear hb hr ck ht aZ hq iH ba rW hA Hs GN am hV;go_wp2_with fail;refine(Ct.out _ _).mono ?_;rintro e w3 ⟨rfl,hb⟩;rw[JB.out];have ic:=hid (BL.out.trans (hb.mono (by have:=Ew.out.lt;omega)));have DX:=hid (Ew.out.kept hb);clear hb c0 c1 c2 c3 c4 c5 c6 c7;go_wp2_with fail;go_roundw
     case rel=>exact⟨q+1,by have:=HQ.out;omega,by go_num,by rw[oC HT.out,← Nat.add_assoc,HV.out];rfl,DX.out,ic.out⟩
     case measure=>have:=HQ.out;simp[intOf];omega
    ·have hd:decide ((q:Int)<(g.ts.length:Int))=false:=decide_eq_false (by omega);obtain rfl:q=g.ts.length:=by omega
     have ID:=hid (And.intro hr hb);clear hb hr aZ hq;go_wp2_with fail;go_roundw
     case rel=>exact⟨i+1,by have:=HI.out;omega,by go_num,by rw[oq HG.out,HS.out],ID.out⟩
     case measure=>have:=HI.out;simp[intOf];omega
  ·have hd:decide ((i:Int)<(gs.length:Int))=false:=decide_eq_false (by omega);obtain rfl:i=gs.length:=by omega
   have HR:=hid (And.intro (qt (o:=o) (gs:=gs)) hb);clear hb hr aZ hi;go_wp2_with fail;go_ret;exact⟨by rw[← HR.out.1];rfl,HR.out.2⟩
end Go.Proofs.YtolmpehgeinlkaaGreatDoor
