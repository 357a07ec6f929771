/- A loom of one object keeps what its calls tell. -/
import Derived.Test.YtabfcjohdgjkoaaGreatDoorZcLb
namespace Go.Proofs.YtabfcjohdgjkoaaGreatDoor
def pQ:Option Pr→Option Kc
 | some ⟨_,some c,_⟩=>if c.over then none else some c
 | _=>none
theorem j7 {p:Pr} {c:Kc} (h:p.op=some c):pQ (some p)=if c.over then none else some c:=by
 obtain⟨ts,o,q⟩:=p;dsimp only at h;subst h;rfl
theorem yO {p:Pr} (h:p.done=true):pQ (some p)=none:=by
 obtain⟨ts,o,q⟩:=p;cases o with
 | none=>rfl
 | some c=>rw[j7 rfl,if_pos (show c.over=true from h)]
def wn (cs:List Cl) (i:Nat):Nat:=(((cs.map (·.p)).take i).filter fun z=>decide (z=0)).length
theorem lD {cs:List Cl} {x:Cl} {i:Nat} (h:i≤cs.length):wn (cs++[x]) i=wn cs i:=by
 unfold wn;rw[List.map_append,List.take_append_of_le_length (by rw[List.length_map];exact h)]
theorem mE {cs:List Cl} {x:Cl}:wn (cs++[x]) (cs++[x]).length=wn cs cs.length+if x.p=0 then 1 else 0:=by
 unfold wn;have e1:((cs++[x]).map (·.p)).take (cs++[x]).length=(cs++[x]).map (·.p):=List.take_of_length_le (by rw[List.length_map];exact Nat.le_refl _);have e2:(cs.map (·.p)).take cs.length=cs.map (·.p):=List.take_of_length_le (by rw[List.length_map];exact Nat.le_refl _);rw[e1,e2,List.map_append,List.filter_append,List.length_append]
 by_cases h:x.p=0 <;> simp[h]
theorem AS {l:List Cl} {i:Nat} {f:Cl→Cl} (hf:∀ x,(f x).p=x.p):(l.modify i f).map (·.p)=l.map (·.p):=by
 apply List.ext_getElem?;intro j;rw[List.getElem?_map,List.getElem?_map,List.getElem?_modify];cases l[j]? with
 | none=>rfl
 | some x=>
  by_cases e:i=j
  ·simp[e,hf]
  ·simp[e]
theorem yc {cs:List Cl} {q i:Nat} {f:Cl→Cl} (hf:∀ x,(f x).p=x.p):wn (cs.modify q f) i=wn cs i:=by unfold wn;rw[AS hf]
theorem Md {cs:List Cl} {i:Nat} (h:i<cs.length) {x:Cl} (hx:cs[i]?=some x) (hp:x.p=0):wn cs i+1≤wn cs cs.length:=by
 unfold wn;have e2:(cs.map (·.p)).take cs.length=cs.map (·.p):=List.take_of_length_le (by rw[List.length_map];exact Nat.le_refl _);rw[e2];have e3:cs.map (·.p)=(cs.map (·.p)).take i++((cs.map (·.p)).drop i):=(List.take_append_drop _ _).symm
 have e4:(cs.map (·.p)).drop i=x.p::(cs.map (·.p)).drop (i+1):=by
  rw[List.drop_eq_getElem_cons (by rw[List.length_map];exact h)]
  congr 1
  rw[List.getElem_map];rw[List.getElem?_eq_getElem h] at hx;exact congrArg Cl.p (Option.some.inj hx)
 have e5:((cs.map (·.p)).filter fun z=>decide (z=0)).length=(((cs.map (·.p)).take i++((cs.map (·.p)).drop i)).filter fun z=>decide (z=0)).length:=congrArg (fun l:List Int=>(l.filter fun z=>decide (z=0)).length) e3;rw[List.filter_append,List.length_append,e4] at e5;rw[e5];simp[hp]
def iU (L:Lm) (R:Nat→List Int) (g:Nat) (lo:Nat→Nat):RS:=⟨L.mem,pQ L.ps[0]?,fun k=>pQ L.ps[k+1]?,R,wn L.calls L.calls.length,g,lo⟩
structure LReg (P:Par) (J:RS→Prop) (init:List Int) (L:Lm) (pub:Nat→Nat) (R:Nat→List Int) (lo:Nat→Nat):Prop where
 mono:∀ i j,i≤j→j≤L.now→pub i≤pub j
 gn:(iU L R (pub L.now) lo).Gn P
 jj:J (iU L R (pub L.now) lo)
 r0:R 0=init
 tm:∀ (i:Nat) (x:Cl),L.calls[i]?=some x→0≤x.b∧x.b≤L.now
 wr:∀ (i:Nat) (x:Cl),L.calls[i]?=some x→x.p=0→x.q=2∧x.c=0∧x.r=R (wn L.calls i+1)∧pub x.b.toNat≤wn L.calls i∧(x.e=-1∨0≤x.e∧x.e<L.now∧wn L.calls i+1≤pub (x.e.toNat+1))
 rd:∀ (i:Nat) (x:Cl),L.calls[i]?=some x→x.p≠0→x.q=1∧(x.e=-1∧x.c=0∨0≤x.e∧x.e<L.now∧(x.c=1∨x.c=0∧∃ a,pub x.b.toNat≤a∧a≤pub (x.e.toNat+1)∧a≤wn L.calls L.calls.length∧x.r=R a))
 up:∀ (k:Nat) (p:Pr) (c:Kc),L.ps[k]?=some p→p.op=some c→c.over=false→∃ x,L.calls[p.call]?=some x∧x.p=k∧x.e=-1∧x.c=0∧(k=0→wn L.calls p.call+1=wn L.calls L.calls.length)∧∀ j,k=j+1→lo j=pub x.b.toNat
theorem cg {α:Type} {l:List α} {x y:α} {i:Nat} (h:(l++[x])[i]?=some y):(i<l.length∧l[i]?=some y)∨(i=l.length∧y=x):=by
 rw[List.getElem?_append] at h
 split at h
 ·rename_i q;exact .inl ⟨q,h⟩
 ·rename_i q;rw[List.getElem?_singleton] at h
  split at h
  ·rename_i q2;exact .inr ⟨by omega,(Option.some.inj h).symm⟩
  ·cases h
section
variable {P:Par} {J:RS→Prop} {init:List Int} {L:Lm} {pub:Nat→Nat} {R:Nat→List Int} {lo:Nat→Nat} {k:Nat} {p:Pr}
theorem dj {ps:List Pr} {k:Nat} {q:Pr} (hk:k<ps.length) (j:Nat):pQ (ps.set k q)[j]?=if j=k then pQ (some q) else pQ ps[j]?:=by
 rw[List.getElem?_set]
 by_cases e:k=j
 ·rw[if_pos e,if_pos e.symm,if_pos hk]
 ·rw[if_neg e,if_neg fun z=>e z.symm]
theorem LReg.beg (h:LReg P J init L pub R lo) (hK:RegK P J) (hp:L.ps[k]?=some p) (hd:p.done=true) {t:Td} {ts:List Td} {c:Kc} (hc:c.New P) (sC:c.over=false) (aU:c.op=if k=0 then 2 else 1) (hq:t.op=c.op) (jX:∀ j,k=j+1→c.rd=j∧c.rc=[]) (fZ:k=0→c.rc=t.r) (hn:wn L.calls L.calls.length<1000):
  ∃ R' lo',LReg P J init { L with ps:=L.ps.set k ⟨ts,some c,L.calls.length⟩,calls:=L.calls++[⟨k,0,t.op,t.r,0,L.now,-1⟩] } pub R' lo':=by
 have hk:k<L.ps.length:=(List.getElem?_eq_some_iff.1 hp).1;have zA:pQ (some (⟨ts,some c,L.calls.length⟩:Pr))=some c:=by rw[j7 rfl,sC];rfl
 have rQ:pQ L.ps[k]?=none:=by rw[hp];exact yO hd
 have iw:L.calls[L.calls.length]?=none:=List.getElem?_eq_none (Nat.le_refl _);have hg:=h.gn
 rcases k with _ | j
 ·
  have e:iU { L with ps:=L.ps.set 0 ⟨ts,some c,L.calls.length⟩,calls:=L.calls++[⟨(0:Nat),0,t.op,t.r,0,L.now,-1⟩] } (upd R (wn L.calls L.calls.length+1) c.rc) (pub L.now) lo=(iU L R (pub L.now) lo).bw c:=by
   unfold iU RS.bw;dsimp only;rw[mE,dj hk,if_pos rfl,zA];simp only[dj hk,Nat.add_one_ne_zero,if_false];rfl
  have hR:∀ a,a≤wn L.calls L.calls.length→upd R (wn L.calls L.calls.length+1) c.rc a=R a:=fun a ha=>eM (by omega)
  refine⟨upd R (wn L.calls L.calls.length+1) c.rc,lo,h.mono,by rw[e];exact hg.bw hc aU hn,by rw[e];exact hK.bw _ c hg h.jj rQ hc aU hn,by rw[hR 0 (Nat.zero_le _)];exact h.r0,fun i x hx=>?_,fun i x hx dh=>?_,fun i x hx dh=>?_,fun k' p' c' ix nq pz=>?_⟩
  ·rcases cg hx with ⟨_,hx⟩ | ⟨_,rfl⟩
   ·exact h.tm i x hx
   ·exact⟨Int.natCast_nonneg _,Int.le_refl _⟩
  ·rcases cg hx with ⟨hi,hx⟩ | ⟨rfl,rfl⟩
   ·have hw:=Md hi hx dh;rw[lD (by omega),hR _ hw];exact h.wr i x hx dh
   ·rw[lD (Nat.le_refl _),iJ];refine⟨hq.trans aU,rfl,(fZ rfl).symm,?_,.inl rfl⟩;show pub (L.now:Int).toNat≤_;rw[Int.toNat_natCast];exact hg.gn
  ·rcases cg hx with ⟨hi,hx⟩ | ⟨_,rfl⟩
   ·obtain⟨q1,q2⟩:=h.rd i x hx dh;refine⟨q1,q2.imp id fun ⟨a1,a2,a3⟩=>⟨a1,a2,a3.imp id fun ⟨b1,a,b2,b3,b4,b5⟩=>⟨b1,a,b2,b3,?_,?_⟩⟩⟩
    ·rw[mE];omega
    ·rw[hR a b4];exact b5
   ·exact absurd rfl dh
  ·rcases bz ix with ⟨rfl,rfl⟩ | ⟨eZ,ix⟩
   ·refine⟨_,List.getElem?_concat_length,rfl,rfl,rfl,fun _=>?_,fun j e=>by omega⟩;rw[lD (Nat.le_refl _),mE];rfl
   ·obtain⟨x,a1,a2,a3,a4,a5,a6⟩:=h.up k' p' c' ix nq pz;have hl:=(List.getElem?_eq_some_iff.1 a1).1;exact⟨x,by rw[List.getElem?_append_left hl];exact a1,a2,a3,a4,fun q=>absurd q eZ,a6⟩
 ·
  obtain⟨lh,OO⟩:=jX j rfl
  have e:iU { L with ps:=L.ps.set (j+1) ⟨ts,some c,L.calls.length⟩,calls:=L.calls++[⟨((j+1:Nat):Int),0,t.op,t.r,0,L.now,-1⟩] } R (pub L.now) (upd lo j (pub L.now))=(iU L R (pub L.now) lo).br j c:=by
   unfold iU RS.br;dsimp only;rw[mE,dj hk,if_neg (by omega),if_neg (by show ¬ ((j+1:Nat):Int)=0;omega)]
   congr 1
   funext i
   rw[dj hk,zA];unfold upd
   by_cases q:i=j
   ·rw[if_pos (by omega),if_pos q]
   ·rw[if_neg (by omega),if_neg q]
  have Ij:c.op=1:=by rw[aU,if_neg (by omega)]
  refine⟨R,upd lo j (pub L.now),h.mono,by rw[e];exact hg.br hc Ij lh,by rw[e];exact hK.br _ j c hg h.jj rQ hc Ij lh OO,h.r0,fun i x hx=>?_,fun i x hx dh=>?_,fun i x hx dh=>?_,fun k' p' c' ix nq pz=>?_⟩
  ·rcases cg hx with ⟨_,hx⟩ | ⟨_,rfl⟩
   ·exact h.tm i x hx
   ·exact⟨Int.natCast_nonneg _,Int.le_refl _⟩
  ·rcases cg hx with ⟨hi,hx⟩ | ⟨_,rfl⟩
   ·rw[lD (by omega)];exact h.wr i x hx dh
   ·exact absurd (show((j+1:Nat):Int)=0 from dh) (by omega)
  ·rcases cg hx with ⟨hi,hx⟩ | ⟨_,rfl⟩
   ·obtain⟨q1,q2⟩:=h.rd i x hx dh;refine⟨q1,q2.imp id fun ⟨a1,a2,a3⟩=>⟨a1,a2,a3.imp id fun ⟨b1,a,b2,b3,b4,b5⟩=>⟨b1,a,b2,b3,?_,b5⟩⟩⟩;rw[mE];omega
   ·exact⟨hq.trans Ij,.inl ⟨rfl,rfl⟩⟩
  ·rcases bz ix with ⟨rfl,rfl⟩ | ⟨eZ,ix⟩
   ·refine⟨_,List.getElem?_concat_length,rfl,rfl,rfl,fun q=>by omega,fun j' q=>?_⟩;obtain rfl:j'=j:=by omega
    rw[iJ];show pub L.now=pub (L.now:Int).toNat;rw[Int.toNat_natCast]
   ·obtain⟨x,a1,a2,a3,a4,a5,a6⟩:=h.up k' p' c' ix nq pz;have hl:=(List.getElem?_eq_some_iff.1 a1).1;refine⟨x,by rw[List.getElem?_append_left hl];exact a1,a2,a3,a4,fun q=>?_,fun j' q=>?_⟩
    ·rw[lD (by omega),mE,if_neg (by show ¬ ((j+1:Nat):Int)=0;omega)];exact a5 q
    ·rw[eM (by omega)];exact a6 j' q
theorem dm {cs:List Cl} {q i:Nat} {f:Cl→Cl} {b:Bool} {x:Cl} (h:(if b then cs.modify q f else cs)[i]?=some x):∃ y,cs[i]?=some y∧(x=y∧(i≠q∨b=false)∨i=q∧b=true∧x=f y):=by
 cases b
 ·exact⟨x,h,.inl ⟨rfl,.inr rfl⟩⟩
 ·have h:(cs.modify q f)[i]?=some x:=h;rw[List.getElem?_modify] at h;cases hy:cs[i]? with
  | none=>rw[hy] at h;cases h
  | some y=>
   rw[hy] at h;have h:some (if q=i then f y else y)=some x:=h;refine⟨y,rfl,?_⟩
   by_cases e:q=i
   ·rw[if_pos e] at h;exact .inr ⟨e.symm,rfl,(Option.some.inj h).symm⟩
   ·rw[if_neg e] at h;exact .inl ⟨(Option.some.inj h).symm,.inl fun z=>e z.symm⟩
theorem nv {cs:List Cl} {q i:Nat} {f:Cl→Cl} {b:Bool} {x:Cl} (h:cs[i]?=some x) (hi:i≠q∨b=false):(if b then cs.modify q f else cs)[i]?=some x:=by
 cases b
 ·exact h
 ·show(cs.modify q f)[i]?=some x;rw[List.getElem?_modify,h]
  rcases hi with hi | hi
  ·show some (if q=i then f x else x)=some x;rw[if_neg fun e=>hi e.symm]
  ·cases hi
theorem IK {cs:List Cl} {q i:Nat} {f:Cl→Cl} {b:Bool} (hf:∀ x,(f x).p=x.p):wn (if b then cs.modify q f else cs) i=wn cs i:=by
 cases b
 ·rfl
 ·exact yc hf
theorem jK {cs:List Cl} {q:Nat} {f:Cl→Cl} {b:Bool}:(if b then cs.modify q f else cs).length=cs.length:=by
 cases b
 ·rfl
 ·exact List.length_modify _ _ _
theorem LReg.stp (h:LReg P J init L pub R lo) (hK:RegK P J) {ts:List Td} {c:Kc} {q:Nat} (hp:L.ps[k]?=some ⟨ts,some c,q⟩) (ho:c.over=false):
  ∃ pub',LReg P J init (Lm.go Kc.step L k ⟨ts,some c,q⟩ c) pub' R lo:=by
 have hk:k<L.ps.length:=(List.getElem?_eq_some_iff.1 hp).1;have hg:=h.gn;have m6:pQ L.ps[k]?=some c:=by rw[hp,j7 rfl,ho];rfl
 have zA:pQ (some (⟨ts,some (c.step L.mem).1,q⟩:Pr))=if (c.step L.mem).1.over then none else some (c.step L.mem).1:=j7 rfl
 have hf:∀ x,(dQ k L.now (c.step L.mem).1 x).p=x.p:=fun _=>rfl
 have qh:∀ i,wn (if (c.step L.mem).1.over then L.calls.modify q (dQ k L.now (c.step L.mem).1) else L.calls) i=wn L.calls i:=fun i=>IK hf
 obtain⟨x0,u1,u2,u3,u4,u5,u6⟩:=h.up k _ c hp rfl ho;have jU:=h.tm q x0 u1
 have Ed:∀ (k':Nat) (p':Pr) (c':Kc),k'≠k→L.ps[k']?=some p'→p'.op=some c'→c'.over=false→p'.call≠q:=fun k' p' c' eZ a b d e=>by
  obtain⟨x,a1,a2,_⟩:=h.up k' p' c' a b d;rw[e,u1] at a1;obtain rfl:=Option.some.inj a1;omega
 have upd':∀ (pub':Nat→Nat),(∀ t,t≤L.now→pub' t=pub t)→∀ (k':Nat) (p':Pr) (c':Kc),(L.ps.set k ⟨ts,some (c.step L.mem).1,q⟩)[k']?=some p'→p'.op=some c'→c'.over=false→∃ x,(if (c.step L.mem).1.over then L.calls.modify q (dQ k L.now (c.step L.mem).1) else L.calls)[p'.call]?=some x∧x.p=k'∧x.e=-1∧x.c=0∧(k'=0→wn L.calls p'.call+1=wn L.calls L.calls.length)∧∀ j,k'=j+1→lo j=pub' x.b.toNat:=fun pub' he k' p' c' ix nq pz=>by
  rcases bz ix with ⟨rfl,rfl⟩ | ⟨eZ,ix⟩
  ·obtain rfl:=Option.some.inj (show some (c.step L.mem).1=some c' from nq);exact⟨x0,nv u1 (.inr pz),u2,u3,u4,u5,fun j e=>by rw[he _ (by omega)];exact u6 j e⟩
  ·obtain⟨x,a1,a2,a3,a4,a5,a6⟩:=h.up k' p' c' ix nq pz;have hb:=h.tm _ x a1;exact⟨x,nv a1 (.inl (Ed k' p' c' eZ ix nq pz)),a2,a3,a4,a5,fun j e=>by rw[he _ (by omega)];exact a6 j e⟩
 rcases k with _ | j
 ·
  have hw:(iU L R (pub L.now) lo).w=some c:=m6;obtain⟨g,g1,g2,g3,g4,g5⟩:=hK.sw _ c hg h.jj hw;have g1:pub L.now≤g:=g1;have g2:g≤wn L.calls L.calls.length:=g2;obtain⟨pub',mj,pA⟩:∃ pub':Nat→Nat,pub' (L.now+1)=g∧∀ t,t≤L.now→pub' t=pub t:=⟨fun t=>if t≤L.now then pub t else g,if_neg (by omega),fun t ht=>if_pos ht⟩
  have e:iU (Lm.go Kc.step L 0 ⟨ts,some c,q⟩ c) R (pub' (L.now+1)) lo=(iU L R (pub L.now) lo).sw (c.step L.mem).1 (c.step L.mem).2 g:=by
   rw[mj];unfold iU RS.sw Lm.go;dsimp only;rw[qh,jK,dj hk,if_pos rfl,zA];simp only[dj hk,Nat.add_one_ne_zero,if_false]
  refine⟨pub',fun a b h1 h2=>?_,by rw[show(Lm.go Kc.step L 0 ⟨ts,some c,q⟩ c).now=L.now+1 from rfl,e];exact hg.sw hw g1 g2 g4,by rw[show(Lm.go Kc.step L 0 ⟨ts,some c,q⟩ c).now=L.now+1 from rfl,e];exact g5,h.r0,fun i x hx=>?_,fun i x hx dh=>?_,fun i x hx dh=>?_,fun k' p' c' ix nq pz=>?_⟩
  ·have h2:b≤L.now+1:=h2
   by_cases q1:b≤L.now
   ·rw[pA b q1,pA a (by omega)];exact h.mono a b h1 q1
   ·obtain rfl:b=L.now+1:=by omega
    rw[mj]
    by_cases q2:a≤L.now
    ·rw[pA a q2];exact Nat.le_trans (h.mono a L.now q2 (Nat.le_refl _)) g1
    ·obtain rfl:a=L.now+1:=by omega
     rw[mj];exact Nat.le_refl _
  ·obtain⟨y,hy,hz⟩:=dm hx;have:=h.tm i y hy;show 0≤x.b∧x.b≤((L.now+1:Nat):Int)
   rcases hz with ⟨rfl,_⟩ | ⟨_,_,rfl⟩
   ·omega
   ·show 0≤y.b∧y.b≤((L.now+1:Nat):Int);omega
  ·obtain⟨y,hy,hz⟩:=dm hx;have ht:=h.tm i y hy;rw[show wn (Lm.go Kc.step L 0 ⟨ts,some c,q⟩ c).calls i=wn L.calls i from qh i]
   rcases hz with ⟨rfl,_⟩ | ⟨rfl,dg,rfl⟩
   ·obtain⟨a1,a2,a3,a4,a5⟩:=h.wr i x hy dh;refine⟨a1,a2,a3,by rw[pA _ (by omega)];exact a4,a5.imp id fun ⟨b1,b2,b3⟩=>⟨b1,by show x.e<((L.now+1:Nat):Int);omega,by rw[pA _ (by omega)];exact b3⟩⟩
   ·obtain⟨a1,a2,a3,a4,a5⟩:=h.wr i y hy dh;obtain rfl:=Option.some.inj (u1.symm.trans hy);obtain⟨b1,b2⟩:=g3 dg;refine⟨a1,b2,a3,by show pub' x0.b.toNat≤_;rw[pA _ (by omega)];exact a4,.inr ⟨Int.natCast_nonneg _,by show(L.now:Int)<((L.now+1:Nat):Int);omega,?_⟩⟩;show wn L.calls i+1≤pub' ((L.now:Int).toNat+1);rw[Int.toNat_natCast,mj,b1];exact Nat.le_of_eq (u5 rfl)
  ·obtain⟨y,hy,hz⟩:=dm hx;have ht:=h.tm i y hy
   rcases hz with ⟨rfl,_⟩ | ⟨rfl,dg,rfl⟩
   ·obtain⟨a1,a2⟩:=h.rd i x hy dh;refine⟨a1,a2.imp id fun ⟨b1,b2,b3⟩=>⟨b1,by show x.e<((L.now+1:Nat):Int);omega,b3.imp id fun ⟨d1,a,d2,d3,d4,d5⟩=>⟨d1,a,by rw[pA _ (by omega)];exact d2,by rw[pA _ (by omega)];exact d3,by show a≤wn (if _ then _ else _) (if (c.step L.mem).1.over then L.calls.modify q (dQ 0 L.now (c.step L.mem).1) else L.calls).length;rw[qh,jK];exact d4,d5⟩⟩⟩
   ·obtain rfl:=Option.some.inj (u1.symm.trans hy);exact absurd u2 dh
  ·obtain⟨x,a1,a2,a3,a4,a5,a6⟩:=upd' _ pA k' p' c' ix nq pz;refine⟨x,a1,a2,a3,a4,fun z=>?_,a6⟩;show wn (if _ then _ else _) p'.call+1=wn (if _ then _ else _) (if (c.step L.mem).1.over then L.calls.modify q (dQ 0 L.now (c.step L.mem).1) else L.calls).length;rw[qh,qh,jK];exact a5 z
 ·
  have hr:(iU L R (pub L.now) lo).r j=some c:=m6;obtain⟨g5,g6⟩:=hK.sr _ j c hg h.jj hr;have gY:pub L.now≤wn L.calls L.calls.length:=hg.gn;obtain⟨pub',mj,pA⟩:∃ pub':Nat→Nat,pub' (L.now+1)=pub L.now∧∀ t,t≤L.now→pub' t=pub t:=⟨fun t=>if t≤L.now then pub t else pub L.now,if_neg (by omega),fun t ht=>if_pos ht⟩
  have e:iU (Lm.go Kc.step L (j+1) ⟨ts,some c,q⟩ c) R (pub' (L.now+1)) lo=(iU L R (pub L.now) lo).sr j (c.step L.mem).1 (c.step L.mem).2:=by
   rw[mj];unfold iU RS.sr Lm.go;dsimp only;rw[qh,jK,dj hk,if_neg (by omega)]
   congr 1
   funext i
   rw[dj hk,zA];unfold upd
   by_cases z:i=j
   ·rw[if_pos (by omega),if_pos z]
   ·rw[if_neg (by omega),if_neg z]
  refine⟨pub',fun a b h1 h2=>?_,by rw[show(Lm.go Kc.step L (j+1) ⟨ts,some c,q⟩ c).now=L.now+1 from rfl,e];exact hg.sr hr,by rw[show(Lm.go Kc.step L (j+1) ⟨ts,some c,q⟩ c).now=L.now+1 from rfl,e];exact g5,h.r0,fun i x hx=>?_,fun i x hx dh=>?_,fun i x hx dh=>?_,fun k' p' c' ix nq pz=>?_⟩
  ·have h2:b≤L.now+1:=h2
   by_cases q1:b≤L.now
   ·rw[pA b q1,pA a (by omega)];exact h.mono a b h1 q1
   ·obtain rfl:b=L.now+1:=by omega
    rw[mj]
    by_cases q2:a≤L.now
    ·rw[pA a q2];exact h.mono a L.now q2 (Nat.le_refl _)
    ·obtain rfl:a=L.now+1:=by omega
     rw[mj];exact Nat.le_refl _
  ·obtain⟨y,hy,hz⟩:=dm hx;have:=h.tm i y hy;show 0≤x.b∧x.b≤((L.now+1:Nat):Int)
   rcases hz with ⟨rfl,_⟩ | ⟨_,_,rfl⟩
   ·omega
   ·show 0≤y.b∧y.b≤((L.now+1:Nat):Int);omega
  ·obtain⟨y,hy,hz⟩:=dm hx;have ht:=h.tm i y hy;rw[show wn (Lm.go Kc.step L (j+1) ⟨ts,some c,q⟩ c).calls i=wn L.calls i from qh i]
   rcases hz with ⟨rfl,_⟩ | ⟨rfl,dg,rfl⟩
   ·obtain⟨a1,a2,a3,a4,a5⟩:=h.wr i x hy dh;refine⟨a1,a2,a3,by rw[pA _ (by omega)];exact a4,a5.imp id fun ⟨b1,b2,b3⟩=>⟨b1,by show x.e<((L.now+1:Nat):Int);omega,by rw[pA _ (by omega)];exact b3⟩⟩
   ·obtain rfl:=Option.some.inj (u1.symm.trans hy);exact absurd (u2.symm.trans dh) (by omega)
  ·obtain⟨y,hy,hz⟩:=dm hx;have ht:=h.tm i y hy
   have JA:wn (Lm.go Kc.step L (j+1) ⟨ts,some c,q⟩ c).calls (Lm.go Kc.step L (j+1) ⟨ts,some c,q⟩ c).calls.length=wn L.calls L.calls.length:=by
    show wn (if _ then _ else _) (if (c.step L.mem).1.over then L.calls.modify q (dQ (j+1) L.now (c.step L.mem).1) else L.calls).length=_;rw[qh,jK]
   rw[JA]
   rcases hz with ⟨rfl,_⟩ | ⟨rfl,dg,rfl⟩
   ·obtain⟨a1,a2⟩:=h.rd i x hy dh;refine⟨a1,a2.imp id fun ⟨b1,b2,b3⟩=>⟨b1,by show x.e<((L.now+1:Nat):Int);omega,b3.imp id fun ⟨d1,a,d2,d3,d4,d5⟩=>⟨d1,a,by rw[pA _ (by omega)];exact d2,by rw[pA _ (by omega)];exact d3,d4,d5⟩⟩⟩
   ·obtain⟨a1,_⟩:=h.rd i y hy dh;obtain rfl:=Option.some.inj (u1.symm.trans hy);refine⟨a1,.inr ⟨Int.natCast_nonneg _,by show(L.now:Int)<((L.now+1:Nat):Int);omega,?_⟩⟩
    rcases g6 dg with ⟨b1,a,b2,b3,b4⟩ | b1
    ·refine .inr ⟨b1,a,?_,?_,Nat.le_trans b3 gY,?_⟩
     ·show pub' x0.b.toNat≤a;rw[pA _ (by omega),← u6 j rfl];exact b2
     ·show a≤pub' ((L.now:Int).toNat+1);rw[Int.toNat_natCast,mj];exact b3
     ·show(if j+1=0 then x0.r else (c.step L.mem).1.rc)=R a;rw[if_neg (by omega)];exact b4
    ·exact .inl b1
  ·obtain⟨x,a1,a2,a3,a4,a5,a6⟩:=upd' _ pA k' p' c' ix nq pz;refine⟨x,a1,a2,a3,a4,fun z=>?_,a6⟩;show wn (if _ then _ else _) p'.call+1=wn (if _ then _ else _) (if (c.step L.mem).1.over then L.calls.modify q (dQ (j+1) L.now (c.step L.mem).1) else L.calls).length;rw[qh,qh,jK];exact a5 z
end
structure LRt (L:Lm):Prop where
 tm:∀ (i:Nat) (x:Cl),L.calls[i]?=some x→0≤x.b∧x.b≤L.now∧(x.e=-1∨x.b≤x.e∧x.e<L.now)∧x.o=0∧∃ k:Nat,k<L.ps.length∧x.p=k
 un:∀ (i:Nat) (x:Cl),L.calls[i]?=some x→x.e=-1→∃ (k:Nat) (p:Pr) (c:Kc),L.ps[k]?=some p∧p.op=some c∧c.over=false∧p.call=i∧x.p=k
 pr:∀ (i j:Nat) (x y:Cl),i<j→L.calls[i]?=some x→L.calls[j]?=some y→x.p=y.p→0≤x.e∧x.e<y.b
 ed:∀ (i j:Nat) (x y:Cl),L.calls[i]?=some x→L.calls[j]?=some y→0≤x.e→x.e=y.e→i=j
theorem LRt.start {ls:List (List Td)} {m:List Int}:LRt ⟨ls.map fun l=>⟨l,none,0⟩,m,[],0⟩:=⟨fun i x h=>by simp at h,fun i x h=>by simp at h,fun i j x y _ h=>by simp at h,fun i j x y h=>by simp at h⟩
theorem LRt.beg {L:Lm} {k:Nat} {p:Pr} (h:LRt L) (hp:L.ps[k]?=some p) (hd:p.done=true) (t:Td) (ts:List Td) (c:Kc) (hc:c.over=false):
  LRt { L with ps:=L.ps.set k ⟨ts,some c,L.calls.length⟩,calls:=L.calls++[⟨k,0,t.op,t.r,0,L.now,-1⟩] }:=by
 have hk:k<L.ps.length:=(List.getElem?_eq_some_iff.1 hp).1
 have rQ:∀ (k':Nat) (p':Pr) (c':Kc),L.ps[k']?=some p'→p'.op=some c'→c'.over=false→k'≠k:=fun k' p' c' a b d e=>by
  subst e;rw[hp] at a;obtain rfl:=Option.some.inj a;unfold Pr.done at hd;rw[b] at hd;exact absurd (d.symm.trans hd) (by decide)
 refine⟨fun i x hx=>?_,fun i x hx he=>?_,fun i j x y Eb hx hy e=>?_,fun i j x y hx hy h0 e=>?_⟩
 ·rw[show(({ L with ps:=L.ps.set k ⟨ts,some c,L.calls.length⟩,calls:=L.calls++[⟨k,0,t.op,t.r,0,L.now,-1⟩] }:Lm).ps).length=L.ps.length from List.length_set]
  rcases cg hx with ⟨_,hx⟩ | ⟨_,rfl⟩
  ·exact h.tm i x hx
  ·exact⟨Int.natCast_nonneg _,Int.le_refl _,.inl rfl,rfl,k,hk,rfl⟩
 ·rcases cg hx with ⟨_,hx⟩ | ⟨rfl,rfl⟩
  ·obtain⟨k',p',c',a1,a2,a3,a4,a5⟩:=h.un i x hx he;exact⟨k',p',c',by rw[List.getElem?_set_ne (fun q=>rQ k' p' c' a1 a2 a3 q.symm)];exact a1,a2,a3,a4,a5⟩
  ·exact⟨k,⟨ts,some c,L.calls.length⟩,c,by show(L.ps.set k _)[k]?=_;simp[hk],rfl,hc,rfl,rfl⟩
 ·rcases cg hy with ⟨hj,hy⟩ | ⟨rfl,rfl⟩
  ·rcases cg hx with ⟨_,hx⟩ | ⟨rfl,_⟩
   ·exact h.pr i j x y Eb hx hy e
   ·omega
  ·rcases cg hx with ⟨_,hx⟩ | ⟨rfl,_⟩
   ·obtain⟨a1,a2,a3,_⟩:=h.tm i x hx
    rcases a3 with a3 | ⟨a3,a4⟩
    ·obtain⟨k',p',c',b1,b2,b3,b4,b5⟩:=h.un i x hx a3;have e:x.p=(k:Int):=e;exact absurd (show k'=k by omega) (rQ k' p' c' b1 b2 b3)
    ·exact⟨by omega,a4⟩
   ·omega
 ·rcases cg hx with ⟨_,hx⟩ | ⟨_,rfl⟩
  ·rcases cg hy with ⟨_,hy⟩ | ⟨_,rfl⟩
   ·exact h.ed i j x y hx hy h0 e
   ·have e:x.e=-1:=e;omega
  ·exact absurd (show(0:Int)≤-1 from h0) (by decide)
theorem LRt.stp {L:Lm} {k:Nat} {ts:List Td} {c:Kc} {q:Nat} (h:LRt L) (hp:L.ps[k]?=some ⟨ts,some c,q⟩) (hq:∃ x,L.calls[q]?=some x∧x.p=k∧x.e=-1)
  (Ed:∀ (k':Nat) (p':Pr) (c':Kc),k'≠k→L.ps[k']?=some p'→p'.op=some c'→c'.over=false→p'.call≠q):LRt (Lm.go Kc.step L k ⟨ts,some c,q⟩ c):=by
 have hk:k<L.ps.length:=(List.getElem?_eq_some_iff.1 hp).1;obtain⟨x0,u1,u2,u3⟩:=hq;have aC:(L.ps.set k (⟨ts,some (c.step L.mem).1,q⟩:Pr))[k]?=some ⟨ts,some (c.step L.mem).1,q⟩:=by simp[hk]
 refine⟨fun i x hx=>?_,fun i x hx he=>?_,fun i j x y Eb hx hy e=>?_,fun i j x y hx hy h0 e=>?_⟩
 ·rw[show(Lm.go Kc.step L k ⟨ts,some c,q⟩ c).ps.length=L.ps.length from List.length_set];obtain⟨y,hy,hz⟩:=dm hx;obtain⟨a1,a2,a3,a4,a5⟩:=h.tm i y hy;show 0≤x.b∧x.b≤((L.now+1:Nat):Int)∧(x.e=-1∨x.b≤x.e∧x.e<((L.now+1:Nat):Int))∧_
  rcases hz with ⟨rfl,_⟩ | ⟨_,_,rfl⟩
  ·exact⟨a1,by omega,by omega,a4,a5⟩
  ·refine⟨a1,by show y.b≤_;omega,.inr ⟨a2,?_⟩,a4,a5⟩;show(L.now:Int)<((L.now+1:Nat):Int);omega
 ·obtain⟨y,hy,hz⟩:=dm hx
  rcases hz with ⟨rfl,hz⟩ | ⟨_,_,rfl⟩
  ·obtain⟨k',p',c',a1,a2,a3,a4,a5⟩:=h.un i x hy he
   by_cases e:k'=k
   ·subst e;rw[hp] at a1;obtain rfl:=Option.some.inj a1;have a4:q=i:=a4
    rcases hz with hz | hz
    ·exact absurd a4.symm hz
    ·exact⟨k',_,_,aC,rfl,hz,a4,a5⟩
   ·exact⟨k',p',c',by show(L.ps.set k _)[k']?=_;rw[List.getElem?_set_ne (Ne.symm e)];exact a1,a2,a3,a4,a5⟩
  ·have he:(L.now:Int)=-1:=he;omega
 ·obtain⟨x1,lM,d8⟩:=dm hx;obtain⟨y1,sL,lN⟩:=dm hy
  have RM:y.b=y1.b∧y.p=y1.p:=by
   rcases lN with ⟨rfl,_⟩ | ⟨_,_,rfl⟩
   ·exact⟨rfl,rfl⟩
   ·exact⟨rfl,rfl⟩
  have RK:x.p=x1.p:=by
   rcases d8 with ⟨rfl,_⟩ | ⟨_,_,rfl⟩ <;> rfl
  have:=h.pr i j x1 y1 Eb lM sL (by rw[← RK,← RM.2];exact e)
  rcases d8 with ⟨rfl,_⟩ | ⟨rfl,_,rfl⟩
  ·rw[RM.1];exact this
  ·obtain rfl:=Option.some.inj (u1.symm.trans lM);omega
 ·obtain⟨x1,lM,d8⟩:=dm hx;obtain⟨y1,sL,lN⟩:=dm hy;have tx:=(h.tm i x1 lM).2.2.1;have ty:=(h.tm j y1 sL).2.2.1
  rcases d8 with ⟨rfl,_⟩ | ⟨rfl,_,rfl⟩
  ·rcases lN with ⟨rfl,_⟩ | ⟨rfl,_,rfl⟩
   ·exact h.ed i j x y lM sL h0 e
   ·have e:x.e=(L.now:Int):=e;omega
  ·rcases lN with ⟨rfl,_⟩ | ⟨rfl,_,rfl⟩
   ·have e:(L.now:Int)=y.e:=e;omega
   ·rfl
def dW (w:Bool) (t:Int) (x:Cl):Nat:=if decide (x.p=0)=w∧0≤x.e∧x.e<t∧x.c=0 then 1 else 0
def gN (w:Bool) (cs:List Cl) (t:Int):Nat:=(cs.map (dW w t)).sum
theorem DL {w:Bool} {cs:List Cl} {x:Cl} {t:Int} (h:x.e=-1):gN w (cs++[x]) t=gN w cs t:=by
 unfold gN;rw[List.map_append,List.sum_append];simp[dW,h]
theorem lB (f:Cl→Nat):∀ (l:List Cl) (k:Nat) (x y:Cl),l[k]?=some x→((l.set k y).map f).sum+f x=(l.map f).sum+f y
 | [],_,_,_,h=>by simp at h
 | a::l,0,x,y,h=>by
  obtain rfl:a=x:=by simpa using h
  simp only[List.set_cons_zero,List.map_cons,List.sum_cons];omega
 | a::l,k+1,x,y,h=>by
  have ih:=lB f l k x y (by simpa using h);simp only[List.set_cons_succ,List.map_cons,List.sum_cons];omega
theorem Ey {l:List Cl} {q:Nat} {f:Cl→Cl} {x:Cl} (h:l[q]?=some x):l.modify q f=l.set q (f x):=by
 apply List.ext_getElem?;intro j;rw[List.getElem?_modify,List.getElem?_set]
 by_cases e:q=j
 ·subst e;rw[h];simp[(List.getElem?_eq_some_iff.1 h).1]
 ·simp[e]
theorem zk {w:Bool} {cs:List Cl} {q:Nat} {f:Cl→Cl} {x:Cl} {t:Int} (h:cs[q]?=some x) (he:x.e=-1):gN w (cs.modify q f) t=gN w cs t+dW w t (f x):=by
 unfold gN;rw[Ey h];have:=lB (dW w t) cs q x (f x) h;have h0:dW w t x=0:=by simp[dW,he]
 omega
theorem DK {w:Bool} {cs:List Cl} {s t:Int} (du:s≤t) (h:∀ x ∈ cs,x.e<s):gN w cs t=gN w cs s:=by
 unfold gN
 congr 1
 apply List.map_congr_left;intro x hx;have:=h x hx;unfold dW
 by_cases q:decide (x.p=0)=w∧0≤x.e∧x.e<s∧x.c=0
 ·rw[if_pos ⟨q.1,q.2.1,by omega,q.2.2.2⟩,if_pos q]
 ·rw[if_neg (fun z=>q ⟨z.1,z.2.1,by omega,z.2.2.2⟩),if_neg q]
theorem FU {w:Bool} {cs:List Cl} {s t:Int} (h:s≤t):gN w cs s≤gN w cs t:=by
 unfold gN
 induction cs with
 | nil=>exact Nat.le_refl _
 | cons a l ih=>
  simp only[List.map_cons,List.sum_cons]
  have:dW w s a≤dW w t a:=by
   unfold dW
   by_cases z:decide (a.p=0)=w∧0≤a.e∧a.e<s∧a.c=0
   ·rw[if_pos z,if_pos ⟨z.1,z.2.1,by omega,z.2.2.2⟩];exact Nat.le_refl _
   ·rw[if_neg z];exact Nat.zero_le _
  omega
def kP (L:Lm) (R:Nat→List Int):QS:=⟨L.mem,pQ L.ps[0]?,pQ L.ps[1]?,R,gN true L.calls L.now,gN false L.calls L.now⟩
def lu (P:Par) (cs:List Cl) (R:Nat→List Int) (x:Cl):Prop:=
 x.c=2∧gN true cs x.e=gN false cs x.e+P.sl∨x.c=0∧gN true cs x.e<gN false cs x.e+P.sl∧x.r=R (gN true cs x.e)
def jC (cs:List Cl) (R:Nat→List Int) (x:Cl):Prop:=
 x.c=3∧gN true cs x.e=gN false cs x.e∨x.c=0∧gN false cs x.e<gN true cs x.e∧x.r=R (gN false cs x.e)
structure LQue (P:Par) (L:Lm) (R:Nat→List Int):Prop where
 kk:K6 P (kP L R)
 le:gN false L.calls L.now≤gN true L.calls L.now
 en:∀ (i:Nat) (x:Cl),L.calls[i]?=some x→x.e<L.now
 put:∀ (i:Nat) (x:Cl),L.calls[i]?=some x→x.p=0→x.q=3∧(x.e=-1∧x.c=0∨0≤x.e∧lu P L.calls R x)
 take:∀ (i:Nat) (x:Cl),L.calls[i]?=some x→x.p≠0→x.p=1∧x.q=4∧(x.e=-1∧x.c=0∨0≤x.e∧jC L.calls R x)
 up:∀ (k:Nat) (p:Pr) (c:Kc),L.ps[k]?=some p→p.op=some c→c.over=false→∃ x,L.calls[p.call]?=some x∧x.p=k∧x.e=-1∧x.c=0∧(k=0→x.r=c.rc)
 ps:L.ps.length=2
theorem DJ {w:Bool} {cs:List Cl} {q:Nat} {f:Cl→Cl} {x:Cl} {t:Int} {b:Bool} (h:cs[q]?=some x) (he:x.e=-1) (ht:t≤(f x).e):gN w (if b then cs.modify q f else cs) t=gN w cs t:=by
 cases b
 ·rfl
 ·show gN w (cs.modify q f) t=_;rw[zk h he]
  have:dW w t (f x)=0:=by
   unfold dW;rw[if_neg (fun z=>by omega)]
  omega
theorem LQue.beg {P:Par} {L:Lm} {R:Nat→List Int} {k:Nat} {p:Pr} (h:LQue P L R) (hp:L.ps[k]?=some p) {t:Td} {ts:List Td} {c:Kc} (hc:c.New P) (aU:c.op=if k=0 then 3 else 4) (hq:t.op=c.op) (fZ:c.rc=if k=0 then t.r else []):
  ∃ R',LQue P { L with ps:=L.ps.set k ⟨ts,some c,L.calls.length⟩,calls:=L.calls++[⟨k,0,t.op,t.r,0,L.now,-1⟩] } R':=by
 have hk:k<L.ps.length:=(List.getElem?_eq_some_iff.1 hp).1;have sC:=hc.is.over;have zA:pQ (some (⟨ts,some c,L.calls.length⟩:Pr))=some c:=by rw[j7 rfl,sC];rfl
 have eW:=h.ps;have hg:∀ w u,gN w (L.calls++[⟨k,0,t.op,t.r,0,L.now,-1⟩]) u=gN w L.calls u:=fun w u=>DL rfl
 have m8:∀ (k':Nat) (p':Pr) (c':Kc),(L.ps.set k ⟨ts,some c,L.calls.length⟩)[k']?=some p'→p'.op=some c'→c'.over=false→∃ x:Cl,(L.calls++[⟨k,0,t.op,t.r,0,L.now,-1⟩])[p'.call]?=some x∧x.p=k'∧x.e=-1∧x.c=0∧(k'=0→x.r=c'.rc):=fun k' p' c' ix nq pz=>by
  rcases bz ix with ⟨rfl,rfl⟩ | ⟨eZ,ix⟩
  ·obtain rfl:=Option.some.inj (show some c=some c' from nq);exact⟨_,List.getElem?_concat_length,rfl,rfl,rfl,fun e=>by rw[fZ,if_pos e]⟩
  ·obtain⟨x,a1,a2,a3,a4,a5⟩:=h.up k' p' c' ix nq pz;exact⟨x,by rw[List.getElem?_append_left (List.getElem?_eq_some_iff.1 a1).1];exact a1,a2,a3,a4,a5⟩
 have zL:∀ (i:Nat) (x:Cl),(L.calls++[⟨k,0,t.op,t.r,0,L.now,-1⟩])[i]?=some x→x.e<L.now:=fun i x hx=>by
  rcases cg hx with ⟨_,hx⟩ | ⟨_,rfl⟩
  ·exact h.en i x hx
  ·show(-1:Int)<(L.now:Int);omega
 rcases (by omega:k=0∨k=1) with rfl | rfl
 ·have e:kP { L with ps:=L.ps.set 0 ⟨ts,some c,L.calls.length⟩,calls:=L.calls++[⟨(0:Nat),0,t.op,t.r,0,L.now,-1⟩] } (upd R (gN true L.calls L.now) c.rc)=(kP L R).bw c:=by
   unfold kP QS.bw;dsimp only;rw[hg,hg,dj hk,dj hk,if_pos rfl,if_neg (by decide),zA]
  have hR:∀ a,a<gN true L.calls L.now→upd R (gN true L.calls L.now) c.rc a=R a:=fun a ha=>eM (by omega)
  have Lg:∀ w (u:Int),u<L.now→gN w L.calls u≤gN w L.calls L.now:=fun w u hu=>by
   unfold gN
   have:∀ l:List Cl,(l.map (dW w u)).sum≤(l.map (dW w (L.now:Int))).sum:=fun l=>by
    induction l with
    | nil=>exact Nat.le_refl _
    | cons a l ih=>
     simp only[List.map_cons,List.sum_cons]
     have:dW w u a≤dW w (L.now:Int) a:=by
      unfold dW
      by_cases z:decide (a.p=0)=w∧0≤a.e∧a.e<u∧a.c=0
      ·rw[if_pos z,if_pos ⟨z.1,z.2.1,by omega,z.2.2.2⟩];exact Nat.le_refl _
      ·rw[if_neg z];exact Nat.zero_le _
     omega
   exact this _
  have aJ:∀ (i:Nat) (x:Cl),L.calls[i]?=some x→x.p=0→0≤x.e→x.c=0→gN true L.calls x.e<gN true L.calls L.now:=fun i x hx dh h0 dl=>by
   have pd:=h.en i x hx;have h1:=lB (dW true x.e) L.calls i x ⟨0,0,0,[],0,0,-1⟩ hx;have h2:=lB (dW true (L.now:Int)) L.calls i x ⟨0,0,0,[],0,0,-1⟩ hx;have e1:dW true x.e x=0:=by unfold dW;rw[if_neg (fun z=>by omega)]
   have e2:dW true (L.now:Int) x=1:=by unfold dW;rw[if_pos ⟨by simp[dh],h0,pd,dl⟩]
   have e3:∀ u,dW true u ⟨0,0,0,[],0,0,-1⟩=0:=fun u=>by unfold dW;rw[if_neg (fun z=>absurd z.2.1 (by decide))]
   rw[e1,e3] at h1;rw[e2,e3] at h2
   have h3:∀ l:List Cl,(l.map (dW true x.e)).sum≤(l.map (dW true (L.now:Int))).sum:=fun l=>by
    induction l with
    | nil=>exact Nat.le_refl _
    | cons a l ih=>
     simp only[List.map_cons,List.sum_cons]
     have:dW true x.e a≤dW true (L.now:Int) a:=by
      unfold dW
      by_cases z:decide (a.p=0)=true∧0≤a.e∧a.e<x.e∧a.c=0
      ·rw[if_pos z,if_pos ⟨z.1,z.2.1,by omega,z.2.2.2⟩];exact Nat.le_refl _
      ·rw[if_neg z];exact Nat.zero_le _
     omega
   have:=h3 (L.calls.set i ⟨0,0,0,[],0,0,-1⟩);unfold gN;omega
  refine⟨upd R (gN true L.calls L.now) c.rc,by rw[e];exact h.kk.bw hc (by rw[aU];rfl),by rw[hg,hg];exact h.le,zL,fun i x hx dh=>?_,fun i x hx dh=>?_,m8,by show(L.ps.set 0 _).length=2;rw[List.length_set];exact eW⟩
  ·rcases cg hx with ⟨_,hx⟩ | ⟨_,rfl⟩
   ·obtain⟨a1,a2⟩:=h.put i x hx dh;refine⟨a1,a2.imp id fun ⟨b0,b1⟩=>⟨b0,?_⟩⟩;unfold lu;rw[hg,hg];refine b1.imp id fun ⟨d1,d2,d3⟩=>⟨d1,d2,?_⟩
    rw[hR _ (aJ i x hx dh b0 d1)];exact d3
   ·exact⟨hq.trans aU,.inl ⟨rfl,rfl⟩⟩
  ·rcases cg hx with ⟨_,hx⟩ | ⟨_,rfl⟩
   ·obtain⟨a0,a1,a2⟩:=h.take i x hx dh;refine⟨a0,a1,a2.imp id fun ⟨b0,b1⟩=>⟨b0,?_⟩⟩;unfold jC;rw[hg,hg];refine b1.imp id fun ⟨d1,d2,d3⟩=>⟨d1,d2,?_⟩
    have:=Lg true x.e (h.en i x hx);rw[hR _ (by omega)];exact d3
   ·exact absurd rfl dh
 ·have e:kP { L with ps:=L.ps.set 1 ⟨ts,some c,L.calls.length⟩,calls:=L.calls++[⟨(1:Nat),0,t.op,t.r,0,L.now,-1⟩] } R=(kP L R).br c:=by
   unfold kP QS.br;dsimp only;rw[hg,hg,dj hk,dj hk,if_pos rfl,if_neg (by decide),zA]
  refine⟨R,by rw[e];exact h.kk.br hc (by rw[aU];rfl) (by rw[fZ];rfl),by rw[hg,hg];exact h.le,zL,fun i x hx dh=>?_,fun i x hx dh=>?_,m8,by show(L.ps.set 1 _).length=2;rw[List.length_set];exact eW⟩
  ·rcases cg hx with ⟨_,hx⟩ | ⟨_,rfl⟩
   ·obtain⟨a1,a2⟩:=h.put i x hx dh;refine⟨a1,a2.imp id fun ⟨b0,b1⟩=>⟨b0,?_⟩⟩;unfold lu;rw[hg,hg];exact b1
   ·exact absurd (show((1:Nat):Int)=0 from dh) (by decide)
  ·rcases cg hx with ⟨_,hx⟩ | ⟨_,rfl⟩
   ·obtain⟨a0,a1,a2⟩:=h.take i x hx dh;refine⟨a0,a1,a2.imp id fun ⟨b0,b1⟩=>⟨b0,?_⟩⟩;unfold jC;rw[hg,hg];exact b1
   ·exact⟨rfl,hq.trans aU,.inl ⟨rfl,rfl⟩⟩
theorem LQue.stp {P:Par} {L:Lm} {R:Nat→List Int} {k:Nat} {ts:List Td} {c:Kc} {q:Nat} (py:P.kd=6) (h:LQue P L R) (hp:L.ps[k]?=some ⟨ts,some c,q⟩) (ho:c.over=false):LQue P (Lm.go Kc.step L k ⟨ts,some c,q⟩ c) R:=by
 have hk:k<L.ps.length:=(List.getElem?_eq_some_iff.1 hp).1;have eW:=h.ps;have m6:pQ L.ps[k]?=some c:=by rw[hp,j7 rfl,ho];rfl
 have zA:pQ (some (⟨ts,some (c.step L.mem).1,q⟩:Pr))=if (c.step L.mem).1.over then none else some (c.step L.mem).1:=j7 rfl
 obtain⟨x0,u1,u2,u3,u4,u5⟩:=h.up k _ c hp rfl ho
 have eS:∀ x ∈ L.calls,x.e<(L.now:Int):=fun x hx=>by
  obtain⟨i,hi⟩:=List.getElem?_of_mem hx;exact h.en i x hi
 have qf:∀ (w:Bool) (u:Int),u≤L.now→gN w (Lm.go Kc.step L k ⟨ts,some c,q⟩ c).calls u=gN w L.calls u:=fun w u hu=>DJ u1 u3 hu
 have gl:∀ (w:Bool),gN w (Lm.go Kc.step L k ⟨ts,some c,q⟩ c).calls (Lm.go Kc.step L k ⟨ts,some c,q⟩ c).now=gN w L.calls L.now+if (c.step L.mem).1.over=true∧decide (k=0)=w∧(c.step L.mem).1.code=0 then 1 else 0:=fun w=>by
  have h1:gN w L.calls ((L.now+1:Nat):Int)=gN w L.calls L.now:=DK (by omega) eS;show gN w (if (c.step L.mem).1.over then L.calls.modify q (dQ k L.now (c.step L.mem).1) else L.calls) ((L.now+1:Nat):Int)=_;cases dg:(c.step L.mem).1.over
  ·rw[if_neg (by decide),if_neg (by simp),h1];rfl
  ·rw[if_pos rfl,zk u1 u3,h1]
   congr 1
   unfold dW;have e1:(dQ k L.now (c.step L.mem).1 x0).p=(k:Int):=u2;have e2:decide ((dQ k L.now (c.step L.mem).1 x0).p=0)=decide (k=0):=by rw[e1];congr 1;simp
   rw[e2]
   by_cases z:decide (k=0)=w∧(c.step L.mem).1.code=0
   ·rw[if_pos ⟨z.1,Int.natCast_nonneg _,by show(L.now:Int)<_;omega,z.2⟩,if_pos ⟨rfl,z⟩]
   ·rw[if_neg (fun y=>z ⟨y.1,y.2.2.2⟩),if_neg (fun y=>z y.2)]
 have zL:∀ (i:Nat) (x:Cl),(Lm.go Kc.step L k ⟨ts,some c,q⟩ c).calls[i]?=some x→x.e<((L.now+1:Nat):Int):=fun i x hx=>by
  obtain⟨y,hy,hz⟩:=dm hx;have:=h.en i y hy
  rcases hz with ⟨rfl,_⟩ | ⟨_,_,rfl⟩
  ·omega
  ·show(L.now:Int)<_;omega
 have Ed:∀ (k':Nat) (p':Pr) (c':Kc),k'≠k→L.ps[k']?=some p'→p'.op=some c'→c'.over=false→p'.call≠q:=fun k' p' c' eZ a b d e=>by
  obtain⟨x,a1,a2,_⟩:=h.up k' p' c' a b d;rw[e,u1] at a1;obtain rfl:=Option.some.inj a1;omega
 have o9:(k=0→(c.step L.mem).1.over=false→(c.step L.mem).1.rc=c.rc)→∀ (k':Nat) (p':Pr) (c':Kc),(L.ps.set k ⟨ts,some (c.step L.mem).1,q⟩)[k']?=some p'→p'.op=some c'→c'.over=false→∃ x,(Lm.go Kc.step L k ⟨ts,some c,q⟩ c).calls[p'.call]?=some x∧x.p=k'∧x.e=-1∧x.c=0∧(k'=0→x.r=c'.rc):=fun fZ k' p' c' ix nq pz=>by
  rcases bz ix with ⟨rfl,rfl⟩ | ⟨eZ,ix⟩
  ·obtain rfl:=Option.some.inj (show some (c.step L.mem).1=some c' from nq);exact⟨x0,nv u1 (.inr pz),u2,u3,u4,fun e=>(u5 e).trans (fZ e pz).symm⟩
  ·obtain⟨x,a1,a2,a3,a4,a5⟩:=h.up k' p' c' ix nq pz;exact⟨x,nv a1 (.inl (Ed k' p' c' eZ ix nq pz)),a2,a3,a4,a5⟩
 have lK:(L.ps.set k ⟨ts,some (c.step L.mem).1,q⟩).length=2:=by rw[List.length_set];exact eW
 have jW:(k=0→(c.step L.mem).1.over=true→lu P L.calls R (dQ k L.now (c.step L.mem).1 x0))→∀ (i:Nat) (x:Cl),(Lm.go Kc.step L k ⟨ts,some c,q⟩ c).calls[i]?=some x→x.p=0→x.q=3∧(x.e=-1∧x.c=0∨0≤x.e∧lu P (Lm.go Kc.step L k ⟨ts,some c,q⟩ c).calls R x):=fun Ox i x hx dh=>by
  obtain⟨y,hy,hz⟩:=dm hx
  rcases hz with ⟨rfl,_⟩ | ⟨rfl,dg,rfl⟩
  ·obtain⟨a1,a2⟩:=h.put i x hy dh;have:=h.en i x hy;refine⟨a1,a2.imp id fun ⟨b0,b1⟩=>⟨b0,?_⟩⟩;unfold lu at b1 ⊢;rw[qf _ _ (by omega),qf _ _ (by omega)];exact b1
  ·obtain⟨a1,_⟩:=h.put i y hy dh;obtain rfl:=Option.some.inj (u1.symm.trans hy);have k9:k=0:=by have:x0.p=0:=dh;omega
   have:=Ox k9 dg;have mj:∀ w,gN w (Lm.go Kc.step L k ⟨ts,some c,i⟩ c).calls (dQ k L.now (c.step L.mem).1 x0).e=gN w L.calls (dQ k L.now (c.step L.mem).1 x0).e:=fun w=>qf w _ (Int.le_refl _)
   refine⟨a1,.inr ⟨Int.natCast_nonneg _,?_⟩⟩;unfold lu at this ⊢;rw[mj,mj];exact this
 have mo:(k≠0→(c.step L.mem).1.over=true→jC L.calls R (dQ k L.now (c.step L.mem).1 x0))→∀ (i:Nat) (x:Cl),(Lm.go Kc.step L k ⟨ts,some c,q⟩ c).calls[i]?=some x→x.p≠0→x.p=1∧x.q=4∧(x.e=-1∧x.c=0∨0≤x.e∧jC (Lm.go Kc.step L k ⟨ts,some c,q⟩ c).calls R x):=fun Ox i x hx dh=>by
  obtain⟨y,hy,hz⟩:=dm hx
  rcases hz with ⟨rfl,_⟩ | ⟨rfl,dg,rfl⟩
  ·obtain⟨a0,a1,a2⟩:=h.take i x hy dh;have:=h.en i x hy;refine⟨a0,a1,a2.imp id fun ⟨b0,b1⟩=>⟨b0,?_⟩⟩;unfold jC at b1 ⊢;rw[qf _ _ (by omega),qf _ _ (by omega)];exact b1
  ·obtain⟨a0,a1,_⟩:=h.take i y hy dh;obtain rfl:=Option.some.inj (u1.symm.trans hy);have k9:k≠0:=by have:x0.p≠0:=dh;omega
   have:=Ox k9 dg;have mj:∀ w,gN w (Lm.go Kc.step L k ⟨ts,some c,i⟩ c).calls (dQ k L.now (c.step L.mem).1 x0).e=gN w L.calls (dQ k L.now (c.step L.mem).1 x0).e:=fun w=>qf w _ (Int.le_refl _)
   refine⟨a0,a1,.inr ⟨Int.natCast_nonneg _,?_⟩⟩;unfold jC at this ⊢;rw[mj,mj];exact this
 have Aa:(Lm.go Kc.step L k ⟨ts,some c,q⟩ c).now=L.now+1:=rfl
 rcases (by omega:k=0∨k=1) with rfl | rfl
 ·obtain⟨g1,g2⟩:=h.kk.sw py (c:=c) m6
  have ud:∀ n,n=gN true (Lm.go Kc.step L 0 ⟨ts,some c,q⟩ c).calls (Lm.go Kc.step L 0 ⟨ts,some c,q⟩ c).now→gN false L.calls L.now=gN false (Lm.go Kc.step L 0 ⟨ts,some c,q⟩ c).calls (Lm.go Kc.step L 0 ⟨ts,some c,q⟩ c).now→kP (Lm.go Kc.step L 0 ⟨ts,some c,q⟩ c) R=(kP L R).sw (c.step L.mem).1 (c.step L.mem).2 n:=fun n e1 e2=>by
   unfold kP QS.sw;dsimp only;rw[← e1,← e2,show(Lm.go Kc.step L 0 ⟨ts,some c,q⟩ c).ps=L.ps.set 0 ⟨ts,some (c.step L.mem).1,q⟩ from rfl,dj hk,dj hk,if_pos rfl,if_neg (by decide),zA];rfl
  have jY:gN false L.calls L.now=gN false (Lm.go Kc.step L 0 ⟨ts,some c,q⟩ c).calls (Lm.go Kc.step L 0 ⟨ts,some c,q⟩ c).now:=by rw[gl,if_neg (fun z=>absurd z.2.1 (by decide))];rfl
  have la:=h.le;cases dg:(c.step L.mem).1.over
  ·have fm:gN true L.calls L.now=gN true (Lm.go Kc.step L 0 ⟨ts,some c,q⟩ c).calls (Lm.go Kc.step L 0 ⟨ts,some c,q⟩ c).now:=by rw[gl,if_neg (fun z=>absurd (dg.symm.trans z.1) (by decide))];rfl
   refine⟨by rw[ud _ fm jY];exact g2 dg,by rw[← jY,← fm];exact la,zL,jW fun _ z=>(absurd (dg.symm.trans z) (by decide)),mo fun z=>absurd rfl z,o9 fun _ _=>?_,lK⟩;have k6:=g2 dg;have e1:=(k6.w _ (show((kP L R).sw (c.step L.mem).1 (c.step L.mem).2 _).w=some (c.step L.mem).1 by unfold QS.sw;dsimp only;rw[dg];rfl)).2.2.1;exact e1.trans ((h.kk.w c m6).2.2.1).symm
  ·rcases g1 dg with ⟨c1,c2,c3⟩ | ⟨c1,c2,c3⟩
   ·have fm:gN true L.calls L.now=gN true (Lm.go Kc.step L 0 ⟨ts,some c,q⟩ c).calls (Lm.go Kc.step L 0 ⟨ts,some c,q⟩ c).now:=by rw[gl,if_neg (fun z=>absurd (c1.symm.trans z.2.2) (by decide))];rfl
    exact⟨by rw[ud _ fm jY];exact c3,by rw[← jY,← fm];exact la,zL,jW fun _ _=>.inl ⟨c1,c2⟩,mo fun z=>absurd rfl z,o9 fun _ z=>(absurd (dg.symm.trans z) (by decide)),lK⟩
   ·have fm:gN true L.calls L.now+1=gN true (Lm.go Kc.step L 0 ⟨ts,some c,q⟩ c).calls (Lm.go Kc.step L 0 ⟨ts,some c,q⟩ c).now:=by rw[gl,if_pos ⟨dg,rfl,c1⟩]
    exact⟨by rw[ud _ fm jY];exact c3,by rw[← jY,← fm];exact Nat.le_succ_of_le la,zL,jW fun _ _=>.inr ⟨c1,c2,(u5 rfl).trans (h.kk.w c m6).2.2.1⟩,mo fun z=>absurd rfl z,o9 fun _ z=>(absurd (dg.symm.trans z) (by decide)),lK⟩
 ·obtain⟨g1,g2⟩:=h.kk.sr py (c:=c) m6
  have ud:∀ n,gN true L.calls L.now=gN true (Lm.go Kc.step L 1 ⟨ts,some c,q⟩ c).calls (Lm.go Kc.step L 1 ⟨ts,some c,q⟩ c).now→n=gN false (Lm.go Kc.step L 1 ⟨ts,some c,q⟩ c).calls (Lm.go Kc.step L 1 ⟨ts,some c,q⟩ c).now→kP (Lm.go Kc.step L 1 ⟨ts,some c,q⟩ c) R=(kP L R).sr (c.step L.mem).1 (c.step L.mem).2 n:=fun n e1 e2=>by
   unfold kP QS.sr;dsimp only;rw[← e1,← e2,show(Lm.go Kc.step L 1 ⟨ts,some c,q⟩ c).ps=L.ps.set 1 ⟨ts,some (c.step L.mem).1,q⟩ from rfl,dj hk,dj hk,if_pos rfl,if_neg (by decide),zA];rfl
  have jY:gN true L.calls L.now=gN true (Lm.go Kc.step L 1 ⟨ts,some c,q⟩ c).calls (Lm.go Kc.step L 1 ⟨ts,some c,q⟩ c).now:=by rw[gl,if_neg (fun z=>absurd z.2.1 (by decide))];rfl
  have la:=h.le;have aI:(1:Nat)=0→(c.step L.mem).1.over=false→(c.step L.mem).1.rc=c.rc:=fun z=>absurd z (by decide)
  have gT:(1:Nat)=0→(c.step L.mem).1.over=true→lu P L.calls R (dQ 1 L.now (c.step L.mem).1 x0):=fun z=>absurd z (by decide)
  cases dg:(c.step L.mem).1.over
  ·have fm:gN false L.calls L.now=gN false (Lm.go Kc.step L 1 ⟨ts,some c,q⟩ c).calls (Lm.go Kc.step L 1 ⟨ts,some c,q⟩ c).now:=by rw[gl,if_neg (fun z=>absurd (dg.symm.trans z.1) (by decide))];rfl
   exact⟨by rw[ud _ jY fm];exact g2 dg,by rw[← jY,← fm];exact la,zL,jW gT,mo fun _ z=>(absurd (dg.symm.trans z) (by decide)),o9 aI,lK⟩
  ·rcases g1 dg with ⟨c1,c2,c3⟩ | ⟨c1,c2,c3,c4⟩
   ·have fm:gN false L.calls L.now=gN false (Lm.go Kc.step L 1 ⟨ts,some c,q⟩ c).calls (Lm.go Kc.step L 1 ⟨ts,some c,q⟩ c).now:=by rw[gl,if_neg (fun z=>absurd (c1.symm.trans z.2.2) (by decide))];rfl
    exact⟨by rw[ud _ jY fm];exact c3,by rw[← jY,← fm];exact la,zL,jW gT,mo fun _ _=>.inl ⟨c1,c2⟩,o9 aI,lK⟩
   ·have fm:gN false L.calls L.now+1=gN false (Lm.go Kc.step L 1 ⟨ts,some c,q⟩ c).calls (Lm.go Kc.step L 1 ⟨ts,some c,q⟩ c).now:=by rw[gl,if_pos ⟨dg,rfl,c1⟩]
    have c2':gN false L.calls L.now<gN true L.calls L.now:=c2;exact⟨by rw[ud _ jY fm];exact c4,by rw[← jY,← fm];exact c2',zL,jW gT,mo fun _ _=>.inr ⟨c1,c2',by show(if (1:Nat)=0 then x0.r else (c.step L.mem).1.rc)=_;rw[if_neg (by decide)];exact c3⟩,o9 aI,lK⟩
def pG (x:Cl):Bool:=x.q==2
def gb (x:Cl):Bool:=!(x.q==2)&&decide (0≤x.e)&&x.c==0
structure RegF (init:List Int) (ws rs:List Cl) (a:Nat→Nat):Prop where
 f1:∀ (i k:Nat) (r w:Cl),rs[i]?=some r→ws[k]?=some w→dx w r=true→k+1≤a i
 f2:∀ (i:Nat) (r:Cl),rs[i]?=some r→a i≤ws.length
 f3:∀ (i k:Nat) (r w:Cl),rs[i]?=some r→a i=k+1→ws[k]?=some w→dx r w=false∧r.r=w.r
 f4:∀ (i:Nat) (r:Cl),rs[i]?=some r→a i=0→r.r=init
 f5:∀ (i j:Nat) (r q:Cl),rs[i]?=some r→rs[j]?=some q→dx q r=true→a j≤a i
theorem dS {α:Type} {P:α→Bool}:∀ {l:List α} {j:Nat} {x:α},(l.filter P)[j]?=some x→∃ i,l[i]?=some x∧P x=true∧((l.take i).filter P).length=j
 | [],j,x,h=>by simp at h
 | a::l,j,x,h=>by
  rw[List.filter_cons] at h;cases ha:P a
  ·rw[ha] at h;obtain⟨i,h1,h2,h3⟩:=dS (l:=l) (show(l.filter P)[j]?=some x from h);exact⟨i+1,by simpa using h1,h2,by rw[List.take_succ_cons,List.filter_cons,ha];exact h3⟩
  ·rw[ha] at h;have h:(a::l.filter P)[j]?=some x:=h;cases j with
   | zero=>
    obtain rfl:=Option.some.inj (show some a=some x by simpa using h);exact⟨0,rfl,ha,rfl⟩
   | succ j=>
    obtain⟨i,h1,h2,h3⟩:=dS (l:=l) (show(l.filter P)[j]?=some x by simpa using h);exact⟨i+1,by simpa using h1,h2,by rw[List.take_succ_cons,List.filter_cons,ha];simp[h3]⟩
theorem qy {x y:Cl} (h:dx x y=true):0≤x.e∧x.e<y.b:=by
 unfold dx at h
 simpa using h
theorem LReg.tells {P:Par} {J:RS→Prop} {init:List Int} {L:Lm} {pub:Nat→Nat} {R:Nat→List Int} {lo:Nat→Nat} (h:LReg P J init L pub R lo):∃ a,RegF init (L.calls.filter pG) (L.calls.filter gb) a:=by
 have hP:∀ (i:Nat) (x:Cl),L.calls[i]?=some x→(pG x=true↔x.p=0):=fun i x hx=>by
  unfold pG
  constructor
  ·intro e;apply Classical.byContradiction;intro hp;have:=(h.rd i x hx hp).1;rw[this] at e;exact absurd e (by decide)
  ·intro e;rw[(h.wr i x hx e).1];rfl
 have qh:∀ i,((L.calls.take i).filter pG).length=wn L.calls i:=fun i=>by
  unfold wn;rw[← List.map_take,List.filter_map,List.length_map]
  congr 1
  apply List.filter_congr;intro x hx;obtain⟨j,hj⟩:=List.getElem?_of_mem (List.mem_of_mem_take hx);have:=hP j x hj;rw[Bool.eq_iff_iff,this];simp
 have bf:(L.calls.filter pG).length=wn L.calls L.calls.length:=by
  rw[← qh,List.take_length]
 have W:∀ (k:Nat) (w:Cl),(L.calls.filter pG)[k]?=some w→0≤w.b∧w.b≤L.now∧w.r=R (k+1)∧pub w.b.toNat≤k∧(w.e=-1∨0≤w.e∧w.e<L.now∧k+1≤pub (w.e.toNat+1)):=fun k w hw=>by
  obtain⟨i,h1,h2,h3⟩:=dS hw;rw[qh] at h3;obtain⟨_,_,a3,a4,a5⟩:=h.wr i w h1 ((hP i w h1).1 h2);obtain⟨b1,b2⟩:=h.tm i w h1;rw[h3] at a3 a4 a5;exact⟨b1,b2,a3,a4,a5⟩
 have Rd:∀ (i:Nat) (r:Cl),(L.calls.filter gb)[i]?=some r→0≤r.b∧r.b≤L.now∧0≤r.e∧r.e<L.now∧∃ a,pub r.b.toNat≤a∧a≤pub (r.e.toNat+1)∧a≤wn L.calls L.calls.length∧r.r=R a:=fun i r hr=>by
  obtain⟨j,h1,h2,_⟩:=dS hr;unfold gb at h2;simp only[Bool.and_eq_true,Bool.not_eq_true',decide_eq_true_eq] at h2;obtain⟨⟨q1,q2⟩,q3⟩:=h2
  have hp:r.p≠0:=fun e=>by
   have:=(hP j r h1).2 e;unfold pG at this;rw[q1] at this;cases this
  obtain⟨_,a2⟩:=h.rd j r h1 hp;obtain⟨b1,b2⟩:=h.tm j r h1;have q3:r.c=0:=by simpa using q3
  rcases a2 with ⟨c1,_⟩ | ⟨c1,c2,c3⟩
  ·omega
  ·rcases c3 with c3 | ⟨_,c3⟩
   ·omega
   ·exact⟨b1,b2,c1,c2,c3⟩
 have Hx:∀ i:Nat,∃ a,∀ r:Cl,(L.calls.filter gb)[i]?=some r→pub r.b.toNat≤a∧a≤pub (r.e.toNat+1)∧a≤wn L.calls L.calls.length∧r.r=R a:=fun i=>by
  cases hr:(L.calls.filter gb)[i]? with
  | none=>exact⟨0,fun r e=>by cases e⟩
  | some r=>
   obtain⟨_,_,_,_,a,ha⟩:=Rd i r hr;exact⟨a,fun r' e=>by obtain rfl:=Option.some.inj e;exact ha⟩
 refine⟨fun i=>Classical.choose (Hx i),?_⟩;have ha:=fun i=>Classical.choose_spec (Hx i)
 refine⟨fun i k r w hr hw hb=>?_,fun i r hr=>?_,fun i k r w hr hk hw=>?_,fun i r hr hk=>?_,fun i j r q hr hq hb=>?_⟩
 ·obtain⟨b1,b2⟩:=qy hb;obtain⟨_,_,_,_,w5⟩:=W k w hw;obtain⟨r1,r2,r3,r4,_⟩:=Rd i r hr;have:=(ha i r hr).1
  rcases w5 with w5 | ⟨_,_,w5⟩
  ·omega
  ·have:=h.mono (w.e.toNat+1) r.b.toNat (by omega) (by omega);omega
 ·rw[bf];exact(ha i r hr).2.2.1
 ·obtain⟨w1,w2,w3,w4,_⟩:=W k w hw;obtain⟨r1,r2,r3,r4,_⟩:=Rd i r hr;obtain⟨a1,a2,a3,a4⟩:=ha i r hr;refine⟨?_,by rw[a4,hk,w3]⟩;cases hb:dx r w with
  | false=>rfl
  | true=>
   obtain⟨b1,b2⟩:=qy hb;have:=h.mono (r.e.toNat+1) w.b.toNat (by omega) (by omega);omega
 ·obtain⟨_,_,_,a4⟩:=ha i r hr;rw[a4,hk,h.r0]
 ·obtain⟨b1,b2⟩:=qy hb;obtain⟨r1,r2,r3,r4,_⟩:=Rd i r hr;obtain⟨q1,q2,q3,q4,_⟩:=Rd j q hq;have h1:=(ha i r hr).1;have h2:=(ha j q hq).2.1;have:=h.mono (q.e.toNat+1) r.b.toNat (by omega) (by omega);omega
end Go.Proofs.YtabfcjohdgjkoaaGreatDoor
