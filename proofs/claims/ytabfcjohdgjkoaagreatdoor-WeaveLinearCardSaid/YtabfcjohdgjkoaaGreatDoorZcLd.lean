/- A loom linearizes, from its beginning to its end. -/
import Derived.Test.YtabfcjohdgjkoaaGreatDoorZcLc
namespace Go.Proofs.YtabfcjohdgjkoaaGreatDoor
namespace Kc
def Zr (d:Kc):Prop:=d.over=true→d.code≠0→d.rc=[]
theorem dY {d:Kc} (h:d.over=false):Zr d:=fun e=>absurd (h.symm.trans e) (by decide)
theorem ev (d:Kc) (k:Int):Zr (d.fin k):=fun _ h=>by
 have h:k≠0:=h;unfold fin;dsimp only;rw[if_pos (by simp[h])]
theorem fB {c:Kc} {l:List Int} {frm:Nat} {last:Kc→Kc} (h:c.over=false) (hl:∀ d:Kc,d.over=false→Zr (last d)):Zr (c.word l frm last).1:=by
 rw[word_eq];dsimp only
 split
 ·exact hl _ h
 ·exact dY h
theorem rE {c:Kc} {last:Kc→Kc} (h:c.over=false) (hl:∀ d:Kc,d.over=false→Zr (last d)):Zr (c.fail last):=by
 unfold fail;dsimp only
 split
 ·exact hl _ h
 ·exact dY h
theorem step_zr {c:Kc} (l:List Int) (h:c.over=false):Zr (c.step l).1:=by
 unfold step;dsimp only;have h:({ c with steps:=c.steps+1 }:Kc).over=false:=h;generalize ({ c with steps:=c.steps+1 }:Kc)=d at h;have hg:∀ (e:Kc) (p:Nat),e.over=false→Zr (e.go p):=fun e p q=>dY q
 split
 ·unfold four
  split <;> (split <;> first | exact dY h | exact ev _ _ | exact fB h (fun e q=>hg e _ q) | exact fB h (fun e _=>ev e _))
 ·split
  ·unfold chen;dsimp only
   split <;> (split <;> first | exact dY h | exact ev _ _ | exact fB h (fun e q=>hg e _ q) | exact fB h (fun e _=>ev e _) | (split <;> first | exact dY h | exact ev _ _))
  ·split
   ·unfold seq;dsimp only
    split <;> (split <;> first | exact dY h | exact ev _ _ | exact fB h (fun e q=>hg e _ q) | exact fB h (fun e _=>ev e _) | (dsimp only;split <;> first | exact dY h | exact ev _ _ | exact rE h (fun e _=>ev e _)))
   ·split
    ·unfold ring;dsimp only
     split
     ·exact dY h
     ·exact fB h (fun e q=>hg e _ q)
     ·split
      ·exact ev _ _
      ·dsimp only
       split
       ·exact ev _ _
       ·exact rE h (fun e _=>ev e _)
    ·split
     ·unfold cab;dsimp only
      split
      ·split
       ·exact dY h
       ·split <;> (split <;> exact dY h)
       ·exact fB h (fun e q=>hg e _ q)
       ·exact ev _ _
      ·split
       ·exact dY h
       ·exact dY h
       ·dsimp only
        split
        ·exact dY h
        ·exact rE h (fun e q=>dY q)
       ·exact fB h (fun e q=>hg e _ q)
       ·exact ev _ _
     ·unfold fifo;dsimp only
      split
      ·exact dY h
      ·split <;> (dsimp only;split <;> first | exact dY h | exact ev _ _)
      ·exact fB h (fun e q=>hg e _ q)
      ·exact ev _ _
end Kc
def cY (o:Ob):Par:=⟨o.k,o.wd.toNat,o.nr,o.s.toNat,o.st,(aB o).toNat⟩
theorem G1 {o:Ob} {k:Nat} {t:Td} (hI:Kc.Inv (eg o k t)):(eg o k t).New (cY o):=⟨⟨hI,rfl,rfl,rfl,rfl,rfl,rfl,rfl⟩,rfl,rfl,rfl,fun _=>rfl⟩
structure Lin (o:Ob) (init:List Int) (L:Lm):Prop where
 rt:LRt L
 ops:∀ (k:Nat) (p:Pr),L.ps[k]?=some p→∀ t ∈ p.left,t.op=iR o k∧(k≠0→t.r=[])∧t.r.length≤8
 rl:∀ x ∈ L.calls,x.r.length≤8
 reg:o.k≠6→∃ J pub R lo,RegK (cY o) J∧LReg (cY o) J init L pub R lo
 que:o.k=6→∃ R,LQue (cY o) L R
theorem Gt {o:Ob} (hR:bD o):(cY o).wd≤8:=by
 show o.wd.toNat≤8
 rcases ba hR with ⟨_,q⟩ | ⟨_,q⟩ | ⟨_,q⟩ | ⟨_,q⟩ | ⟨_,q⟩ | ⟨_,q⟩ <;> (have:=q.1.2.2.1;omega)
theorem EF {o:Ob} (hR:bD o) (k:Nat) (h:o.k≠6):iR o k=if k=0 then 2 else 1:=by
 unfold iR oA oB mr
 rcases ba hR with q | q | q | q | q | q <;> (have:=q.1;rw[this];first | decide | (exact absurd this h) | (split <;> rfl))
theorem EE {o:Ob} (k:Nat) (h:o.k=6):iR o k=if k=0 then 3 else 4:=by
 unfold iR oA oB mr;rw[h]
 split <;> rfl
theorem Lin.one {o:Ob} {init:List Int} {j k:Nat} {L L':Lm} {p:Pr} (h:Lin o init L) (hR:bD o) (hg:L.Good o j) (hn:L.calls.length<1000) (hp:L.ps[k]?=some p) (h1:Lm.one (eg o) Kc.step L k p=some L'):Lin o init L':=by
 obtain⟨L1,ts,c,q,hb,rfl⟩:=Lm.one_some h1;obtain⟨c',nq,dg,hinv,_,_,fm,_,_⟩:=Lm.beg_op hg.inv hp hb;cases nq
 have iZ:Lin o init L1:=by
  rcases Lm.beg_some hb with ⟨rfl,_⟩ | ⟨t,ts',hl,ix,rfl⟩
  ·exact h
  ·cases ix
   have hd:p.done=true:=by
    rcases r7 hb with d | ⟨_,d⟩
    ·exact d
    ·have:=congrArg (fun x:Pr=>x.left.length) d;rw[← d] at hl;have:=congrArg List.length hl;simp at this
   have sF:t ∈ p.left:=by rw[hl];exact List.mem_cons_self
   obtain⟨o1,o2,o3⟩:=h.ops k p hp t sF;have ah:=G1 (k:=k) hinv
   have qh:wn L.calls L.calls.length<1000:=by
    have:wn L.calls L.calls.length≤L.calls.length:=by
     unfold wn;refine Nat.le_trans (List.length_filter_le _ _) ?_;rw[List.length_take,List.length_map];omega
    omega
   refine⟨h.rt.beg hp hd t ts _ rfl,fun k' p' ix u hu=>?_,fun x hx=>?_,fun hk=>?_,fun hk=>?_⟩
   ·rcases bz ix with ⟨rfl,rfl⟩ | ⟨_,ix⟩
    ·exact h.ops k' p hp u (by rw[hl];exact List.mem_cons_of_mem _ hu)
    ·exact h.ops k' p' ix u hu
   ·rcases List.mem_append.1 hx with hx | hx
    ·exact h.rl x hx
    ·rw[List.mem_singleton.1 hx];exact o3
   ·obtain⟨J,pub,R,lo,a1,a2⟩:=h.reg hk;have aU:t.op=if k=0 then 2 else 1:=o1.trans (EF hR k hk)
    obtain⟨R',lo',a3⟩:=a2.beg a1 hp hd (t:=t) (ts:=ts) ah rfl aU rfl (fun i e=>by
     subst e;refine⟨?_,o2 (by omega)⟩;show(yp (i+1)).toNat=i;unfold yp;rw[if_neg (by omega)];omega) (fun _=>rfl) qh
    exact⟨J,pub,R',lo',a1,a3⟩
   ·obtain⟨R,a2⟩:=h.que hk;have aU:t.op=if k=0 then 3 else 4:=o1.trans (EE k hk)
    exact a2.beg hp (t:=t) (ts:=ts) ah aU rfl (by
     show t.r=_
     split
     ·rfl
     ·rename_i z;exact o2 z)
 have hz:=Kc.step_zr L1.mem dg
 have aC:∀ (k':Nat) (p':Pr),(Lm.go Kc.step L1 k ⟨ts,some c,q⟩ c).ps[k']?=some p'→∀ u ∈ p'.left,u.op=iR o k'∧(k'≠0→u.r=[])∧u.r.length≤8:=fun k' p' e u hu=>by
  rcases bz e with ⟨rfl,rfl⟩ | ⟨_,e⟩
  ·exact iZ.ops k' _ fm u hu
  ·exact iZ.ops k' p' e u hu
 have di:(∀ x:Cl,x.p=k→x.e=-1→L1.calls[q]?=some x→(c.step L1.mem).1.over=true→(dQ k L1.now (c.step L1.mem).1 x).r.length≤8)→∀ x ∈ (Lm.go Kc.step L1 k ⟨ts,some c,q⟩ c).calls,x.r.length≤8:=fun he x hx=>by
  obtain⟨i,hi⟩:=List.getElem?_of_mem hx;obtain⟨y,hy,TO⟩:=dm hi
  rcases TO with ⟨rfl,_⟩ | ⟨rfl,ho,rfl⟩
  ·exact iZ.rl _ (List.mem_of_getElem? hy)
  ·have o9:∃ x,L1.calls[i]?=some x∧x.p=k∧x.e=-1:=by
    by_cases hk:o.k=6
    ·obtain⟨R,a⟩:=iZ.que hk;obtain⟨x,b1,b2,b3,_⟩:=a.up k _ c fm rfl dg;exact⟨x,b1,b2,b3⟩
    ·obtain⟨J,pub,R,lo,_,a⟩:=iZ.reg hk;obtain⟨x,b1,b2,b3,_⟩:=a.up k _ c fm rfl dg;exact⟨x,b1,b2,b3⟩
   obtain⟨x,b1,b2,b3⟩:=o9;obtain rfl:=Option.some.inj (b1.symm.trans hy);exact he _ b2 b3 hy ho
 have LM:(cY o).wd≤8:=Gt hR
 have bU:(∃ x,L1.calls[q]?=some x∧x.p=k∧x.e=-1)∧(∀ (k':Nat) (p':Pr) (c':Kc),k'≠k→L1.ps[k']?=some p'→p'.op=some c'→c'.over=false→p'.call≠q):=by
  have key:∀ U:(∀ (k:Nat) (p:Pr) (c:Kc),L1.ps[k]?=some p→p.op=some c→c.over=false→∃ x:Cl,L1.calls[p.call]?=some x∧x.p=k∧x.e=-1),(∃ x,L1.calls[q]?=some x∧x.p=k∧x.e=-1)∧(∀ (k':Nat) (p':Pr) (c':Kc),k'≠k→L1.ps[k']?=some p'→p'.op=some c'→c'.over=false→p'.call≠q):=fun U=>by
   obtain⟨x0,u1,u2,u3⟩:=U k _ c fm rfl dg;refine⟨⟨x0,u1,u2,u3⟩,fun k' p' c' eZ a b d e=>?_⟩;obtain⟨x,a1,a2,_⟩:=U k' p' c' a b d;rw[e] at a1;have:=Option.some.inj (a1.symm.trans u1);rw[this] at a2;omega
  by_cases hk:o.k=6
  ·obtain⟨R,a⟩:=iZ.que hk;exact key fun k p c e1 e2 e3=>by obtain⟨x,b1,b2,b3,_⟩:=a.up k p c e1 e2 e3;exact⟨x,b1,b2,b3⟩
  ·obtain⟨J,pub,R,lo,_,a⟩:=iZ.reg hk;exact key fun k p c e1 e2 e3=>by obtain⟨x,b1,b2,b3,_⟩:=a.up k p c e1 e2 e3;exact⟨x,b1,b2,b3⟩
 refine⟨iZ.rt.stp fm bU.1 bU.2,aC,di fun x RK Em hx ho=>?_,fun hk=>?_,fun hk=>?_⟩
 ·
  show(if k=0 then x.r else (c.step L1.mem).1.rc).length≤8
  by_cases k9:k=0
  ·rw[if_pos k9];exact iZ.rl x (List.mem_of_getElem? hx)
  ·rw[if_neg k9]
   by_cases eQ:(c.step L1.mem).1.code=0
   ·by_cases hk:o.k=6
    ·obtain⟨R,a⟩:=iZ.que hk;have a':=a.stp hk fm dg
     have MN:(Lm.go Kc.step L1 k ⟨ts,some c,q⟩ c).calls[q]?=some (dQ k L1.now (c.step L1.mem).1 x):=by
      show(if (c.step L1.mem).1.over then L1.calls.modify q (dQ k L1.now (c.step L1.mem).1) else L1.calls)[q]?=_;rw[if_pos ho,List.getElem?_modify,hx];show some (if q=q then _ else _)=_;rw[if_pos rfl]
     obtain⟨_,_,b⟩:=a'.take q _ MN (by show x.p≠0;omega)
     rcases b with ⟨b,_⟩ | ⟨_,b⟩
     ·exact absurd (show(L1.now:Int)=-1 from b) (by omega)
     ·rcases b with ⟨b,_⟩ | ⟨_,b1,b2⟩
      ·exact absurd ((show(c.step L1.mem).1.code=3 from b).symm.trans eQ) (by decide)
      ·have b2:(if k=0 then x.r else (c.step L1.mem).1.rc)=R _:=b2;rw[if_neg k9] at b2;have b3:=a'.kk.RL _ (Nat.lt_of_lt_of_le b1 (FU (Int.le_of_lt (a'.en q _ MN))));rw[b2];exact Nat.le_trans (Nat.le_of_eq b3) LM
    ·obtain⟨J,pub,R,lo,a1,a⟩:=iZ.reg hk;obtain⟨pub',a'⟩:=a.stp a1 fm dg
     have MN:(Lm.go Kc.step L1 k ⟨ts,some c,q⟩ c).calls[q]?=some (dQ k L1.now (c.step L1.mem).1 x):=by
      show(if (c.step L1.mem).1.over then L1.calls.modify q (dQ k L1.now (c.step L1.mem).1) else L1.calls)[q]?=_;rw[if_pos ho,List.getElem?_modify,hx];show some (if q=q then _ else _)=_;rw[if_pos rfl]
     obtain⟨_,b⟩:=a'.rd q _ MN (by show x.p≠0;omega)
     rcases b with ⟨b,_⟩ | ⟨_,_,b⟩
     ·exact absurd (show(L1.now:Int)=-1 from b) (by omega)
     ·rcases b with b | ⟨_,i,_,_,b1,b2⟩
      ·exact absurd ((show(c.step L1.mem).1.code=1 from b).symm.trans eQ) (by decide)
      ·have b2:(if k=0 then x.r else (c.step L1.mem).1.rc)=R _:=b2;rw[if_neg k9] at b2;have b3:=a'.gn.R _ b1;rw[b2];exact Nat.le_trans (Nat.le_of_eq b3) LM
   ·rw[hz ho eQ];exact Nat.zero_le _
 ·obtain⟨J,pub,R,lo,a1,a⟩:=iZ.reg hk;obtain⟨pub',a'⟩:=a.stp a1 fm dg;exact⟨J,pub',R,lo,a1,a'⟩
 ·obtain⟨R,a⟩:=iZ.que hk;exact⟨R,a.stp hk fm dg⟩
theorem I9 {n j:Nat}:(zs n).getD j 0=0:=by
 unfold zs;rw[List.getD_eq_getElem?_getD,List.getElem?_replicate]
 split <;> rfl
theorem E1 {Z l:List Int} {b j:Nat} (h:b+l.length≤Z.length):(lA Z b l).getD j 0=if b≤j∧j<b+l.length then l.getD (j - b) 0 else Z.getD j 0:=by
 unfold lA;simp only[List.getD_eq_getElem?_getD,List.getElem?_append,List.length_append,List.length_take,List.getElem?_take,List.getElem?_drop]
 by_cases h1:j<b
 ·rw[if_pos (by omega),if_pos (by omega),if_pos h1,if_neg (by omega)]
 ·by_cases h2:j<b+l.length
  ·rw[if_pos (by omega),if_neg (by omega),if_pos ⟨by omega,h2⟩,show min b Z.length=b by omega]
  ·rw[if_neg (by omega),if_neg (by omega)]
   congr 2
   omega
section
variable {o:Ob} {l:List Int} (hR:bD o) (hl:o.ni=l.length)
include hR hl
theorem wi (j:Nat):(aW o l).getD j 0=if (et o).toNat≤j∧j<(et o).toNat+l.length then l.getD (j - (et o).toNat) 0 else (jw o).getD j 0:=by
 have hb:=uy hR hl;unfold aW;rw[if_pos hR,E1 (by rw[ll];omega)]
theorem Er:Has (aW o l) (et o).toNat l l.length:=fun i hi=>by
 rw[wi hR hl,if_pos (by omega)]
 congr 1
 omega
theorem Es (hk:o.k≠6) {j:Nat} (hj:j<(et o).toNat):(aW o l).getD j 0=if j=0 then o.st else 0:=by
 have hb:=uy hR hl;have hs:=ll o;rw[wi hR hl,if_neg (by omega)];unfold jw;rw[if_neg hk,nX];have:(zs (aB o).toNat).length=(aB o).toNat:=by simp[zs]
 by_cases e:j=0
 ·rw[if_pos ⟨e.symm,by omega⟩,if_pos e]
 ·rw[if_neg (fun z=>e z.1.symm),if_neg e,I9]
end
def Pu (o:Ob) (l:List Int):RS:=⟨aW o l,none,fun _=>none,fun _=>l,0,0,fun _=>0⟩
theorem xR {o:Ob} {l:List Int} (ho:o.Ok) (hR:bD o) (hl:o.ni=l.length) (hk:o.k≠6):∃ J,RegK (cY o) J∧J (Pu o l):=by
 have hh:=Er hR hl;have kw:=fun j hj=>Es hR hl hk (j:=j) hj
 have rR:=ho.st0;have bN:=ho.st1
 rcases ba hR with ⟨k,q⟩ | ⟨k,q⟩ | ⟨k,q⟩ | ⟨k,q⟩ | ⟨k,q⟩ | ⟨k,q⟩
 ·
  have gV:(et o).toNat=4:=by unfold et dT dw;rw[k];simp
  have ay:l.length=(cY o).wd:=by have:=q.1.2.2.2.1;show l.length=o.wd.toNat;omega
  have aS:(cY o).nr=1:=q.2.2.2.2;have du:=q.2.2.2.1;rw[gV] at hh kw;have h0:(aW o l).getD 0 0=0:=by rw[kw 0 (by omega),if_pos rfl,du]
  have h1:(aW o l).getD 1 0=0:=by rw[kw 1 (by omega),if_neg (by decide)]
  have CL:∀ p,fS p→oD (aW o l) p=0:=fun p hp=>by
   unfold oD;unfold fS at hp;rw[kw _ (by omega),if_neg (by omega)]
  refine⟨J1 (cY o),Po k aS,fun _=>0,fun p=>p=0,?_⟩
  constructor
  case b0=>exact .inl h0
  case b1=>exact .inl h1
  case bi=>exact fun p hp=>.inl (CL p hp)
  case data=>
   intro p hp hs;have hs:p=0:=hs;show Has (aW o l) (eL (cY o) p (oD (aW o l) p)) l (cY o).wd;rw[CL p hp,hs];show Has (aW o l) (eL (cY o) 0 0) l (cY o).wd;rw[← ay,show eL (cY o) 0 0=4 by unfold eL;simp];exact hh
  case sl=>exact h0
  case vg=>rfl
  case vn=>exact fun p _=>Nat.le_refl _
  case w0=>exact fun _=>rfl
  case w1=>exact fun c e=>by cases e
  case vo=>exact fun p _ _=>.inl (Nat.le_refl _)
  case ia=>exact fun c e=>by cases e
  case ib=>exact fun k d e=>by cases e
  case r0=>exact fun k d e=>by cases e
  case r3=>exact fun k d e=>by cases e
 ·
  have gV:(et o).toNat=1+o.nr:=by unfold et dT dw;rw[k];simp;omega
  have ay:l.length=(cY o).wd:=by have:=q.1.2.2.2.1;show l.length=o.wd.toNat;omega
  have du:=q.2.2.2;rw[gV] at hh kw;have h0:(aW o l).getD 0 0=0:=by rw[kw 0 (by omega),if_pos rfl,du]
  refine⟨J2 (cY o),Pp k,?_,?_,fun _=>rfl,fun c e=>(by cases e),fun k d e=>by cases e⟩
  ·show 0≤(aW o l).getD 0 0∧(aW o l).getD 0 0≤_;rw[h0];omega
  ·show Has (aW o l) (bA (cY o) ((aW o l).getD 0 0)) l (cY o).wd;rw[h0,← ay,show bA (cY o) 0=1+o.nr by unfold bA;simp;rfl];exact hh
 ·
  have gV:(et o).toNat=1:=by unfold et dT dw;rw[k];simp
  have ay:l.length=(cY o).wd:=by have:=q.1.2.2.2.1;show l.length=o.wd.toNat;omega
  have du:=q.2.2.2;rw[gV] at hh kw;have h0:(aW o l).getD 0 0=o.st:=by rw[kw 0 (by omega),if_pos rfl]
  refine⟨J3 (cY o),Pq k du rR,fun _=>rfl,fun c e=>(by cases e),fun _=>⟨?_,?_⟩,fun c e=>(by cases e),fun k d e=>by cases e⟩
  ·show(aW o l).getD 0 0=(o.st+2*((0:Nat):Int))%4294967296;rw[h0];omega
  ·show Has (aW o l) 1 l (cY o).wd;rw[← ay];exact hh
 ·
  have ak:=Int.emod_nonneg o.st (show o.s≠0 by have:=q.2.1;omega);have aj:(((cY o).sl:Nat):Int)=o.s:=by show((o.s.toNat:Nat):Int)=o.s;have:=q.2.1;omega
  have cO:2≤(cY o).sl:=by have:=q.2.1;omega
  have ML:=q.1.2.1
  have gV:(et o).toNat=jT (cY o) 0:=by
   unfold et dT dw jT rU;rw[k,aj];show(1+o.st%o.s*o.wd).toNat=1+((o.st+((0:Nat):Int))%o.s).toNat*o.wd.toNat;rw[show o.st+((0:Nat):Int)=o.st by omega];obtain⟨a,ha⟩:∃ a:Nat,o.st%o.s=a:=⟨(o.st%o.s).toNat,by omega⟩;obtain⟨b,hb⟩:∃ b:Nat,o.wd=b:=⟨o.wd.toNat,by omega⟩;rw[ha,hb,← Int.natCast_mul];simp;omega
  have ay:l.length=(cY o).wd:=by have:=q.1.2.2.2.1;show l.length=o.wd.toNat;omega
  have du:=q.2.2.2.2;have fm:1≤jT (cY o) 0:=Nat.le_add_right 1 _;rw[gV] at hh kw;have h0:(aW o l).getD 0 0=o.st:=by rw[kw 0 (by omega),if_pos rfl]
  refine⟨J4 (cY o),Ps k cO,fun _=>rfl,?_,fun c e=>(by cases e),fun j a _=>?_,fun k d e=>by cases e⟩
  ·show(aW o l).getD 0 0=(o.st+((0:Nat):Int))%((cY o).sl*1048576);rw[h0,aj,show o.st+((0:Nat):Int)=o.st by omega,Int.emod_eq_of_lt rR du]
  ·have a:j≤0:=a;obtain rfl:j=0:=by omega
   show Has (aW o l) (jT (cY o) 0) l (cY o).wd;rw[← ay];exact hh
 ·
  have gV:(et o).toNat=1+o.nr:=by unfold et dT dw;rw[k];simp;omega
  have ay:l.length=(cY o).wd:=by have:=q.1.2.2.2.1;show l.length=o.wd.toNat;omega
  have du:=q.2.2.2.2;have aj:(((cY o).sl:Nat):Int)=o.s:=by show((o.s.toNat:Nat):Int)=o.s;have:=q.2.1;omega
  rw[gV] at hh kw;have h0:(aW o l).getD 0 0=0:=by rw[kw 0 (by omega),if_pos rfl,du]
  refine⟨J5 (cY o),Pt k,?_,?_,fun _=>rfl,fun c e=>(by cases e),fun k d e=>by cases e⟩
  ·show 0≤(aW o l).getD 0 0∧(aW o l).getD 0 0<((cY o).sl:Int);rw[h0,aj];have:=q.2.1;omega
  ·show Has (aW o l) (bA (cY o) ((aW o l).getD 0 0)) l (cY o).wd;rw[h0,← ay,show bA (cY o) 0=1+o.nr by unfold bA;simp;rfl];exact hh
 ·exact absurd k hk
theorem Lin.start {o:Ob} {ls:List (List Td)} {l:List Int} (ho:o.Ok) (hf:dE o ls=0) (hl:o.ni=l.length) (hw:W32 l):Lin o l (gC ls (aW o l)):=by
 obtain⟨hR,bf,kv⟩:=dR hf
 have D9:∀ (k:Nat) (p:Pr),(gC ls (aW o l)).ps[k]?=some p→∃ x,ls[k]?=some x∧p=⟨x,none,0⟩:=fun k p e=>by
  unfold gC at e;rw[List.getElem?_map] at e;cases q:ls[k]? with
  | none=>rw[q] at e;cases e
  | some x=>rw[q] at e;exact⟨x,rfl,(Option.some.inj e).symm⟩
 have m6:∀ k:Nat,pQ (gC ls (aW o l)).ps[k]?=none:=fun k=>by
  cases q:(gC ls (aW o l)).ps[k]? with
  | none=>rfl
  | some p=>
   obtain⟨x,_,rfl⟩:=D9 k p q;rfl
 have hz:=oG hR hl;have ay:=Gt hR;refine⟨LRt.start,fun k p e t ht=>?_,fun x hx=>(by cases hx),fun hk=>?_,fun hk=>?_⟩
 ·obtain⟨x,hx,rfl⟩:=D9 k p e;obtain⟨h1,h2⟩:=l6 kv k x hx t ht;rw[Nat.zero_add] at h1 h2;unfold nB at h2;refine⟨h1,fun k9=>?_,?_⟩
  ·rw[if_neg k9] at h2;exact List.length_eq_zero_iff.1 (by omega)
  ·by_cases k9:k=0
   ·rw[if_pos k9] at h2;have:o.wd.toNat≤8:=ay;omega
   ·rw[if_neg k9] at h2;omega
 ·obtain⟨J,h1,h2⟩:=xR ho hR hl hk
  have e:iU (gC ls (aW o l)) (fun _=>l) 0 (fun _=>0)=Pu o l:=by
   unfold iU Pu;rw[m6 0];have:(fun k=>pQ (gC ls (aW o l)).ps[k+1]?)=fun _=>none:=funext fun k=>m6 (k+1)
   rw[this];rfl
  have JA:l.length=(cY o).wd:=by
   show l.length=o.wd.toNat
   rcases ba hR with ⟨k,q⟩ | ⟨k,q⟩ | ⟨k,q⟩ | ⟨k,q⟩ | ⟨k,q⟩ | ⟨k,q⟩
   ·have:=q.1.2.2.2.1;omega
   ·have:=q.1.2.2.2.1;omega
   ·have:=q.1.2.2.2.1;omega
   ·have:=q.1.2.2.2.1;omega
   ·have:=q.1.2.2.2.1;omega
   ·exact absurd k hk
  refine⟨J,fun _=>0,fun _=>l,fun _=>0,h1,fun _ _ _ _=>Nat.le_refl _,?_,by rw[e];exact h2,rfl,fun i x hx=>(by simp[gC] at hx),fun i x hx=>(by simp[gC] at hx),fun i x hx=>(by simp[gC] at hx),fun k p c hp hc=>?_⟩
  ·rw[e];refine⟨?_,Gr ho hw,Nat.zero_le _,Nat.le_refl _,fun _ _=>JA,fun c e=>(by cases e),fun k c e=>(by cases e),fun k c e=>by cases e⟩;show(aW o l).length=(aB o).toNat;omega
  ·obtain⟨x,_,rfl⟩:=D9 k p hp;cases hc
 ·refine⟨fun _=>l,?_,Nat.le_refl _,fun i x hx=>(by simp[gC] at hx),fun i x hx=>(by simp[gC] at hx),fun i x hx=>(by simp[gC] at hx),fun k p c hp hc=>?_,?_⟩
  ·have hq:bL o:=by
    rcases ba hR with ⟨k,q⟩ | ⟨k,q⟩ | ⟨k,q⟩ | ⟨k,q⟩ | ⟨k,q⟩ | ⟨k,q⟩
    ·omega
    ·omega
    ·omega
    ·omega
    ·omega
    ·exact q
   have Rr:=hq.1.2.2.2.1;have uo:l=[]:=List.length_eq_zero_iff.1 (by omega);have aj:(((cY o).sl:Nat):Int)=o.s:=by show((o.s.toNat:Nat):Int)=o.s;have:=hq.2.1;omega
   have du:=hq.2.2.2.2.1;have rR:=ho.st0
   have hN:3≤(aB o).toNat:=by
    have:=nE hR;obtain⟨a1,a2,a3,a4,a5⟩:=this;have h6:dT o=2:=by unfold dT;rw[hk];simp
    have:=Int.mul_pos (show 0<iY o by omega) (show 0<o.wd by omega);omega
   have hB:aW o l=jw o:=by
    unfold aW;rw[if_pos hR,uo];unfold lA;simp
   have JM:(zs (aB o).toNat).length=(aB o).toNat:=by simp[zs]
   have h0:(aW o l).getD 0 0=o.st:=by
    rw[hB];unfold jw;rw[if_pos hk,bt (by decide),cN (by omega)]
   have h1:(aW o l).getD 1 0=o.st:=by
    rw[hB];unfold jw;rw[if_pos hk,cN (by rw[List.length_set];omega)]
   have Lf:(o.st+((0:Nat):Int))%(2*(cY o).sl)=o.st:=by
    rw[aj,show o.st+((0:Nat):Int)=o.st by omega,Int.emod_eq_of_lt rR du]
   refine⟨?_,Gr ho hw,h0.trans Lf.symm,h1.trans Lf.symm,Nat.le_refl _,Nat.zero_le _,fun j hj=>absurd hj (Nat.not_lt_zero _),fun j _ hj=>absurd hj (Nat.not_lt_zero _),fun c e=>?_,fun c e=>?_⟩
   ·show(aW o l).length=(aB o).toNat;omega
   ·have e:pQ (gC ls (aW o l)).ps[0]?=some c:=e;rw[m6 0] at e;cases e
   ·have e:pQ (gC ls (aW o l)).ps[1]?=some c:=e;rw[m6 1] at e;cases e
  ·obtain⟨x,_,rfl⟩:=D9 k p hp;cases hc
  ·have aS:o.nr=1:=by
    rcases ba hR with ⟨k,q⟩ | ⟨k,q⟩ | ⟨k,q⟩ | ⟨k,q⟩ | ⟨k,q⟩ | ⟨k,q⟩
    ·omega
    ·omega
    ·omega
    ·omega
    ·omega
    ·exact q.2.2.2.2.2
   unfold gC;rw[List.length_map];omega
section
variable {o:Ob} {init:List Int} {L:Lm}
theorem Lin.w32 (h:Lin o init L):W32 L.mem:=by
 by_cases hk:o.k=6
 ·obtain⟨R,a⟩:=h.que hk;exact a.kk.w32
 ·obtain⟨J,pub,R,lo,_,a⟩:=h.reg hk;exact a.gn.w32
theorem Lin.turn (h:Lin o init L) (hR:bD o) {j:Nat} (hg:L.Good o j) (hn:L.calls.length<1000) (k:Int):Lin o init (Lm.turn (eg o) Kc.step L k):=by
 cases h1:Lm.turn? (eg o) Kc.step L k with
 | none=>unfold Lm.turn;rw[h1];exact h
 | some L'=>
  rw[Lm.turn_is h1];obtain⟨p,hp,h2⟩:=Lm.turn_one h1;exact h.one hR hg hn hp h2
theorem Lin.runs {ks:List Int} (h:Lin o init L) (hR:bD o) (hg:Lm.GoodTo o L ks ks.length) (hk:ks.length<1000):Lin o init (Lm.run (eg o) Kc.step L ks):=by
 have h1:∀ j,j≤ks.length→Lin o init (Lm.run (eg o) Kc.step L (ks.take j)):=fun j=>by
  induction j with
  | zero=>intro _;exact h
  | succ j ih=>
   intro hj;rw[Lm.run_snoc (List.getElem?_eq_getElem (show j<ks.length by omega))];have Q9:=(hg j (by omega)).1;exact(ih (by omega)).turn hR Q9 (by have:=Q9.cn;omega) _
 have h2:=h1 ks.length (Nat.le_refl _);rw[List.take_length] at h2;exact h2
theorem Lin.drain (hR:bD o) {T n k:Nat} (hT:T<1000):∀ (f:Nat) (L:Lm),Lin o init L→L.Fin o T n→Lin o init (drain o (k:Int) f L)∧(drain o (k:Int) f L).Fin o T n:=by
 intro f
 induction f with
 | zero=>exact fun L h hF=>⟨h,hF⟩
 | succ f ih=>
  intro L h hF;cases h1:Lm.turn? (eg o) Kc.step L (k:Int) with
  | none=>rw[ki h1];exact⟨h,hF⟩
  | some L'=>
   rw[kj h1];obtain⟨p,hp,h2⟩:=Lm.turn_one h1;obtain⟨j,hg⟩:=hF.good;exact ih L' (h.one hR hg (by have:=hF.cl;omega) hp h2) (hF.turn h.w32 h1).1
theorem Lin.drains (hR:bD o) {T n:Nat} (hT:T<1000) (f:Nat) (h:Lin o init L) (hF:L.Fin o T n):∀ k,Lin o init (drains o f k L)∧(drains o f k L).Fin o T n:=by
 intro k
 induction k with
 | zero=>exact⟨h,hF⟩
 | succ k ih=>exact Lin.drain hR hT f _ ih.1 ih.2
theorem Lin.ops_are (h:Lin o init L):∀ (i:Nat) (x:Cl),L.calls[i]?=some x→1≤x.q∧x.q≤4∧0≤x.c∧x.c≤3:=fun i x hx=>by
 by_cases hk:o.k=6
 ·obtain⟨R,a⟩:=h.que hk
  by_cases hp:x.p=0
  ·obtain⟨a1,a2⟩:=a.put i x hx hp
   rcases a2 with ⟨_,a2⟩ | ⟨_,a2⟩
   ·omega
   ·rcases a2 with ⟨a2,_⟩ | ⟨a2,_⟩ <;> omega
  ·obtain⟨_,a1,a2⟩:=a.take i x hx hp
   rcases a2 with ⟨_,a2⟩ | ⟨_,a2⟩
   ·omega
   ·rcases a2 with ⟨a2,_⟩ | ⟨a2,_⟩ <;> omega
 ·obtain⟨J,pub,R,lo,_,a⟩:=h.reg hk
  by_cases hp:x.p=0
  ·obtain⟨a1,a2,_⟩:=a.wr i x hx hp;omega
  ·obtain⟨a1,a2⟩:=a.rd i x hx hp
   rcases a2 with ⟨_,a2⟩ | ⟨_,_,a2⟩
   ·omega
   ·rcases a2 with a2 | ⟨a2,_⟩ <;> omega
theorem Lin.right (h:Lin o init L) (hn:L.now≤1000000) (hp:L.ps.length≤1000):eu L.calls=true:=by
 refine oQ fun i _ x hx=>⟨?_,fun k y hk hy=>?_⟩
 ·obtain⟨a1,a2,a3,a4,j,a5,a6⟩:=h.rt.tm i x hx;obtain⟨b1,b2,b3,b4⟩:=h.ops_are i x hx;have b5:=h.rl x (List.mem_of_getElem? hx);unfold Dg xt;rw[a4,a6];simp only[Bool.and_eq_true,Bool.or_eq_true,decide_eq_true_eq,beq_iff_eq];refine⟨⟨⟨⟨⟨⟨⟨⟨⟨by omega,by omega⟩,by omega⟩,by omega⟩,b1⟩,b2⟩,b3⟩,b4⟩,?_⟩,b5⟩;omega
 ·unfold fU
  by_cases e:x.p=y.p
  ·have:=h.rt.pr k i y x hk hy hx e.symm
   have hb:dx y x=true:=by
    unfold dx;simp[this.1,this.2]
   rw[hb];simp
  ·have:(x.p==y.p)=false:=by simpa using e
   rw[this];rfl
end
theorem pV {o:Ob} {k:Int}:∀ (f:Nat) (L:Lm),(drain o k f L).ps.length=L.ps.length
 | 0,_=>rfl
 | f+1,L=>by
  cases h:Lm.turn? (eg o) Kc.step L k with
  | none=>rw[ki h]
  | some L'=>
   rw[kj h,pV f L'];have:=Lm.turn_len (bg:=eg o) (st:=Kc.step) (L:=L) k;unfold Lm.turn at this;rw[h] at this;exact this
theorem nP {o:Ob} {f:Nat} {L:Lm}:∀ k,(drains o f k L).ps.length=L.ps.length
 | 0=>rfl
 | k+1=>(pV f _).trans (nP k)
structure LinW (o:Ob) (l:List Int) (L:Lm):Prop where
 lin:Lin o l L
 up:L.Up
 now:L.now≤1000000
 ps:L.ps.length≤1000
 cl:L.calls.length≤400
 c40:o.k=6→L.calls.length≤40
section
variable {o:Ob} {gs:List PG} {l ks:List Int} (ho:o.Ok) (hf:dE o (cV gs)=0) (hl:o.ni=l.length) (hw:W32 l) (h1:gs.length≤20) (h2:∀ g ∈ gs,g.ts.length≤20) (hk:ks.length<1000) (hg:Lm.GoodTo o (gC (cV gs) (aW o l)) ks ks.length)
include hf h1 h2
theorem wj {L:Lm} (hL:Lin o l L) (hF:L.Fin o (lq (cV gs)) (gO o (cV gs))) (lK:L.ps.length=gs.length):LinW o l L:=by
 obtain⟨hR,bf,_⟩:=dR hf;obtain⟨j,mg⟩:=hF.good;have iw:=hF.cl;have hT:=ri h1 h2;have hn:=vC hR h1 h2;have gl:=hF.now;refine⟨hL,mg.up,by omega,by omega,by omega,fun hk=>?_⟩
 have aS:o.nr=1:=by
  rcases ba hR with ⟨q,_⟩ | ⟨q,_⟩ | ⟨q,_⟩ | ⟨q,_⟩ | ⟨q,_⟩ | ⟨_,q⟩
  ·omega
  ·omega
  ·omega
  ·omega
  ·omega
  ·exact q.2.2.2.2.2
 have fJ:(cV gs).length=gs.length:=by unfold cV;rw[List.length_map]
 have hs:=oX List.length 20 (cV gs) (fun x hx=>by
  unfold cV at hx;obtain⟨g,hg,rfl⟩:=List.mem_map.1 hx;rw[List.length_map];exact h2 g hg)
 have:lq (cV gs)=((cV gs).map List.length).sum:=rfl;rw[fJ] at hs bf;have:gs.length=2:=by omega
 rw[this] at hs;omega
include ho hl hw hk hg
theorem sR:LinW o l (Lm.run (eg o) Kc.step (gC (cV gs) (aW o l)) ks)∧(Lm.run (eg o) Kc.step (gC (cV gs) (aW o l)) ks).Fin o (lq (cV gs)) (gO o (cV gs)):=by
 have hR:=(dR hf).1;have hL:=(Lin.start ho hf hl hw).runs hR hg hk;have hF:=(Lm.Fin.start (hg 0 (Nat.zero_le _)).1).runs hg;refine⟨wj hf h1 h2 hL hF ?_,hF⟩;rw[Lm.run_len];unfold gC cV;simp
theorem AL:LinW o l (t7 o gs (aW o l) ks):=by
 obtain⟨a,hF⟩:=sR ho hf hl hw h1 h2 hk hg;have hR:=(dR hf).1;obtain⟨b1,b2⟩:=Lin.drains hR (show lq (cV gs)<1000 by have:=ri h1 h2;omega) (gO o (cV gs)) a.lin hF gs.length;refine wj hf h1 h2 b1 b2 ?_;unfold t7;rw[nP,Lm.run_len];unfold gC cV;simp
end
end Go.Proofs.YtabfcjohdgjkoaaGreatDoor
