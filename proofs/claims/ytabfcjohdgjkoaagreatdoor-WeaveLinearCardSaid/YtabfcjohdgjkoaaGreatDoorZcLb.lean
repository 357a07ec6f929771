/- Each kind of object keeps what its calls tell. -/
import Derived.Test.YtabfcjohdgjkoaaGreatDoorZcLa
namespace Go.Proofs.YtabfcjohdgjkoaaGreatDoor
def nL (P:Par) (g:Nat):Int:=(P.st+2*g)%4294967296
structure J3 (P:Par) (s:RS):Prop where
 w0:s.w=none→s.g=s.n
 w1:∀ c,s.w=some c→s.n=s.g+1∧(1≤c.ph→c.A=nL P s.g)∧(c.ph=2→Has s.l 1 (s.R s.n) c.i)∧(c.ph=3→Has s.l 1 (s.R s.n) P.wd)
 q0:(∀ c,s.w=some c→c.ph≤1)→s.l.getD 0 0=nL P s.g∧Has s.l 1 (s.R s.g) P.wd
 q1:∀ c,s.w=some c→2≤c.ph→s.l.getD 0 0=(nL P s.g+1)%4294967296
 rd:∀ k c,s.r k=some c→(c.ph=0→c.rc=[]∧c.i=0)∧(1≤c.ph→∃ a,s.lo k≤a∧a≤s.g∧c.A=nL P a∧(a=s.g→(∀ d,s.w=some d→d.ph≤1)→(c.ph=1→Pre c.rc (s.R a) c.i)∧(c.ph=2→c.rc=s.R a)))
theorem Pq {P:Par} (hk:P.kd=3) (hs:P.st%2=0) (_h0:0≤P.st):RegK P (J3 P):=by
 refine⟨fun s c G J hw hc ho hn=>?_,fun s k c G J hr hc ho um fZ=>?_,fun s c G J hw=>?_,fun s k c G J hr=>?_⟩
 ·obtain⟨j1,j2,j3,j4,j5⟩:=J;have ae:=hc.ph;have gY:=G.gn
  constructor <;> simp only[RS.bw,upd] <;> grind
 ·obtain⟨j1,j2,j3,j4,j5⟩:=J;have ae:=hc.ph;have hi:=hc.i
  constructor <;> simp only[RS.br,upd] <;> grind
 ·obtain⟨hO,h2,fZ,gT⟩:=G.w c hw;obtain⟨b1,b2⟩:=((hO.inv.d3 (hO.kd.trans hk)).2.2 hO.over).1 (by rw[h2];rfl);have ay:=hO.wd;have bY:P.sz=1+P.wd:=by rw[← hO.size,← hO.wd];exact hO.inv.sta.s3 (hO.kd.trans hk)
  have bf:=G.len;have gY:=G.gn;have hR:=G.R s.n (Nat.le_refl _);obtain⟨j1,j2,j3,j4,j5⟩:=J;obtain⟨f1,f2,f3,f4⟩:=j2 c hw
  rcases (by omega:c.ph=0∨c.ph=1∨c.ph=2∨c.ph=3) with ae | ae | ae | ae
  ·obtain⟨⟨v1,v2,v3,v4,v5,v6,v7⟩,e⟩:=Fk (l:=s.l) hk hO h2 ae;rw[e];generalize (c.step s.l).1=c' at *;refine⟨s.g,Nat.le_refl _,gY,by grind,by grind,?_⟩
   constructor <;> simp only[RS.sw] <;> grind
  ·obtain⟨⟨v1,v2,v3,v4,v5,v6,v7⟩,e⟩:=Fl (l:=s.l) hk hO h2 ae;rw[e];generalize (c.step s.l).1=c' at *;refine⟨s.g,Nat.le_refl _,gY,by grind,by grind,?_⟩;have h1:(s.l.set 0 ((c.A+1)%4294967296)).getD 0 0=(c.A+1)%4294967296:=cN (by omega);have h3:∀ v,Has (s.l.set 0 ((c.A+1)%4294967296)) 1 v 0:=fun v=>Has.zero
   constructor <;> simp only[RS.sw] <;> grind
  ·obtain⟨e,hv⟩:=Fm (l:=s.l) hk hO h2 ae (by have:=b2 ae;omega);rw[e];generalize (c.step s.l).1=c' at *;have h1:(s.l.set (1+c.i) (c.rc.getD c.i 0)).getD 0 0=s.l.getD 0 0:=bt (by omega);have h3:Has (s.l.set (1+c.i) (c.rc.getD c.i 0)) 1 (s.R s.n) (c.i+1):=(f3 ae).next (by rw[fZ]) (by have:=b2 ae;omega)
   rcases hv with ⟨_,v1,v2,v3,v4,v5,v6,v7⟩ | ⟨nt,v1,v2,v3,v4,v5,v6,v7⟩
   ·refine⟨s.g,Nat.le_refl _,gY,by grind,by grind,?_⟩
    constructor <;> simp only[RS.sw] <;> grind
   ·refine⟨s.g,Nat.le_refl _,gY,by grind,by grind,?_⟩
    constructor <;> simp only[RS.sw] <;> grind
  ·obtain⟨v1,v2,_,e⟩:=Fn (l:=s.l) hk hO h2 ae;rw[e];generalize (c.step s.l).1=c' at *;refine⟨s.n,by omega,Nat.le_refl _,by grind,by grind,?_⟩
   have h1:(s.l.set 0 ((c.A+2)%4294967296)).getD 0 0=nL P s.n:=by
    rw[cN (by omega),f2 (by omega),f1];unfold nL;omega
   have h3:Has (s.l.set 0 ((c.A+2)%4294967296)) 1 (s.R s.n) P.wd:=(f4 ae).far (by omega)
   constructor <;> simp only[RS.sw] <;> grind
 ·obtain⟨hO,h2,jX⟩:=G.r k c hr;obtain⟨b1,b2⟩:=((hO.inv.d3 (hO.kd.trans hk)).2.2 hO.over).2 (by rw[h2];rfl);have ay:=hO.wd;have kw:=G.lo k c hr;have gY:=G.gn;have gT:=G.n1;have hR:=G.R;obtain⟨j1,j2,j3,j4,j5⟩:=J;have MF:∀ a,nL P a%2=0:=fun a=>by unfold nL;omega
  have Od:∀ a,a≤s.g→nL P a=nL P s.g→a=s.g:=fun a ha e=>by unfold nL at e;omega
  have uq:∀ d,s.w=some d→2≤d.ph→s.l.getD 0 0%2=1:=fun d e e2=>by
   have:=j4 d e e2;have:=MF s.g;omega
  have fail:(c.step s.l).2=s.l→∀ B,((c.step s.l).1.over=true∧(c.step s.l).1.code=1∨Vw (c.step s.l).1 0 0 B c.B c.used [])→J3 P (s.sr k (c.step s.l).1 (c.step s.l).2)∧((c.step s.l).1.over=true→(c.step s.l).1.code=0∧(∃ a,s.lo k≤a∧a≤s.g∧(c.step s.l).1.rc=s.R a)∨(c.step s.l).1.code=1):=fun e B hv=>by
   rw[e];generalize (c.step s.l).1=c' at *
   rcases hv with ⟨v1,v2⟩ | ⟨v1,v2,v3,v4,v5,v6,v7⟩
   ·refine⟨?_,by grind⟩
    constructor <;> simp only[RS.sr,upd] <;> grind
   ·refine⟨?_,by grind⟩
    constructor <;> simp only[RS.sr,upd] <;> grind
  rcases (by omega:c.ph=0∨c.ph=1∨c.ph=2) with ae | ae | ae
  ·by_cases he:s.l.getD 0 0%2=1
   ·obtain⟨e,hv⟩:=Cj (l:=s.l) hk hO h2 ae he;exact fail e _ hv
   ·obtain⟨⟨v1,v2,v3,v4,v5,v6,v7⟩,e⟩:=Fh (l:=s.l) hk hO h2 ae he;rw[e];generalize (c.step s.l).1=c' at *;refine⟨?_,by grind⟩;have hq:∀ d,s.w=some d→d.ph≤1:=by grind
    have hp:Pre [] (s.R s.g) 0:=Pre.zero
    constructor <;> simp only[RS.sr,upd] <;> grind
  ·have hi:c.i<P.wd:=by have:=b2 ae;omega
   obtain⟨e,hv⟩:=Fi (l:=s.l) hk hO h2 ae hi;rw[e];generalize (c.step s.l).1=c' at *;have mj:∀ a,Pre c.rc (s.R a) c.i→Has s.l 1 (s.R a) P.wd→Pre (c.rc++[s.l.getD (1+c.i) 0]) (s.R a) (c.i+1):=fun a h1 h2=>h1.next (h2 c.i hi)
   have Gf:∀ a r,a≤s.g→Pre r (s.R a) P.wd→r=s.R a:=fun a r ha h=>h.full (hR a (by omega))
   rcases hv with ⟨_,v1,v2,v3,v4,v5,v6,v7⟩ | ⟨nt,v1,v2,v3,v4,v5,v6,v7⟩
   ·refine⟨?_,by grind⟩
    constructor <;> simp only[RS.sr,upd] <;> grind
   ·refine⟨?_,by grind⟩
    constructor <;> simp only[RS.sr,upd] <;> grind
  ·by_cases he:s.l.getD 0 0=c.A
   ·obtain⟨v1,v2,v3,e⟩:=Fj (l:=s.l) hk hO h2 ae he;rw[e];generalize (c.step s.l).1=c' at *;refine⟨?_,?_⟩
    ·constructor <;> simp only[RS.sr,upd] <;> grind
    ·obtain⟨a,a1,a2,a3,a4⟩:=(j5 k c hr).2 (by omega);have hq:∀ d,s.w=some d→d.ph≤1:=by grind
     have:=Od a a2 (by grind)
     grind
   ·obtain⟨e,hv⟩:=Ck (l:=s.l) hk hO h2 ae he;exact fail e _ hv
theorem kq {x d m:Int} (hd:0≤d) (hm:d<m):Kc.gap (x%m) ((x+d)%m) m=d:=by
 have r0:=Int.emod_nonneg x (show m≠0 by omega);have r1:=Int.emod_lt_of_pos x (show 0<m by omega);have e:(x+d)%m=(x%m+d)%m:=by rw[Int.emod_add_emod]
 unfold Kc.gap;rw[e]
 by_cases h:x%m+d<m
 ·rw[Int.emod_eq_of_lt (by omega) h,if_pos (by omega)];omega
 ·have e2:(x%m+d)%m=x%m+d - m:=by
   rw[show x%m+d=(x%m+d - m)+m by omega,Int.add_emod_right,Int.emod_eq_of_lt (by omega) (by omega)];omega
  rw[e2,if_neg (by omega)];omega
theorem mq {x m:Int} (hm:1<m):Kc.inc (x%m) m=(x+1)%m:=by
 have r0:=Int.emod_nonneg x (show m≠0 by omega);have r1:=Int.emod_lt_of_pos x (show 0<m by omega);have e:(x+1)%m=(x%m+1)%m:=by rw[Int.emod_add_emod]
 unfold Kc.inc;rw[e]
 by_cases h:x%m+1<m
 ·rw[if_pos h,Int.emod_eq_of_lt (by omega) h]
 ·rw[if_neg h,show x%m+1=m by omega,Int.emod_self]
theorem ry {a b i p d:Nat} (h:a≠b) (hi:i<d):p+a*d+i<p+b*d∨p+b*d+d≤p+a*d+i:=by
 rcases (by omega:a+1≤b∨b+1≤a) with q | q
 ·have:=Nat.mul_le_mul_right d q;rw[Nat.add_mul] at this;exact .inl (by omega)
 ·have:=Nat.mul_le_mul_right d q;rw[Nat.add_mul] at this;exact .inr (by omega)
theorem oW {a n i p d:Nat} (h:a<n) (hi:i<d):p+a*d+i<p+n*d:=by
 have:=Nat.mul_le_mul_right d (show a+1≤n from h);rw[Nat.add_mul] at this;omega
def rU (P:Par) (j:Nat):Nat:=((P.st+j)%P.sl).toNat
theorem Bw {P:Par} (h:1≤P.sl) (j:Nat):rU P j<P.sl:=by
 unfold rU;have:=Int.emod_nonneg (P.st+j) (show(P.sl:Int)≠0 by omega);have:=Int.emod_lt_of_pos (P.st+j) (show 0<(P.sl:Int) by omega);omega
theorem Bx {P:Par} {i j:Nat} (h:i<j) (hs:j<i+P.sl):rU P i≠rU P j:=by
 intro e;unfold rU at e;have r0:=Int.emod_nonneg (P.st+i) (show(P.sl:Int)≠0 by omega);have r1:=Int.emod_nonneg (P.st+j) (show(P.sl:Int)≠0 by omega);have e2:(P.st+j)%P.sl=(P.st+i)%P.sl:=by omega
 have e3:=kq (x:=P.st+i) (d:=(j - i:Nat)) (m:=P.sl) (by omega) (by omega);rw[show P.st+i+((j - i:Nat):Int)=P.st+j by omega,e2] at e3;unfold Kc.gap at e3;rw[if_pos (Int.le_refl _)] at e3;omega
theorem Bv {P:Par} {A:Int} {j:Nat} (h:A=(P.st+j)%(P.sl*1048576)):(A%P.sl).toNat=rU P j:=by
 unfold rU;rw[h,Int.emod_emod_of_dvd _ (Int.dvd_mul_right _ _)]
def jT (P:Par) (j:Nat):Nat:=1+rU P j*P.wd
def Q4 (P:Par) (l:List Int) (g:Nat) (R:Nat→List Int):Prop:=∀ j,j≤g→g+1<j+P.sl→Has l (jT P j) (R j) P.wd
structure J4 (P:Par) (s:RS):Prop where
 w0:s.w=none→s.g=s.n
 i0:s.l.getD 0 0=(P.st+s.g)%(P.sl*1048576)
 w1:∀ c,s.w=some c→s.n=s.g+1∧(1≤c.ph→c.A=(P.st+s.n)%(P.sl*1048576))∧(c.ph=1→Has s.l (jT P s.n) (s.R s.n) c.i)∧(c.ph=2→Has s.l (jT P s.n) (s.R s.n) P.wd)
 q:Q4 P s.l s.g s.R
 rd:∀ k c,s.r k=some c→(c.ph=0→c.rc=[]∧c.i=0)∧(1≤c.ph→∃ a,s.lo k≤a∧a≤s.g∧c.A=(P.st+a)%(P.sl*1048576)∧(s.g+1<a+P.sl→(c.ph=1→Pre c.rc (s.R a) c.i)∧(c.ph=2→c.rc=s.R a)))
theorem Ps {P:Par} (hk:P.kd=4) (cO:2≤P.sl):RegK P (J4 P):=by
 refine⟨fun s c G J hw hc ho hn=>?_,fun s k c G J hr hc ho um fZ=>?_,fun s c G J hw=>?_,fun s k c G J hr=>?_⟩
 ·obtain⟨j1,j2,j3,j4,j5⟩:=J;have ae:=hc.ph;have gY:=G.gn;have xh:∀ a,a≤s.n→upd s.R (s.n+1) c.rc a=s.R a:=fun a ha=>eM (by omega)
  have hQ:Q4 P s.l s.g (upd s.R (s.n+1) c.rc):=fun j a b=>by rw[xh j (by omega)];exact j4 j a b
  constructor <;> simp only[RS.bw] <;> grind
 ·obtain⟨j1,j2,j3,j4,j5⟩:=J;have ae:=hc.ph;have hi:=hc.i
  constructor <;> simp only[RS.br,upd] <;> grind
 ·obtain⟨hO,h2,fZ,gT⟩:=G.w c hw;obtain⟨b1,b2⟩:=(hO.inv.d4 (hO.kd.trans hk)).2.2 hO.over;have ay:=hO.wd;have bY:P.sz=1+P.sl*P.wd:=by rw[← hO.size,← hO.wd,← hO.sl];exact hO.inv.sta.s4 (hO.kd.trans hk)
  have bf:=G.len;have gY:=G.gn;have hR:=G.R s.n (Nat.le_refl _);obtain⟨j1,j2,j3,j4,j5⟩:=J;obtain⟨f1,f2,f3,f4⟩:=j3 c hw
  rcases (by omega:c.ph=0∨c.ph=1∨c.ph=2) with ae | ae | ae
  ·obtain⟨⟨v1,v2,v3,v4,v5,v6,v7⟩,e⟩:=Cg (l:=s.l) hk hO h2 ae;rw[e]
   have hA:(c.step s.l).1.A=(P.st+s.n)%(P.sl*1048576):=by
    rw[v3,j2,Int.emod_emod_of_dvd _ (Int.dvd_refl _),mq (by omega),f1]
    congr 1
    omega
   have h3:∀ v p,Has s.l p v 0:=fun v p=>Has.zero
   generalize (c.step s.l).1=c' at *;refine⟨s.g,Nat.le_refl _,gY,by grind,by grind,?_⟩
   constructor <;> simp only[RS.sw] <;> grind
  ·have hi:c.i<P.wd:=by have:=b2 ae;omega
   obtain⟨e,hv⟩:=Ch (l:=s.l) hk hO h2 ae hi;rw[Bv (f2 (by omega)),show 1+rU P s.n*P.wd=jT P s.n from rfl] at e;rw[e];generalize (c.step s.l).1=c' at *;have aJ:=oW (p:=1) (Bw (P:=P) (by omega) s.n) hi;rw[show 1+rU P s.n*P.wd=jT P s.n from rfl] at aJ;have fm:1≤jT P s.n:=Nat.le_add_right 1 _;have h1:(s.l.set (jT P s.n+c.i) (c.rc.getD c.i 0)).getD 0 0=s.l.getD 0 0:=bt (by omega);have h3:Has (s.l.set (jT P s.n+c.i) (c.rc.getD c.i 0)) (jT P s.n) (s.R s.n) (c.i+1):=(f3 ae).next (by rw[fZ]) (by omega);have h4:Q4 P (s.l.set (jT P s.n+c.i) (c.rc.getD c.i 0)) s.g s.R:=fun j a b=>(j4 j a b).far (ry (fun q=>Bx (P:=P) (i:=j) (j:=s.n) (by omega) (by omega) q.symm) hi)
   rcases hv with ⟨_,v1,v2,v3,v4,v5,v6,v7⟩ | ⟨nt,v1,v2,v3,v4,v5,v6,v7⟩
   ·refine⟨s.g,Nat.le_refl _,gY,by grind,by grind,?_⟩
    constructor <;> simp only[RS.sw] <;> grind
   ·refine⟨s.g,Nat.le_refl _,gY,by grind,by grind,?_⟩
    constructor <;> simp only[RS.sw] <;> grind
  ·obtain⟨v1,v2,_,e⟩:=Ci (l:=s.l) hk hO h2 ae;rw[e];generalize (c.step s.l).1=c' at *;refine⟨s.n,by omega,Nat.le_refl _,by grind,by grind,?_⟩;have h1:(s.l.set 0 c.A).getD 0 0=(P.st+s.n)%(P.sl*1048576):=by rw[cN (by omega),f2 (by omega)]
   have h3:∀ p v d,1≤p→Has s.l p v d→Has (s.l.set 0 c.A) p v d:=fun p v d hp h=>h.far (by omega)
   have h4:Q4 P (s.l.set 0 c.A) s.n s.R:=fun j a b=>by
    refine h3 _ _ _ (Nat.le_add_right 1 _) ?_
    by_cases q:j=s.n
    ·rw[q];exact f4 ae
    ·exact j4 j (by omega) (by omega)
   constructor <;> simp only[RS.sw] <;> grind
 ·obtain⟨hO,h2,jX⟩:=G.r k c hr;obtain⟨b1,b2⟩:=(hO.inv.d4 (hO.kd.trans hk)).2.2 hO.over;have ay:=hO.wd;have kw:=G.lo k c hr;have gY:=G.gn;have gT:=G.n1;have hR:=G.R;obtain⟨j1,j2,j3,j4,j5⟩:=J;have Ie:s.l.getD 0 0%(P.sl*1048576)=(P.st+s.g)%(P.sl*1048576):=by rw[j2,Int.emod_emod_of_dvd _ (Int.dvd_refl _)]
  rcases (by omega:c.ph=0∨c.ph=1∨c.ph=2) with ae | ae | ae
  ·obtain⟨⟨v1,v2,v3,v4,v5,v6,v7⟩,e⟩:=Cd (l:=s.l) hk hO h2 ae;rw[e];rw[Ie] at v3;generalize (c.step s.l).1=c' at *;refine⟨?_,by grind⟩;have hp:Pre [] (s.R s.g) 0:=Pre.zero
   constructor <;> simp only[RS.sr,upd] <;> grind
  ·have hi:c.i<P.wd:=by have:=b2 ae;omega
   obtain⟨e,hv⟩:=Ce (l:=s.l) hk hO h2 ae hi;obtain⟨a,a1,a2,a3,a4⟩:=(j5 k c hr).2 (by omega);rw[Bv a3,show 1+rU P a*P.wd=jT P a from rfl] at hv;rw[e];generalize (c.step s.l).1=c' at *;have mj:s.g+1<a+P.sl→Pre (c.rc++[s.l.getD (jT P a+c.i) 0]) (s.R a) (c.i+1):=fun h=>((a4 h).1 ae).next (j4 a a2 h c.i hi)
   have Gf:∀ r,Pre r (s.R a) P.wd→r=s.R a:=fun r h=>h.full (hR a (by omega))
   rcases hv with ⟨_,v1,v2,v3,v4,v5,v6,v7⟩ | ⟨nt,v1,v2,v3,v4,v5,v6,v7⟩
   ·refine⟨?_,by grind⟩
    constructor <;> simp only[RS.sr,upd] <;> grind
   ·refine⟨?_,by grind⟩
    constructor <;> simp only[RS.sr,upd] <;> grind
  ·obtain⟨a,a1,a2,a3,a4⟩:=(j5 k c hr).2 (by omega)
   have D8:Kc.gap c.A (s.l.getD 0 0%(P.sl*1048576)) (P.sl*1048576)=(s.g - a:Nat):=by
    rw[Ie,a3,show P.st+s.g=P.st+a+((s.g - a:Nat):Int) by omega];exact kq (by omega) (by omega)
   by_cases he:Kc.gap c.A (s.l.getD 0 0%(P.sl*1048576)) (P.sl*1048576)<P.sl - 1
   ·obtain⟨v1,v2,v3,e⟩:=Cf (l:=s.l) hk hO h2 ae he;rw[e];rw[D8] at he;generalize (c.step s.l).1=c' at *;refine⟨?_,?_⟩
    ·constructor <;> simp only[RS.sr,upd] <;> grind
    ·have:=(a4 (by omega)).2 ae
     grind
   ·obtain⟨e,hv⟩:=yb (l:=s.l) hk hO h2 ae he;rw[e];generalize (c.step s.l).1=c' at *
    rcases hv with ⟨v1,v2⟩ | ⟨v1,v2,v3,v4,v5,v6,v7⟩
    ·refine⟨?_,by grind⟩
     constructor <;> simp only[RS.sr,upd] <;> grind
    ·refine⟨?_,by grind⟩
     constructor <;> simp only[RS.sr,upd] <;> grind
set_option maxHeartbeats 4000000
def fS (x:Int):Prop:=x=0∨x=1
def oD (l:List Int) (A:Int):Int:=l.getD (2+A.toNat) 0
def eL (P:Par) (A B:Int):Nat:=4+(2*A+B).toNat*P.wd
def Ja (P:Par) (l:List Int) (V:Int→Nat) (S:Int→Prop) (R:Nat→List Int):Prop:=∀ p,fS p→S p→Has l (eL P p (oD l p)) (R (V p)) P.wd
structure K1 (P:Par) (s:RS) (V:Int→Nat) (S:Int→Prop):Prop where
 b0:fS (s.l.getD 0 0)
 b1:fS (s.l.getD 1 0)
 bi:∀ p,fS p→fS (oD s.l p)
 data:Ja P s.l V S s.R
 sl:S (s.l.getD 0 0)
 vg:s.g=V (s.l.getD 0 0)
 vn:∀ p,fS p→V p≤s.n
 w0:s.w=none→s.g=s.n
 w1:∀ c,s.w=some c→(c.ph≤3→s.n=s.g+1)∧(c.ph=4→V c.A=s.n∧S c.A)∧(1≤c.ph→fS c.A)∧(2≤c.ph→fS c.B)∧(c.ph=2∨c.ph=3→c.B=1 - oD s.l c.A)∧(c.ph=2→Has s.l (eL P c.A c.B) (s.R s.n) c.i)∧(c.ph=3→Has s.l (eL P c.A c.B) (s.R s.n) P.wd)
 vo:∀ p,fS p→p≠s.l.getD 0 0→V p≤s.g∨∃ c,s.w=some c∧c.ph=4∧c.A=p
 ia:∀ c,s.w=some c→1≤c.ph→c.A≠s.l.getD 0 0→s.l.getD 1 0=s.l.getD 0 0∧∀ k d,s.r k=some d→d.ph=1→d.A=s.l.getD 0 0
 ib:∀ k d,s.r k=some d→d.ph=1→d.A≠s.l.getD 0 0→s.l.getD 1 0=d.A∧∀ c,s.w=some c→1≤c.ph→c.A=s.l.getD 0 0
 r0:∀ k d,s.r k=some d→(d.ph≤2→d.rc=[]∧d.i=0)∧(1≤d.ph→fS d.A)∧(d.ph=1∨d.ph=2→s.lo k≤V d.A∧S d.A)∧(2≤d.ph→s.l.getD 1 0=d.A)
 r3:∀ k d,s.r k=some d→d.ph=3→fS d.B∧∃ a,s.lo k≤a∧a≤s.g∧Has s.l (eL P d.A d.B) (s.R a) P.wd∧Pre d.rc (s.R a) d.i∧∀ c,s.w=some c→c.A=d.A→(c.ph=1→d.B=oD s.l d.A)∧(c.ph=2∨c.ph=3→c.B≠d.B)
def J1 (P:Par) (s:RS):Prop:=∃ V S,K1 P s V S
theorem EK {P:Par} {A B C D:Int} {i:Nat} (hA:fS A) (hB:fS B) (hC:fS C) (hD:fS D) (h:A≠C∨B≠D) (hi:i<P.wd):eL P A B+i<eL P C D∨eL P C D+P.wd≤eL P A B+i:=by
 unfold fS at *;exact ry (by omega) hi
theorem ID {l:List Int} {A B p:Int} (hA:fS A) (hp:fS p) (hl:4≤l.length):oD (l.set (2+A.toNat) B) p=if p=A then B else oD l p:=by
 unfold oD fS at *
 by_cases e:p=A
 ·rw[if_pos e,e,cN (by omega)]
 ·rw[if_neg e,bt (by omega)]
theorem uw {l:List Int} {k:Nat} {x p:Int} (hp:fS p) (hk:k<2∨4≤k):oD (l.set k x) p=oD l p:=by
 unfold oD fS at *;rw[bt (by omega)]
theorem LY {x:Int} (h:fS x):Kc.one x=1 - x:=by unfold fS at h;unfold Kc.one;omega
theorem vA {x:Int} (h:fS x):x%2=x:=by unfold fS at h;omega
theorem vB {x:Int} (h:fS x):fS (1 - x):=by unfold fS at *;omega
theorem yS {x y:Int} (hx:fS x) (hy:fS y) (h:x≠y):x=1 - y:=by unfold fS at *;omega
theorem yR {x:Int}:1 - x≠x:=by omega
theorem Po {P:Par} (hk:P.kd=1) (aS:P.nr=1):RegK P (J1 P):=by
 refine⟨fun s c G ⟨V,S,J⟩ hw hc ho hn=>?_,fun s k c G ⟨V,S,J⟩ hr hc ho um fZ=>?_,fun s c G ⟨V,S,J⟩ hw=>?_,fun s k c G ⟨V,S,J⟩ hr=>?_⟩
 ·obtain⟨b0,b1,bi,j1,sl0,vg,vn,w0,w1,vo,ia,ib,r0,r3⟩:=J;have ae:=hc.ph;have gY:=G.gn;have xh:∀ a,a≤s.n→upd s.R (s.n+1) c.rc a=s.R a:=fun a ha=>eM (by omega)
  have hQ:Ja P s.l V S (upd s.R (s.n+1) c.rc):=fun p hp hs=>by rw[xh _ (vn p hp)];exact j1 p hp hs
  refine⟨V,S,?_⟩
  constructor <;> simp only[RS.bw] <;> grind
 ·obtain⟨b0,b1,bi,j1,sl0,vg,vn,w0,w1,vo,ia,ib,r0,r3⟩:=J;have ae:=hc.ph;have hi:=hc.i;refine⟨V,S,?_⟩
  constructor <;> simp only[RS.br,upd] <;> grind
 ·obtain⟨hO,h2,fZ,gT⟩:=G.w c hw;obtain⟨b1',b2'⟩:=((hO.inv.d1 (hO.kd.trans hk)).2.2 hO.over).1 (by rw[h2];rfl);have ay:=hO.wd;have bY:P.sz=4+4*P.wd:=by rw[← hO.size,← hO.wd];exact hO.inv.sta.s1 (hO.kd.trans hk)
  have bf:=G.len;have gY:=G.gn;obtain⟨b0,b1,bi,j1,sl0,vg,vn,w0,w1,vo,ia,ib,r0,r3⟩:=J;have hf:=w1 c hw
  rcases (by omega:c.ph=0∨c.ph=1∨c.ph=2∨c.ph=3∨c.ph=4) with ae | ae | ae | ae | ae
  ·obtain⟨⟨v1,v2,v3,v4,v5,v6,v7⟩,e⟩:=B8 (l:=s.l) hk hO h2 ae;rw[e];rw[LY b1] at v3;have hb:=vB b1;generalize (c.step s.l).1=c' at *
   have h3:∀ k d,s.r k=some d→d.ph=3→c'.A≠d.A:=fun k d hd h=>by
    have:=(r0 k d hd).2.2.2 (by omega);omega
   refine⟨s.g,Nat.le_refl _,gY,by grind,by grind,V,S,?_⟩
   constructor <;> simp only[RS.sw]
   case r3=>
    intro k d hd Ge;obtain⟨q1,a,q2,q3,q4,q5,_⟩:=r3 k d hd Ge;refine⟨q1,a,q2,q3,q4,q5,fun c1 e1 e2=>?_⟩;rw[v7] at e1;obtain rfl:=Option.some.inj e1;exact absurd e2 (h3 k d hd Ge)
   all_goals grind [yS]
  ·obtain⟨⟨v1,v2,v3,v4,v5,v6,v7⟩,e⟩:=B9 (l:=s.l) hk hO h2 ae;have hA:fS c.A:=hf.2.2.1 (by omega);rw[e];rw[show s.l.getD (2+c.A.toNat) 0=oD s.l c.A from rfl,LY (bi _ hA)] at v4;have hb:=vB (bi _ hA);have hz:∀ v p,Has s.l p v 0:=fun v p=>Has.zero
   generalize (c.step s.l).1=c' at *;refine⟨s.g,Nat.le_refl _,gY,by grind,by grind,V,S,?_⟩
   constructor <;> simp only[RS.sw]
   case r3=>
    intro k d hd Ge;obtain⟨q1,a,q2,q3,q4,q5,q6⟩:=r3 k d hd Ge;refine⟨q1,a,q2,q3,q4,q5,fun c1 e1 e2=>?_⟩;rw[v7] at e1;obtain rfl:=Option.some.inj e1;have q7:=(q6 c hw (v3.symm.trans e2)).1 ae;have e3:c.A=d.A:=v3.symm.trans e2;rw[← e3] at q7;exact⟨fun h=>by omega,fun _=>by omega⟩
   all_goals grind [yS]
  ·have hi:c.i<P.wd:=by have:=b2' ae;omega
   obtain⟨e,hv⟩:=Ca (l:=s.l) hk hO h2 ae hi;have hA:fS c.A:=hf.2.2.1 (by omega);have hB:fS c.B:=hf.2.2.2.1 (by omega);have SE:=hf.2.2.2.2.1 (.inl ae);rw[show 4+(2*c.A+c.B).toNat*P.wd=eL P c.A c.B from rfl] at e
   have aJ:eL P c.A c.B+c.i<s.l.length:=by
    have:=oW (a:=(2*c.A+c.B).toNat) (n:=4) (p:=4) (by unfold fS at hA hB;omega) hi;unfold eL;omega
   have OJ:4≤eL P c.A c.B:=Nat.le_add_right 4 _;rw[e];generalize gA:s.l.set (eL P c.A c.B+c.i) (c.rc.getD c.i 0)=l';have h0:l'.getD 0 0=s.l.getD 0 0:=by rw[← gA];exact bt (by omega)
   have h1:l'.getD 1 0=s.l.getD 1 0:=by rw[← gA];exact bt (by omega)
   have CL:∀ p,fS p→oD l' p=oD s.l p:=fun p hp=>by rw[← gA];exact uw hp (by omega)
   have h3:Has l' (eL P c.A c.B) (s.R s.n) (c.i+1):=by rw[← gA];exact(hf.2.2.2.2.2.1 ae).next (by rw[fZ]) aJ
   have h4:∀ p b v,fS p→fS b→(c.A≠p∨c.B≠b)→Has s.l (eL P p b) v P.wd→Has l' (eL P p b) v P.wd:=fun p b v hp hb eZ h=>by rw[← gA];exact h.far (EK hA hB hp hb eZ hi)
   have h5:Ja P l' V S s.R:=fun p hp hs=>by
    rw[CL p hp];refine h4 _ _ _ hp (bi p hp) ?_ (j1 p hp hs)
    by_cases q:c.A=p
    ·refine .inr ?_;rw[SE,q];exact yR
    ·exact .inl q
   clear gA;generalize (c.step s.l).1=c' at *
   rcases hv with ⟨_,v1,v2,v3,v4,v5,v6,v7⟩ | ⟨nt,v1,v2,v3,v4,v5,v6,v7⟩
   ·refine⟨s.g,Nat.le_refl _,gY,by grind,by grind,V,S,?_⟩
    constructor <;> simp only[RS.sw] <;> grind
   ·refine⟨s.g,Nat.le_refl _,gY,by grind,by grind,V,S,?_⟩
    constructor <;> simp only[RS.sw] <;> grind
  ·obtain⟨⟨v1,v2,v3,v4,v5,v6,v7⟩,e⟩:=Cb (l:=s.l) hk hO h2 ae;have hA:fS c.A:=hf.2.2.1 (by omega);have hB:fS c.B:=hf.2.2.2.1 (by omega);rw[e];have Ec:4≤s.l.length:=by omega
   generalize gA:s.l.set (2+c.A.toNat) c.B=l';have h0:l'.getD 0 0=s.l.getD 0 0:=by rw[← gA];exact bt (by omega)
   have h1:l'.getD 1 0=s.l.getD 1 0:=by rw[← gA];exact bt (by omega)
   have CL:∀ p,fS p→oD l' p=if p=c.A then c.B else oD s.l p:=fun p hp=>by rw[← gA];exact ID hA hp Ec
   have h4:∀ p b v d,Has s.l (eL P p b) v d→Has l' (eL P p b) v d:=fun p b v d h=>by
    rw[← gA];exact h.far (.inl (by unfold eL;unfold fS at hA;omega))
   have h5:Ja P l' (fun p=>if p=c.A then s.n else V p) (fun p=>p=c.A∨S p) s.R:=fun p hp hs=>by
    dsimp only at hs ⊢;rw[CL p hp];refine h4 _ _ _ _ ?_
    by_cases q:p=c.A
    ·rw[if_pos q,if_pos q,q];exact hf.2.2.2.2.2.2 ae
    ·rw[if_neg q,if_neg q];exact j1 p hp (hs.resolve_left q)
   have hV:∀ p,fS p→V p≤(if p=c.A then s.n else V p):=fun p hp=>by
    have:=vn p hp
    split <;> omega
   clear gA;generalize (c.step s.l).1=c' at *;refine⟨if s.l.getD 0 0=c.A then s.n else s.g,by split <;> omega,by split <;> omega,by grind,by grind,fun p=>if p=c.A then s.n else V p,fun p=>p=c.A∨S p,?_⟩
   constructor <;> simp only[RS.sw]
   case data=>exact h5
   case r3=>
    intro k d hd Ge;obtain⟨q1,a,q2,q3,q4,q5,q6⟩:=r3 k d hd Ge;refine⟨q1,a,q2,by split <;> omega,h4 _ _ _ _ q4,q5,fun c1 e1 e2=>?_⟩;rw[v7] at e1;obtain rfl:=Option.some.inj e1;exact⟨fun h=>by omega,fun h=>by omega⟩
   case r0=>
    intro k d hd;obtain⟨q1,q2,q3,q4⟩:=r0 k d hd;exact⟨q1,q2,fun h=>⟨Nat.le_trans (q3 h).1 (hV _ (q2 (by omega))),.inr (q3 h).2⟩,by rw[h1];exact q4⟩
   all_goals grind
  ·obtain⟨v1,v2,_,e⟩:=Cc (l:=s.l) hk hO h2 ae;have hA:fS c.A:=hf.2.2.1 (by omega);rw[e];generalize gA:s.l.set 0 c.A=l';have h0:l'.getD 0 0=c.A:=by rw[← gA];exact cN (by omega)
   have h1:l'.getD 1 0=s.l.getD 1 0:=by rw[← gA];exact bt (by omega)
   have CL:∀ p,fS p→oD l' p=oD s.l p:=fun p hp=>by rw[← gA];exact uw hp (by omega)
   have h4:∀ p b v d,Has s.l (eL P p b) v d→Has l' (eL P p b) v d:=fun p b v d h=>by
    rw[← gA];exact h.far (.inl (by unfold eL;omega))
   have h5:Ja P l' V S s.R:=fun p hp hs=>by rw[CL p hp];exact h4 _ _ _ _ (j1 p hp hs)
   obtain⟨UI,UH⟩:=hf.2.1 ae;clear gA;generalize (c.step s.l).1=c' at *;refine⟨s.n,gY,Nat.le_refl _,by grind,by grind,V,S,?_⟩
   constructor <;> simp only[RS.sw]
   case ib=>
    intro k d hd hp eZ;rw[h0] at eZ;refine⟨?_,fun c1 e1=>by rw[v1] at e1;cases e1⟩;rw[h1]
    by_cases q:d.A=s.l.getD 0 0
    ·have:=ia c hw (by omega) (by rw[← q];exact fun z=>eZ z.symm);rw[this.1,q]
    ·exact(ib k d hd hp q).1
   case r3=>
    intro k d hd Ge;obtain⟨q1,a,q2,q3,q4,q5,q6⟩:=r3 k d hd Ge;exact⟨q1,a,q2,by omega,h4 _ _ _ _ q4,q5,fun c1 e1=>by rw[v1] at e1;cases e1⟩
   all_goals grind
 ·obtain⟨hO,h2,jX⟩:=G.r k c hr
  have k9:∀ j d,s.r j=some d→j=0:=fun j d e=>by
   obtain⟨q1,_,q2⟩:=G.r j d e;have q3:=q1.inv.sta.rd;have q4:=q1.nr;omega
  obtain rfl:=k9 k c hr
  have mi:∀ j d (x:Option Kc),upd s.r 0 x j=some d→j=0∧x=some d:=fun j d x e=>by
   by_cases q:j=0
   ·rw[q,iJ] at e;exact⟨q,e⟩
   ·rw[eM q] at e;exact absurd (k9 j d e) q
  obtain⟨b1',b2'⟩:=((hO.inv.d1 (hO.kd.trans hk)).2.2 hO.over).2 (by rw[h2];rfl);have ay:=hO.wd;have bY:P.sz=4+4*P.wd:=by rw[← hO.size,← hO.wd];exact hO.inv.sta.s1 (hO.kd.trans hk)
  have bf:=G.len;have kw:=G.lo 0 c hr;have gY:=G.gn;have hR:=G.R;obtain⟨b0,b1,bi,j1,sl0,vg,vn,w0,w1,vo,ia,ib,r0,r3⟩:=J;have hf:=r0 0 c hr
  rcases (by omega:c.ph=0∨c.ph=1∨c.ph=2∨c.ph=3) with ae | ae | ae | ae
  ·obtain⟨⟨v1,v2,v3,v4,v5,v6,v7⟩,e⟩:=B4 (l:=s.l) hk hO h2 ae;rw[e];rw[vA b0] at v3;generalize (c.step s.l).1=c' at *;refine⟨⟨V,S,?_⟩,by grind⟩
   constructor <;> simp only[RS.sr,v7] <;> grind
  ·obtain⟨⟨v1,v2,v3,v4,v5,v6,v7⟩,e⟩:=B5 (l:=s.l) hk hO h2 ae;have hA:fS c.A:=hf.2.1 (by omega);rw[e];generalize gA:s.l.set 1 c.A=l';have h0:l'.getD 0 0=s.l.getD 0 0:=by rw[← gA];exact bt (by omega)
   have h1:l'.getD 1 0=c.A:=by rw[← gA];exact cN (by omega)
   have CL:∀ p,fS p→oD l' p=oD s.l p:=fun p hp=>by rw[← gA];exact uw hp (by omega)
   have h4:∀ p b v d,Has s.l (eL P p b) v d→Has l' (eL P p b) v d:=fun p b v d h=>by
    rw[← gA];exact h.far (.inl (by unfold eL;omega))
   have h5:Ja P l' V S s.R:=fun p hp hs=>by rw[CL p hp];exact h4 _ _ _ _ (j1 p hp hs)
   clear gA;generalize (c.step s.l).1=c' at *;refine⟨⟨V,S,?_⟩,by grind⟩
   constructor <;> simp only[RS.sr,v7] <;> grind
  ·obtain⟨⟨v1,v2,v3,v4,v5,v6,v7⟩,e⟩:=B6 (l:=s.l) hk hO h2 ae;have hA:fS c.A:=hf.2.1 (by omega);have Tw:s.l.getD 1 0=c.A:=hf.2.2.2 (by omega);have ar:=bi _ hA;rw[e];rw[show s.l.getD (2+c.A.toNat) 0=oD s.l c.A from rfl,vA ar] at v4
   have TE:V c.A≤s.g:=by
    by_cases q:c.A=s.l.getD 0 0
    ·rw[q,← vg];exact Nat.le_refl _
    ·rcases vo _ hA q with h | ⟨d,d1,d2,d3⟩
     ·exact h
     ·have:=(ia d d1 (by omega) (by rw[d3];exact q)).1;exact absurd (Tw.symm.trans this) q
   have hP:Pre [] (s.R (V c.A)) 0:=Pre.zero;have hH:=j1 c.A hA (hf.2.2.1 (.inr ae)).2;generalize (c.step s.l).1=c' at *;refine⟨⟨V,S,?_⟩,by grind⟩
   constructor <;> simp only[RS.sr,v7]
   case r3=>
    intro j d hd _;obtain⟨rfl,hd⟩:=mi j d _ hd;obtain rfl:=Option.some.inj hd;refine⟨by rw[v4];exact ar,V c.A,(hf.2.2.1 (.inr ae)).1,TE,by rw[v3,v4];exact hH,by rw[v6,v2,(hf.1 (by omega)).1];exact hP,fun c1 e1 e2=>?_⟩;rw[v3] at e2;refine⟨fun _=>by rw[v4,v3],fun h=>?_⟩;have:=(w1 c1 e1).2.2.2.2.1 h;rw[e2] at this;rw[v4];omega
   all_goals grind
  ·have hi:c.i<P.wd:=by have:=b2' ae;omega
   obtain⟨e,hv⟩:=B7 (l:=s.l) hk hO h2 ae hi;obtain⟨q1,a,q2,q3,q4,q5,q6⟩:=r3 0 c hr ae;rw[show 4+(2*c.A+c.B).toNat*P.wd=eL P c.A c.B from rfl] at hv;have mj:Pre (c.rc++[s.l.getD (eL P c.A c.B+c.i) 0]) (s.R a) (c.i+1):=q5.next (q4 c.i hi);have Gf:∀ r,Pre r (s.R a) P.wd→r=s.R a:=fun r h=>h.full (hR a (by omega))
   rw[e];generalize (c.step s.l).1=c' at *
   rcases hv with ⟨_,v1,v2,v3,v4,v5,v6,v7⟩ | ⟨nt,v1,v2,v3⟩
   ·refine⟨⟨V,S,?_⟩,by grind⟩
    constructor <;> simp only[RS.sr,v7]
    case r3=>
     intro j d hd _;obtain⟨rfl,hd⟩:=mi j d _ hd;obtain rfl:=Option.some.inj hd;refine⟨by rw[v4];exact q1,a,q2,q3,by rw[v3,v4];exact q4,by rw[v6,v2];exact mj,fun c1 e1 e2=>?_⟩;rw[v3] at e2 ⊢;rw[v4];exact q6 c1 e1 e2
    all_goals grind
   ·refine⟨⟨V,S,?_⟩,by grind⟩
    constructor <;> simp only[RS.sr,v1] <;> grind
set_option maxHeartbeats 4000000
def bA (P:Par) (x:Int):Nat:=1+P.nr+x.toNat*P.wd
def vv (w:Option Kc) (k:Nat) (x:Int):Prop:=∀ c,w=some c→(c.ph=1→k<c.i→c.used x.toNat=true∨x=c.A)∧(c.ph=2∨c.ph=3→c.B≠x)
def wK (P:Par) (l:List Int) (R:Nat→List Int) (g lo:Nat) (x:Int) (a:Nat):Prop:=0≤x∧x≤P.nr+1∧lo≤a∧a≤g∧Has l (bA P x) (R a) P.wd
def Jo (w:Option Kc) (k:Nat):Prop:=∃ c,w=some c∧c.ph=4∧c.i≤k
structure RD2 (P:Par) (l:List Int) (w:Option Kc) (R:Nat→List Int) (g lo k:Nat) (d:Kc):Prop where
 rc:d.ph≤3→d.rc=[]∧d.i=0
 p1:d.ph=1→l.getD (1+k) 0=P.nr+2∨∃ a,wK P l R g lo (l.getD (1+k) 0) a∧vv w k (l.getD (1+k) 0)
 p2:d.ph=2→(l.getD (1+k) 0=P.nr+2∧(∃ a,wK P l R g lo d.A a)∧(d.A=l.getD 0 0∨Jo w k))∨∃ a,wK P l R g lo (l.getD (1+k) 0) a∧vv w k (l.getD (1+k) 0)
 p3:d.ph=3→∃ a,wK P l R g lo (l.getD (1+k) 0) a∧vv w k (l.getD (1+k) 0)
 p4:d.ph=4→d.B=l.getD (1+k) 0∧∃ a,wK P l R g lo d.B a∧vv w k d.B∧Pre d.rc (R a) d.i
theorem RD2.mono {P:Par} {l l':List Int} {w w':Option Kc} {R R':Nat→List Int} {g g' lo k:Nat} {d:Kc} (h:RD2 P l w R g lo k d) (hg:g≤g') (jX:l'.getD (1+k) 0=l.getD (1+k) 0) (hR:∀ a,a≤g→R' a=R a)
  (hP:∀ x a,wK P l R g lo x a→vv w k x→x=l.getD (1+k) 0→Has l' (bA P x) (R a) P.wd∧vv w' k x)
  (hA:∀ x a,wK P l R g lo x a→(x=l.getD 0 0∨Jo w k)→l.getD (1+k) 0=P.nr+2→Has l' (bA P x) (R a) P.wd∧(x=l'.getD 0 0∨Jo w' k)):RD2 P l' w' R' g' lo k d:=by
 have ok:∀ x a,wK P l R g lo x a→vv w k x→x=l.getD (1+k) 0→wK P l' R' g' lo x a∧vv w' k x:=fun x a h1 h2 h3=>by
  obtain⟨q1,q2⟩:=hP x a h1 h2 h3;obtain⟨a1,a2,a3,a4,_⟩:=h1;exact⟨⟨a1,a2,a3,by omega,by rw[hR a a4];exact q1⟩,q2⟩
 have ok1:(∃ a,wK P l R g lo (l.getD (1+k) 0) a∧vv w k (l.getD (1+k) 0))→∃ a,wK P l' R' g' lo (l'.getD (1+k) 0) a∧vv w' k (l'.getD (1+k) 0):=fun ⟨a,h1,h2⟩=>by
  rw[jX];exact⟨a,ok _ _ h1 h2 rfl⟩
 refine⟨h.rc,fun e=>?_,fun e=>?_,fun e=>ok1 (h.p3 e),fun e=>?_⟩
 ·rcases h.p1 e with q | q
  ·exact .inl (jX.trans q)
  ·exact .inr (ok1 q)
 ·rcases h.p2 e with ⟨q1,⟨a,q2⟩,q3⟩ | q
  ·obtain⟨h1,h2⟩:=hA _ a q2 q3 q1;obtain⟨a1,a2,a3,a4,_⟩:=q2;exact .inl ⟨jX.trans q1,⟨a,a1,a2,a3,by omega,by rw[hR a a4];exact h1⟩,h2⟩
  ·exact .inr (ok1 q)
 ·obtain⟨q1,a,q2,q3,q4⟩:=h.p4 e;obtain⟨h1,h2⟩:=ok _ a q2 q3 q1;exact⟨q1.trans jX.symm,a,h1,h2,by rw[hR a q2.2.2.2.1];exact q4⟩
structure J2 (P:Par) (s:RS):Prop where
 b0:0≤s.l.getD 0 0∧s.l.getD 0 0≤P.nr+1
 data:Has s.l (bA P (s.l.getD 0 0)) (s.R s.g) P.wd
 w0:s.w=none→s.g=s.n
 w1:∀ c,s.w=some c→(c.ph≤3→s.n=s.g+1)∧(c.ph=4→s.g=s.n∧s.l.getD 0 0=c.B)∧(1≤c.ph→c.ph≤3→c.A=s.l.getD 0 0)∧(2≤c.ph→0≤c.B∧c.B≤P.nr+1)∧(c.ph=2∨c.ph=3→c.B≠c.A)∧(c.ph=2→Has s.l (bA P c.B) (s.R s.n) c.i)∧(c.ph=3→Has s.l (bA P c.B) (s.R s.n) P.wd)
 rd:∀ k d,s.r k=some d→RD2 P s.l s.w s.R s.g (s.lo k) k d
theorem vH {c:Kc} {n:Nat} (h:Kc.Few c n) (hn:n<20):c.used (iM c.used).toNat=false:=by
 obtain⟨S,hS,hu⟩:=h;obtain⟨k,hk,hf⟩:=Kc.some_free (n+1) S (by omega)
 have hv:c.used k=false:=by
  cases e:c.used k
  ·rfl
  ·have:=hu k e;rw[List.all_eq_true] at hf;have:=hf _ this;simp at this
 unfold iM;cases e:(List.range 64).find? fun k=>!c.used k with
 | none=>
  have:=List.find?_eq_none.1 e k (List.mem_range.2 (by omega));simp[hv] at this
 | some j=>
  have:=List.find?_some e
  simpa using this
theorem wo {P:Par} {x y:Int} {i:Nat} (hx:0≤x) (hy:0≤y) (h:x≠y) (hi:i<P.wd):bA P x+i<bA P y∨bA P y+P.wd≤bA P x+i:=by
 unfold bA;exact ry (by omega) hi
theorem Pp {P:Par} (hk:P.kd=2):RegK P (J2 P):=by
 refine⟨fun s c G J hw hc ho hn=>?_,fun s k c G J hr hc ho um fZ=>?_,fun s c G J hw=>?_,fun s k c G J hr=>?_⟩
 ·obtain⟨b0,dt,w0,w1,rd⟩:=J;have ae:=hc.ph;have gY:=G.gn;have xh:∀ a,a≤s.n→upd s.R (s.n+1) c.rc a=s.R a:=fun a ha=>eM (by omega)
  have hd:=xh s.g gY
  have hr:∀ k d,s.r k=some d→RD2 P s.l (some c) (upd s.R (s.n+1) c.rc) s.g (s.lo k) k d:=fun k d e=>
   (rd k d e).mono (Nat.le_refl _) rfl (fun a ha=>xh a (by omega)) (fun x a h1 _ _=>⟨h1.2.2.2.2,fun c1 e1=>by obtain rfl:=Option.some.inj e1;exact⟨fun h=>by omega,fun h=>by omega⟩⟩)
    (fun x a h1 h2 _=>⟨h1.2.2.2.2,h2.imp id fun ⟨c1,e1,_⟩=>by rw[hw] at e1;cases e1⟩)
  constructor <;> simp only[RS.bw]
  case rd=>exact hr
  all_goals grind
 ·obtain⟨b0,dt,w0,w1,rd⟩:=J;refine⟨b0,dt,w0,w1,fun j d e=>?_⟩
  rcases RS.br_get e with ⟨rfl,rfl⟩ | ⟨q,e⟩
  ·have ae:=hc.ph;exact⟨fun _=>⟨fZ,hc.i⟩,fun h=>by omega,fun h=>by omega,fun h=>by omega,fun h=>by omega⟩
  ·have:=rd j d e;show RD2 P s.l s.w s.R s.g (upd s.lo k s.g j) j d;rw[eM q];exact this
 ·obtain⟨hO,h2,fZ,gT⟩:=G.w c hw;have hD:=hO.inv.d2 (hO.kd.trans hk);obtain⟨d1,d2,d3,d4,d5,d6⟩:=(hD.2.2 hO.over).1 (by rw[h2];rfl);have ay:=hO.wd;have aS:=hO.nr;have OE:=hO.inv.sta.nr4;have bY:P.sz=1+P.nr+(P.nr+2)*P.wd:=by rw[← hO.size,← hO.wd,← hO.nr];exact hO.inv.sta.s2 (hO.kd.trans hk)
  have bf:=G.len;have gY:=G.gn
  have Jx:∀ j d,s.r j=some d→j<P.nr:=fun j d e=>by
   obtain⟨q1,_,q2⟩:=G.r j d e;have q3:=q1.inv.sta.rd;have q4:=q1.nr;omega
  obtain⟨b0,dt,w0,w1,rd⟩:=J;have hf:=w1 c hw
  have rQ:c.ph≤3→∀ k,¬ Jo s.w k:=fun h k ⟨c1,e1,e2,_⟩=>by
   rw[hw] at e1;obtain rfl:=Option.some.inj e1;omega
  rcases (by omega:c.ph=0∨c.ph=1∨c.ph=2∨c.ph=3∨c.ph=4) with ae | ae | ae | ae | ae
  ·obtain⟨⟨v1,v2,v3,v4,v5,v6,v7⟩,e⟩:=BP (l:=s.l) hk hO h2 ae;rw[e];generalize (c.step s.l).1=c' at *
   have hr:∀ k d,s.r k=some d→RD2 P s.l (some c') s.R s.g (s.lo k) k d:=fun k d e=>
    (rd k d e).mono (Nat.le_refl _) rfl (fun a ha=>rfl) (fun x a h1 _ _=>⟨h1.2.2.2.2,fun c1 e1=>by obtain rfl:=Option.some.inj e1;exact⟨fun h=>by omega,fun h=>by omega⟩⟩)
     (fun x a h1 h2 _=>⟨h1.2.2.2.2,h2.imp id fun q=>absurd q (rQ (by omega) k)⟩)
   refine⟨s.g,Nat.le_refl _,gY,by grind,by grind,?_⟩
   constructor <;> simp only[RS.sw,v7]
   case rd=>exact hr
   all_goals grind
  ·have hi:c.i<P.nr:=by have:=d4 ae;omega
   have hA:=hf.2.2.1 (by omega) (by omega)
   by_cases hl:P.nr≤c.i+1
   ·obtain⟨⟨v1,v2,v3,v4,v5,v6,v7⟩,e⟩:=x7 (l:=s.l) hk hO h2 ae hl;rw[e];have xl:=(((d3 (by omega)).mark (s.l.getD (1+c.i) 0)).mark c.A);have m7:=vH xl (by omega);have du:=hO.step G.w32
    have qT:(c.step s.l).1.over=false→0≤(c.step s.l).1.B∧(c.step s.l).1.B≤P.nr+1:=fun h=>by
     have:=(du.2.2 h).inv.d2 ((du.2.2 h).kd.trans hk);have h3:=(du.2.2 h).nr;have h4:=this.2.1;omega
    have hB:=qT v7
    have hu:∀ k:Nat,(c.used k=true∨(k:Int)=min (s.l.getD (1+c.i) 0) 20∨(k:Int)=min c.A 20)→(c.step s.l).1.B.toNat≠k:=fun k h q=>by
     have h5:((fun k:Nat=>(c.used k || decide ((k:Int)=min (s.l.getD (1+c.i) 0) 20)) || decide ((k:Int)=min c.A 20)) (c.step s.l).1.B.toNat)=false:=by
      rw[v4];exact m7
     rw[q] at h5;simp at h5
     rcases h with h | h | h
     ·rw[h] at h5;exact absurd h5.1.1 (by decide)
     ·exact h5.1.2 h
     ·exact h5.2 h
    have hz:∀ v p,Has s.l p v 0:=fun v p=>Has.zero
    clear qT du m7 xl;generalize (c.step s.l).1=c' at *;have m5:c'.B≠c.A:=fun q=>hu c.A.toNat (.inr (.inr (by omega))) (by rw[q])
    have hr:∀ k d,s.r k=some d→RD2 P s.l (some c') s.R s.g (s.lo k) k d:=fun k d e=>
     (rd k d e).mono (Nat.le_refl _) rfl (fun a ha=>rfl) (fun x a h1 h3 hx=>⟨h1.2.2.2.2,fun c1 e1=>by
      obtain rfl:=Option.some.inj e1;refine⟨fun h=>by omega,fun _ q=>?_⟩;have h4:=h1.1;have h5:=h1.2.1;have zU:=Jx k d e
      by_cases qd:k<c.i
      ·rcases (h3 c hw).1 ae qd with h6 | h6
       ·exact hu x.toNat (.inl h6) (by rw[q])
       ·exact m5 (q.trans h6)
      ·obtain rfl:k=c.i:=by omega
       exact hu x.toNat (.inr (.inl (by rw[← hx];omega))) (by rw[q])⟩)
      (fun x a h1 h2 _=>⟨h1.2.2.2.2,h2.imp id fun q=>absurd q (rQ (by omega) k)⟩)
    refine⟨s.g,Nat.le_refl _,gY,by grind,by grind,?_⟩
    constructor <;> simp only[RS.sw,v7]
    case rd=>exact hr
    all_goals grind
   ·obtain⟨⟨v1,v2,v3,v4,v5,v6,v7⟩,e⟩:=BQ (l:=s.l) hk hO h2 ae (by omega);rw[e];generalize (c.step s.l).1=c' at *
    have hr:∀ k d,s.r k=some d→RD2 P s.l (some c') s.R s.g (s.lo k) k d:=fun k d e=>
     (rd k d e).mono (Nat.le_refl _) rfl (fun a ha=>rfl) (fun x a h1 h3 hx=>⟨h1.2.2.2.2,fun c1 e1=>by
      obtain rfl:=Option.some.inj e1;refine⟨fun _ h=>?_,fun h=>by omega⟩;have h4:=h1.1;have h5:=h1.2.1;rw[v5,v3]
      by_cases qd:k<c.i
      ·rcases (h3 c hw).1 ae qd with h6 | h6
       ·exact .inl (by simp[h6])
       ·exact .inr h6
      ·obtain rfl:k=c.i:=by omega
       refine .inl ?_;rw[← hx];have h7:((x.toNat:Nat):Int)=min x 20:=by omega
       simp[h7]⟩)
      (fun x a h1 h2 _=>⟨h1.2.2.2.2,h2.imp id fun q=>absurd q (rQ (by omega) k)⟩)
    refine⟨s.g,Nat.le_refl _,gY,by grind,by grind,?_⟩
    constructor <;> simp only[RS.sw,v7]
    case rd=>exact hr
    all_goals grind
  ·have hi:c.i<P.wd:=by have:=d5 ae;omega
   obtain⟨e,hv⟩:=BR (l:=s.l) hk hO h2 ae hi;have hA:=hf.2.2.1 (by omega) (by omega);have hB:=hf.2.2.2.1 (by omega);have m5:=hf.2.2.2.2.1 (.inl ae);rw[show 1+P.nr+c.B.toNat*P.wd=bA P c.B from rfl] at e
   have aJ:bA P c.B+c.i<s.l.length:=by
    have:=oW (a:=c.B.toNat) (n:=P.nr+2) (p:=1+P.nr) (by omega) hi;unfold bA;omega
   have fm:1+P.nr≤bA P c.B:=Nat.le_add_right _ _;rw[e];generalize gA:s.l.set (bA P c.B+c.i) (c.rc.getD c.i 0)=l';have h0:l'.getD 0 0=s.l.getD 0 0:=by rw[← gA];exact bt (by omega)
   have h1:∀ k,k<P.nr→l'.getD (1+k) 0=s.l.getD (1+k) 0:=fun k hk=>by rw[← gA];exact bt (by omega)
   have h3:Has l' (bA P c.B) (s.R s.n) (c.i+1):=by rw[← gA];exact(hf.2.2.2.2.2.1 ae).next (by rw[fZ]) aJ
   have h4:∀ x v,0≤x→c.B≠x→Has s.l (bA P x) v P.wd→Has l' (bA P x) v P.wd:=fun x v hx eZ h=>by rw[← gA];exact h.far (wo hB.1 hx eZ hi)
   have h5:Has l' (bA P (l'.getD 0 0)) (s.R s.g) P.wd:=by rw[h0];exact h4 _ _ b0.1 (by rw[← hA];exact m5) dt
   clear gA;generalize (c.step s.l).1=c' at *
   have hr:c'.over=false→(c'.ph=2∨c'.ph=3)→c'.B=c.B→∀ k d,s.r k=some d→RD2 P l' (some c') s.R s.g (s.lo k) k d:=fun _ hp FX k d e=>
    (rd k d e).mono (Nat.le_refl _) (h1 k (Jx k d e)) (fun a ha=>rfl) (fun x a h1 h3 _=>⟨h4 _ _ h1.1 ((h3 c hw).2 (.inl ae)) h1.2.2.2.2,fun c1 e1=>by
      obtain rfl:=Option.some.inj e1;exact⟨fun h=>by omega,fun _=>by rw[FX];exact(h3 c hw).2 (.inl ae)⟩⟩)
     (fun x a h1 h2 _=>⟨by
      rcases h2 with h2 | h2
      ·exact h4 _ _ h1.1 (by rw[h2,← hA];exact m5) h1.2.2.2.2
      ·exact absurd h2 (rQ (by omega) k),by rw[h0];exact h2.imp id fun q=>absurd q (rQ (by omega) k)⟩)
   rcases hv with ⟨_,v1,v2,v3,v4,v5,v6,v7⟩ | ⟨nt,v1,v2,v3,v4,v5,v6,v7⟩
   ·have hr:=hr v7 (.inl v1) v4;refine⟨s.g,Nat.le_refl _,gY,by grind,by grind,?_⟩
    constructor <;> simp only[RS.sw,v7]
    case rd=>exact hr
    all_goals grind
   ·have hr:=hr v7 (.inr v1) v4;refine⟨s.g,Nat.le_refl _,gY,by grind,by grind,?_⟩
    constructor <;> simp only[RS.sw,v7]
    case rd=>exact hr
    all_goals grind
  ·obtain⟨⟨v1,v2,v3,v4,v5,v6,v7⟩,e⟩:=BS (l:=s.l) hk hO h2 ae;have hB:=hf.2.2.2.1 (by omega);have hn:=hf.1 (by omega);have hF:=hf.2.2.2.2.2.2 ae;rw[e];generalize gA:s.l.set 0 c.B=l';have h0:l'.getD 0 0=c.B:=by rw[← gA];exact cN (by omega)
   have h1:∀ k,l'.getD (1+k) 0=s.l.getD (1+k) 0:=fun k=>by rw[← gA];exact bt (by omega)
   have h4:∀ x v d,Has s.l (bA P x) v d→Has l' (bA P x) v d:=fun x v d h=>by rw[← gA];exact h.far (.inl (by unfold bA;omega))
   clear gA;generalize (c.step s.l).1=c' at *
   have hr:∀ k d,s.r k=some d→RD2 P l' (some c') s.R s.n (s.lo k) k d:=fun k d e=>
    (rd k d e).mono (by omega) (h1 k) (fun a ha=>rfl) (fun x a h1 h3 _=>⟨h4 _ _ _ h1.2.2.2.2,fun c1 e1=>by
      obtain rfl:=Option.some.inj e1;exact⟨fun h=>by omega,fun h=>by omega⟩⟩)
     (fun x a h1 h2 _=>⟨h4 _ _ _ h1.2.2.2.2,.inr ⟨c',rfl,v1,by omega⟩⟩)
   have h5:Has l' (bA P (l'.getD 0 0)) (s.R s.n) P.wd:=by rw[h0];exact h4 _ _ _ hF
   refine⟨s.n,by omega,Nat.le_refl _,by grind,by grind,?_⟩
   constructor <;> simp only[RS.sw,v7]
   case rd=>exact hr
   all_goals grind
  ·have hi:c.i<P.nr:=by have:=d6 ae;omega
   obtain⟨S6,uo⟩:=hf.2.1 ae;have hB:=hf.2.2.2.1 (by omega)
   have Id:∀ (l':List Int),l'=(if s.l.getD (1+c.i) 0=(P.nr+2:Int) then s.l.set (1+c.i) c.B else s.l)→l'.getD 0 0=s.l.getD 0 0∧(∀ k,k≠c.i→l'.getD (1+k) 0=s.l.getD (1+k) 0)∧(∀ x v d,Has s.l (bA P x) v d→Has l' (bA P x) v d)∧(s.l.getD (1+c.i) 0=(P.nr+2:Int)→l'.getD (1+c.i) 0=c.B)∧(s.l.getD (1+c.i) 0≠(P.nr+2:Int)→l'.getD (1+c.i) 0=s.l.getD (1+c.i) 0):=fun l' e=>by
    by_cases q:s.l.getD (1+c.i) 0=(P.nr+2:Int)
    ·rw[if_pos q] at e;subst e;refine⟨bt (by omega),fun k hk=>bt (by omega),fun x v d h=>h.far (.inl (by unfold bA;omega)),fun _=>cN ?_,fun h=>absurd q h⟩;rw[bf,bY];omega
    ·rw[if_neg q] at e;subst e;exact⟨rfl,fun _ _=>rfl,fun _ _ _ h=>h,fun h=>absurd h q,fun _=>rfl⟩
   have hr:∀ (l':List Int) (w':Option Kc),l'=(if s.l.getD (1+c.i) 0=(P.nr+2:Int) then s.l.set (1+c.i) c.B else s.l)→(∀ c1,w'=some c1→c1.ph=4)→(∀ k,k<P.nr→k≠c.i→Jo s.w k→Jo w' k)→∀ k d,s.r k=some d→RD2 P l' w' s.R s.g (s.lo k) k d:=fun l' w' el kL TC k d e=>by
    obtain⟨e0,e1,e2,e3,e4⟩:=Id l' el;have kw:=G.lo k d e;have zU:=Jx k d e;have Lr:∀ x,vv w' k x:=fun x c1 q=>⟨fun h=>by have:=kL c1 q;omega,fun h=>by have:=kL c1 q;omega⟩
    by_cases qd:k=c.i∧s.l.getD (1+c.i) 0=(P.nr+2:Int)
    ·obtain⟨rfl,OD⟩:=qd;have jX:=e3 OD
     have hT:wK P l' s.R s.g (s.lo c.i) (l'.getD (1+c.i) 0) s.g:=by
      rw[jX];exact⟨hB.1,hB.2,kw,Nat.le_refl _,by have:=e2 _ _ _ dt;rw[uo] at this;exact this⟩
     have old:=rd c.i d e
     have KR:∀ a,¬ wK P s.l s.R s.g (s.lo c.i) (s.l.getD (1+c.i) 0) a:=fun a h=>by
      have:=h.2.1;omega
     refine⟨old.rc,fun _=>.inr ⟨_,hT,Lr _⟩,fun _=>.inr ⟨_,hT,Lr _⟩,fun h=>?_,fun h=>?_⟩
     ·obtain⟨a,q,_⟩:=old.p3 h;exact absurd q (KR a)
     ·obtain⟨q0,a,q,_⟩:=old.p4 h;rw[q0] at q;exact absurd q (KR a)
    ·have jX:l'.getD (1+k) 0=s.l.getD (1+k) 0:=by
      by_cases q:k=c.i
      ·rw[q];exact e4 fun z=>qd ⟨q,z⟩
      ·exact e1 k q
     refine(rd k d e).mono (Nat.le_refl _) jX (fun a ha=>rfl) (fun x a h1 h3 _=>⟨e2 _ _ _ h1.2.2.2.2,Lr x⟩) (fun x a h1 h2 h3=>⟨e2 _ _ _ h1.2.2.2.2,?_⟩);rw[e0]
     rcases h2 with h2 | h2
     ·exact .inl h2
     ·exact .inr (TC k zU (fun q=>qd ⟨q,by rw[← q];exact h3⟩) h2)
   have MH:∀ (l':List Int),l'=(if s.l.getD (1+c.i) 0=(P.nr+2:Int) then s.l.set (1+c.i) c.B else s.l)→l'.getD 0 0=s.l.getD 0 0∧Has l' (bA P (l'.getD 0 0)) (s.R s.g) P.wd:=fun l' e=>by
    obtain⟨e0,_,e2,_⟩:=Id l' e;rw[e0];exact⟨rfl,e2 _ _ _ dt⟩
   by_cases hl:P.nr≤c.i+1
   ·obtain⟨v1,v2,_,e⟩:=x8 (l:=s.l) hk hO h2 ae hl
    have hr:=hr _ none e (fun c1 q=>by cases q) (fun k um eZ ⟨c1,q1,q2,q3⟩=>by
     rw[hw] at q1;obtain rfl:=Option.some.inj q1;omega)
    obtain⟨e0,MH⟩:=MH _ e;clear e;generalize (c.step s.l).2=l' at *;generalize (c.step s.l).1=c' at *;refine⟨s.g,Nat.le_refl _,gY,by grind,by grind,?_⟩
    constructor <;> simp only[RS.sw,v1]
    case rd=>exact hr
    all_goals grind
   ·obtain⟨⟨v1,v2,v3,v4,v5,v6,v7⟩,e⟩:=BT (l:=s.l) hk hO h2 ae (by omega)
    have hr:=hr _ (some (c.step s.l).1) e (fun c1 q=>by obtain rfl:=Option.some.inj q;exact v1) (fun k um eZ ⟨c1,q1,q2,q3⟩=>by
     rw[hw] at q1;obtain rfl:=Option.some.inj q1;exact⟨_,rfl,v1,by rw[v2];omega⟩)
    obtain⟨e0,MH⟩:=MH _ e;clear e;generalize (c.step s.l).2=l' at *;generalize (c.step s.l).1=c' at *;refine⟨s.g,Nat.le_refl _,gY,by grind,by grind,?_⟩
    constructor <;> simp only[RS.sw,v7]
    case rd=>exact hr
    all_goals grind
 ·obtain⟨hO,h2,jX⟩:=G.r k c hr;have hD:=hO.inv.d2 (hO.kd.trans hk);obtain⟨d1,d2⟩:=(hD.2.2 hO.over).2 (by rw[h2];rfl);have ay:=hO.wd;have aS:=hO.nr;have ym:k<P.nr:=by have:=hO.inv.sta.rd;omega
  have bY:P.sz=1+P.nr+(P.nr+2)*P.wd:=by rw[← hO.size,← hO.wd,← hO.nr];exact hO.inv.sta.s2 (hO.kd.trans hk)
  have bf:=G.len;have kw:=G.lo k c hr;have gY:=G.gn;have hR:=G.R;obtain⟨b0,dt,w0,w1,rd⟩:=J;have old:=rd k c hr
  have fin:∀ (l':List Int) (c':Kc),(∀ j,j≠1+k→l'.getD j 0=s.l.getD j 0)→(∀ x v d,Has s.l (bA P x) v d→Has l' (bA P x) v d)→(c'.over=false→RD2 P l' s.w s.R s.g (s.lo k) k c')→J2 P (s.sr k c' l'):=fun l' c' e1 e2 e3=>by
   have e0:l'.getD 0 0=s.l.getD 0 0:=e1 0 (by omega);refine⟨by show 0≤l'.getD 0 0∧l'.getD 0 0≤_;rw[e0];exact b0,by show Has l' (bA P (l'.getD 0 0)) _ _;rw[e0];exact e2 _ _ _ dt,w0,fun c1 q=>?_,fun j d q=>?_⟩
   ·obtain⟨f1,f2,f3,f4,f5,f6,f7⟩:=w1 c1 q;exact⟨f1,fun h=>⟨(f2 h).1,e0.trans (f2 h).2⟩,fun a b=>(f3 a b).trans e0.symm,f4,f5,fun h=>e2 _ _ _ (f6 h),fun h=>e2 _ _ _ (f7 h)⟩
   ·rcases RS.sr_get q with ⟨rfl,rfl,ho⟩ | ⟨eZ,q⟩
    ·exact e3 ho
    ·exact(rd j d q).mono (Nat.le_refl _) (e1 _ (by omega)) (fun _ _=>rfl) (fun x a h1 h3 _=>⟨e2 _ _ _ h1.2.2.2.2,h3⟩) (fun x a h1 h3 _=>⟨e2 _ _ _ h1.2.2.2.2,h3.imp (fun q=>q.trans e0.symm) id⟩)
  have same:∀ (c':Kc),(c'.over=false→RD2 P s.l s.w s.R s.g (s.lo k) k c')→J2 P (s.sr k c' s.l):=fun c' h=>fin s.l c' (fun _ _=>rfl) (fun _ _ _ h=>h) h
  rcases (by omega:c.ph=0∨c.ph=1∨c.ph=2∨c.ph=3∨c.ph=4) with ae | ae | ae | ae | ae
  ·obtain⟨⟨v1,v2,v3,v4,v5,v6,v7⟩,e⟩:=BK (l:=s.l) hk hO h2 ae;obtain⟨q1,q2⟩:=old.rc (by omega);rw[jX] at e;rw[e];generalize (c.step s.l).1=c' at *;refine⟨fin _ c' (fun j hj=>bt (fun q=>hj q.symm)) (fun x v d h=>h.far (.inl (by unfold bA;omega))) fun _=>⟨fun _=>⟨v6.trans q1,v2⟩,fun _=>.inl (cN (by rw[bf,bY];omega)),fun h=>by omega,fun h=>by omega,fun h=>by omega⟩,fun h=>by rw[v7] at h;cases h⟩
  ·obtain⟨⟨v1,v2,v3,v4,v5,v6,v7⟩,e⟩:=BL (l:=s.l) hk hO h2 ae;obtain⟨q1,q2⟩:=old.rc (by omega);rw[e];generalize (c.step s.l).1=c' at *;refine⟨same c' fun _=>⟨fun _=>⟨v6.trans q1,v2⟩,fun h=>by omega,fun _=>?_,fun h=>by omega,fun h=>by omega⟩,fun h=>by rw[v7] at h;cases h⟩
   rcases old.p1 ae with q | q
   ·exact .inl ⟨q,⟨s.g,by rw[v3];exact⟨b0.1,b0.2,kw,Nat.le_refl _,dt⟩⟩,.inl v3⟩
   ·exact .inr q
  ·obtain⟨⟨v1,v2,v3,v4,v5,v6,v7⟩,e⟩:=BM (l:=s.l) hk hO h2 ae;obtain⟨q1,q2⟩:=old.rc (by omega);rw[jX] at e
   rcases old.p2 ae with ⟨p1,⟨a,p2⟩,p3⟩ | ⟨a,p1,p2⟩
   ·rw[if_pos p1] at e;rw[e];generalize (c.step s.l).1=c' at *;have hf:∀ x v d,Has s.l (bA P x) v d→Has (s.l.set (1+k) c.A) (bA P x) v d:=fun x v d h=>h.far (.inl (by unfold bA;omega))
    refine⟨fin _ c' (fun j hj=>bt (fun q=>hj q.symm)) hf fun _=>⟨fun _=>⟨v6.trans q1,v2⟩,fun h=>by omega,fun h=>by omega,fun _=>⟨a,?_,?_⟩,fun h=>by omega⟩,fun h=>by rw[v7] at h;cases h⟩
    ·rw[cN (by rw[bf,bY];omega)];exact⟨p2.1,p2.2.1,p2.2.2.1,p2.2.2.2.1,hf _ _ _ p2.2.2.2.2⟩
    ·rw[cN (by rw[bf,bY];omega)];intro c1 z;obtain⟨f1,f2,f3,f4,f5,f6,f7⟩:=w1 c1 z
     rcases p3 with p3 | ⟨c2,z1,z2,_⟩
     ·exact⟨fun h _=>.inr (p3.trans (f3 (by omega) (by omega)).symm),fun h q=>f5 h (q.trans (p3.trans (f3 (by omega) (by omega)).symm))⟩
     ·rw[z] at z1;obtain rfl:=Option.some.inj z1;exact⟨fun h=>by omega,fun h=>by omega⟩
   ·rw[if_neg (by have:=p1.2.1;omega)] at e;rw[e];generalize (c.step s.l).1=c' at *;exact⟨same c' fun _=>⟨fun _=>⟨v6.trans q1,v2⟩,fun h=>by omega,fun h=>by omega,fun _=>⟨a,p1,p2⟩,fun h=>by omega⟩,fun h=>by rw[v7] at h;cases h⟩
  ·obtain⟨⟨v1,v2,v3,v4,v5,v6,v7⟩,e⟩:=BN (l:=s.l) hk hO h2 ae;obtain⟨q1,q2⟩:=old.rc (by omega);obtain⟨a,p1,p2⟩:=old.p3 ae;rw[e];rw[jX,Int.emod_eq_of_lt p1.1 (by have:=p1.2.1;omega)] at v4;generalize (c.step s.l).1=c' at *;exact⟨same c' fun _=>⟨fun h=>by omega,fun h=>by omega,fun h=>by omega,fun h=>by omega,fun _=>⟨v4,a,by rw[v4];exact p1,by rw[v4];exact p2,by rw[v6,v2,q1];exact Pre.zero⟩⟩,fun h=>by rw[v7] at h;cases h⟩
  ·have hi:c.i<P.wd:=by have:=d2 ae;omega
   obtain⟨e,hv⟩:=BO (l:=s.l) hk hO h2 ae hi;obtain⟨q1,a,q2,q3,q4⟩:=old.p4 ae;rw[show 1+P.nr+c.B.toNat*P.wd=bA P c.B from rfl] at hv;have mj:Pre (c.rc++[s.l.getD (bA P c.B+c.i) 0]) (s.R a) (c.i+1):=q4.next (q2.2.2.2.2 c.i hi);have Gf:∀ r,Pre r (s.R a) P.wd→r=s.R a:=fun r h=>h.full (hR a (by have:=q2.2.2.2.1;omega))
   rw[e];generalize (c.step s.l).1=c' at *
   rcases hv with ⟨_,v1,v2,v3,v4,v5,v6,v7⟩ | ⟨nt,v1,v2,v3⟩
   ·exact⟨same c' fun _=>⟨fun h=>by omega,fun h=>by omega,fun h=>by omega,fun h=>by omega,fun _=>⟨v4.trans q1,a,by rw[v4];exact q2,by rw[v4];exact q3,by rw[v6,v2];exact mj⟩⟩,fun h=>by rw[v7] at h;cases h⟩
   ·refine⟨same c' fun h=>(by rw[v1] at h;cases h),fun _=>.inl ⟨v2,a,q2.2.2.1,q2.2.2.2.1,?_⟩⟩;rw[v3];exact Gf _ (by rw[nt];exact mj)
set_option maxHeartbeats 4000000
structure RD5 (P:Par) (l:List Int) (w:Option Kc) (R:Nat→List Int) (g lo k:Nat) (d:Kc):Prop where
 p0:d.ph≤2→d.rc=[]∧d.i=0∧d.B=0
 pa:1≤d.ph→d.ph≤3→0≤d.A∧d.A<P.sl
 pr:d.ph=2∨d.ph=3→l.getD (1+k) 0=d.A+1
 p3:d.ph=3→d.B=0∧∃ a,lo≤a∧a≤g∧Has l (bA P d.A) (R a) P.wd∧vv w k d.A∧Pre d.rc (R a) d.i
 p4:d.ph=4→d.B=0∧(∃ a,lo≤a∧a≤g∧d.rc=R a)∨d.B=1
theorem RD5.mono {P:Par} {l l':List Int} {w w':Option Kc} {R R':Nat→List Int} {g g' lo k:Nat} {d:Kc} (h:RD5 P l w R g lo k d) (hg:g≤g') (jX:l'.getD (1+k) 0=l.getD (1+k) 0) (hR:∀ a,a≤g→R' a=R a)
  (hP:∀ a,Has l (bA P d.A) (R a) P.wd→vv w k d.A→l.getD (1+k) 0=d.A+1→0≤d.A→d.A<P.sl→Has l' (bA P d.A) (R a) P.wd∧vv w' k d.A):RD5 P l' w' R' g' lo k d:=by
 refine⟨h.p0,h.pa,fun e=>jX.trans (h.pr e),fun e=>?_,fun e=>?_⟩
 ·obtain⟨q1,a,q2,q3,q4,q5,q6⟩:=h.p3 e;obtain⟨b1,b2⟩:=h.pa (by omega) (by omega);obtain⟨c1,c2⟩:=hP a q4 q5 (h.pr (.inr e)) b1 b2;exact⟨q1,a,q2,by omega,by rw[hR a q3];exact c1,c2,by rw[hR a q3];exact q6⟩
 ·rcases h.p4 e with ⟨q,a,q1,q2,q3⟩ | q
  ·exact .inl ⟨q,a,q1,by omega,by rw[hR a q2];exact q3⟩
  ·exact .inr q
structure J5 (P:Par) (s:RS):Prop where
 b0:0≤s.l.getD 0 0∧s.l.getD 0 0<P.sl
 data:Has s.l (bA P (s.l.getD 0 0)) (s.R s.g) P.wd
 w0:s.w=none→s.g=s.n
 w1:∀ c,s.w=some c→s.n=s.g+1∧(1≤c.ph→c.A=s.l.getD 0 0)∧(2≤c.ph→0≤c.B∧c.B<P.sl∧c.B≠c.A)∧(c.ph=2→Has s.l (bA P c.B) (s.R s.n) c.i)∧(c.ph=3→Has s.l (bA P c.B) (s.R s.n) P.wd)
 rd:∀ k d,s.r k=some d→RD5 P s.l s.w s.R s.g (s.lo k) k d
theorem Pt {P:Par} (hk:P.kd=5):RegK P (J5 P):=by
 refine⟨fun s c G J hw hc ho hn=>?_,fun s k c G J hr hc ho um fZ=>?_,fun s c G J hw=>?_,fun s k c G J hr=>?_⟩
 ·obtain⟨b0,dt,w0,w1,rd⟩:=J;have ae:=hc.ph;have gY:=G.gn;have xh:∀ a,a≤s.n→upd s.R (s.n+1) c.rc a=s.R a:=fun a ha=>eM (by omega)
  have hd:=xh s.g gY
  have hr:∀ k d,s.r k=some d→RD5 P s.l (some c) (upd s.R (s.n+1) c.rc) s.g (s.lo k) k d:=fun k d e=>
   (rd k d e).mono (Nat.le_refl _) rfl (fun a ha=>xh a (by omega)) (fun a h1 _ _ _ _=>⟨h1,fun c1 e1=>by obtain rfl:=Option.some.inj e1;exact⟨fun h=>by omega,fun h=>by omega⟩⟩)
  constructor <;> simp only[RS.bw]
  case rd=>exact hr
  all_goals grind
 ·obtain⟨b0,dt,w0,w1,rd⟩:=J;refine⟨b0,dt,w0,w1,fun j d e=>?_⟩
  rcases RS.br_get e with ⟨rfl,rfl⟩ | ⟨q,e⟩
  ·have ae:=hc.ph;exact⟨fun _=>⟨fZ,hc.i,hc.B⟩,fun h=>by omega,fun h=>by omega,fun h=>by omega,fun h=>by omega⟩
  ·have:=rd j d e;show RD5 P s.l s.w s.R s.g (upd s.lo k s.g j) j d;rw[eM q];exact this
 ·obtain⟨hO,h2,fZ,gT⟩:=G.w c hw;have hD:=hO.inv.d5 (hO.kd.trans hk);obtain⟨_,d2,d3,d4,d5,d6⟩:=(hD.2.2 hO.over).1 (by rw[h2];rfl);have ay:=hO.wd;have aS:=hO.nr;have aj:=hO.sl;have OE:=hO.inv.sta.nr4;have Gh:=hO.inv.sta.sl16;have bY:P.sz=1+P.nr+P.sl*P.wd:=by rw[← hO.size,← hO.wd,← hO.nr,← hO.sl];exact hO.inv.sta.s5 (hO.kd.trans hk)
  have bf:=G.len;have gY:=G.gn
  have Jx:∀ j d,s.r j=some d→j<P.nr:=fun j d e=>by
   obtain⟨q1,_,q2⟩:=G.r j d e;have q3:=q1.inv.sta.rd;have q4:=q1.nr;omega
  have du:=hO.step G.w32
  have qT:(c.step s.l).1.over=false→0≤(c.step s.l).1.B∧(c.step s.l).1.B<P.sl:=fun h=>by
   have h1:=(du.2.2 h).inv.d5 ((du.2.2 h).kd.trans hk);have h3:=(du.2.2 h).sl;have h4:=(h1.2.2 h).1 (by rw[du.1,h2];rfl);have h5:=h1.2.1;have h6:=h4.1;omega
  clear du;obtain⟨b0,dt,w0,w1,rd⟩:=J;have hf:=w1 c hw;have xm:s.l.getD 0 0%P.sl=s.l.getD 0 0:=Int.emod_eq_of_lt b0.1 b0.2
  rcases (by omega:c.ph=0∨c.ph=1∨c.ph=2∨c.ph=3) with ae | ae | ae | ae
  ·obtain⟨⟨v1,v2,v3,v4,v5,v6,v7⟩,e⟩:=Fd (l:=s.l) hk hO h2 ae;rw[xm] at v3;rw[e];clear qT;generalize (c.step s.l).1=c' at *
   have hr:∀ k d,s.r k=some d→RD5 P s.l (some c') s.R s.g (s.lo k) k d:=fun k d e=>
    (rd k d e).mono (Nat.le_refl _) rfl (fun a ha=>rfl) (fun a h1 _ _ _ _=>⟨h1,fun c1 e1=>by obtain rfl:=Option.some.inj e1;exact⟨fun h=>by omega,fun h=>by omega⟩⟩)
   refine⟨s.g,Nat.le_refl _,gY,by grind,by grind,?_⟩
   constructor <;> simp only[RS.sw,v7]
   case rd=>exact hr
   all_goals grind
  ·have hi:c.i<P.nr:=by have:=d5 ae;omega
   have hA:=hf.2.1 (by omega)
   have last:∀ u:Nat→Bool,(∃ c1:Kc,c1.used=u∧Kc.Few c1 (c.i+1))→(∀ j:Nat,c.used j=true→u j=true)→(∀ k,k=c.i→∀ x:Int,0≤x→x<P.sl→s.l.getD (1+k) 0=x+1→u x.toNat=true)→P.nr≤c.i+1→
     Vw (c.step s.l).1 2 0 c.A (iM (fun j:Nat=>u j || decide ((j:Int)=min c.A 20))) (fun j:Nat=>u j || decide ((j:Int)=min c.A 20)) c.rc→(c.step s.l).2=s.l→∃ g,s.g≤g∧g≤s.n∧((c.step s.l).1.over=true→g=s.n∧(c.step s.l).1.code=0)∧((c.step s.l).1.over=false→(c.step s.l).1.rc=c.rc)∧J5 P (s.sw (c.step s.l).1 (c.step s.l).2 g):=fun u xl zP ah hl hv e=>by
    obtain⟨v1,v2,v3,v4,v5,v6,v7⟩:=hv;rw[e];obtain⟨c1,o8,xl⟩:=xl;have m7:=vH (xl.mark c.A) (by omega);have RG:(c1.mark c.A).used=fun j:Nat=>u j || decide ((j:Int)=min c.A 20):=by rw[← o8];rfl
    rw[RG,← v4] at m7;have hB:=qT v7
    have hu:∀ j:Nat,(u j=true∨(j:Int)=min c.A 20)→(c.step s.l).1.B.toNat≠j:=fun j h q=>by
     rw[q] at m7;simp at m7
     rcases h with h | h
     ·rw[h] at m7;exact absurd m7.1 (by decide)
     ·exact m7.2 h
    have hz:∀ v p,Has s.l p v 0:=fun v p=>Has.zero
    clear qT m7 RG;generalize (c.step s.l).1=c' at *;have m5:c'.B≠c.A:=fun q=>hu c.A.toNat (.inr (by omega)) (by rw[q])
    have hr:∀ k d,s.r k=some d→RD5 P s.l (some c') s.R s.g (s.lo k) k d:=fun k d e=>
     (rd k d e).mono (Nat.le_refl _) rfl (fun a ha=>rfl) (fun a h1 h3 hx x0 x1=>⟨h1,fun c2 e1=>by
      obtain rfl:=Option.some.inj e1;refine⟨fun h=>by omega,fun _ q=>?_⟩;have zU:=Jx k d e
      by_cases qd:k<c.i
      ·rcases (h3 c hw).1 ae qd with h6 | h6
       ·exact hu d.A.toNat (.inl (zP _ h6)) (by rw[q])
       ·exact m5 (q.trans h6)
      ·exact hu d.A.toNat (.inl (ah k (by omega) d.A x0 x1 hx)) (by rw[q])⟩)
    refine⟨s.g,Nat.le_refl _,gY,by grind,by grind,?_⟩
    constructor <;> simp only[RS.sw,v7]
    case rd=>exact hr
    all_goals grind
   have more:∀ u:Nat→Bool,(∀ j:Nat,c.used j=true→u j=true)→(∀ k,k=c.i→∀ x:Int,0≤x→x<P.sl→s.l.getD (1+k) 0=x+1→u x.toNat=true)→
     Vw (c.step s.l).1 1 (c.i+1) c.A c.B u c.rc→(c.step s.l).2=s.l→∃ g,s.g≤g∧g≤s.n∧((c.step s.l).1.over=true→g=s.n∧(c.step s.l).1.code=0)∧((c.step s.l).1.over=false→(c.step s.l).1.rc=c.rc)∧J5 P (s.sw (c.step s.l).1 (c.step s.l).2 g):=fun u zP ah hv e=>by
    obtain⟨v1,v2,v3,v4,v5,v6,v7⟩:=hv;rw[e];clear qT;generalize (c.step s.l).1=c' at *
    have hr:∀ k d,s.r k=some d→RD5 P s.l (some c') s.R s.g (s.lo k) k d:=fun k d e=>
     (rd k d e).mono (Nat.le_refl _) rfl (fun a ha=>rfl) (fun a h1 h3 hx x0 x1=>⟨h1,fun c2 e1=>by
      obtain rfl:=Option.some.inj e1;refine⟨fun _ h=>?_,fun h=>by omega⟩;rw[v5,v3]
      by_cases qd:k<c.i
      ·rcases (h3 c hw).1 ae qd with h6 | h6
       ·exact .inl (zP _ h6)
       ·exact .inr h6
      ·exact .inl (ah k (by omega) d.A x0 x1 hx)⟩)
    refine⟨s.g,Nat.le_refl _,gY,by grind,by grind,?_⟩
    constructor <;> simp only[RS.sw,v7]
    case rd=>exact hr
    all_goals grind
   have d8:¬ 0<s.l.getD (1+c.i) 0→∀ k,k=c.i→∀ x:Int,0≤x→x<P.sl→s.l.getD (1+k) 0=x+1→c.used x.toNat=true:=fun hz k qd x x0 x1 hx=>by
    subst qd;omega
   have lN:∀ k,k=c.i→∀ x:Int,0≤x→x<P.sl→s.l.getD (1+k) 0=x+1→(c.used x.toNat || decide (((x.toNat:Nat):Int)=min (s.l.getD (1+c.i) 0 - 1) 20))=true:=fun k qd x x0 x1 hx=>by
    subst qd;have h7:((x.toNat:Nat):Int)=min (s.l.getD (1+c.i) 0 - 1) 20:=by omega
    simp[h7]
   by_cases hz:0<s.l.getD (1+c.i) 0
   ·by_cases hl:P.nr≤c.i+1
    ·obtain⟨hv,e⟩:=BI (l:=s.l) hk hO h2 ae hz hl;exact last _ ⟨c.mark (s.l.getD (1+c.i) 0 - 1),rfl,(d4 (by omega)).mark _⟩ (fun j h=>by show(c.used j || _)=true;simp[h]) lN hl hv e
    ·obtain⟨hv,e⟩:=Fe (l:=s.l) hk hO h2 ae hz (by omega);exact more _ (fun j h=>by simp[h]) lN hv e
   ·by_cases hl:P.nr≤c.i+1
    ·obtain⟨hv,e⟩:=xZ (l:=s.l) hk hO h2 ae hz hl;exact last _ ⟨c,rfl,(d4 (by omega)).more (by omega)⟩ (fun j h=>h) (d8 hz) hl hv e
    ·obtain⟨hv,e⟩:=BJ (l:=s.l) hk hO h2 ae hz (by omega);exact more _ (fun j h=>h) (d8 hz) hv e
  ·have hi:c.i<P.wd:=by have:=d6 ae;omega
   obtain⟨e,hv⟩:=Ff (l:=s.l) hk hO h2 ae hi;have hA:=hf.2.1 (by omega);obtain⟨Ny,bF,m5⟩:=hf.2.2.1 (by omega);rw[show 1+P.nr+c.B.toNat*P.wd=bA P c.B from rfl] at e
   have aJ:bA P c.B+c.i<s.l.length:=by
    have:=oW (a:=c.B.toNat) (n:=P.sl) (p:=1+P.nr) (by omega) hi;unfold bA;omega
   have fm:1+P.nr≤bA P c.B:=Nat.le_add_right _ _;rw[e];generalize gA:s.l.set (bA P c.B+c.i) (c.rc.getD c.i 0)=l';have h0:l'.getD 0 0=s.l.getD 0 0:=by rw[← gA];exact bt (by omega)
   have h1:∀ k,k<P.nr→l'.getD (1+k) 0=s.l.getD (1+k) 0:=fun k hk=>by rw[← gA];exact bt (by omega)
   have h3:Has l' (bA P c.B) (s.R s.n) (c.i+1):=by rw[← gA];exact(hf.2.2.2.1 ae).next (by rw[fZ]) aJ
   have h4:∀ x v,0≤x→c.B≠x→Has s.l (bA P x) v P.wd→Has l' (bA P x) v P.wd:=fun x v hx eZ h=>by rw[← gA];exact h.far (wo Ny hx eZ hi)
   have h5:Has l' (bA P (l'.getD 0 0)) (s.R s.g) P.wd:=by rw[h0];exact h4 _ _ b0.1 (by rw[← hA];exact m5) dt
   clear gA qT;generalize (c.step s.l).1=c' at *
   have hr:(c'.ph=2∨c'.ph=3)→c'.B=c.B→∀ k d,s.r k=some d→RD5 P l' (some c') s.R s.g (s.lo k) k d:=fun hp FX k d e=>
    (rd k d e).mono (Nat.le_refl _) (h1 k (Jx k d e)) (fun a ha=>rfl) (fun a h1 h3 _ x0 _=>⟨h4 _ _ x0 ((h3 c hw).2 (.inl ae)) h1,fun c1 e1=>by
      obtain rfl:=Option.some.inj e1;exact⟨fun h=>by omega,fun _=>by rw[FX];exact(h3 c hw).2 (.inl ae)⟩⟩)
   rcases hv with ⟨_,v1,v2,v3,v4,v5,v6,v7⟩ | ⟨nt,v1,v2,v3,v4,v5,v6,v7⟩
   ·have hr:=hr (.inl v1) v4;refine⟨s.g,Nat.le_refl _,gY,by grind,by grind,?_⟩
    constructor <;> simp only[RS.sw,v7]
    case rd=>exact hr
    all_goals grind
   ·have hr:=hr (.inr v1) v4;refine⟨s.g,Nat.le_refl _,gY,by grind,by grind,?_⟩
    constructor <;> simp only[RS.sw,v7]
    case rd=>exact hr
    all_goals grind
  ·obtain⟨v1,v2,_,e⟩:=Fg (l:=s.l) hk hO h2 ae;obtain⟨Ny,bF,m5⟩:=hf.2.2.1 (by omega);have hn:=hf.1;have hF:=hf.2.2.2.2 ae;rw[e];generalize gA:s.l.set 0 c.B=l';have h0:l'.getD 0 0=c.B:=by rw[← gA];exact cN (by omega)
   have h1:∀ k,l'.getD (1+k) 0=s.l.getD (1+k) 0:=fun k=>by rw[← gA];exact bt (by omega)
   have h4:∀ x v d,Has s.l (bA P x) v d→Has l' (bA P x) v d:=fun x v d h=>by rw[← gA];exact h.far (.inl (by unfold bA;omega))
   clear gA qT;generalize (c.step s.l).1=c' at *
   have hr:∀ k d,s.r k=some d→RD5 P l' none s.R s.n (s.lo k) k d:=fun k d e=>
    (rd k d e).mono (by omega) (h1 k) (fun a ha=>rfl) (fun a h1 h3 _ _ _=>⟨h4 _ _ _ h1,fun c1 e1=>by cases e1⟩)
   have h5:Has l' (bA P (l'.getD 0 0)) (s.R s.n) P.wd:=by rw[h0];exact h4 _ _ _ hF
   refine⟨s.n,by omega,Nat.le_refl _,by grind,by grind,?_⟩
   constructor <;> simp only[RS.sw,v1]
   case rd=>exact hr
   all_goals grind
 ·obtain⟨hO,h2,jX⟩:=G.r k c hr;have hD:=hO.inv.d5 (hO.kd.trans hk);obtain⟨d1,d2⟩:=(hD.2.2 hO.over).2 (by rw[h2];rfl);have ay:=hO.wd;have aS:=hO.nr;have aj:=hO.sl;have Gh:=hO.inv.sta.sl16;have ym:k<P.nr:=by have:=hO.inv.sta.rd;omega
  have bY:P.sz=1+P.nr+P.sl*P.wd:=by rw[← hO.size,← hO.wd,← hO.nr,← hO.sl];exact hO.inv.sta.s5 (hO.kd.trans hk)
  have bf:=G.len;have kw:=G.lo k c hr;have gY:=G.gn;have hR:=G.R;obtain⟨b0,dt,w0,w1,rd⟩:=J;have xm:s.l.getD 0 0%P.sl=s.l.getD 0 0:=Int.emod_eq_of_lt b0.1 b0.2;have old:=rd k c hr
  have fin:∀ (l':List Int) (c':Kc),(∀ j,j≠1+k→l'.getD j 0=s.l.getD j 0)→(∀ x v d,Has s.l (bA P x) v d→Has l' (bA P x) v d)→(c'.over=false→RD5 P l' s.w s.R s.g (s.lo k) k c')→J5 P (s.sr k c' l'):=fun l' c' e1 e2 e3=>by
   have e0:l'.getD 0 0=s.l.getD 0 0:=e1 0 (by omega);refine⟨by show 0≤l'.getD 0 0∧l'.getD 0 0<_;rw[e0];exact b0,by show Has l' (bA P (l'.getD 0 0)) _ _;rw[e0];exact e2 _ _ _ dt,w0,fun c1 q=>?_,fun j d q=>?_⟩
   ·obtain⟨f1,f2,f3,f4,f5⟩:=w1 c1 q;exact⟨f1,fun a=>(f2 a).trans e0.symm,f3,fun h=>e2 _ _ _ (f4 h),fun h=>e2 _ _ _ (f5 h)⟩
   ·rcases RS.sr_get q with ⟨rfl,rfl,ho⟩ | ⟨eZ,q⟩
    ·exact e3 ho
    ·exact(rd j d q).mono (Nat.le_refl _) (e1 _ (by omega)) (fun _ _=>rfl) (fun a h1 h3 _ _ _=>⟨e2 _ _ _ h1,h3⟩)
  have same:∀ (c':Kc),(c'.over=false→RD5 P s.l s.w s.R s.g (s.lo k) k c')→J5 P (s.sr k c' s.l):=fun c' h=>fin s.l c' (fun _ _=>rfl) (fun _ _ _ h=>h) h
  have hf:∀ y x v d,Has s.l (bA P x) v d→Has (s.l.set (1+k) y) (bA P x) v d:=fun y x v d h=>h.far (.inl (by unfold bA;omega))
  rcases (by omega:c.ph=0∨c.ph=1∨c.ph=2∨c.ph=3∨c.ph=4) with ae | ae | ae | ae | ae
  ·obtain⟨⟨v1,v2,v3,v4,v5,v6,v7⟩,e⟩:=E8 (l:=s.l) hk hO h2 ae;obtain⟨q1,q2,q3⟩:=old.p0 (by omega);rw[e];rw[xm] at v3;generalize (c.step s.l).1=c' at *;exact⟨same c' fun _=>⟨fun _=>⟨v6.trans q1,v2,v4.trans q3⟩,fun _ _=>by rw[v3];exact b0,fun h=>by omega,fun h=>by omega,fun h=>by omega⟩,fun h=>by rw[v7] at h;cases h⟩
  ·obtain⟨⟨v1,v2,v3,v4,v5,v6,v7⟩,e⟩:=E9 (l:=s.l) hk hO h2 ae;obtain⟨q1,q2,q3⟩:=old.p0 (by omega);have qa:=old.pa (by omega) (by omega);rw[jX] at e;rw[e];generalize (c.step s.l).1=c' at *;refine⟨fin _ c' (fun j hj=>bt (fun q=>hj q.symm)) (hf _) fun _=>⟨fun _=>⟨v6.trans q1,v2,v4.trans q3⟩,fun _ _=>by rw[v3];exact qa,fun _=>?_,fun h=>by omega,fun h=>by omega⟩,fun h=>by rw[v7] at h;cases h⟩;rw[cN (by rw[bf,bY];omega),v3];omega
  ·obtain⟨q1,q2,q3⟩:=old.p0 (by omega);have qa:=old.pa (by omega) (by omega);have qr:=old.pr (.inl ae)
   by_cases he:s.l.getD 0 0%P.sl=c.A
   ·obtain⟨⟨v1,v2,v3,v4,v5,v6,v7⟩,e⟩:=Fa (l:=s.l) hk hO h2 ae he;rw[xm] at he;rw[e];generalize (c.step s.l).1=c' at *;refine⟨same c' fun _=>⟨fun h=>by omega,fun _ _=>by rw[v3];exact qa,fun _=>by rw[v3];exact qr,fun _=>⟨v4.trans q3,s.g,kw,Nat.le_refl _,by rw[v3,← he];exact dt,?_,by rw[v6,v2,q1];exact Pre.zero⟩,fun h=>by omega⟩,fun h=>by rw[v7] at h;cases h⟩;intro c1 z;obtain⟨f1,f2,f3,f4,f5⟩:=w1 c1 z;rw[v3,← he];exact⟨fun h _=>.inr (f2 (by omega)).symm,fun h q=>(f3 (by omega)).2.2 (q.trans (f2 (by omega)).symm)⟩
   ·obtain⟨e,hv⟩:=BH (l:=s.l) hk hO h2 ae he;rw[e];generalize (c.step s.l).1=c' at *
    rcases hv with ⟨v1,v2,v3,v4,v5,v6,v7⟩ | ⟨v1,v2,v3,v4,v5,v6,v7⟩
    ·exact⟨same c' fun _=>⟨fun h=>by omega,fun h h'=>by omega,fun h=>by omega,fun h=>by omega,fun _=>.inr v4⟩,fun h=>by rw[v7] at h;cases h⟩
    ·exact⟨same c' fun _=>⟨fun _=>⟨v6,v2,v4.trans q3⟩,fun h=>by omega,fun h=>by omega,fun h=>by omega,fun h=>by omega⟩,fun h=>by rw[v7] at h;cases h⟩
  ·have hi:c.i<P.wd:=by have:=d2 ae;omega
   obtain⟨e,hv⟩:=Fb (l:=s.l) hk hO h2 ae hi;obtain⟨q1,a,q2,q3,q4,q5,q6⟩:=old.p3 ae;have qa:=old.pa (by omega) (by omega);have qr:=old.pr (.inr ae);rw[show 1+P.nr+c.A.toNat*P.wd=bA P c.A from rfl] at hv;have mj:Pre (c.rc++[s.l.getD (bA P c.A+c.i) 0]) (s.R a) (c.i+1):=q6.next (q4 c.i hi);have Gf:∀ r,Pre r (s.R a) P.wd→r=s.R a:=fun r h=>h.full (hR a (by omega))
   rw[e];generalize (c.step s.l).1=c' at *
   rcases hv with ⟨_,v1,v2,v3,v4,v5,v6,v7⟩ | ⟨nt,v1,v2,v3,v4,v5,v6,v7⟩
   ·exact⟨same c' fun _=>⟨fun h=>by omega,fun _ _=>by rw[v3];exact qa,fun _=>by rw[v3];exact qr,fun _=>⟨v4.trans q1,a,q2,q3,by rw[v3];exact q4,by rw[v3];exact q5,by rw[v6,v2];exact mj⟩,fun h=>by omega⟩,fun h=>by rw[v7] at h;cases h⟩
   ·exact⟨same c' fun _=>⟨fun h=>by omega,fun _ h=>by omega,fun h=>by omega,fun h=>by omega,fun _=>.inl ⟨v4.trans q1,a,q2,q3,by rw[v6];exact Gf _ (by rw[nt];exact mj)⟩⟩,fun h=>by rw[v7] at h;cases h⟩
  ·obtain⟨v1,v2,v3,e⟩:=Fc (l:=s.l) hk hO h2 ae;rw[jX] at e;rw[e];generalize (c.step s.l).1=c' at *;refine⟨fin _ c' (fun j hj=>bt (fun q=>hj q.symm)) (hf _) (fun h=>by rw[v1] at h;cases h),fun _=>?_⟩
   rcases old.p4 ae with ⟨q,a,q1,q2,q3⟩ | q
   ·exact .inl ⟨v2.trans q,a,q1,q2,by rw[v3,if_pos q];exact q3⟩
   ·exact .inr (v2.trans q)
structure QS where
 l:List Int
 w:Option Kc
 r:Option Kc
 R:Nat→List Int
 p:Nat
 t:Nat
def iX (P:Par) (j:Nat):Nat:=2+rU P j*P.wd
theorem By {P:Par} {A:Int} {j:Nat} (h:A=(P.st+j)%(2*P.sl)):(A%P.sl).toNat=rU P j:=by
 unfold rU;rw[h,Int.emod_emod_of_dvd _ (Int.dvd_mul_left _ _)]
def Q6 (P:Par) (l:List Int) (t p:Nat) (R:Nat→List Int):Prop:=∀ j,t≤j→j<p→Has l (iX P j) (R j) P.wd
structure K6 (P:Par) (s:QS):Prop where
 len:s.l.length=P.sz
 w32:W32 s.l
 i0:s.l.getD 0 0=(P.st+s.t)%(2*P.sl)
 i1:s.l.getD 1 0=(P.st+s.p)%(2*P.sl)
 tp:s.t≤s.p
 ps:s.p≤s.t+P.sl
 RL:∀ j,j<s.p→(s.R j).length=P.wd
 q:Q6 P s.l s.t s.p s.R
 w:∀ c,s.w=some c→c.Of P∧c.op=3∧c.rc=s.R s.p∧(1≤c.ph→c.A=(P.st+s.p)%(2*P.sl))∧(2≤c.ph→s.p<s.t+P.sl)∧(c.ph=2→Has s.l (iX P s.p) (s.R s.p) c.i)∧(c.ph=3→Has s.l (iX P s.p) (s.R s.p) P.wd)
 r:∀ c,s.r=some c→c.Of P∧c.op=4∧(c.ph≤1→c.rc=[]∧c.i=0)∧(1≤c.ph→c.A=(P.st+s.t)%(2*P.sl))∧(2≤c.ph→s.t<s.p)∧(c.ph=2→Pre c.rc (s.R s.t) c.i)∧(c.ph=3→c.rc=s.R s.t)
def QS.bw (s:QS) (c:Kc):QS:={ s with w:=some c,R:=upd s.R s.p c.rc }
def QS.br (s:QS) (c:Kc):QS:={ s with r:=some c }
def QS.sw (s:QS) (c:Kc) (l:List Int) (p:Nat):QS:={ s with l:=l,w:=if c.over then none else some c,p:=p }
def QS.sr (s:QS) (c:Kc) (l:List Int) (t:Nat):QS:={ s with l:=l,r:=if c.over then none else some c,t:=t }
section
variable {P:Par} {s:QS} {c:Kc}
theorem K6.bw (J:K6 P s) (hc:c.New P) (ho:c.op=3):K6 P (s.bw c):=by
 obtain⟨a1,a2,a3,a4,a5,a6,a7,a8,a9,a10⟩:=J;have ae:=hc.ph;have hO:=hc.is;have xh:∀ a,a<s.p→upd s.R s.p c.rc a=s.R a:=fun a ha=>eM (by omega)
 have UG:upd s.R s.p c.rc s.p=c.rc:=iJ;have hQ:Q6 P s.l s.t s.p (upd s.R s.p c.rc):=fun j a b=>by rw[xh j b];exact a8 j a b
 have sJ:∀ d,s.r=some d→d.Of P∧d.op=4∧(d.ph≤1→d.rc=[]∧d.i=0)∧(1≤d.ph→d.A=(P.st+s.t)%(2*P.sl))∧(2≤d.ph→s.t<s.p)∧(d.ph=2→Pre d.rc (upd s.R s.p c.rc s.t) d.i)∧(d.ph=3→d.rc=upd s.R s.p c.rc s.t):=fun d e=>by
  obtain⟨b1,b2,b3,b4,b5,b6,b7⟩:=a10 d e;exact⟨b1,b2,b3,b4,b5,fun h=>by rw[xh _ (b5 (by omega))];exact b6 h,fun h=>by rw[xh _ (b5 (by omega))];exact b7 h⟩
 constructor <;> simp only[QS.bw]
 case r=>exact sJ
 case q=>exact hQ
 all_goals grind
theorem K6.br (J:K6 P s) (hc:c.New P) (ho:c.op=4) (fZ:c.rc=[]):K6 P (s.br c):=by
 obtain⟨a1,a2,a3,a4,a5,a6,a7,a8,a9,a10⟩:=J;have ae:=hc.ph;have hi:=hc.i;have hO:=hc.is
 constructor <;> simp only[QS.br]
 case q=>exact a8
 all_goals grind
theorem K6.sw (hk:P.kd=6) (J:K6 P s) (hw:s.w=some c):
  ((c.step s.l).1.over=true→((c.step s.l).1.code=2∧s.p=s.t+P.sl∧K6 P (s.sw (c.step s.l).1 (c.step s.l).2 s.p))∨((c.step s.l).1.code=0∧s.p<s.t+P.sl∧K6 P (s.sw (c.step s.l).1 (c.step s.l).2 (s.p+1))))∧
  ((c.step s.l).1.over=false→K6 P (s.sw (c.step s.l).1 (c.step s.l).2 s.p)):=by
 obtain⟨a1,a2,a3,a4,a5,a6,a7,a8,a9,a10⟩:=J;obtain⟨hO,h2,fZ,f1,f2,f3,f4⟩:=a9 c hw;have du:=hO.step a2;have ga:=Kc.step_w hO.inv a2;have la:=jB c s.l;obtain⟨_,_,d3⟩:=hO.inv.d6 (hO.kd.trans hk);obtain⟨d4,d5⟩:=d3 hO.over;have ay:=hO.wd;have aj:1≤P.sl:=by rw[← hO.sl];exact hO.inv.sta.sl6 (hO.kd.trans hk)
 have bY:P.sz=2+P.sl*P.wd:=by rw[← hO.size,← hO.wd,← hO.sl];exact hO.inv.sta.s6 (hO.kd.trans hk)
 have O6:c.rc.length=P.wd:=by rw[← hO.wd];exact hO.inv.gen.wrl (by unfold Kc.wr;rw[h2];rfl) hO.over
 have D8:Kc.gap (s.l.getD 0 0%(2*P.sl)) ((P.st+s.p)%(2*P.sl)) (2*P.sl)=((s.p - s.t:Nat):Int):=by
  rw[a3,Int.emod_emod_of_dvd _ (Int.dvd_refl _),show P.st+s.p=P.st+s.t+((s.p - s.t:Nat):Int) by omega];exact kq (by omega) (by omega)
 rcases (by omega:c.ph=0∨c.ph=1∨c.ph=2∨c.ph=3) with ae | ae | ae | ae
 ·obtain⟨⟨v1,v2,v3,v4,v5,v6,v7⟩,e⟩:=BY (l:=s.l) hk hO h2 ae;rw[a4,Int.emod_emod_of_dvd _ (Int.dvd_refl _)] at v3;rw[e] at ga la ⊢;generalize (c.step s.l).1=c' at *;refine⟨fun h=>(by rw[v7] at h;cases h),fun _=>?_⟩
  constructor <;> simp only[QS.sw,v7]
  case q=>exact a8
  all_goals grind
 ·have hA:=f1 (by omega)
  by_cases he:(P.sl:Int)≤Kc.gap (s.l.getD 0 0%(2*P.sl)) c.A (2*P.sl)
  ·obtain⟨v1,v2,_,e⟩:=ya (l:=s.l) hk hO h2 ae he;rw[hA,D8] at he;rw[e] at ga la ⊢;generalize (c.step s.l).1=c' at *;refine⟨fun _=>.inl ⟨v2,by omega,?_⟩,fun h=>(by rw[v1] at h;cases h)⟩
   constructor <;> simp only[QS.sw,v1]
   case q=>exact a8
   all_goals grind
  ·obtain⟨⟨v1,v2,v3,v4,v5,v6,v7⟩,e⟩:=BZ (l:=s.l) hk hO h2 ae he;rw[hA,D8] at he;rw[e] at ga la ⊢;generalize (c.step s.l).1=c' at *;have hz:∀ v p,Has s.l p v 0:=fun v p=>Has.zero
   refine⟨fun h=>(by rw[v7] at h;cases h),fun _=>?_⟩
   constructor <;> simp only[QS.sw,v7]
   case q=>exact a8
   all_goals grind
 ·have hi:c.i<P.wd:=by have:=d5 ae;omega
  have hA:=f1 (by omega);have mh:=f2 (by omega);obtain⟨e,hv⟩:=B2 (l:=s.l) hk hO h2 ae hi;rw[By hA,show 2+rU P s.p*P.wd=iX P s.p from rfl] at e;have aJ:=oW (p:=2) (Bw (P:=P) aj s.p) hi;rw[show 2+rU P s.p*P.wd=iX P s.p from rfl] at aJ;have fm:2≤iX P s.p:=Nat.le_add_right 2 _;rw[e] at ga la ⊢;have h1:(s.l.set (iX P s.p+c.i) (c.rc.getD c.i 0)).getD 0 0=s.l.getD 0 0:=bt (by omega);have T0:(s.l.set (iX P s.p+c.i) (c.rc.getD c.i 0)).getD 1 0=s.l.getD 1 0:=bt (by omega);have h3:Has (s.l.set (iX P s.p+c.i) (c.rc.getD c.i 0)) (iX P s.p) (s.R s.p) (c.i+1):=(f3 ae).next (by rw[fZ]) (by omega);have h4:Q6 P (s.l.set (iX P s.p+c.i) (c.rc.getD c.i 0)) s.t s.p s.R:=fun j a b=>(a8 j a b).far (ry (fun q=>Bx (P:=P) (i:=j) (j:=s.p) b (by omega) q.symm) hi)
  generalize (c.step s.l).1=c' at *;generalize s.l.set (iX P s.p+c.i) (c.rc.getD c.i 0)=l' at *
  rcases hv with ⟨_,v1,v2,v3,v4,v5,v6,v7⟩ | ⟨nt,v1,v2,v3,v4,v5,v6,v7⟩
  ·refine⟨fun h=>(by rw[v7] at h;cases h),fun _=>?_⟩
   constructor <;> simp only[QS.sw,v7]
   case q=>exact h4
   all_goals grind
  ·refine⟨fun h=>(by rw[v7] at h;cases h),fun _=>?_⟩
   constructor <;> simp only[QS.sw,v7]
   case q=>exact h4
   all_goals grind
 ·have hA:=f1 (by omega);have mh:=f2 (by omega);obtain⟨v1,v2,_,e⟩:=B3 (l:=s.l) hk hO h2 ae;rw[hA,mq (by omega)] at e;rw[e] at ga la ⊢;have h0:(s.l.set 1 ((P.st+s.p+1)%(2*P.sl))).getD 0 0=s.l.getD 0 0:=bt (by omega)
  have h1:(s.l.set 1 ((P.st+s.p+1)%(2*P.sl))).getD 1 0=(P.st+((s.p+1:Nat):Int))%(2*P.sl):=by
   have O4:=hO.inv.sta.wd1;have:=Nat.mul_le_mul_left P.sl (show 1≤P.wd by omega);rw[cN (by omega)]
   congr 1
   omega
  have h4:Q6 P (s.l.set 1 ((P.st+s.p+1)%(2*P.sl))) s.t (s.p+1) s.R:=fun j a b=>by
   have hf:∀ v,Has s.l (iX P j) v P.wd→Has (s.l.set 1 ((P.st+s.p+1)%(2*P.sl))) (iX P j) v P.wd:=fun v h=>h.far (.inl (by unfold iX;omega))
   by_cases q:j=s.p
   ·rw[q];exact q ▸ hf _ (by rw[q];exact f4 ae)
   ·exact hf _ (a8 j a (by omega))
  generalize (c.step s.l).1=c' at *;generalize s.l.set 1 ((P.st+s.p+1)%(2*P.sl))=l' at *;refine⟨fun _=>.inr ⟨v2,mh,?_⟩,fun h=>(by rw[v1] at h;cases h)⟩
  constructor <;> simp only[QS.sw,v1]
  case q=>exact h4
  all_goals grind
theorem K6.sr (hk:P.kd=6) (J:K6 P s) (hr:s.r=some c):
  ((c.step s.l).1.over=true→((c.step s.l).1.code=3∧s.p=s.t∧K6 P (s.sr (c.step s.l).1 (c.step s.l).2 s.t))∨((c.step s.l).1.code=0∧s.t<s.p∧(c.step s.l).1.rc=s.R s.t∧K6 P (s.sr (c.step s.l).1 (c.step s.l).2 (s.t+1))))∧
  ((c.step s.l).1.over=false→K6 P (s.sr (c.step s.l).1 (c.step s.l).2 s.t)):=by
 obtain⟨a1,a2,a3,a4,a5,a6,a7,a8,a9,a10⟩:=J;obtain⟨hO,h2,fZ,f1,f2,f3,f4⟩:=a10 c hr;have du:=hO.step a2;have ga:=Kc.step_w hO.inv a2;have la:=jB c s.l;obtain⟨_,_,d3⟩:=hO.inv.d6 (hO.kd.trans hk);obtain⟨d4,d5⟩:=d3 hO.over;have ay:=hO.wd;have aj:1≤P.sl:=by rw[← hO.sl];exact hO.inv.sta.sl6 (hO.kd.trans hk)
 have bY:P.sz=2+P.sl*P.wd:=by rw[← hO.size,← hO.wd,← hO.sl];exact hO.inv.sta.s6 (hO.kd.trans hk)
 rcases (by omega:c.ph=0∨c.ph=1∨c.ph=2∨c.ph=3) with ae | ae | ae | ae
 ·obtain⟨⟨v1,v2,v3,v4,v5,v6,v7⟩,e⟩:=BU (l:=s.l) hk hO h2 ae;rw[a3,Int.emod_emod_of_dvd _ (Int.dvd_refl _)] at v3;rw[e] at ga la ⊢;generalize (c.step s.l).1=c' at *;refine⟨fun h=>(by rw[v7] at h;cases h),fun _=>?_⟩
  constructor <;> simp only[QS.sr,v7]
  case q=>exact a8
  all_goals grind
 ·have hA:=f1 (by omega)
  have Hv:s.l.getD 1 0%(2*P.sl)=c.A↔s.p=s.t:=by
   rw[a4,Int.emod_emod_of_dvd _ (Int.dvd_refl _),hA]
   constructor
   ·intro q;have hg:=kq (x:=P.st+s.t) (d:=((s.p - s.t:Nat):Int)) (m:=2*P.sl) (by omega) (by omega);rw[show P.st+s.t+((s.p - s.t:Nat):Int)=P.st+s.p by omega,q] at hg;unfold Kc.gap at hg;rw[if_pos (Int.le_refl _)] at hg;omega
   ·intro q;rw[q]
  by_cases he:s.l.getD 1 0%(2*P.sl)=c.A
  ·obtain⟨v1,v2,_,e⟩:=x9 (l:=s.l) hk hO h2 ae he;have Ls:=Hv.1 he;rw[e] at ga la ⊢;generalize (c.step s.l).1=c' at *;refine⟨fun _=>.inl ⟨v2,Ls,?_⟩,fun h=>(by rw[v1] at h;cases h)⟩
   constructor <;> simp only[QS.sr,v1]
   case q=>exact a8
   all_goals grind
  ·obtain⟨⟨v1,v2,v3,v4,v5,v6,v7⟩,e⟩:=BV (l:=s.l) hk hO h2 ae he;have Ls:s.p≠s.t:=fun q=>he (Hv.2 q)
   obtain⟨q1,q2⟩:=fZ (by omega);rw[e] at ga la ⊢;generalize (c.step s.l).1=c' at *;have hz:∀ v,Pre [] v 0:=fun v=>Pre.zero
   refine⟨fun h=>(by rw[v7] at h;cases h),fun _=>?_⟩
   constructor <;> simp only[QS.sr,v7]
   case q=>exact a8
   all_goals grind
 ·have hi:c.i<P.wd:=by have:=d5 ae;omega
  have hA:=f1 (by omega);have mh:=f2 (by omega);obtain⟨e,hv⟩:=BW (l:=s.l) hk hO h2 ae hi;rw[By hA,show 2+rU P s.t*P.wd=iX P s.t from rfl] at hv;have mj:Pre (c.rc++[s.l.getD (iX P s.t+c.i) 0]) (s.R s.t) (c.i+1):=(f3 ae).next (a8 s.t (Nat.le_refl _) mh c.i hi);have Gf:∀ r,Pre r (s.R s.t) P.wd→r=s.R s.t:=fun r h=>h.full (a7 s.t mh)
  rw[e] at ga la ⊢;generalize (c.step s.l).1=c' at *
  rcases hv with ⟨_,v1,v2,v3,v4,v5,v6,v7⟩ | ⟨nt,v1,v2,v3,v4,v5,v6,v7⟩
  ·refine⟨fun h=>(by rw[v7] at h;cases h),fun _=>?_⟩
   constructor <;> simp only[QS.sr,v7]
   case q=>exact a8
   all_goals grind
  ·have Q7:=Gf _ (by rw[nt];exact mj);refine⟨fun h=>(by rw[v7] at h;cases h),fun _=>?_⟩
   constructor <;> simp only[QS.sr,v7]
   case q=>exact a8
   all_goals grind
 ·have hA:=f1 (by omega);have mh:=f2 (by omega);have Ty:=f4 ae;obtain⟨v1,v2,v3,e⟩:=BX (l:=s.l) hk hO h2 ae;rw[hA,mq (by omega)] at e;rw[e] at ga la ⊢;have h1:(s.l.set 0 ((P.st+s.t+1)%(2*P.sl))).getD 1 0=s.l.getD 1 0:=bt (by omega)
  have h0:(s.l.set 0 ((P.st+s.t+1)%(2*P.sl))).getD 0 0=(P.st+((s.t+1:Nat):Int))%(2*P.sl):=by
   rw[cN (by omega)]
   congr 1
   omega
  have hf:∀ p v d,2≤p→Has s.l p v d→Has (s.l.set 0 ((P.st+s.t+1)%(2*P.sl))) p v d:=fun p v d hp h=>h.far (.inl (by omega))
  have h4:Q6 P (s.l.set 0 ((P.st+s.t+1)%(2*P.sl))) (s.t+1) s.p s.R:=fun j a b=>hf _ _ _ (Nat.le_add_right 2 _) (a8 j (by omega) b)
  have ge:2≤iX P s.p:=Nat.le_add_right 2 _;have ON:=v3.trans Ty;generalize (c.step s.l).1=c' at *;generalize s.l.set 0 ((P.st+s.t+1)%(2*P.sl))=l' at *;refine⟨fun _=>.inr ⟨v2,mh,ON,?_⟩,fun h=>(by rw[v1] at h;cases h)⟩
  constructor <;> simp only[QS.sr,v1]
  case q=>exact h4
  all_goals grind
end
end Go.Proofs.YtabfcjohdgjkoaaGreatDoor
