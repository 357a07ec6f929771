/- law 24: Linear; what is handed in, opened. -/
import Derived.Test.YtabfcjohdgjkoaaGreatDoorZcLu
import Derived.Test.YtabfcjohdgjkoaaGreatDoorZcLd
import Derived.ProofKit
import Derived.OpenShut
import Derived.ShutString
import Derived.Test.YtabfcjohdgjkoaaGreatDoorZcWm
namespace Go.Proofs.YtabfcjohdgjkoaaGreatDoor
open Go.RowKit
open Go.Lib (hid)
attribute [local go_sem] Oper.semAt_some
set_option maxHeartbeats 1000000
set_option maxRecDepth 100000
section
variable {o:Ob} {l:List Int} {L:Lm} (h:Lin o l L)
include h
theorem IG (hk:o.k≠6):(∀ x ∈ L.calls,CI x=true)∧∀ x ∈ L.calls,x.q=2→x.p=0:=by
 obtain⟨J,pub,R,lo,_,a⟩:=h.reg hk
 have key:∀ x ∈ L.calls,CI x=true∧(x.q=2→x.p=0):=fun x hx=>by
  obtain⟨i,hi⟩:=List.getElem?_of_mem hx
  by_cases hp:x.p=0
  ·obtain⟨b1,b2,_⟩:=a.wr i x hi hp;exact⟨by unfold CI;simp[b1,b2],fun _=>hp⟩
  ·obtain⟨b1,b2⟩:=a.rd i x hi hp;refine⟨?_,fun e=>by omega⟩
   have:x.c=0∨x.c=1:=by
    rcases b2 with ⟨_,b⟩ | ⟨_,_,b | ⟨b,_⟩⟩
    ·exact .inl b
    ·exact .inr b
    ·exact .inl b
   unfold CI
   rcases this with b | b <;> simp[b1,b]
 exact⟨fun x hx=>(key x hx).1,fun x hx=>(key x hx).2⟩
theorem xA (hk:o.k≠6):∃ a,RegF l (L.calls.filter pG) (L.calls.filter gb) a:=by
 obtain⟨J,pub,R,lo,_,a⟩:=h.reg hk;exact a.tells
end
theorem Dm {o:Ob} (ho:bD o) (hk:o.k=6):((cY o).sl:Int)=o.s∧o.nr=1:=by
 rcases ba ho with ⟨q,_⟩ | ⟨q,_⟩ | ⟨q,_⟩ | ⟨q,_⟩ | ⟨q,_⟩ | ⟨_,q⟩
 ·omega
 ·omega
 ·omega
 ·omega
 ·omega
 ·unfold bL at q;have hs:(cY o).sl=o.s.toNat:=rfl;rw[hs];omega
theorem AJ {n:Int} {S:List Cl} (h:∃ k,k ∈ (m4 n (aR S) (aH S) (S.length+1) ⟨0,0,0,0⟩ ([],[])).2):0<(oI n S).length:=by
 obtain⟨k,hk⟩:=h;have hk:k ∈ qH n S:=hk;have:0<(qH n S).length:=List.length_pos_of_mem hk;unfold oI Lib.compact;exact nO _ _ (by rw[List.length_mergeSort];exact this)
theorem AM (o:Ob) (ho:bD o) (l:List Int) (hn:o.ni=l.length) (zR:l.length≤1000) (L:Lm) (hL:Lin o l L) (hu:L.Up) (gl:L.now≤1000000) (lK:L.ps.length≤1000) (iw:L.calls.length≤400) (KD:o.k=6→L.calls.length≤40)
  (A:Option Addr) (c:Nat) (es:List CV) (w:World) (hI:Ws w w.heap.size o.I l) (hx:es.map (·.x)=L.calls) (hc:es.length≤c) (aj:SlOf cvE w w.heap.size A es) (hw:∀ e ∈ es,Ws w w.heap.size e.A e.x.r):
  Calls Tryz.prog 13 #[.agg (af o),.slice A es.length c] w fun e w'=>e=.returned (.bool true)∧Below w.heap.size w w':=by
 have bf:es.length=L.calls.length:=by rw[← hx,List.length_map]
 have mn:=hL.right gl lK;have di:∀ e ∈ es,e.x.r.length≤1000:=fun e he=>by have:=hL.rl e.x (by rw[← hx];exact List.mem_map_of_mem (f:=fun (e:CV)=>e.x) he);omega
 have o9:(es.map (·.x)).Pairwise fun x y=>x.b<y.b:=by rw[hx];exact hu.up
 have gT:=RowB.new w (af o) 26;have hB:=bK w (.cells (af o) 26);obtain⟨n,aI⟩:∃ n,w.heap.size=n:=⟨_,rfl⟩
 by_cases hk:o.k=6
 ·have hs:=(Dm ho hk).1;obtain⟨R,hQ⟩:=hL.que hk;have hF:=s8 hQ mn;have lJ:=iB aj fun e he=>⟨hw e he,di e he,trivial⟩
  rw[hx] at lJ
  have Ip:RisesC A c L.calls w:=⟨hu.up,fun W hb=>by
   have:=sA A c es w (by omega) di aj hw o9 W hb
   rwa [hx] at this⟩
  have Jc:=hid fun W (hb:Below w.heap.size w W)=>wO o.s A c L.calls W (KD hk) (by omega) (Ip.below hb) (lJ.below hb hb.size)
  have PO:=hid fun W (hb:Below w.heap.size w W)=>sq A c L.calls W (KD hk) (by omega) (Ip.below hb) (lJ.below hb hb.size)
  rw[bf];have HY:=hid (And.intro hF (And.intro hs (And.intro (wt hQ hL.rt) (s9 hQ hL.rt mn hu.up))));have py:(o.k==6)=true:=by simp[hk]
  rw[aI] at gT hB Jc PO ⊢;have i9:=hid gT;have bT:=hid hB;have lF:=hid aI;clear hL hu gl lK iw KD hI hx aj hw bf mn di o9 gT hB hk hQ hF lJ Ip hs hn zR hc ho;unfold af at i9 bT ⊢;go_enter Tryz.func13,Tryz.ntmps13;go_wp2_with fail;generalize (w.alloc (.cells #[.int .i64 o.k,.int .i64 o.wd,.int .i64 o.s,.int .i64 o.c,.int .u32 o.st,.slice o.I o.ni o.ci,.int .i64 o.wr,.slice o.R o.nr o.cr] 26))=w1 at i9 bT ⊢;clear aI;have c0:=i9.out.at 0 (.int .i64 o.k);have c2:=i9.out.at 2 (.int .i64 o.s);go_wp2_with fail;refine(Jc.out _ bT.out).mono ?_;rintro e w2 ⟨Z,rfl,_,hz,hb⟩;obtain⟨S,⟨rfl,_⟩,hZ⟩:=hz HY.out.1;have hd:decide (0<Z.length)=true:=decide_eq_true (by rw[hZ,← HY.out.2.1];exact AJ HY.out.2.2.1);rw[hd];have cD:=hid (bT.out.trans (hb.mono (by have h2:=bT.out.size;have h3:=lF.out;omega)));clear hb hz hZ hd c0 c2;go_wp2_with fail;refine(PO.out _ cD.out).mono ?_;rintro e w3 ⟨b,rfl,_,hz,hb⟩;obtain⟨S,⟨rfl,_⟩,hZ⟩:=hz HY.out.1;have hd:=hZ.trans HY.out.2.2.2;rw[hd];have jE:=hid (cD.out.trans (hb.mono (by have h2:=cD.out.size;have h3:=lF.out;omega)));clear hb hz hZ hd;go_wp2_with fail;go_ret;exact⟨rfl,jE.out⟩
 ·have m7:=IG hL hk;have OY:=xA hL hk;rw[← hx] at m7 OY mn;have Jc:=hid fun W (hb:Below w.heap.size w W)=>xe o.I o.ci l A c es W (by omega) hc (hI.below hb hb.size) zR (aj.below hb hb.size) (fun e he=>(hw e he).below hb hb.size) mn m7.1 m7.2 di o9 OY
  rw[← hn] at Jc;have py:(o.k==6)=false:=by simp[hk]
  rw[aI] at gT hB Jc ⊢;have i9:=hid gT;have bT:=hid hB;have lF:=hid aI;clear hL hu gl lK iw KD hI hx aj hw bf mn di o9 gT hB hk m7 OY hn zR hc ho;unfold af at i9 bT ⊢;go_enter Tryz.func13,Tryz.ntmps13;go_wp2_with fail;generalize (w.alloc (.cells #[.int .i64 o.k,.int .i64 o.wd,.int .i64 o.s,.int .i64 o.c,.int .u32 o.st,.slice o.I o.ni o.ci,.int .i64 o.wr,.slice o.R o.nr o.cr] 26))=w1 at i9 bT ⊢;clear aI;have c0:=i9.out.at 0 (.int .i64 o.k);have c5:=i9.out.at 5 (.slice o.I o.ni o.ci);go_wp2_with fail;refine(Jc.out _ bT.out).mono ?_;rintro e w2 ⟨rfl,hb⟩;have cD:=hid (bT.out.trans (hb.mono (by have h2:=bT.out.size;have h3:=lF.out;omega)));clear hb c0 c5;go_wp2_with fail;go_ret;exact⟨rfl,cD.out⟩
open Go.RowKit Go.ChangeShapes Go.WideShapes Go.ChangeAt
theorem mN {α:Type} (p:Nat→α→Prop):∀ n:Nat,(∀ i,i<n→∃ x,p i x)→∃ l:List α,l.length=n∧∀ k x,l[k]?=some x→p k x
 | 0,_=>⟨[],rfl,fun k x h=>by simp at h⟩
 | n+1,h=>by
  obtain⟨l,hl,hp⟩:=mN p n (fun i hi=>h i (by omega));obtain⟨x,hx⟩:=h n (by omega);refine⟨l++[x],by simp[hl],fun k y hk=>?_⟩
  by_cases ym:k<n
  ·rw[List.getElem?_append_left (by omega)] at hk;exact hp k y hk
  ·rw[List.getElem?_append_right (by omega),hl] at hk
   have:k - n=0:=by
    have:=bQ hk;simp at this;omega
   have Ol:k=n:=by omega
   subst Ol;simp at hk;subst hk;exact hx
theorem tE {α:Type} {E:Enc α} {w:World} {a:Addr} {l:List α} (h:∀ k x,l[k]?=some x→∀ j u,(E.cells x)[j]?=some u→w.cell? (a.add (k*E.size+j))=some u):
  SlOf E w w.heap.size (some a) l:=by
 intro k x hk;have h0:∃ y,l[0]?=some y:=bu (by have:=bQ hk;omega);obtain⟨y,hy⟩:=h0;have hs:0<(E.cells y).length:=by rw[E.len];exact E.pos
 obtain⟨u,hu⟩:=bu hs;have hc:=h 0 y hy 0 u hu;have e0:0*E.size+0=0:=by simp
 rw[e0] at hc;have At:=World.cell?_spot hc;have hb:=aM hc;rw[pR] at hb;obtain⟨b,off,spot⟩:=a;have:spot=none:=by simpa [Addr.add] using At
 subst this;refine⟨b,off,rfl,hb,fun j u hu=>?_⟩;have:=h k x hk j u hu
 rwa [Addr.add_lit] at this
section
variable {H:Type} {enc:TypeId × Value→H} {P:Program} {w:World} {base:Nat} {spare:Nat→Bool} {ou:Bool}
theorem mx {α:Type} {E:Enc α} {ok:α→Prop} {t e:TypeId} {v:Value} {fuel:Nat} {x:DataW H × List MemPlace} (ht:P.underlying t=some (.slice e)) (hC:P.cellsOf e=E.size)
  (Ht:∀ n cs y,DataW.trod enc P w base spare ou n e cs=some y→∃ z,cs=E.cells z∧ok z) (h:DataW.trod enc P w base spare ou fuel t [v]=some x):
  ∃ A c l,v=.slice A l.length c∧l.length≤c∧c≤maxLen∧SlOf E w w.heap.size A l∧∀ y ∈ l,ok y:=by
 rcases Go.Deep.open_slice ht h with ⟨hv,_⟩ | ⟨a,len,cap,m,n,D,Pl,hv,hb,hl,hm,Ie,rfl,hx⟩
 ·simp at hv;subst hv;exact⟨none,0,[],rfl,by simp,by simp[maxLen],SlOf.nil,by simp⟩
 ·simp at hv;subst hv;have Tg:len≤m:=by rw[Ie];split <;> omega
  obtain⟨l,JA,hp⟩:=mN (fun i z=>(∀ j u,(E.cells z)[j]?=some u→w.cell? (a.add (i*E.size+j))=some u)∧ok z) len (fun i hi=>by
   obtain⟨cs,hc,JG⟩:=hx i (by omega);obtain⟨z,rfl,kJ⟩:=Ht _ _ _ JG;rw[hC] at hc;obtain⟨_,_,cJ⟩:=World.cells?_some hc;refine⟨z,fun j u hu=>?_,kJ⟩;have hj:j<E.size:=by rw[← E.len z];exact bQ hu
   have:=cJ j hj;rw[yP,hu] at this;exact this)
  refine⟨some a,cap,l,by rw[JA],by omega,hm,tE (fun k x hk=>(hp k x hk).1),fun y hy=>?_⟩;obtain⟨k,hk⟩:=List.getElem?_of_mem hy;exact(hp k y hk).2
theorem gW {q:IntKind} {t e:TypeId} {v:Value} {fuel:Nat} {x:DataW H × List MemPlace} (ht:P.underlying t=some (.slice e)) (he:P.underlying e=some (.int q)) (hC:P.cellsOf e=1)
  (h:DataW.trod enc P w base spare ou fuel t [v]=some x):
  ∃ A c l,v=.slice A l.length c∧l.length≤c∧c≤maxLen∧SlOf (bn q) w w.heap.size A l∧∀ y ∈ l,(Lit.int q y).wf=true:=
 mx (E:=bn q) ht hC (fun n cs y hy=>by
  obtain⟨z,rfl,_,hz⟩:=DataW.trod_int he hy;exact⟨z,rfl,hz⟩) h
end
set_option maxRecDepth 100000
structure CwOk (o:Ob) (A B:Option Addr) (gs:List PG) (l ks:List Int) (w:World):Prop where
 hin:ProcsIn w w.heap.size A gs
 ni:o.ni=l.length
 ini:Ws w w.heap.size o.I l
 ks:SlOf (bn .i64) w w.heap.size B ks
 s0:0≤o.st
 s1:o.st<4294967296
 tab:Tab64 w
 gt:(0:Nat)<w.heap.size
section
variable {o:Ob} {A B:Option Addr} {gs:List PG} {l ks:List Int} {w w':World}
theorem CwOk.below (h:CwOk o A B gs l ks w) (hb:Below w.heap.size w w'):CwOk o A B gs l ks w':=
 ⟨h.hin.below hb hb.size,h.ni,h.ini.below hb hb.size,h.ks.below hb hb.size,h.s0,h.s1,fun j hj=>(hb.cell (p:=⟨_,j,none⟩) h.gt).trans (h.tab j hj),Nat.lt_of_lt_of_le h.gt hb.size⟩
theorem CwOk.ok (h:CwOk o A B gs l ks w) (hl:lightW o gs ks.length):o.Ok:=⟨h.s0,h.s1,by have:=hl.1.1;omega,by have:=hl.1.2;omega⟩
theorem lightW.bd {kn:Nat} (hl:lightW o gs kn):gs.length≤1000∧(∀ g ∈ gs,g.ts.length≤1000)∧(∀ g ∈ gs,∀ t ∈ g.ts,t.r.length≤1000)∧kn≤1000:=
 ⟨by have:=hl.2.1;omega,fun g hg=>by have:=(hl.2.2.2 g hg).1;omega,fun g hg t ht=>by have:=(hl.2.2.2 g hg).2 t ht;omega,by have:=hl.2.2.1;omega⟩
end
section
variable {H:Type} {enc:TypeId × Value→H} {w:World} {base:Nat} {spare:Nat→Bool} {ou:Bool}
theorem oL {v:Value} {fuel:Nat} {x:DataW H × List MemPlace} (h:DataW.trod enc Tryz.prog w base spare ou fuel 23 [v]=some x):
  ∃ A c l,v=.slice A l.length c∧l.length≤c∧c≤maxLen∧Ws w w.heap.size A l:=by
 obtain⟨A,c,l,h1,h2,h3,h4,h5⟩:=gW (q:=.u32) Tryz.underlying23 Tryz.underlying22 (by kernel_rfl) h;exact⟨A,c,l,h1,h2,h3,h4,h5⟩
theorem rh {n:Nat} {cs:List Value} {y:DataW H × List MemPlace} (hy:DataW.trod enc Tryz.prog w base spare ou n 26 cs=some y):
  ∃ (o:Ob) (l:List Int),cs=(af o).toList∧0≤o.st∧o.st<4294967296∧o.ni=l.length∧Ws w w.heap.size o.I l:=by
 obtain⟨xs,m,_,_,hl,LR,hf⟩:=DataW.trod_struct Tryz.underlying26 hy;have Jy:cs.length=8:=hl.trans (by kernel_rfl);have c1:Tryz.prog.cellsOf 3=1:=by kernel_rfl
 have c2:Tryz.prog.cellsOf 22=1:=by kernel_rfl
 have c3:Tryz.prog.cellsOf 23=1:=by kernel_rfl
 have c4:Tryz.prog.cellsOf 24=1:=by kernel_rfl
 match cs,Jy,xs,LR with
 | [b0,b1,b2,b3,b4,b5,b6,b7],_,[y0,y1,y2,y3,y4,y5,y6,y7],_=>
  have g0:=hf 0 _ rfl;have g1:=hf 1 _ rfl;have g2:=hf 2 _ rfl;have g3:=hf 3 _ rfl;have g4:=hf 4 _ rfl;have g5:=hf 5 _ rfl;have g6:=hf 6 _ rfl;have g7:=hf 7 _ rfl;simp[c1,c2,c3,c4] at g0 g1 g2 g3 g4 g5 g6 g7;obtain⟨z0,e0,_,_⟩:=DataW.trod_int Tryz.underlying3 g0;obtain⟨z1,e1,_,_⟩:=DataW.trod_int Tryz.underlying3 g1;obtain⟨z2,e2,_,_⟩:=DataW.trod_int Tryz.underlying3 g2;obtain⟨z3,e3,_,_⟩:=DataW.trod_int Tryz.underlying3 g3;obtain⟨z4,e4,_,w4⟩:=DataW.trod_int Tryz.underlying22 g4;obtain⟨A5,k5,l5,e5,_,_,TF⟩:=oL g5;obtain⟨z6,e6,_,_⟩:=DataW.trod_int Tryz.underlying3 g6;obtain⟨A7,k7,l7,e7,_⟩:=gW (q:=.i64) Tryz.underlying24 Tryz.underlying3 (by kernel_rfl) g7;simp at e0 e1 e2 e3 e4 e6;subst e0 e1 e2 e3 e4 e5 e6 e7;simp[Lit.wf,IntKind.min,IntKind.max,IntKind.signed,IntKind.bits] at w4;exact⟨⟨z0,z1,z2,z3,z4,A5,l5.length,k5,z6,A7,l7.length,k7⟩,l5,rfl,w4.1,by show z4<_;omega,rfl,TF⟩
theorem xM {n:Nat} {cs:List Value} {y:DataW H × List MemPlace} (hy:DataW.trod enc Tryz.prog w base spare ou n 42 cs=some y):
  ∃ t:TV,cs=tvE.cells t∧Ws w w.heap.size t.A t.r:=by
 obtain⟨xs,m,_,_,hl,LR,hf⟩:=DataW.trod_struct Tryz.underlying42 hy;have Jy:cs.length=2:=hl.trans (by kernel_rfl);have c1:Tryz.prog.cellsOf 3=1:=by kernel_rfl
 have c3:Tryz.prog.cellsOf 23=1:=by kernel_rfl
 match cs,Jy,xs,LR with
 | [b0,b1],_,[y0,y1],_=>
  have g0:=hf 0 _ rfl;have g1:=hf 1 _ rfl;simp[c1,c3] at g0 g1;obtain⟨z0,e0,_,_⟩:=DataW.trod_int Tryz.underlying3 g0;obtain⟨A1,k1,l1,e1,_,_,w1⟩:=oL g1;simp at e0;subst e0 e1;exact⟨⟨z0,A1,k1,l1⟩,rfl,w1⟩
theorem uF {v:Value} {fuel:Nat} {x:DataW H × List MemPlace} (h:DataW.trod enc Tryz.prog w base spare ou fuel 40 [v]=some x):
  ∃ A c l,v=.slice A l.length c∧l.length≤c∧c≤maxLen∧SlOf tvE w w.heap.size A l∧∀ t ∈ l,Ws w w.heap.size t.A t.r:=
 mx (E:=tvE) (ok:=fun t=>Ws w w.heap.size t.A t.r) Tryz.underlying40 (by kernel_rfl) (fun n cs y hy=>xM hy) h
theorem uE {v:Value} {fuel:Nat} {x:DataW H × List MemPlace} (h:DataW.trod enc Tryz.prog w base spare ou fuel 27 [v]=some x):
  ∃ A c gs,v=.slice A gs.length c∧ProcsIn w w.heap.size A gs:=by
 obtain⟨A,c,gs,h1,h2,h3,h4,h5⟩:=mx (E:=Hs) (ok:=fun g=>SlOf tvE w w.heap.size g.A g.ts∧g.ts.length≤g.c∧∀ t ∈ g.ts,Ws w w.heap.size t.A t.r) Tryz.underlying27 (by kernel_rfl) (fun n cs y hy=>by
  have hv:∃ u,cs=[u]:=by
   rcases Go.Deep.open_slice Tryz.underlying40 hy with ⟨hv,_⟩ | ⟨a,len,cap,m,n,D,Pl,hv,_⟩
   ·exact⟨_,hv⟩
   ·exact⟨_,hv⟩
  obtain⟨u,rfl⟩:=hv;obtain⟨A,c,r,rfl,h1,h2,h3,h4⟩:=uF hy;exact⟨⟨A,c,r,none,0⟩,rfl,h3,h1,h4⟩) h
 exact⟨A,c,gs,h1,h4,fun g hg=>(h5 g hg).1,fun g hg=>(h5 g hg).2.1,fun g hg=>(h5 g hg).2.2⟩
theorem sU {v:Value} {d:DataW H} {p:List MemPlace} {r:_} {b:Nat} (hv:Value.okWide Tryz.prog w r b 29 v) (h:DataW.Trod enc Tryz.prog w base spare ou 29 v d p):
  ∃ (o:Ob) (A B:Option Addr) (cap kc:Nat) (gs:List PG) (l ks:List Int),v=.agg (iL o A cap gs B ks.length kc)∧0≤o.st∧o.st<4294967296∧o.ni=l.length∧Ws w w.heap.size o.I l∧ProcsIn w w.heap.size A gs∧SlOf (bn .i64) w w.heap.size B ks:=by
 obtain⟨cs,rfl,hc⟩:=okWide_struct Tryz.underlying29 hv;obtain⟨fuel,hy⟩:=h;obtain⟨xs,m,_,_,hl,LR,hf⟩:=DataW.trod_struct Tryz.underlying29 (show DataW.trod enc Tryz.prog w base spare ou fuel 29 cs.toList=_ from hy);have Jy:cs.toList.length=10:=hl.trans (by kernel_rfl);have c2:Tryz.prog.cellsOf 26=8:=by kernel_rfl
 have c3:Tryz.prog.cellsOf 27=1:=by kernel_rfl
 have c4:Tryz.prog.cellsOf 24=1:=by kernel_rfl
 obtain⟨csl⟩:=cs;simp only at Jy hf
 match csl,Jy,xs,LR with
 | [b0,b1,b2,b3,b4,b5,b6,b7,b8,b9],_,[y0,y1,y2],_=>
  have g0:=hf 0 _ rfl;have g1:=hf 1 _ rfl;have g2:=hf 2 _ rfl;simp[c2,c3,c4] at g0 g1 g2;obtain⟨o,l,e0,s0,s1,hn,hw⟩:=rh g0;obtain⟨A1,k1,gs,e1,hp⟩:=uE g1;obtain⟨A2,k2,ks,e2,_,_,hk,_⟩:=gW (q:=.i64) Tryz.underlying24 Tryz.underlying3 (by kernel_rfl) g2;simp[af] at e0;obtain⟨q0,q1,q2,q3,q4,q5,q6,q7⟩:=e0;subst q0 q1 q2 q3 q4 q5 q6 q7 e1 e2;exact⟨o,A1,A2,k1,k2,gs,l,ks,rfl,s0,s1,hn,hw,hp,hk⟩
end
theorem lC {P:Program} {W:World} {name:String} {k:IntKind} {zs:List Int} {g:Nat} {t e:TypeId} {n:Nat}
  (hg:P.globalNamed name=some g) (RF:(P.globals[g]?).map (·.type)=some t) (ht:P.underlying t=some (.array n e)) (he:P.underlying e=some (.int k)) (Q1:P.cellsOf e=1) (oh:P.cellsOf t=n):
  ∀ (laid:List (String × DataW Unit)) (ps:List MemPlace),(name,Lib.tabData k zs) ∈ laid→DataW.LaidVars P W laid ps→Lib.TabIs P W name k zs
 | [],_,hm,_=>by simp at hm
 | x::rest,ps,hm,h=>by
  obtain⟨g',t',cs,fuel,p,q,N6,JG,O0,hd,Lw,_⟩:=h
  rcases List.mem_cons.1 hm with rfl | hm
  ·obtain rfl:=Option.some.inj (hg.symm.trans N6);obtain rfl:=Option.some.inj (RF.symm.trans JG);unfold Lib.TabIs;rw[O0,← Lib.cells_of_tab ht he Q1 oh hd]
  ·exact lC hg RF ht he Q1 oh rest q hm Lw
theorem sN:(Rows.laid_math_bits_deBruijn64tab:DataW Unit)=Lib.tabData .u8 (Lib.deBruijn64tab.map Int.ofNat):=by kernel_rfl
theorem BD {W:World} {laid:List (String × DataW Unit)} (h:("math/bits.deBruijn64tab",(Rows.laid_math_bits_deBruijn64tab:DataW Unit)) ∈ laid∧laidMet Tryz.prog laid W):Tab64 W∧(0:Nat)<W.heap.size:=by
 obtain⟨hm,ps,lK,_⟩:=h;rw[sN] at hm;have ht:=lC (g:=0) (t:=255) (e:=5) (n:=64) (by kernel_rfl) (by kernel_rfl) Tryz.underlying255 Tryz.underlying5 (by kernel_rfl) (by kernel_rfl) laid ps hm lK
 have Qs:Tab64 W:=fun j hj=>by
  have:=ht.cell (g:=0) (by kernel_rfl) j (by rw[List.length_map];exact hj)
  simpa [List.getD,hj] using this
 exact⟨Qs,aM (Qs 0 (by decide))⟩
end Go.Proofs.YtabfcjohdgjkoaaGreatDoor
