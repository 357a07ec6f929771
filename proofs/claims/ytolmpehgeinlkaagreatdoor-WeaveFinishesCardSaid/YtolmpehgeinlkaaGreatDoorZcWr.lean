/- The statement WeaveFinishes, walked. -/
import Derived.ProofKit
import Derived.OpenShut
import Derived.ShutString
import Derived.Deep.Slices
import Derived.Test.YtolmpehgeinlkaaGreatDoorZcWl
namespace Go.Proofs.YtolmpehgeinlkaaGreatDoor
open Go.RowKit Go.ChangeShapes Go.WideShapes Go.ChangeAt
theorem kU {α:Type} (p:Nat→α→Prop):∀ n:Nat,(∀ i,i<n→∃ x,p i x)→∃ l:List α,l.length=n∧∀ k x,l[k]?=some x→p k x
 | 0,_=>⟨[],rfl,fun k x h=>by simp at h⟩
 | n+1,h=>by
  obtain⟨l,hl,hp⟩:=kU p n (fun i hi=>h i (by omega));obtain⟨x,hx⟩:=h n (by omega);refine⟨l++[x],by simp[hl],fun k y hk=>?_⟩
  by_cases wE:k<n
  ·rw[List.getElem?_append_left (by omega)] at hk;exact hp k y hk
  ·rw[List.getElem?_append_right (by omega),hl] at hk
   have:k - n=0:=by
    have:=ef hk;simp at this;omega
   have Iv:k=n:=by omega
   subst Iv;simp at hk;subst hk;exact hx
theorem qB {α:Type} {E:Enc α} {w:World} {a:Addr} {l:List α} (h:∀ k x,l[k]?=some x→∀ j u,(E.cells x)[j]?=some u→w.cell? (a.add (k*E.size+j))=some u):
  SlOf E w w.heap.size (some a) l:=by
 intro k x hk;have h0:∃ y,l[0]?=some y:=eF (by have:=ef hk;omega);obtain⟨y,hy⟩:=h0;have hs:0<(E.cells y).length:=by rw[E.len];exact E.pos
 obtain⟨u,hu⟩:=eF hs;have hc:=h 0 y hy 0 u hu;have e0:0*E.size+0=0:=by simp
 rw[e0] at hc;have Lr:=World.cell?_spot hc;have hb:=aX hc;rw[nY] at hb;obtain⟨b,off,spot⟩:=a;have:spot=none:=by simpa [Addr.add] using Lr
 subst this;refine⟨b,off,rfl,hb,fun j u hu=>?_⟩;have:=h k x hk j u hu
 rwa [Addr.add_lit] at this
section
variable {H:Type} {enc:TypeId × Value→H} {P:Program} {w:World} {base:Nat} {spare:Nat→Bool} {lT:Bool}
theorem kz {α:Type} {E:Enc α} {ok:α→Prop} {t e:TypeId} {v:Value} {fuel:Nat} {x:DataW H × List MemPlace} (ht:P.underlying t=some (.slice e)) (hC:P.cellsOf e=E.size)
  (xi:∀ n cs y,DataW.trod enc P w base spare lT n e cs=some y→∃ z,cs=E.cells z∧ok z) (h:DataW.trod enc P w base spare lT fuel t [v]=some x):
  ∃ A c l,v=.slice A l.length c∧l.length≤c∧c≤maxLen∧SlOf E w w.heap.size A l∧∀ y ∈ l,ok y:=by
 rcases Go.Deep.open_slice ht h with ⟨hv,_⟩ | ⟨a,len,cap,m,n,D,Pl,hv,hb,hl,hm,Ie,rfl,hx⟩
 ·simp at hv;subst hv;exact⟨none,0,[],rfl,by simp,by simp[maxLen],SlOf.nil,by simp⟩
 ·simp at hv;subst hv;have IS:len≤m:=by rw[Ie];split <;> omega
  obtain⟨l,DL,hp⟩:=kU (fun i z=>(∀ j u,(E.cells z)[j]?=some u→w.cell? (a.add (i*E.size+j))=some u)∧ok z) len (fun i hi=>by
   obtain⟨cs,hc,IK⟩:=hx i (by omega);obtain⟨z,rfl,kQ⟩:=xi _ _ _ IK;rw[hC] at hc;obtain⟨_,_,ba⟩:=World.cells?_some hc;refine⟨z,fun j u hu=>?_,kQ⟩;have hj:j<E.size:=by rw[← E.len z];exact ef hu
   have:=ba j hj;rw[yR,hu] at this;exact this)
  refine⟨some a,cap,l,by rw[DL],by omega,hm,qB (fun k x hk=>(hp k x hk).1),fun y hy=>?_⟩;obtain⟨k,hk⟩:=List.getElem?_of_mem hy;exact(hp k y hk).2
theorem gh {q:IntKind} {t e:TypeId} {v:Value} {fuel:Nat} {x:DataW H × List MemPlace} (ht:P.underlying t=some (.slice e)) (he:P.underlying e=some (.int q)) (hC:P.cellsOf e=1)
  (h:DataW.trod enc P w base spare lT fuel t [v]=some x):
  ∃ A c l,v=.slice A l.length c∧l.length≤c∧c≤maxLen∧SlOf (bB q) w w.heap.size A l∧∀ y ∈ l,(Lit.int q y).wf=true:=
 kz (E:=bB q) ht hC (fun n cs y hy=>by
  obtain⟨z,rfl,_,hz⟩:=DataW.trod_int he hy;exact⟨z,rfl,hz⟩) h
end
open Go.RowKit
attribute [local go_sem] Oper.semAt_some
theorem Lm.GoodTo.rl {o:Ob} {L0:Lm} {ks:List Int} (h:Lm.GoodTo o L0 ks ks.length):∀ x ∈ (Lm.run (cK o) Kc.step L0 ks).calls,x.r.length≤1000:=by
 have h1:=(h ks.length (Nat.le_refl _)).1.rl;rw[List.take_length] at h1;exact h1
theorem Lm.GoodTo.cl {o:Ob} {L0:Lm} {ks:List Int} (h:Lm.GoodTo o L0 ks ks.length):(Lm.run (cK o) Kc.step L0 ks).calls.length≤ks.length:=by
 have h1:=(h ks.length (Nat.le_refl _)).1.cn;rw[List.take_length] at h1;exact h1
structure CwOk (o:Ob) (A B:Option Addr) (gs:List PG) (l ks:List Int) (w:World):Prop where
 hin:ProcsIn w w.heap.size A gs
 ni:o.ni=l.length
 ini:Ws w w.heap.size o.I l
 ks:SlOf (bB .i64) w w.heap.size B ks
 s0:0≤o.st
 s1:o.st<4294967296
 tab:Tab64 w
 gt:(0:Nat)<w.heap.size
section
variable {o:Ob} {A B:Option Addr} {gs:List PG} {l ks:List Int} {w w':World}
theorem CwOk.below (h:CwOk o A B gs l ks w) (hb:Below w.heap.size w w'):CwOk o A B gs l ks w':=
 ⟨h.hin.below hb hb.size,h.ni,h.ini.below hb hb.size,h.ks.below hb hb.size,h.s0,h.s1,fun j hj=>(hb.cell (p:=⟨_,j,none⟩) h.gt).trans (h.tab j hj),Nat.lt_of_lt_of_le h.gt hb.size⟩
theorem CwOk.ok (h:CwOk o A B gs l ks w) (hl:lightW o gs ks.length):o.Ok:=⟨h.s0,h.s1,by have:=hl.1.1;omega,by have:=hl.1.2;omega⟩
theorem lightW.bd {kn:Nat} (hl:lightW o gs kn):gs.length≤1000∧(∀ g ∈ gs,g.ts.length≤1000)∧(∀ g ∈ gs,∀ t ∈ g.ts,t.r.length≤1000)∧kn≤1000:=
 ⟨by have:=hl.2.1;omega,fun g hg=>by have:=(hl.2.2.2 g hg).1;omega,fun g hg t ht=>by have:=(hl.2.2.2 g hg).2 t ht;omega,by have:=hl.2.2.1;omega⟩
end
set_option maxRecDepth 100000
section
variable {H:Type} {enc:TypeId × Value→H} {w:World} {base:Nat} {spare:Nat→Bool} {lT:Bool}
theorem mq {v:Value} {fuel:Nat} {x:DataW H × List MemPlace} (h:DataW.trod enc Tryz.prog w base spare lT fuel 23 [v]=some x):
  ∃ A c l,v=.slice A l.length c∧l.length≤c∧c≤maxLen∧Ws w w.heap.size A l:=by
 obtain⟨A,c,l,h1,h2,h3,h4,h5⟩:=gh (q:=.u32) Tryz.underlying23 Tryz.underlying22 (by kernel_rfl) h;exact⟨A,c,l,h1,h2,h3,h4,h5⟩
theorem oK {n:Nat} {cs:List Value} {y:DataW H × List MemPlace} (hy:DataW.trod enc Tryz.prog w base spare lT n 26 cs=some y):
  ∃ (o:Ob) (l:List Int),cs=(af o).toList∧0≤o.st∧o.st<4294967296∧o.ni=l.length∧Ws w w.heap.size o.I l:=by
 obtain⟨xs,m,_,_,hl,Aa,hf⟩:=DataW.trod_struct Tryz.underlying26 hy;have E7:cs.length=8:=hl.trans (by kernel_rfl);have c1:Tryz.prog.cellsOf 3=1:=by kernel_rfl
 have c2:Tryz.prog.cellsOf 22=1:=by kernel_rfl
 have c3:Tryz.prog.cellsOf 23=1:=by kernel_rfl
 have c4:Tryz.prog.cellsOf 24=1:=by kernel_rfl
 match cs,E7,xs,Aa with
 | [b0,b1,b2,b3,b4,b5,b6,b7],_,[y0,y1,y2,y3,y4,y5,y6,y7],_=>
  have g0:=hf 0 _ rfl;have g1:=hf 1 _ rfl;have g2:=hf 2 _ rfl;have g3:=hf 3 _ rfl;have g4:=hf 4 _ rfl;have g5:=hf 5 _ rfl;have g6:=hf 6 _ rfl;have g7:=hf 7 _ rfl;simp[c1,c2,c3,c4] at g0 g1 g2 g3 g4 g5 g6 g7;obtain⟨z0,e0,_,_⟩:=DataW.trod_int Tryz.underlying3 g0;obtain⟨z1,e1,_,_⟩:=DataW.trod_int Tryz.underlying3 g1;obtain⟨z2,e2,_,_⟩:=DataW.trod_int Tryz.underlying3 g2;obtain⟨z3,e3,_,_⟩:=DataW.trod_int Tryz.underlying3 g3;obtain⟨z4,e4,_,w4⟩:=DataW.trod_int Tryz.underlying22 g4;obtain⟨A5,k5,l5,e5,_,_,MR⟩:=mq g5;obtain⟨z6,e6,_,_⟩:=DataW.trod_int Tryz.underlying3 g6;obtain⟨A7,k7,l7,e7,_⟩:=gh (q:=.i64) Tryz.underlying24 Tryz.underlying3 (by kernel_rfl) g7;simp at e0 e1 e2 e3 e4 e6;subst e0 e1 e2 e3 e4 e5 e6 e7;simp[Lit.wf,IntKind.min,IntKind.max,IntKind.signed,IntKind.bits] at w4;exact⟨⟨z0,z1,z2,z3,z4,A5,l5.length,k5,z6,A7,l7.length,k7⟩,l5,rfl,w4.1,by show z4<_;omega,rfl,MR⟩
theorem uY {n:Nat} {cs:List Value} {y:DataW H × List MemPlace} (hy:DataW.trod enc Tryz.prog w base spare lT n 45 cs=some y):
  ∃ t:TV,cs=tvE.cells t∧Ws w w.heap.size t.A t.r:=by
 obtain⟨xs,m,_,_,hl,Aa,hf⟩:=DataW.trod_struct Tryz.underlying45 hy;have E7:cs.length=2:=hl.trans (by kernel_rfl);have c1:Tryz.prog.cellsOf 3=1:=by kernel_rfl
 have c3:Tryz.prog.cellsOf 23=1:=by kernel_rfl
 match cs,E7,xs,Aa with
 | [b0,b1],_,[y0,y1],_=>
  have g0:=hf 0 _ rfl;have g1:=hf 1 _ rfl;simp[c1,c3] at g0 g1;obtain⟨z0,e0,_,_⟩:=DataW.trod_int Tryz.underlying3 g0;obtain⟨A1,k1,l1,e1,_,_,w1⟩:=mq g1;simp at e0;subst e0 e1;exact⟨⟨z0,A1,k1,l1⟩,rfl,w1⟩
theorem tO {v:Value} {fuel:Nat} {x:DataW H × List MemPlace} (h:DataW.trod enc Tryz.prog w base spare lT fuel 43 [v]=some x):
  ∃ A c l,v=.slice A l.length c∧l.length≤c∧c≤maxLen∧SlOf tvE w w.heap.size A l∧∀ t ∈ l,Ws w w.heap.size t.A t.r:=
 kz (E:=tvE) (ok:=fun t=>Ws w w.heap.size t.A t.r) Tryz.underlying43 (by kernel_rfl) (fun n cs y hy=>uY hy) h
theorem sI {v:Value} {fuel:Nat} {x:DataW H × List MemPlace} (h:DataW.trod enc Tryz.prog w base spare lT fuel 27 [v]=some x):
  ∃ A c gs,v=.slice A gs.length c∧ProcsIn w w.heap.size A gs:=by
 obtain⟨A,c,gs,h1,h2,h3,h4,h5⟩:=kz (E:=tP) (ok:=fun g=>SlOf tvE w w.heap.size g.A g.ts∧g.ts.length≤g.c∧∀ t ∈ g.ts,Ws w w.heap.size t.A t.r) Tryz.underlying27 (by kernel_rfl) (fun n cs y hy=>by
  have hv:∃ u,cs=[u]:=by
   rcases Go.Deep.open_slice Tryz.underlying43 hy with ⟨hv,_⟩ | ⟨a,len,cap,m,n,D,Pl,hv,_⟩
   ·exact⟨_,hv⟩
   ·exact⟨_,hv⟩
  obtain⟨u,rfl⟩:=hv;obtain⟨A,c,r,rfl,h1,h2,h3,h4⟩:=tO hy;exact⟨⟨A,c,r,none,0⟩,rfl,h3,h1,h4⟩) h
 exact⟨A,c,gs,h1,h4,fun g hg=>(h5 g hg).1,fun g hg=>(h5 g hg).2.1,fun g hg=>(h5 g hg).2.2⟩
theorem rk {v:Value} {d:DataW H} {p:List MemPlace} {r:Reach} {b:Nat} (hv:Value.okWide Tryz.prog w r b 29 v) (h:DataW.Trod enc Tryz.prog w base spare lT 29 v d p):
  ∃ (o:Ob) (A B:Option Addr) (cap kc:Nat) (gs:List PG) (l ks:List Int),v=.agg (gY o A cap gs B ks.length kc)∧0≤o.st∧o.st<4294967296∧o.ni=l.length∧Ws w w.heap.size o.I l∧ProcsIn w w.heap.size A gs∧SlOf (bB .i64) w w.heap.size B ks:=by
 obtain⟨cs,rfl,hc⟩:=okWide_struct Tryz.underlying29 hv;obtain⟨fuel,hy⟩:=h;obtain⟨xs,m,_,_,hl,Aa,hf⟩:=DataW.trod_struct Tryz.underlying29 (show DataW.trod enc Tryz.prog w base spare lT fuel 29 cs.toList=_ from hy);have E7:cs.toList.length=10:=hl.trans (by kernel_rfl);have c2:Tryz.prog.cellsOf 26=8:=by kernel_rfl
 have c3:Tryz.prog.cellsOf 27=1:=by kernel_rfl
 have c4:Tryz.prog.cellsOf 24=1:=by kernel_rfl
 obtain⟨csl⟩:=cs;simp only at E7 hf
 match csl,E7,xs,Aa with
 | [b0,b1,b2,b3,b4,b5,b6,b7,b8,b9],_,[y0,y1,y2],_=>
  have g0:=hf 0 _ rfl;have g1:=hf 1 _ rfl;have g2:=hf 2 _ rfl;simp[c2,c3,c4] at g0 g1 g2;obtain⟨o,l,e0,s0,s1,hn,hw⟩:=oK g0;obtain⟨A1,k1,gs,e1,hp⟩:=sI g1;obtain⟨A2,k2,ks,e2,_,_,hk,_⟩:=gh (q:=.i64) Tryz.underlying24 Tryz.underlying3 (by kernel_rfl) g2;simp[af] at e0;obtain⟨q0,q1,q2,q3,q4,q5,q6,q7⟩:=e0;subst q0 q1 q2 q3 q4 q5 q6 q7 e1 e2;exact⟨o,A1,A2,k1,k2,gs,l,ks,rfl,s0,s1,hn,hw,hp,hk⟩
end
theorem j3 {P:Program} {W:World} {name:String} {k:IntKind} {zs:List Int} {g:Nat} {t e:TypeId} {n:Nat}
  (hg:P.globalNamed name=some g) (K1:(P.globals[g]?).map (·.type)=some t) (ht:P.underlying t=some (.array n e)) (he:P.underlying e=some (.int k)) (Hn:P.cellsOf e=1) (p8:P.cellsOf t=n):
  ∀ (laid:List (String × DataW Unit)) (ps:List MemPlace),(name,Lib.tabData k zs) ∈ laid→DataW.LaidVars P W laid ps→Lib.TabIs P W name k zs
 | [],_,hm,_=>by simp at hm
 | x::rest,ps,hm,h=>by
  obtain⟨g',t',cs,fuel,p,q,Hr,IK,Jn,hd,FZ,_⟩:=h
  rcases List.mem_cons.1 hm with rfl | hm
  ·obtain rfl:=Option.some.inj (hg.symm.trans Hr);obtain rfl:=Option.some.inj (K1.symm.trans IK);unfold Lib.TabIs;rw[Jn,← Lib.cells_of_tab ht he Hn p8 hd]
  ·exact j3 hg K1 ht he Hn p8 rest q hm FZ
theorem rM:(Rows.laid_math_bits_deBruijn64tab:DataW Unit)=Lib.tabData .u8 (Lib.deBruijn64tab.map Int.ofNat):=by kernel_rfl
theorem ya {W:World} {laid:List (String × DataW Unit)} (h:("math/bits.deBruijn64tab",(Rows.laid_math_bits_deBruijn64tab:DataW Unit)) ∈ laid∧laidMet Tryz.prog laid W):Tab64 W∧(0:Nat)<W.heap.size:=by
 obtain⟨hm,ps,oL,_⟩:=h;rw[rM] at hm;have ht:=j3 (g:=0) (t:=170) (e:=5) (n:=64) (by kernel_rfl) (by kernel_rfl) Tryz.underlying170 Tryz.underlying5 (by kernel_rfl) (by kernel_rfl) laid ps hm oL
 have J4:Tab64 W:=fun j hj=>by
  have:=ht.cell (g:=0) (by kernel_rfl) j (by rw[List.length_map];exact hj)
  simpa [List.getD,hj] using this
 exact⟨J4,aX (J4 0 (by decide))⟩
open Go.Lib (hid)
set_option maxHeartbeats 4000000
set_option maxRecDepth 100000
def qL (gs:List PG) (i:Nat):Nat:=((gs.take i).map fun g=>g.ts.length).sum
theorem vZ {gs:List PG} {i:Nat} {g:PG} (h:gs[i]?=some g):qL gs (i+1)=qL gs i+g.ts.length:=my (fun g:PG=>g.ts.length) h
theorem zz {gs:List PG}:qL gs gs.length=gQ (cg gs):=by
 unfold qL gQ cg;rw[List.take_length,List.map_map]
 congr 1
 apply List.map_congr_left;intro g _;show _=(g.ts.map TV.td).length;rw[List.length_map]
theorem AU {gs:List PG} (h2:∀ g ∈ gs,g.ts.length≤20) {i:Nat} (hi:i≤20):qL gs i≤400:=by
 have:=il (fun g:PG=>g.ts.length) 20 (gs.take i) (fun g hg=>h2 g (List.mem_of_mem_take hg));rw[List.length_take] at this;unfold qL;omega
theorem su (o:Ob) (A B:Option Addr) (cap kc:Nat) (gs:List PG) (l ks:List Int) (w:World) (h:CwOk o A B gs l ks w) (hl:¬ lightW o gs ks.length):Calls Tryz.prog 5 #[.agg (gY o A cap gs B ks.length kc)] w fun e w'=>e=.returned (.bool true)∧Below w.heap.size w w':=by
 have CP:=decide_eq_false hl;have zq:=hid fun W (h:CwOk o A B gs l ks W)=>l8 o A B cap ks.length kc gs W h.hin
 rw[CP] at zq;unfold gY at zq;have Ge:=hid fun W (h:CwOk o A B gs l ks W)=>tI W h.tab h.gt
 clear CP hl;have hn:=RowB.new w (gY o A cap gs B ks.length kc) 29;have hB:=bt w (.cells (gY o A cap gs B ks.length kc) 29);obtain⟨n,aq⟩:∃ n,w.heap.size=n:=⟨_,rfl⟩;rw[aq] at hn hB;have dF:=hid hn;have bT:=hid hB;have ij:=hid aq;have HC:=hid h;clear hn hB h;rw[aq];unfold gY at dF bT ⊢;go_enter Tryz.func5,Tryz.ntmps5;go_wp2_with fail;generalize (w.alloc (.cells #[.int .i64 o.k,.int .i64 o.wd,.int .i64 o.s,.int .i64 o.c,.int .u32 o.st,.slice o.I o.ni o.ci,.int .i64 o.wr,.slice o.R o.nr o.cr,.slice A gs.length cap,.slice B ks.length kc] 29))=w1 at dF bT ⊢;clear aq;have hc:=dF.out.c10;obtain⟨c0,c1,c2,c3,c4,c5,c6,c7,c8,c9⟩:=hc;go_wp2_with fail;refine(zq.out _ (HC.out.below (by rw[ij.out];exact bT.out))).mono ?_;rintro e w2 ⟨rfl,hb⟩;clear c0 c1 c2 c3 c4 c5 c6 c7 c8 c9;have eg:=hid (dF.out.kept hb);have cw:=hid (bT.out.trans (hb.mono (by have:=dF.out.lt;omega)));clear hb;have hc:=eg.out.c10;obtain⟨c0,c1,c2,c3,c4,c5,c6,c7,c8,c9⟩:=hc;go_wp2_with fail;refine(Ge.out _ (HC.out.below (by rw[ij.out];exact cw.out))).mono ?_;rintro e w3 ⟨rfl,hb⟩;clear c0 c1 c2 c3 c4 c5 c6 c7 c8 c9;have iJ:=hid (eg.out.kept hb);have ic:=hid (cw.out.trans (hb.mono (by have:=eg.out.lt;omega)));clear hb;have hc:=iJ.out.c10;obtain⟨c0,c1,c2,c3,c4,c5,c6,c7,c8,c9⟩:=hc;go_wp2_with fail;go_ret;exact⟨rfl,ic.out⟩
theorem tV (o:Ob) (A B:Option Addr) (cap kc:Nat) (gs:List PG) (l ks:List Int) (w:World) (h:CwOk o A B gs l ks w) (hl:lightW o gs ks.length) (hf:cy o (cg gs)≠0):Calls Tryz.prog 5 #[.agg (gY o A cap gs B ks.length kc)] w fun e w'=>e=.returned (.bool true)∧Below w.heap.size w w':=by
 have CP:=decide_eq_true hl;have zq:=hid fun W (h:CwOk o A B gs l ks W)=>l8 o A B cap ks.length kc gs W h.hin
 rw[CP] at zq;unfold gY at zq;have Ge:=hid fun W (h:CwOk o A B gs l ks W)=>tI W h.tab h.gt
 have ho:=h.ok hl;obtain⟨b1,b2,b3,b4⟩:=hl.bd;have EO:=hid fun W (h:CwOk o A B gs l ks W)=>qq o ho A cap gs W h.hin b1 b2 b3
 have Fn:=hid fun W (h:CwOk o A B gs l ks W)=>E4 o ho A B cap ks.length kc gs W h.hin b1 b2 b3 hf
 have Bl:=hid fun W (h:CwOk o A B gs l ks W)=>xM o ho A cap gs W h.hin b1 b2 b3 hf
 obtain⟨fv,uG⟩:∃ x,cy o (cg gs)=x:=⟨_,rfl⟩;rw[uG] at EO Fn hf;have d0:(fv != 0)=true:=by simpa using hf
 have d1:(fv==fv)=true:=by simp
 unfold af at EO Fn Bl;clear CP hl ho b1 b2 b3 b4 hf uG;have hn:=RowB.new w (gY o A cap gs B ks.length kc) 29;have hB:=bt w (.cells (gY o A cap gs B ks.length kc) 29);obtain⟨n,aq⟩:∃ n,w.heap.size=n:=⟨_,rfl⟩;rw[aq] at hn hB;have dF:=hid hn;have bT:=hid hB;have ij:=hid aq;have HC:=hid h;clear hn hB h;rw[aq];unfold gY at dF bT ⊢;go_enter Tryz.func5,Tryz.ntmps5;go_wp2_with fail;generalize (w.alloc (.cells #[.int .i64 o.k,.int .i64 o.wd,.int .i64 o.s,.int .i64 o.c,.int .u32 o.st,.slice o.I o.ni o.ci,.int .i64 o.wr,.slice o.R o.nr o.cr,.slice A gs.length cap,.slice B ks.length kc] 29))=w1 at dF bT ⊢;clear aq;have hc:=dF.out.c10;obtain⟨c0,c1,c2,c3,c4,c5,c6,c7,c8,c9⟩:=hc;go_wp2_with fail;refine(zq.out _ (HC.out.below (by rw[ij.out];exact bT.out))).mono ?_;rintro e w2 ⟨rfl,hb⟩;clear c0 c1 c2 c3 c4 c5 c6 c7 c8 c9;have eg:=hid (dF.out.kept hb);have cw:=hid (bT.out.trans (hb.mono (by have:=dF.out.lt;omega)));clear hb;have hc:=eg.out.c10;obtain⟨c0,c1,c2,c3,c4,c5,c6,c7,c8,c9⟩:=hc;go_wp2_with fail;refine(Fn.out _ (HC.out.below (by rw[ij.out];exact cw.out))).mono ?_;rintro e w3 ⟨rfl,hb⟩;clear c0 c1 c2 c3 c4 c5 c6 c7 c8 c9;have iJ:=hid (eg.out.kept hb);have ic:=hid (cw.out.trans (hb.mono (by have:=eg.out.lt;omega)));clear hb;have hc:=iJ.out.c10;obtain⟨c0,c1,c2,c3,c4,c5,c6,c7,c8,c9⟩:=hc;go_wp2_with fail;refine(Bl.out _ (HC.out.below (by rw[ij.out];exact ic.out))).mono ?_;rintro e w4 ⟨rfl,hb⟩;clear c0 c1 c2 c3 c4 c5 c6 c7 c8 c9;have pE:=hid (iJ.out.kept hb);have zd:=hid (ic.out.trans (hb.mono (by have:=iJ.out.lt;omega)));clear hb;have hc:=pE.out.c10;obtain⟨c0,c1,c2,c3,c4,c5,c6,c7,c8,c9⟩:=hc;go_wp2_with fail;refine(EO.out _ (HC.out.below (by rw[ij.out];exact zd.out))).mono ?_;rintro e w5 ⟨rfl,hb⟩;clear c0 c1 c2 c3 c4 c5 c6 c7 c8 c9;have kR:=hid (pE.out.kept hb);have ka:=hid (zd.out.trans (hb.mono (by have:=pE.out.lt;omega)));clear hb;have hc:=kR.out.c10;obtain⟨c0,c1,c2,c3,c4,c5,c6,c7,c8,c9⟩:=hc;go_wp2_with fail;refine(Ge.out _ (HC.out.below (by rw[ij.out];exact ka.out))).mono ?_;rintro e w6 ⟨rfl,hb⟩;clear c0 c1 c2 c3 c4 c5 c6 c7 c8 c9;have lI:=hid (kR.out.kept hb);have Hb:=hid (ka.out.trans (hb.mono (by have:=kR.out.lt;omega)));clear hb;have hc:=lI.out.c10;obtain⟨c0,c1,c2,c3,c4,c5,c6,c7,c8,c9⟩:=hc;go_wp2_with fail;go_ret;exact⟨rfl,Hb.out⟩
theorem tM (o:Ob) (A B:Option Addr) (cap kc:Nat) (gs:List PG) (l ks:List Int) (w:World) (h:CwOk o A B gs l ks w) (hl:lightW o gs ks.length) (hf:cy o (cg gs)=0):Calls Tryz.prog 5 #[.agg (gY o A cap gs B ks.length kc)] w fun e w'=>e=.returned (.bool true)∧Below w.heap.size w w':=by
 have CP:=decide_eq_true hl;have zq:=hid fun W (h:CwOk o A B gs l ks W)=>l8 o A B cap ks.length kc gs W h.hin
 rw[CP] at zq;unfold gY at zq;have Ge:=hid fun W (h:CwOk o A B gs l ks W)=>tI W h.tab h.gt
 have ho:=h.ok hl;obtain⟨b1,b2,b3,b4⟩:=hl.bd;have EO:=hid fun W (h:CwOk o A B gs l ks W)=>qq o ho A cap gs W h.hin b1 b2 b3
 have hR:=(eQ hf).1;have yd:=hl.2.1;have zP:∀ g ∈ gs,g.ts.length≤20:=fun g hg=>(hl.2.2.2 g hg).1
 have xn:gQ (cg gs)≤1000:=Nat.le_trans (Ci yd zP) (by omega);have iR:dW o (cg gs)≤1000000:=Nat.le_trans (Bc hR yd zP) (by omega);have Fn:=hid fun W (h:CwOk o A B gs l ks W)=>Ep o ho A B cap kc gs l ks W h.hin b1 b2 b3 hf h.ni h.ini h.ks b4 h.tab h.gt xn iR
 have Bl:=hid fun W (h:CwOk o A B gs l ks W)=>xL o ho A cap gs W h.hin yd zP b3 hf
 have Id:=hid fun W (h:CwOk o A B gs l ks W)=>EV o ho A B cap kc gs l ks W h.hin b1 b2 b3 hf h.ni h.ini h.ks b4 xn iR
 rw[hf] at EO;have Ct:=hid fun op W=>yo o ho op W
 have eJ:=hid fun (k:Nat) (g:PG) (t:TV) (hg:gs[k]?=some g) (ht:t ∈ g.ts)=>xC (k:=k) (iU hf (dw hg) (List.mem_map_of_mem (f:=TV.td) ht))
 have AN:=hid (And.intro hR (And.intro yd (And.intro zP (And.intro xn iR))));have K0:=hid b4;unfold af at EO Fn Bl Id Ct;clear CP hl ho b1 b2 b3 b4 hf hR yd zP xn iR;have hn:=RowB.new w (gY o A cap gs B ks.length kc) 29;have hB:=bt w (.cells (gY o A cap gs B ks.length kc) 29);obtain⟨n,aq⟩:∃ n,w.heap.size=n:=⟨_,rfl⟩;rw[aq] at hn hB;have dF:=hid hn;have bT:=hid hB;have ij:=hid aq;have HC:=hid h;clear hn hB h;rw[aq];unfold gY at dF bT ⊢;go_enter Tryz.func5,Tryz.ntmps5;go_wp2_with fail;generalize (w.alloc (.cells #[.int .i64 o.k,.int .i64 o.wd,.int .i64 o.s,.int .i64 o.c,.int .u32 o.st,.slice o.I o.ni o.ci,.int .i64 o.wr,.slice o.R o.nr o.cr,.slice A gs.length cap,.slice B ks.length kc] 29))=w1 at dF bT ⊢;clear aq;have hc:=dF.out.c10;obtain⟨c0,c1,c2,c3,c4,c5,c6,c7,c8,c9⟩:=hc;go_wp2_with fail;refine(zq.out _ (HC.out.below (by rw[ij.out];exact bT.out))).mono ?_;rintro e w2 ⟨rfl,hb⟩;clear c0 c1 c2 c3 c4 c5 c6 c7 c8 c9;have eg:=hid (dF.out.kept hb);have cw:=hid (bT.out.trans (hb.mono (by have:=dF.out.lt;omega)));clear hb;have hc:=eg.out.c10;obtain⟨c0,c1,c2,c3,c4,c5,c6,c7,c8,c9⟩:=hc;go_wp2_with fail;refine(Fn.out _ (HC.out.below (by rw[ij.out];exact cw.out))).mono ?_;rintro e w3 ⟨A3,c3x,es,rfl,jq,sD,mu,hx,bH,gF,hb⟩;clear c0 c1 c2 c3 c4 c5 c6 c7 c8 c9;have iJ:=hid (eg.out.kept hb);have ic:=hid (cw.out.trans (hb.mono (by have:=eg.out.lt;omega)));have zM:=hid (And.intro jq (And.intro sD mu));have HX:=hid hx;have aS:=hid (And.intro bH gF);clear jq sD mu hx bH gF;clear hb;have hc:=iJ.out.c10;obtain⟨c0,c1,c2,c3,c4,c5,c6,c7,c8,c9⟩:=hc;go_wp2_with fail;refine(Bl.out _ (HC.out.below (by rw[ij.out];exact ic.out))).mono ?_;rintro e w4 ⟨rfl,hb⟩;clear c0 c1 c2 c3 c4 c5 c6 c7 c8 c9;have pE:=hid (iJ.out.kept hb);have zd:=hid (ic.out.trans (hb.mono (by have:=iJ.out.lt;omega)));have GD:=hid (And.intro (aS.out.1.below hb hb.size) (fun e he=>(aS.out.2 e he).below hb hb.size));clear hb;have hc:=pE.out.c10;obtain⟨c0,c1,c2,c3,c4,c5,c6,c7,c8,c9⟩:=hc;go_wp2_with fail;refine(EO.out _ (HC.out.below (by rw[ij.out];exact zd.out))).mono ?_;rintro e w5 ⟨rfl,hb⟩;clear c0 c1 c2 c3 c4 c5 c6 c7 c8 c9;have kR:=hid (pE.out.kept hb);have ka:=hid (zd.out.trans (hb.mono (by have:=pE.out.lt;omega)));have GT:=hid (And.intro (GD.out.1.below hb hb.size) (fun e he=>(GD.out.2 e he).below hb hb.size));clear hb;have hc:=kR.out.c10;obtain⟨c0,c1,c2,c3,c4,c5,c6,c7,c8,c9⟩:=hc;go_wp2_with fail;clear c0 c1 c2 c3 c4 c5 c6 c7 c8 c9;obtain⟨e1,e2⟩:=zM.out.1.all zM.out.2.1;have xi:es.length=gQ (cg gs):=by rw[← e1,← HX.out,List.length_map]
 have JT:∀ x ∈ es,0≤x.x.e∧x.x.e<(dW o (cg gs):Int):=fun x hx=>e2 x.x (by rw[← HX.out];exact List.mem_map_of_mem hx)
 have wM:=hid (And.intro xi JT);clear e1 e2 xi JT
 go_loopw [7,8,59] (fun a b jv wr=>∃ i:Nat,i≤gs.length∧jv=.int .i64 (i:Int)∧a=.int .i64 ((nw o gs i:Nat):Int)∧b=.int .i64 ((qL gs i:Nat):Int)∧Below w5.heap.size w5 wr) (fun _ _ jv _=>gs.length - (intOf jv).toNat)
 case atStart=>exact⟨0,Nat.zero_le _,rfl,rfl,rfl,Below.refl _ _⟩
 case round=>
  obtain⟨i,hi,rfl,rfl,rfl,hb⟩:=hrel;have pL:=ka.out.trans (hb.mono (by have:=kR.out.lt;omega))
  by_cases aZ:i<gs.length
  ·have hd:decide ((i:Int)<(gs.length:Int))=true:=decide_eq_true (by omega);have fZ:decide (i<gs.length)=true:=decide_eq_true aZ;obtain⟨g,hg⟩:∃ g,gs[i]?=some g:=⟨_,List.getElem?_eq_getElem aZ⟩;have iH:=HC.out.hin.below (by rw[ij.out];exact pL) (Nat.le_refl _);obtain⟨pb,po,hA,wv,ba⟩:=iH.hd i g hg;have hx:wr.cell? ⟨pb,po+i,none⟩=some (.slice g.A g.ts.length g.c):=by simpa [tP] using ba 0 _ rfl
   have i0:(0:Int)≤(i:Int):=by omega
   have i1:(i:Int)<(gs.length:Int):=by omega
   have ub:IntKind.i64.wrap ((i:Int)+1)=(i:Int)+1:=ac (by omega) (by have:=AN.out.2.1;omega);have CZ:=hid hb;have HG:=hid hg;have HI:=hid aZ;have Au:=hid (AN.out.2.2.1 g (List.mem_of_getElem? hg));obtain⟨S,hS⟩:∃ S,nw o gs i=S:=⟨_,rfl⟩;obtain⟨R,hR⟩:∃ R,qL gs i=R:=⟨_,rfl⟩;have Jv:=AU AN.out.2.2.1 (i:=i) (by have:=AN.out.2.1;omega);rw[hR] at Jv;have HS:=hid hS;have HR:=hid (And.intro hR Jv);rw[hS,hR];subst hA;clear hb pL hg aZ hi iH ba wv hS hR Jv;go_wp2_with fail
   go_loopw [7,8,65] (fun a b jv wq=>∃ q:Nat,q≤g.ts.length∧jv=.int .i64 (q:Int)∧a=.int .i64 ((S+mR o g q:Nat):Int)∧b=.int .i64 ((R+q:Nat):Int)∧Below w5.heap.size w5 wq) (fun _ _ jv _=>g.ts.length - (intOf jv).toNat)
   case atStart=>exact⟨0,Nat.zero_le _,rfl,rfl,rfl,CZ.out⟩
   case round=>
    clear hx i0 i1;obtain⟨q,hq,rfl,rfl,rfl,hb⟩:=hrel;have pL:=ka.out.trans (hb.mono (by have:=kR.out.lt;omega))
    by_cases aZ:q<g.ts.length
    ·have hd:decide ((q:Int)<(g.ts.length:Int))=true:=decide_eq_true (by omega);have uU:decide (q<g.ts.length)=true:=decide_eq_true aZ;obtain⟨t,ht⟩:∃ t,g.ts[q]?=some t:=⟨_,List.getElem?_eq_getElem aZ⟩;have iH:=HC.out.hin.below (by rw[ij.out];exact pL) (Nat.le_refl _);obtain⟨tb,tf,hA,rW,ba⟩:=iH.sl g (List.mem_of_getElem? HG.out) q t ht;have iV:wr.cell? ⟨tb,tf+q*2,none⟩=some (.int .i64 t.op):=by simpa [tvE,TV.cells,Nat.add_assoc] using ba 0 _ rfl
     have jK:wr.cell? ⟨tb,tf+q*2+1,none⟩=some (.slice t.A t.r.length t.c):=by simpa [tvE,TV.cells,Nat.add_assoc] using ba 1 _ rfl
     have q0:(0:Int)≤(q:Int):=by omega
     have q1:(q:Int)<(g.ts.length:Int):=by omega
     have db:IntKind.i64.wrap ((q:Int)+1)=(q:Int)+1:=ac (by omega) (by have:=Au.out;omega);have ck:=bt wr (.cells #[.int .i64 t.op,.slice t.A t.r.length t.c] 45);have BL:=hid (hb.trans (ck.mono hb.size));have Ew:=hid ((kR.out.kept hb).kept ck);have HT:=hid ht;have HQ:=hid aZ;have JB:=hid (show bI o t.op=(kS o t.td:Int) from eJ.out i g t HG.out (List.mem_of_getElem? ht));have GN:=xy AN.out.1 AN.out.2.2.1 (i:=i) (q:=q) (List.mem_of_getElem? HG.out) (by have h1:=HI.out;have h2:=AN.out.2.1;omega) (by have:=Au.out;omega);have am:=mT AN.out.1 t.td;rw[HS.out] at GN;obtain⟨V,hV⟩:∃ V,S+mR o g q=V:=⟨_,rfl⟩;obtain⟨U,hU⟩:∃ U,R+q=U:=⟨_,rfl⟩;have HV:=hid hV;have HU:=hid hU;have LP:IntKind.i64.wrap ((V:Int)+(kS o t.td:Int))=(V:Int)+(kS o t.td:Int):=ac (by omega) (by omega);have NR:IntKind.i64.wrap ((U:Int)+1)=(U:Int)+1:=ac (by omega) (by have h1:=HR.out.2;have h2:=Au.out;omega);rw[hV,hU];rw[hA];have hc:(wr.alloc (.cells #[.int .i64 t.op,.slice t.A t.r.length t.c] 45)).cell? ⟨n,0,none⟩=some (.int .i64 o.k)∧(wr.alloc (.cells #[.int .i64 t.op,.slice t.A t.r.length t.c] 45)).cell? ⟨n,1,none⟩=some (.int .i64 o.wd)∧(wr.alloc (.cells #[.int .i64 t.op,.slice t.A t.r.length t.c] 45)).cell? ⟨n,2,none⟩=some (.int .i64 o.s)∧(wr.alloc (.cells #[.int .i64 t.op,.slice t.A t.r.length t.c] 45)).cell? ⟨n,3,none⟩=some (.int .i64 o.c)∧(wr.alloc (.cells #[.int .i64 t.op,.slice t.A t.r.length t.c] 45)).cell? ⟨n,4,none⟩=some (.int .u32 o.st)∧(wr.alloc (.cells #[.int .i64 t.op,.slice t.A t.r.length t.c] 45)).cell? ⟨n,5,none⟩=some (.slice o.I o.ni o.ci)∧(wr.alloc (.cells #[.int .i64 t.op,.slice t.A t.r.length t.c] 45)).cell? ⟨n,6,none⟩=some (.int .i64 o.wr)∧(wr.alloc (.cells #[.int .i64 t.op,.slice t.A t.r.length t.c] 45)).cell? ⟨n,7,none⟩=some (.slice o.R o.nr o.cr)∧(wr.alloc (.cells #[.int .i64 t.op,.slice t.A t.r.length t.c] 45)).cell? ⟨n,8,none⟩=some (.slice (some ⟨pb,po,none⟩) gs.length cap)∧(wr.alloc (.cells #[.int .i64 t.op,.slice t.A t.r.length t.c] 45)).cell? ⟨n,9,none⟩=some (.slice B ks.length kc):=(by and_intros <;> exact Ew.out.c rfl);obtain⟨c0,c1,c2,c3,c4,c5,c6,c7,c8,c9⟩:=hc;clear hb pL ck ht aZ hq iH ba rW hA GN am hV hU;go_wp2_with fail;refine(Ct.out _ _).mono ?_;rintro e w9 ⟨rfl,hb⟩;rw[JB.out];have nL:=hid (BL.out.trans (hb.mono BL.out.size));clear hb c0 c1 c2 c3 c4 c5 c6 c7 c8 c9;go_wp2_with fail;go_roundw
     case rel=>exact⟨q+1,by have:=HQ.out;omega,by go_num,by rw[oC HT.out,← Nat.add_assoc,HV.out];rfl,by rw[← Nat.add_assoc,HU.out];rfl,nL.out⟩
     case measure=>have:=HQ.out;simp[intOf];omega
    ·have hd:decide ((q:Int)<(g.ts.length:Int))=false:=decide_eq_false (by omega);obtain rfl:q=g.ts.length:=by omega
     have ID:=hid hb;clear hb pL aZ hq;go_wp2_with fail;go_roundw
     case rel=>exact⟨i+1,by have:=HI.out;omega,by go_num,by rw[oq HG.out,HS.out],by rw[vZ HG.out,HR.out.1],ID.out⟩
     case measure=>have:=HI.out;simp[intOf];omega
  ·have hd:decide ((i:Int)<(gs.length:Int))=false:=decide_eq_false (by omega);obtain rfl:i=gs.length:=by omega
   rw[qt,zz];have lI:=hid (kR.out.kept hb);have Hb:=hid pL;have DC:=hid (And.intro (GT.out.1.below hb hb.size) (fun e he=>(GT.out.2 e he).below hb hb.size));have n0:es.length=gQ (cg gs):=wM.out.1;rw[← n0];have nm:=hid n0;obtain⟨NB,JD⟩:∃ x,dW o (cg gs)=x:=⟨_,rfl⟩;rw[JD];have xm:=hid JD;generalize wr=w6 at lI Hb DC ⊢;clear hb pL aZ hi n0 JD;have hc:=lI.out.c10;obtain⟨c0,c1,c2,c3,c4,c5,c6,c7,c8,c9⟩:=hc;go_wp2_with fail;refine(Id.out _ (HC.out.below (by rw[ij.out];exact Hb.out))).mono ?_;rintro e w7 ⟨A7,c7x,fs,rfl,hy,bH,gF,hb⟩;clear c0 c1 c2 c3 c4 c5 c6 c7 c8 c9;have im:=hid (lI.out.kept hb);have Mj:=hid (Hb.out.trans (hb.mono (by have:=lI.out.lt;omega)));have Bw:=hid (And.intro (DC.out.1.below hb hb.size) (fun e he=>(DC.out.2 e he).below hb hb.size));have Kb:es.map (·.x)=fs.map (·.x):=by rw[HX.out,hy]
   have Ds:es.length≤1000000:=by have h1:=nm.out;have h2:=AN.out.2.2.2.1;omega
   have J8:∀ e ∈ es,e.x.r.length≤1000000:=fun e he=>by obtain⟨jg,hg⟩:=zM.out.1.good;have h1:=hg.rl e.x (by rw[← HX.out];exact List.mem_map_of_mem he);omega
   have MX:=hid (vR A3 A7 c3x c7x es fs _ Kb Ds J8 Bw.out.1 bH Bw.out.2 gF);have MN:=hid Ds;clear hy bH gF Kb Ds J8 hb;go_wp2_with fail;refine MX.out.mono ?_;rintro e w8 ⟨rfl,hb⟩;have Df:=hid (Mj.out.trans (hb.mono (by have:=im.out.lt;omega)));have JI:=hid (And.intro (Bw.out.1.below hb hb.size) (fun e he=>(Bw.out.2 e he).below hb hb.size));clear hb;go_wp2_with fail
   go_loopw [107] (fun jv wr=>∃ i:Nat,i≤es.length∧jv=.int .i64 (i:Int)∧Below w8.heap.size w8 wr) (fun jv _=>es.length - (intOf jv).toNat)
   case atStart=>exact⟨0,Nat.zero_le _,rfl,Below.refl _ _⟩
   case round=>
    obtain⟨i,hi,rfl,hb⟩:=hrel
    by_cases aZ:i<es.length
    ·have hd:decide ((i:Int)<(es.length:Int))=true:=decide_eq_true (by omega);have fZ:decide (i<es.length)=true:=decide_eq_true aZ;obtain⟨x,hx⟩:∃ x,es[i]?=some x:=⟨_,List.getElem?_eq_getElem aZ⟩;obtain⟨xb,xo,hA,H9,ba⟩:=(JI.out.1.below hb hb.size) i x hx;have z0:wr.cell? ⟨xb,xo+i*7,none⟩=some (.int .i64 x.x.p):=by simpa [cvE,CV.cells,Nat.add_assoc] using ba 0 _ rfl
     have z1:wr.cell? ⟨xb,xo+i*7+1,none⟩=some (.int .i64 x.x.o):=by simpa [cvE,CV.cells,Nat.add_assoc] using ba 1 _ rfl
     have z2:wr.cell? ⟨xb,xo+i*7+2,none⟩=some (.int .i64 x.x.q):=by simpa [cvE,CV.cells,Nat.add_assoc] using ba 2 _ rfl
     have z3:wr.cell? ⟨xb,xo+i*7+3,none⟩=some (.slice x.A x.x.r.length x.c):=by simpa [cvE,CV.cells,Nat.add_assoc] using ba 3 _ rfl
     have z4:wr.cell? ⟨xb,xo+i*7+4,none⟩=some (.int .i64 x.x.c):=by simpa [cvE,CV.cells,Nat.add_assoc] using ba 4 _ rfl
     have z5:wr.cell? ⟨xb,xo+i*7+5,none⟩=some (.int .i64 x.x.b):=by simpa [cvE,CV.cells,Nat.add_assoc] using ba 5 _ rfl
     have z6:wr.cell? ⟨xb,xo+i*7+6,none⟩=some (.int .i64 x.x.e):=by simpa [cvE,CV.cells,Nat.add_assoc] using ba 6 _ rfl
     have i0:(0:Int)≤(i:Int):=by omega
     have i1:(i:Int)<(es.length:Int):=by omega
     have ub:IntKind.i64.wrap ((i:Int)+1)=(i:Int)+1:=ac (by omega) (by have:=MN.out;omega);have ck:=bt wr (.cells #[.int .i64 x.x.p,.int .i64 x.x.o,.int .i64 x.x.q,.slice x.A x.x.r.length x.c,.int .i64 x.x.c,.int .i64 x.x.b,.int .i64 x.x.e] 40);have BL:=hid (hb.trans (ck.mono hb.size));have HI:=hid aZ;obtain⟨x1,x2⟩:=wM.out.2 x (List.mem_of_getElem? hx);rw[xm.out] at x2;have g1:decide (x.x.e<0)=false:=decide_eq_false (by omega);have g2:decide ((NB:Int)≤x.x.e)=false:=decide_eq_false (by omega);subst hA;clear hb ck aZ hi hx ba H9 x1 x2;go_wp2_with fail;go_roundw
     case rel=>exact⟨i+1,by have:=HI.out;omega,by go_num,BL.out⟩
     case measure=>have:=HI.out;simp[intOf];omega
    ·have hd:decide ((i:Int)<(es.length:Int))=false:=decide_eq_false (by omega);obtain rfl:i=es.length:=by omega
     have nL:=hid (Df.out.trans (hb.mono (by have h1:=im.out.lt;have h2:=Df.out.size;have h3:=ij.out;omega)));clear hb aZ hi;go_wp2_with fail;refine(Ge.out _ (HC.out.below (by rw[ij.out];exact nL.out))).mono ?_;rintro e w9 ⟨rfl,hb⟩;have rZ:=hid (nL.out.trans (hb.mono (by have h2:=nL.out.size;have h3:=ij.out;omega)));clear hb;go_wp2_with fail;go_ret;exact⟨rfl,rZ.out⟩
theorem oX (o:Ob) (A B:Option Addr) (cap kc:Nat) (gs:List PG) (l ks:List Int) (w:World) (h:CwOk o A B gs l ks w):Calls Tryz.prog 5 #[.agg (gY o A cap gs B ks.length kc)] w fun e w'=>e=.returned (.bool true)∧Below w.heap.size w w':=by
 by_cases hl:lightW o gs ks.length
 ·by_cases hf:cy o (cg gs)=0
  ·exact tM o A B cap kc gs l ks w h hl hf
  ·exact tV o A B cap kc gs l ks w h hl hf
 ·exact su o A B cap kc gs l ks w h hl
end Go.Proofs.YtolmpehgeinlkaaGreatDoor
