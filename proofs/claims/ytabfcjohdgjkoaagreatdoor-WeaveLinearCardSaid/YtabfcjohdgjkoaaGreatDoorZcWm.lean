/- awake: the chapter's example. -/
import Derived.Test.YtabfcjohdgjkoaaGreatDoorZcWu
namespace Go.Proofs.YtabfcjohdgjkoaaGreatDoor
open Go.RowKit
open Go.Lib (hid)
attribute [local go_sem] Oper.semAt_some
set_option maxHeartbeats 1000000
set_option maxRecDepth 100000
abbrev Qj (a0 a1 a2:Nat) (a3:CV) (a4 a5:Nat) (a6:CV) (w':World):Prop:=w'.cell? ⟨a0,a1+a2*7,none⟩=some (.int .i64 a3.x.p)∧w'.cell? ⟨a0,a1+a2*7+1,none⟩=some (.int .i64 a3.x.o)∧w'.cell? ⟨a0,a1+a2*7+2,none⟩=some (.int .i64 a3.x.q)∧w'.cell? ⟨a0,a1+a2*7+3,none⟩=some (.slice a3.A a3.x.r.length a3.c)∧w'.cell? ⟨a0,a1+a2*7+4,none⟩=some (.int .i64 a3.x.c)∧w'.cell? ⟨a0,a1+a2*7+5,none⟩=some (.int .i64 a3.x.b)∧w'.cell? ⟨a0,a1+a2*7+6,none⟩=some (.int .i64 a3.x.e)∧w'.cell? ⟨a4,a5+a2*7,none⟩=some (.int .i64 a6.x.p)∧w'.cell? ⟨a4,a5+a2*7+1,none⟩=some (.int .i64 a6.x.o)∧w'.cell? ⟨a4,a5+a2*7+2,none⟩=some (.int .i64 a6.x.q)∧w'.cell? ⟨a4,a5+a2*7+3,none⟩=some (.slice a6.A a6.x.r.length a6.c)∧w'.cell? ⟨a4,a5+a2*7+4,none⟩=some (.int .i64 a6.x.c)∧w'.cell? ⟨a4,a5+a2*7+5,none⟩=some (.int .i64 a6.x.b)∧w'.cell? ⟨a4,a5+a2*7+6,none⟩=some (.int .i64 a6.x.e)
theorem sm {B:Nat} {a w:World} (h:Below B a w):∀ n:Nat,Below B a (w.drewN n)
 | _=>⟨h.os,h.tape,h.output,h.size,h.block⟩
theorem Cy (A A':Option Addr) (c c':Nat) (l:List Int) (w:World) (hn:l.length≤9223372036854775807) (hl:Ws w w.heap.size A l) (Ld:Ws w w.heap.size A' l):
  Calls Tryz.prog 46 #[.slice A l.length c,.slice A' l.length c'] w fun e w'=>e=.returned (.bool true)∧Below w.heap.size w w':=by
 go_enter Tryz.func46,Tryz.ntmps46;go_wp2
 go_loopw [5,13] (fun i j wr=>∃ k:Nat,k≤l.length∧j=.int .i64 k∧Below w.heap.size w wr) (fun _ j _=>l.length - (intOf j).toNat)
 case atStart=>exact⟨0,Nat.zero_le _,rfl,Below.refl _ _⟩
 case round=>
  obtain⟨k,hk,rfl,hb⟩:=hrel
  by_cases aJ:k<l.length
  ·obtain⟨x,hx⟩:=bu aJ;obtain⟨⟨_,_,_⟩,b,off,rfl,rN,h0⟩:=(hl.below hb (Nat.le_refl _)).get hx;obtain⟨⟨_,_,_⟩,b2,off2,rfl,Om,h1⟩:=(Ld.below hb (Nat.le_refl _)).get hx;have CQ:=hid hx;clear hx;go_wp2
   go_quiet (fail)
   go_wp2;go_roundw
   case rel=>exact⟨k+1,by omega,by go_num,sm hb _⟩
   case measure=>simp[intOf];omega
  ·obtain rfl:k=l.length:=by omega
   go_wp2;go_ret;exact⟨rfl,hb⟩
theorem Bd (x:Cl) (A A':Option Addr) (c c':Nat) (w:World) (lx:x.r.length≤9223372036854775807) (hx:Ws w w.heap.size A x.r) (hy:Ws w w.heap.size A' x.r):
  Calls Tryz.prog 29 #[.agg #[.int .i64 x.p,.int .i64 x.o,.int .i64 x.q,.slice A x.r.length c,.int .i64 x.c,.int .i64 x.b,.int .i64 x.e],.agg #[.int .i64 x.p,.int .i64 x.o,.int .i64 x.q,.slice A' x.r.length c',.int .i64 x.c,.int .i64 x.b,.int .i64 x.e]] w fun r w'=>r=.returned (.bool true)∧Below w.heap.size w w':=by
 obtain⟨p,o,q,r,cc,b,e⟩:=x;dsimp only at lx hx hy ⊢;have hB:=(bK w (.cells #[.int .i64 p,.int .i64 o,.int .i64 q,.slice A r.length c,.int .i64 cc,.int .i64 b,.int .i64 e] 62)).alloc (by simp) (.cells #[.int .i64 p,.int .i64 o,.int .i64 q,.slice A' r.length c',.int .i64 cc,.int .i64 b,.int .i64 e] 62);have HW:=hid (Cy A A' c c' r _ lx (hx.below hB hB.size) (hy.below hB hB.size));have HX:=hid ((RowB.new w #[.int .i64 p,.int .i64 o,.int .i64 q,.slice A r.length c,.int .i64 cc,.int .i64 b,.int .i64 e] 62).kept ((Below.refl _ _).alloc (Nat.le_refl _) (.cells #[.int .i64 p,.int .i64 o,.int .i64 q,.slice A' r.length c',.int .i64 cc,.int .i64 b,.int .i64 e] 62)));have HY:=hid (RowB.new (w.alloc (.cells #[.int .i64 p,.int .i64 o,.int .i64 q,.slice A r.length c,.int .i64 cc,.int .i64 b,.int .i64 e] 62)) #[.int .i64 p,.int .i64 o,.int .i64 q,.slice A' r.length c',.int .i64 cc,.int .i64 b,.int .i64 e] 62);rw[World.size_alloc] at HY;have HB:=hid hB;clear hB hx hy lx;go_enter Tryz.func29,Tryz.ntmps29;go_wp2_with (go_at_call 46;refine HW.out.mono ?_;rintro e w1 ⟨rfl,aq⟩;have O8:=((HX.out.kept aq).cell 4).trans rfl;have UZ:=((HX.out.kept aq).cell 5).trans rfl;have U0:=((HX.out.kept aq).cell 6).trans rfl;have U1:=((HY.out.kept aq).cell 4).trans rfl;have U2:=((HY.out.kept aq).cell 5).trans rfl;have U3:=((HY.out.kept aq).cell 6).trans rfl);go_ret;exact⟨rfl,HB.out.trans (aq.mono HB.out.size)⟩
set_option maxHeartbeats 1000000
set_option maxRecDepth 100000
def EB (g:PG):Prop:=g.ts.length≤20∧∀ t ∈ g.ts,t.r.length≤100
instance (g:PG):Decidable (EB g):=by unfold EB;infer_instance
def lightW (o:Ob) (gs:List PG) (kn:Nat):Prop:=fQ o∧gs.length≤20∧kn≤400∧∀ g ∈ gs,EB g
instance (o:Ob) (gs:List PG) (kn:Nat):Decidable (lightW o gs kn):=by unfold lightW;infer_instance
def iL (o:Ob) (A:Option Addr) (cap:Nat) (gs:List PG) (B:Option Addr) (kn kc:Nat):Array Value:=#[.int .i64 o.k,.int .i64 o.wd,.int .i64 o.s,.int .i64 o.c,.int .u32 o.st,.slice o.I o.ni o.ci,.int .i64 o.wr,.slice o.R o.nr o.cr,.slice A gs.length cap,.slice B kn kc]
theorem Cq (o:Ob) (A B:Option Addr) (cap kn kc:Nat) (gs:List PG) (w:World) (h1:decide (fQ o)=false):Calls Tryz.prog 7 #[.agg (iL o A cap gs B kn kc)] w fun e w'=>e=.returned (.bool false)∧Below w.heap.size w w':=by
 have HD:=hid h1;clear h1;have hn:=RowB.new w (iL o A cap gs B kn kc) 29;have hB:=bK w (.cells (iL o A cap gs B kn kc) 29);obtain⟨n,aI⟩:∃ n,w.heap.size=n:=⟨_,rfl⟩;rw[aI] at hn hB;have HN:=hid hn;have HB:=hid hB;have lF:=hid aI;have HS:=hid fun W=>nA o W
 unfold iL at HN HB;unfold af at HS;clear hn hB;unfold iL;rw[aI];go_enter Tryz.func7,Tryz.ntmps7;go_wp2_with fail;generalize (w.alloc (.cells #[.int .i64 o.k,.int .i64 o.wd,.int .i64 o.s,.int .i64 o.c,.int .u32 o.st,.slice o.I o.ni o.ci,.int .i64 o.wr,.slice o.R o.nr o.cr,.slice A gs.length cap,.slice B kn kc] 29))=w1 at HN HB ⊢;clear aI;have hc:=HN.out.c10;obtain⟨c0,c1,c2,c3,c4,c5,c6,c7,c8,c9⟩:=hc;go_wp2_with fail;refine(HS.out _).mono ?_;rintro e w2 ⟨rfl,hb⟩;have gc:=hid (HN.out.kept hb);have cD:=hid (HB.out.trans (hb.mono (by have:=HN.out.lt;omega)));clear hb c0 c1 c2 c3 c4 c5 c6 c7 c8 c9;have c8:=gc.out.at 8 (.slice A gs.length cap);have c9:=gc.out.at 9 (.slice B kn kc);rw[HD.out];go_wp2_with fail;go_ret;exact⟨rfl,cD.out⟩
theorem Cr (o:Ob) (A B:Option Addr) (cap kn kc:Nat) (gs:List PG) (w:World) (h1:decide (fQ o)=true) (h2:decide (20<gs.length)=true):Calls Tryz.prog 7 #[.agg (iL o A cap gs B kn kc)] w fun e w'=>e=.returned (.bool false)∧Below w.heap.size w w':=by
 have HD:=hid h1;clear h1;have d2:decide ((20:Int)<(gs.length:Int))=true:=decide_eq_true (by have:=of_decide_eq_true h2;omega);have hn:=RowB.new w (iL o A cap gs B kn kc) 29;have hB:=bK w (.cells (iL o A cap gs B kn kc) 29);obtain⟨n,aI⟩:∃ n,w.heap.size=n:=⟨_,rfl⟩;rw[aI] at hn hB;have HN:=hid hn;have HB:=hid hB;have lF:=hid aI;have HS:=hid fun W=>nA o W
 unfold iL at HN HB;unfold af at HS;clear hn hB;unfold iL;rw[aI];go_enter Tryz.func7,Tryz.ntmps7;go_wp2_with fail;generalize (w.alloc (.cells #[.int .i64 o.k,.int .i64 o.wd,.int .i64 o.s,.int .i64 o.c,.int .u32 o.st,.slice o.I o.ni o.ci,.int .i64 o.wr,.slice o.R o.nr o.cr,.slice A gs.length cap,.slice B kn kc] 29))=w1 at HN HB ⊢;clear aI;have hc:=HN.out.c10;obtain⟨c0,c1,c2,c3,c4,c5,c6,c7,c8,c9⟩:=hc;go_wp2_with fail;refine(HS.out _).mono ?_;rintro e w2 ⟨rfl,hb⟩;have gc:=hid (HN.out.kept hb);have cD:=hid (HB.out.trans (hb.mono (by have:=HN.out.lt;omega)));clear hb c0 c1 c2 c3 c4 c5 c6 c7 c8 c9;have c8:=gc.out.at 8 (.slice A gs.length cap);have c9:=gc.out.at 9 (.slice B kn kc);rw[HD.out];go_wp2_with fail;go_ret;exact⟨rfl,cD.out⟩
theorem Ct (o:Ob) (A B:Option Addr) (cap kn kc:Nat) (gs:List PG) (w:World) (h1:decide (fQ o)=true) (h2:decide (20<gs.length)=false) (h3:decide (400<kn)=true):Calls Tryz.prog 7 #[.agg (iL o A cap gs B kn kc)] w fun e w'=>e=.returned (.bool false)∧Below w.heap.size w w':=by
 have HD:=hid h1;clear h1;have d2:decide ((20:Int)<(gs.length:Int))=false:=decide_eq_false (by have:=of_decide_eq_false h2;omega);have d3:decide ((400:Int)<(kn:Int))=true:=decide_eq_true (by have:=of_decide_eq_true h3;omega);have hn:=RowB.new w (iL o A cap gs B kn kc) 29;have hB:=bK w (.cells (iL o A cap gs B kn kc) 29);obtain⟨n,aI⟩:∃ n,w.heap.size=n:=⟨_,rfl⟩;rw[aI] at hn hB;have HN:=hid hn;have HB:=hid hB;have lF:=hid aI;have HS:=hid fun W=>nA o W
 unfold iL at HN HB;unfold af at HS;clear hn hB;unfold iL;rw[aI];go_enter Tryz.func7,Tryz.ntmps7;go_wp2_with fail;generalize (w.alloc (.cells #[.int .i64 o.k,.int .i64 o.wd,.int .i64 o.s,.int .i64 o.c,.int .u32 o.st,.slice o.I o.ni o.ci,.int .i64 o.wr,.slice o.R o.nr o.cr,.slice A gs.length cap,.slice B kn kc] 29))=w1 at HN HB ⊢;clear aI;have hc:=HN.out.c10;obtain⟨c0,c1,c2,c3,c4,c5,c6,c7,c8,c9⟩:=hc;go_wp2_with fail;refine(HS.out _).mono ?_;rintro e w2 ⟨rfl,hb⟩;have gc:=hid (HN.out.kept hb);have cD:=hid (HB.out.trans (hb.mono (by have:=HN.out.lt;omega)));clear hb c0 c1 c2 c3 c4 c5 c6 c7 c8 c9;have c8:=gc.out.at 8 (.slice A gs.length cap);have c9:=gc.out.at 9 (.slice B kn kc);rw[HD.out];go_wp2_with fail;go_ret;exact⟨rfl,cD.out⟩
theorem Cu (o:Ob) (A B:Option Addr) (cap kn kc:Nat) (gs:List PG) (w:World) (hin:ProcsIn w w.heap.size A gs) (h1:decide (fQ o)=true) (h2:decide (20<gs.length)=false) (h3:decide (400<kn)=false):Calls Tryz.prog 7 #[.agg (iL o A cap gs B kn kc)] w fun e w'=>e=.returned (.bool (decide (∀ g ∈ gs,EB g)))∧Below w.heap.size w w':=by
 have HD:=hid h1;have CY:=hid hin;have Fy:=hid (show gs.length≤20 by have:=of_decide_eq_false h2;omega);have d2:decide ((20:Int)<(gs.length:Int))=false:=decide_eq_false (by have:=of_decide_eq_false h2;omega);have d3:decide ((400:Int)<(kn:Int))=false:=decide_eq_false (by have:=of_decide_eq_false h3;omega);clear h1 hin;have hn:=RowB.new w (iL o A cap gs B kn kc) 29;have hB:=bK w (.cells (iL o A cap gs B kn kc) 29);obtain⟨n,aI⟩:∃ n,w.heap.size=n:=⟨_,rfl⟩;rw[aI] at hn hB;have HN:=hid hn;have HB:=hid hB;have lF:=hid aI;have HS:=hid fun W=>nA o W
 unfold iL at HN HB;unfold af at HS;clear hn hB;unfold iL;rw[aI];go_enter Tryz.func7,Tryz.ntmps7;go_wp2_with fail;generalize (w.alloc (.cells #[.int .i64 o.k,.int .i64 o.wd,.int .i64 o.s,.int .i64 o.c,.int .u32 o.st,.slice o.I o.ni o.ci,.int .i64 o.wr,.slice o.R o.nr o.cr,.slice A gs.length cap,.slice B kn kc] 29))=w1 at HN HB ⊢;clear aI;have hc:=HN.out.c10;obtain⟨c0,c1,c2,c3,c4,c5,c6,c7,c8,c9⟩:=hc;go_wp2_with fail;refine(HS.out _).mono ?_;rintro e w2 ⟨rfl,hb⟩;have gc:=hid (HN.out.kept hb);have cD:=hid (HB.out.trans (hb.mono (by have:=HN.out.lt;omega)));clear hb c0 c1 c2 c3 c4 c5 c6 c7 c8 c9;have c8:=gc.out.at 8 (.slice A gs.length cap);have c9:=gc.out.at 9 (.slice B kn kc);rw[HD.out];go_wp2_with fail;clear c8 c9 h2 h3 d2 d3
 go_loopw [26] (fun jv wr=>∃ i:Nat,i≤gs.length∧jv=.int .i64 (i:Int)∧(∀ j g,j<i→gs[j]?=some g→EB g)∧Below n w wr) (fun jv _=>gs.length - (intOf jv).toNat)
 case atStart=>exact⟨0,Nat.zero_le _,rfl,fun j g h _=>absurd h (by omega),cD.out⟩
 case round=>
  obtain⟨i,hi,rfl,kJ,hb⟩:=hrel
  by_cases aJ:i<gs.length
  ·have hd:decide ((i:Int)<(gs.length:Int))=true:=decide_eq_true (by omega);obtain⟨g,hg⟩:∃ g,gs[i]?=some g:=⟨_,List.getElem?_eq_getElem aJ⟩;have zS:=CY.out.below (by rw[lF.out];exact hb) (Nat.le_refl _);obtain⟨pb,po,hA,Im,cJ⟩:=zS.hd i g hg;have hx:wr.cell? ⟨pb,po+i,none⟩=some (.slice g.A g.ts.length g.c):=by simpa [Hs] using cJ 0 _ rfl
   have i0:(0:Int)≤(i:Int):=by omega
   have i1:(i:Int)<(gs.length:Int):=by omega
   have Ix:IntKind.i64.wrap ((i:Int)+1)=(i:Int)+1:=ag (by omega) (by have:=Fy.out;omega);have Nc:=hid kJ;have rG:=hid hb;have HG:=hid hg;have HI:=hid aJ;subst hA;clear kJ hb hg aJ hi zS cJ Im
   by_cases yl:20<g.ts.length
   ·have e1:decide (20<g.ts.length)=true:=decide_eq_true yl;have e1i:decide ((20:Int)<(g.ts.length:Int))=true:=decide_eq_true (by omega);have HR:=hid (show decide (∀ g ∈ gs,EB g)=false from decide_eq_false (fun h=>by have:=(h g (List.mem_of_getElem? HG.out)).1;omega));clear yl;go_wp2_with fail;go_ret;exact⟨by rw[HR.out];rfl,rG.out⟩
   ·have e1:decide (20<g.ts.length)=false:=decide_eq_false yl;have e1i:decide ((20:Int)<(g.ts.length:Int))=false:=decide_eq_false (by omega);have PT:=hid (show g.ts.length≤20 by omega);clear yl;go_wp2_with fail
    go_loopw [35] (fun jv wq=>∃ q:Nat,q≤g.ts.length∧jv=.int .i64 (q:Int)∧(∀ j t,j<q→g.ts[j]?=some t→t.r.length≤100)∧Below n w wq) (fun jv _=>g.ts.length - (intOf jv).toNat)
    case atStart=>exact⟨0,Nat.zero_le _,rfl,fun j g h _=>absurd h (by omega),rG.out⟩
    case round=>
     clear hx e1 e1i i0 i1;obtain⟨q,hq,rfl,kJ,hb⟩:=hrel
     by_cases aJ:q<g.ts.length
     ·have hd:decide ((q:Int)<(g.ts.length:Int))=true:=decide_eq_true (by omega);obtain⟨t,ht⟩:∃ t,g.ts[q]?=some t:=⟨_,List.getElem?_eq_getElem aJ⟩;have zS:=CY.out.below (by rw[lF.out];exact hb) (Nat.le_refl _);obtain⟨tb,tf,hA,Gk,cJ⟩:=zS.sl g (List.mem_of_getElem? HG.out) q t ht;have kx:wr.cell? ⟨tb,tf+q*2,none⟩=some (.int .i64 t.op):=by simpa [tvE,TV.cells,Nat.add_assoc] using cJ 0 _ rfl
      have lM:wr.cell? ⟨tb,tf+q*2+1,none⟩=some (.slice t.A t.r.length t.c):=by simpa [tvE,TV.cells,Nat.add_assoc] using cJ 1 _ rfl
      have q0:(0:Int)≤(q:Int):=by omega
      have q1:(q:Int)<(g.ts.length:Int):=by omega
      have JJ:IntKind.i64.wrap ((q:Int)+1)=(q:Int)+1:=ag (by omega) (by have:=PT.out;omega);have bG:=hb.alloc (by rw[← lF.out];exact hb.size) (.cells #[.int .i64 t.op,.slice t.A t.r.length t.c] 42);have Sc:=hid kJ;have JT:=hid bG;have HT:=hid ht;have HQ:=hid aJ;rw[hA];clear kJ hb bG ht aJ hq zS cJ Gk hA
      by_cases fJ:100<t.r.length
      ·have e2:decide (100<t.r.length)=true:=decide_eq_true fJ;have e2i:decide ((100:Int)<(t.r.length:Int))=true:=decide_eq_true (by omega);have HR:=hid (show decide (∀ g ∈ gs,EB g)=false from decide_eq_false (fun h=>by have:=(h g (List.mem_of_getElem? HG.out)).2 t (List.mem_of_getElem? HT.out);omega));clear fJ;go_wp2_with fail;go_ret;exact⟨by rw[HR.out];rfl,JT.out⟩
      ·have e2:decide (100<t.r.length)=false:=decide_eq_false fJ;have e2i:decide ((100:Int)<(t.r.length:Int))=false:=decide_eq_false (by omega);have Sk:=hid (show t.r.length≤100 by omega);clear fJ;go_wp2_with fail;go_roundw
       case rel=>exact⟨q+1,by have:=HQ.out;omega,by go_num,fun j u hj hu=>by
        rcases Nat.lt_or_ge j q with h | h
        ·exact Sc.out j u h hu
        ·obtain rfl:j=q:=by omega
         rw[HT.out] at hu;cases hu;exact Sk.out,JT.out⟩
       case measure=>have:=HQ.out;simp[intOf];omega
     ·have hd:decide ((q:Int)<(g.ts.length:Int))=false:=decide_eq_false (by omega);obtain rfl:q=g.ts.length:=by omega
      have HF:=hid (And.intro kJ hb);clear kJ hb aJ hq;go_wp2_with fail;go_roundw
      case rel=>exact⟨i+1,by have:=HI.out;omega,by go_num,fun j u hj hu=>by
       rcases Nat.lt_or_ge j i with h | h
       ·exact Nc.out j u h hu
       ·obtain rfl:j=i:=by omega
        rw[HG.out] at hu;cases hu
        exact⟨PT.out,fun t ht=>by
         obtain⟨m,hm⟩:=List.getElem?_of_mem ht;exact HF.out.1 m t (List.getElem?_eq_some_iff.1 hm).1 hm⟩,HF.out.2⟩
      case measure=>have:=HI.out;simp[intOf];omega
  ·have hd:decide ((i:Int)<(gs.length:Int))=false:=decide_eq_false (by omega);obtain rfl:i=gs.length:=by omega
   have HR:=hid (show decide (∀ g ∈ gs,EB g)=true from decide_eq_true (fun g hg=>by
    obtain⟨m,hm⟩:=List.getElem?_of_mem hg;exact kJ m g (List.getElem?_eq_some_iff.1 hm).1 hm))
   have rG:=hid hb;clear kJ hb aJ hi;go_wp2_with fail;go_ret;exact⟨by rw[HR.out];rfl,rG.out⟩
theorem o0 (o:Ob) (A B:Option Addr) (cap kn kc:Nat) (gs:List PG) (w:World) (hin:ProcsIn w w.heap.size A gs):Calls Tryz.prog 7 #[.agg (iL o A cap gs B kn kc)] w fun e w'=>e=.returned (.bool (decide (lightW o gs kn)))∧Below w.heap.size w w':=by
 by_cases h1:fQ o
 ·by_cases h2:gs.length≤20
  ·by_cases h3:kn≤400
   ·rw[show decide (lightW o gs kn)=decide (∀ g ∈ gs,EB g) from decide_eq_decide.2 ⟨fun h=>h.2.2.2,fun h=>⟨h1,h2,h3,h⟩⟩];exact Cu o A B cap kn kc gs w hin (decide_eq_true h1) (decide_eq_false (by omega)) (decide_eq_false (by omega))
   ·rw[show decide (lightW o gs kn)=false from decide_eq_false (fun h=>h3 h.2.2.1)];exact Ct o A B cap kn kc gs w (decide_eq_true h1) (decide_eq_false (by omega)) (decide_eq_true (by omega))
  ·rw[show decide (lightW o gs kn)=false from decide_eq_false (fun h=>h2 h.2.1)];exact Cr o A B cap kn kc gs w (decide_eq_true h1) (decide_eq_true (by omega))
 ·rw[show decide (lightW o gs kn)=false from decide_eq_false (fun h=>h1 h.1)];exact Cq o A B cap kn kc gs w (decide_eq_false h1)
set_option maxHeartbeats 1000000
set_option maxRecDepth 100000
def oE (b:Nat):Ob:=⟨6,1,1,0,0,none,0,0,0,some ⟨b,0,none⟩,1,1⟩
theorem LX (b:Nat):(oE b).Ok:=⟨by simp[oE],by simp[oE],by simp[oE],by simp[oE]⟩
def Pi:List (List Td):=[[⟨3,[7]⟩],[⟨4,[]⟩]]
def Eq:List Int:=[0,0,0,0,1,1,1,1]
theorem wW (b:Nat):dE (oE b) Pi=0:=by kernel_rfl
theorem wV (b:Nat):(Lm.run (eg (oE b)) Kc.step (gC Pi (aW (oE b) [])) Eq).calls=[⟨0,0,3,[7],0,0,3⟩,⟨1,0,4,[7],0,4,7⟩]:=by kernel_rfl
def CJ (n:Nat):List PG:=[⟨some ⟨n+3,0,none⟩,1,[⟨3,some ⟨n+2,0,none⟩,1,[7]⟩],none,0⟩,⟨some ⟨n+4,0,none⟩,1,[⟨4,none,0,[]⟩],none,0⟩]
theorem DO (n:Nat):cV (CJ n)=Pi:=rfl
structure Ex (n:Nat) (w W:World):Prop where
 bel:Below n w W
 size:W.heap.size=n+7
 b0:RowB W n #[.int .i64 1] 3
 b1:RowB W (n+1) (af (oE n)) 26
 b2:RowB W (n+2) #[.int .u32 7] 22
 b3:RowB W (n+3) #[.int .i64 3,.slice (some ⟨n+2,0,none⟩) 1 1] 42
 b4:RowB W (n+4) #[.int .i64 4,.slice none 0 0] 42
 b5:RowB W (n+5) #[.slice (some ⟨n+3,0,none⟩) 1 1,.slice (some ⟨n+4,0,none⟩) 1 1] 40
 b6:RowB W (n+6) #[.int .i64 0,.int .i64 0,.int .i64 0,.int .i64 0,.int .i64 1,.int .i64 1,.int .i64 1,.int .i64 1] 3
theorem KB (w:World) (n:Nat) (hn:w.heap.size=n):Ex n w (((((((w.alloc (.cells #[.int .i64 1] 3)).alloc (.cells (af (oE n)) 26)).alloc (.cells #[.int .u32 7] 22)).alloc (.cells #[.int .i64 3,.slice (some ⟨n+2,0,none⟩) 1 1] 42)).alloc (.cells #[.int .i64 4,.slice none 0 0] 42)).alloc (.cells #[.slice (some ⟨n+3,0,none⟩) 1 1,.slice (some ⟨n+4,0,none⟩) 1 1] 40)).alloc (.cells #[.int .i64 0,.int .i64 0,.int .i64 0,.int .i64 0,.int .i64 1,.int .i64 1,.int .i64 1,.int .i64 1] 3)):=by
 subst hn;have jU:=Below.refl w.heap.size w;have aq:=jU.alloc jU.size (.cells #[.int .i64 1] 3);have aO:=aq.alloc aq.size (.cells (af (oE w.heap.size)) 26);have gR:=aO.alloc aO.size (.cells #[.int .u32 7] 22);have uf:=gR.alloc gR.size (.cells #[.int .i64 3,.slice (some ⟨w.heap.size+2,0,none⟩) 1 1] 42);have nm:=uf.alloc uf.size (.cells #[.int .i64 4,.slice none 0 0] 42);have zG:=nm.alloc nm.size (.cells #[.slice (some ⟨w.heap.size+3,0,none⟩) 1 1,.slice (some ⟨w.heap.size+4,0,none⟩) 1 1] 40);have p8:=zG.alloc zG.size (.cells #[.int .i64 0,.int .i64 0,.int .i64 0,.int .i64 0,.int .i64 1,.int .i64 1,.int .i64 1,.int .i64 1] 3);have r0:=RowB.new w #[.int .i64 1] 3;have r1:=RowB.new (w.alloc (.cells #[.int .i64 1] 3)) (af (oE w.heap.size)) 26;simp only[World.size_alloc] at r1;have r2:=RowB.new ((w.alloc (.cells #[.int .i64 1] 3)).alloc (.cells (af (oE w.heap.size)) 26)) #[.int .u32 7] 22;simp only[World.size_alloc] at r2;have r3:=RowB.new (((w.alloc (.cells #[.int .i64 1] 3)).alloc (.cells (af (oE w.heap.size)) 26)).alloc (.cells #[.int .u32 7] 22)) #[.int .i64 3,.slice (some ⟨w.heap.size+2,0,none⟩) 1 1] 42;simp only[World.size_alloc] at r3;have r4:=RowB.new ((((w.alloc (.cells #[.int .i64 1] 3)).alloc (.cells (af (oE w.heap.size)) 26)).alloc (.cells #[.int .u32 7] 22)).alloc (.cells #[.int .i64 3,.slice (some ⟨w.heap.size+2,0,none⟩) 1 1] 42)) #[.int .i64 4,.slice none 0 0] 42;simp only[World.size_alloc] at r4;have r5:=RowB.new (((((w.alloc (.cells #[.int .i64 1] 3)).alloc (.cells (af (oE w.heap.size)) 26)).alloc (.cells #[.int .u32 7] 22)).alloc (.cells #[.int .i64 3,.slice (some ⟨w.heap.size+2,0,none⟩) 1 1] 42)).alloc (.cells #[.int .i64 4,.slice none 0 0] 42)) #[.slice (some ⟨w.heap.size+3,0,none⟩) 1 1,.slice (some ⟨w.heap.size+4,0,none⟩) 1 1] 40;simp only[World.size_alloc] at r5;have r6:=RowB.new ((((((w.alloc (.cells #[.int .i64 1] 3)).alloc (.cells (af (oE w.heap.size)) 26)).alloc (.cells #[.int .u32 7] 22)).alloc (.cells #[.int .i64 3,.slice (some ⟨w.heap.size+2,0,none⟩) 1 1] 42)).alloc (.cells #[.int .i64 4,.slice none 0 0] 42)).alloc (.cells #[.slice (some ⟨w.heap.size+3,0,none⟩) 1 1,.slice (some ⟨w.heap.size+4,0,none⟩) 1 1] 40)) #[.int .i64 0,.int .i64 0,.int .i64 0,.int .i64 0,.int .i64 1,.int .i64 1,.int .i64 1,.int .i64 1] 3;simp only[World.size_alloc] at r6;refine⟨p8,by simp only[World.size_alloc],?_,?_,?_,?_,?_,?_,?_⟩
 ·exact((((((r0.kept ((Below.refl _ (w.alloc (.cells #[.int .i64 1] 3))).alloc (Nat.le_refl _) (.cells (af (oE w.heap.size)) 26))).kept ((Below.refl _ ((w.alloc (.cells #[.int .i64 1] 3)).alloc (.cells (af (oE w.heap.size)) 26))).alloc (Nat.le_refl _) (.cells #[.int .u32 7] 22))).kept ((Below.refl _ (((w.alloc (.cells #[.int .i64 1] 3)).alloc (.cells (af (oE w.heap.size)) 26)).alloc (.cells #[.int .u32 7] 22))).alloc (Nat.le_refl _) (.cells #[.int .i64 3,.slice (some ⟨w.heap.size+2,0,none⟩) 1 1] 42))).kept ((Below.refl _ ((((w.alloc (.cells #[.int .i64 1] 3)).alloc (.cells (af (oE w.heap.size)) 26)).alloc (.cells #[.int .u32 7] 22)).alloc (.cells #[.int .i64 3,.slice (some ⟨w.heap.size+2,0,none⟩) 1 1] 42))).alloc (Nat.le_refl _) (.cells #[.int .i64 4,.slice none 0 0] 42))).kept ((Below.refl _ (((((w.alloc (.cells #[.int .i64 1] 3)).alloc (.cells (af (oE w.heap.size)) 26)).alloc (.cells #[.int .u32 7] 22)).alloc (.cells #[.int .i64 3,.slice (some ⟨w.heap.size+2,0,none⟩) 1 1] 42)).alloc (.cells #[.int .i64 4,.slice none 0 0] 42))).alloc (Nat.le_refl _) (.cells #[.slice (some ⟨w.heap.size+3,0,none⟩) 1 1,.slice (some ⟨w.heap.size+4,0,none⟩) 1 1] 40))).kept ((Below.refl _ ((((((w.alloc (.cells #[.int .i64 1] 3)).alloc (.cells (af (oE w.heap.size)) 26)).alloc (.cells #[.int .u32 7] 22)).alloc (.cells #[.int .i64 3,.slice (some ⟨w.heap.size+2,0,none⟩) 1 1] 42)).alloc (.cells #[.int .i64 4,.slice none 0 0] 42)).alloc (.cells #[.slice (some ⟨w.heap.size+3,0,none⟩) 1 1,.slice (some ⟨w.heap.size+4,0,none⟩) 1 1] 40))).alloc (Nat.le_refl _) (.cells #[.int .i64 0,.int .i64 0,.int .i64 0,.int .i64 0,.int .i64 1,.int .i64 1,.int .i64 1,.int .i64 1] 3)))
 ·exact(((((r1.kept ((Below.refl _ ((w.alloc (.cells #[.int .i64 1] 3)).alloc (.cells (af (oE w.heap.size)) 26))).alloc (Nat.le_refl _) (.cells #[.int .u32 7] 22))).kept ((Below.refl _ (((w.alloc (.cells #[.int .i64 1] 3)).alloc (.cells (af (oE w.heap.size)) 26)).alloc (.cells #[.int .u32 7] 22))).alloc (Nat.le_refl _) (.cells #[.int .i64 3,.slice (some ⟨w.heap.size+2,0,none⟩) 1 1] 42))).kept ((Below.refl _ ((((w.alloc (.cells #[.int .i64 1] 3)).alloc (.cells (af (oE w.heap.size)) 26)).alloc (.cells #[.int .u32 7] 22)).alloc (.cells #[.int .i64 3,.slice (some ⟨w.heap.size+2,0,none⟩) 1 1] 42))).alloc (Nat.le_refl _) (.cells #[.int .i64 4,.slice none 0 0] 42))).kept ((Below.refl _ (((((w.alloc (.cells #[.int .i64 1] 3)).alloc (.cells (af (oE w.heap.size)) 26)).alloc (.cells #[.int .u32 7] 22)).alloc (.cells #[.int .i64 3,.slice (some ⟨w.heap.size+2,0,none⟩) 1 1] 42)).alloc (.cells #[.int .i64 4,.slice none 0 0] 42))).alloc (Nat.le_refl _) (.cells #[.slice (some ⟨w.heap.size+3,0,none⟩) 1 1,.slice (some ⟨w.heap.size+4,0,none⟩) 1 1] 40))).kept ((Below.refl _ ((((((w.alloc (.cells #[.int .i64 1] 3)).alloc (.cells (af (oE w.heap.size)) 26)).alloc (.cells #[.int .u32 7] 22)).alloc (.cells #[.int .i64 3,.slice (some ⟨w.heap.size+2,0,none⟩) 1 1] 42)).alloc (.cells #[.int .i64 4,.slice none 0 0] 42)).alloc (.cells #[.slice (some ⟨w.heap.size+3,0,none⟩) 1 1,.slice (some ⟨w.heap.size+4,0,none⟩) 1 1] 40))).alloc (Nat.le_refl _) (.cells #[.int .i64 0,.int .i64 0,.int .i64 0,.int .i64 0,.int .i64 1,.int .i64 1,.int .i64 1,.int .i64 1] 3)))
 ·exact((((r2.kept ((Below.refl _ (((w.alloc (.cells #[.int .i64 1] 3)).alloc (.cells (af (oE w.heap.size)) 26)).alloc (.cells #[.int .u32 7] 22))).alloc (Nat.le_refl _) (.cells #[.int .i64 3,.slice (some ⟨w.heap.size+2,0,none⟩) 1 1] 42))).kept ((Below.refl _ ((((w.alloc (.cells #[.int .i64 1] 3)).alloc (.cells (af (oE w.heap.size)) 26)).alloc (.cells #[.int .u32 7] 22)).alloc (.cells #[.int .i64 3,.slice (some ⟨w.heap.size+2,0,none⟩) 1 1] 42))).alloc (Nat.le_refl _) (.cells #[.int .i64 4,.slice none 0 0] 42))).kept ((Below.refl _ (((((w.alloc (.cells #[.int .i64 1] 3)).alloc (.cells (af (oE w.heap.size)) 26)).alloc (.cells #[.int .u32 7] 22)).alloc (.cells #[.int .i64 3,.slice (some ⟨w.heap.size+2,0,none⟩) 1 1] 42)).alloc (.cells #[.int .i64 4,.slice none 0 0] 42))).alloc (Nat.le_refl _) (.cells #[.slice (some ⟨w.heap.size+3,0,none⟩) 1 1,.slice (some ⟨w.heap.size+4,0,none⟩) 1 1] 40))).kept ((Below.refl _ ((((((w.alloc (.cells #[.int .i64 1] 3)).alloc (.cells (af (oE w.heap.size)) 26)).alloc (.cells #[.int .u32 7] 22)).alloc (.cells #[.int .i64 3,.slice (some ⟨w.heap.size+2,0,none⟩) 1 1] 42)).alloc (.cells #[.int .i64 4,.slice none 0 0] 42)).alloc (.cells #[.slice (some ⟨w.heap.size+3,0,none⟩) 1 1,.slice (some ⟨w.heap.size+4,0,none⟩) 1 1] 40))).alloc (Nat.le_refl _) (.cells #[.int .i64 0,.int .i64 0,.int .i64 0,.int .i64 0,.int .i64 1,.int .i64 1,.int .i64 1,.int .i64 1] 3)))
 ·exact(((r3.kept ((Below.refl _ ((((w.alloc (.cells #[.int .i64 1] 3)).alloc (.cells (af (oE w.heap.size)) 26)).alloc (.cells #[.int .u32 7] 22)).alloc (.cells #[.int .i64 3,.slice (some ⟨w.heap.size+2,0,none⟩) 1 1] 42))).alloc (Nat.le_refl _) (.cells #[.int .i64 4,.slice none 0 0] 42))).kept ((Below.refl _ (((((w.alloc (.cells #[.int .i64 1] 3)).alloc (.cells (af (oE w.heap.size)) 26)).alloc (.cells #[.int .u32 7] 22)).alloc (.cells #[.int .i64 3,.slice (some ⟨w.heap.size+2,0,none⟩) 1 1] 42)).alloc (.cells #[.int .i64 4,.slice none 0 0] 42))).alloc (Nat.le_refl _) (.cells #[.slice (some ⟨w.heap.size+3,0,none⟩) 1 1,.slice (some ⟨w.heap.size+4,0,none⟩) 1 1] 40))).kept ((Below.refl _ ((((((w.alloc (.cells #[.int .i64 1] 3)).alloc (.cells (af (oE w.heap.size)) 26)).alloc (.cells #[.int .u32 7] 22)).alloc (.cells #[.int .i64 3,.slice (some ⟨w.heap.size+2,0,none⟩) 1 1] 42)).alloc (.cells #[.int .i64 4,.slice none 0 0] 42)).alloc (.cells #[.slice (some ⟨w.heap.size+3,0,none⟩) 1 1,.slice (some ⟨w.heap.size+4,0,none⟩) 1 1] 40))).alloc (Nat.le_refl _) (.cells #[.int .i64 0,.int .i64 0,.int .i64 0,.int .i64 0,.int .i64 1,.int .i64 1,.int .i64 1,.int .i64 1] 3)))
 ·exact((r4.kept ((Below.refl _ (((((w.alloc (.cells #[.int .i64 1] 3)).alloc (.cells (af (oE w.heap.size)) 26)).alloc (.cells #[.int .u32 7] 22)).alloc (.cells #[.int .i64 3,.slice (some ⟨w.heap.size+2,0,none⟩) 1 1] 42)).alloc (.cells #[.int .i64 4,.slice none 0 0] 42))).alloc (Nat.le_refl _) (.cells #[.slice (some ⟨w.heap.size+3,0,none⟩) 1 1,.slice (some ⟨w.heap.size+4,0,none⟩) 1 1] 40))).kept ((Below.refl _ ((((((w.alloc (.cells #[.int .i64 1] 3)).alloc (.cells (af (oE w.heap.size)) 26)).alloc (.cells #[.int .u32 7] 22)).alloc (.cells #[.int .i64 3,.slice (some ⟨w.heap.size+2,0,none⟩) 1 1] 42)).alloc (.cells #[.int .i64 4,.slice none 0 0] 42)).alloc (.cells #[.slice (some ⟨w.heap.size+3,0,none⟩) 1 1,.slice (some ⟨w.heap.size+4,0,none⟩) 1 1] 40))).alloc (Nat.le_refl _) (.cells #[.int .i64 0,.int .i64 0,.int .i64 0,.int .i64 0,.int .i64 1,.int .i64 1,.int .i64 1,.int .i64 1] 3)))
 ·exact(r5.kept ((Below.refl _ ((((((w.alloc (.cells #[.int .i64 1] 3)).alloc (.cells (af (oE w.heap.size)) 26)).alloc (.cells #[.int .u32 7] 22)).alloc (.cells #[.int .i64 3,.slice (some ⟨w.heap.size+2,0,none⟩) 1 1] 42)).alloc (.cells #[.int .i64 4,.slice none 0 0] 42)).alloc (.cells #[.slice (some ⟨w.heap.size+3,0,none⟩) 1 1,.slice (some ⟨w.heap.size+4,0,none⟩) 1 1] 40))).alloc (Nat.le_refl _) (.cells #[.int .i64 0,.int .i64 0,.int .i64 0,.int .i64 0,.int .i64 1,.int .i64 1,.int .i64 1,.int .i64 1] 3)))
 ·exact r6
theorem ip {α:Type} {E:Enc α} {t:TypeId} {w:World} {g:Nat} {arr:Array Value} {l:List α} (h:RowB w g arr t) (ha:arr.toList=E.all l) (hl:l.length≤1000) (_hs:E.size≤1000):Own E t 0 w (.slice (some ⟨g,0,none⟩) l.length l.length) l:=by
 have h1:=E.all_len l;have hm:l.length≤maxLen:=by unfold maxLen;omega
 unfold Own;refine⟨h1,.inr ⟨g,l.length,arr,rfl,Nat.zero_le _,h,Nat.le_refl _,hm,?_,?_⟩⟩
 ·rw[← h1,← ha];simp
 ·rw[ha];exact List.take_of_length_le (by rw[h1];exact Nat.le_refl _)
theorem KA {n:Nat} {w W:World} (h:Ex n w W):ProcsIn W W.heap.size (some ⟨n+5,0,none⟩) (CJ n):=by
 have h5:=ip (E:=Hs) (l:=CJ n) h.b5 rfl (by show 2≤1000;omega) (by show 1≤1000;omega);have h3:=ip (E:=tvE) (l:=[⟨3,some ⟨n+2,0,none⟩,1,[7]⟩]) h.b3 rfl (by show 1≤1000;omega) (by show 2≤1000;omega);have h4:=ip (E:=tvE) (l:=[⟨4,none,0,[]⟩]) h.b4 rfl (by show 1≤1000;omega) (by show 2≤1000;omega);have h2:=ip (E:=bn .u32) (l:=[7]) h.b2 rfl (by show 1≤1000;omega) (by show 1≤1000;omega);obtain⟨_,_,e5,_,_,s5⟩:=h5.sl;obtain⟨_,_,e3,_,_,s3⟩:=h3.sl;obtain⟨_,_,e4,_,_,s4⟩:=h4.sl;obtain⟨_,_,e2,_,_,s2⟩:=h2.sl;cases e5;cases e3;cases e4;cases e2;refine⟨s5,fun g hg=>?_,fun g hg=>?_,fun g hg t ht=>?_⟩
 ·simp only[CJ,List.mem_cons,List.not_mem_nil,or_false] at hg
  rcases hg with rfl | rfl
  ·exact s3
  ·exact s4
 ·simp only[CJ,List.mem_cons,List.not_mem_nil,or_false] at hg
  rcases hg with rfl | rfl <;> exact Nat.le_refl _
 ·simp only[CJ,List.mem_cons,List.not_mem_nil,or_false] at hg
  rcases hg with rfl | rfl
  ·obtain rfl:=List.mem_singleton.1 ht;exact⟨s2,fun z hz=>by obtain rfl:=List.mem_singleton.1 hz;rfl⟩
  ·obtain rfl:=List.mem_singleton.1 ht;exact⟨fun k x hk=>(by cases hk),fun z hz=>(by cases hz)⟩
theorem Et {es:List CV} {a b:Cl} (h:es.map (·.x)=[a,b]):∃ x y,es=[x,y]∧x.x=a∧y.x=b:=by
 match es,h with
 | [x,y],h=>
  simp only[List.map_cons,List.map_nil,List.cons.injEq,and_true] at h;exact⟨x,y,rfl,h.1,h.2⟩
theorem uV (w:World) (hT:Tab64 w) (hG:(0:Nat)<w.heap.size):Calls Tryz.prog 9 #[] w fun e w'=>e=.returned (.bool true)∧Below w.heap.size w w':=by
 obtain⟨n,hn⟩:∃ n,w.heap.size=n:=⟨_,rfl⟩
 have hr:∀ W,Ex n w W→Calls Tryz.prog 10 #[.agg (af (oE n)),.slice (some ⟨n+5,0,none⟩) 2 2,.slice (some ⟨n+6,0,none⟩) 8 8] W (FQ (oE n) (CJ n) (aW (oE n) []) Eq W):=fun W hE=>by
  have h6:=ip (E:=bn .i64) (l:=Eq) hE.b6 rfl (by show 8≤1000;omega) (by show 1≤1000;omega);obtain⟨_,_,e6,_,_,s6⟩:=h6.sl;cases e6;refine Cm (oE n) (LX n) (some ⟨n+5,0,none⟩) (some ⟨n+6,0,none⟩) 2 8 (CJ n) [] Eq W (KA hE) (by show 2≤1000;omega) (fun g hg=>?_) (fun g hg t ht=>?_) (wW n) rfl ⟨fun k x hk=>(by cases hk),fun z hz=>(by cases hz)⟩ s6 (by show 8≤1000;omega) (fun j hj=>(hE.bel.cell (p:=⟨_,j,none⟩) (by rw[← hn];exact hG)).trans (hT j hj)) (by have h1:=hE.size;omega)
  ·simp only[CJ,List.mem_cons,List.not_mem_nil,or_false] at hg
   rcases hg with rfl | rfl <;> (show 1≤1000;omega)
  ·simp only[CJ,List.mem_cons,List.not_mem_nil,or_false] at hg
   rcases hg with rfl | rfl
   ·obtain rfl:=List.mem_singleton.1 ht;show 1≤1000;omega
   ·obtain rfl:=List.mem_singleton.1 ht;show 0≤1000;omega
 have HE:=hid (KB w n hn);unfold oE af at HE hr;dsimp only at HE hr;have HR:=hid hr;have HN:=hid hn;clear hr hT hG;rw[hn];go_enter Tryz.func9,Tryz.ntmps9;go_wp2_with fail;refine(HR.out _ HE.out).mono ?_;rintro e w1 ⟨A,c,es,rfl,_,_,hx,aj,dV,hb⟩;rw[DO,show(⟨6,1,1,0,0,none,0,0,0,some ⟨n,0,none⟩,1,1⟩:Ob)=oE n from rfl,wV] at hx;obtain⟨e0,e1,rfl,h0,h1⟩:=Et hx;obtain⟨b,off,hA,_,g0⟩:=aj 0 e0 rfl;obtain⟨b2,off2,dZ,_,g1⟩:=aj 1 e1 rfl;rw[hA] at dZ;cases dZ;subst hA;have z0:w1.cell? ⟨b,off+6,none⟩=some (.int .i64 3):=by have:=g0 6 _ rfl;rw[h0] at this;simpa [cvE] using this
 have y0:w1.cell? ⟨b,off+7,none⟩=some (.int .i64 1):=by have:=g1 0 _ rfl;rw[h1] at this;simpa [cvE] using this
 have y1:w1.cell? ⟨b,off+8,none⟩=some (.int .i64 0):=by have:=g1 1 _ rfl;rw[h1] at this;simpa [cvE] using this
 have y2:w1.cell? ⟨b,off+9,none⟩=some (.int .i64 4):=by have:=g1 2 _ rfl;rw[h1] at this;simpa [cvE] using this
 have y3:w1.cell? ⟨b,off+10,none⟩=some (.slice e1.A 1 e1.c):=by have:=g1 3 _ rfl;rw[h1] at this;simpa [cvE] using this
 have y4:w1.cell? ⟨b,off+11,none⟩=some (.int .i64 0):=by have:=g1 4 _ rfl;rw[h1] at this;simpa [cvE] using this
 have y5:w1.cell? ⟨b,off+12,none⟩=some (.int .i64 4):=by have:=g1 5 _ rfl;rw[h1] at this;simpa [cvE] using this
 have y6:w1.cell? ⟨b,off+13,none⟩=some (.int .i64 7):=by have:=g1 6 _ rfl;rw[h1] at this;simpa [cvE] using this
 have O5:=dV e1 (List.mem_cons_of_mem _ List.mem_cons_self);rw[h1] at O5;have bG:=bK w1 (.cells #[.int .u32 7] 22);have Rq:=ip (E:=bn .u32) (l:=[7]) (RowB.new w1 #[.int .u32 7] 22) rfl (by show 1≤1000;omega) (by show 1≤1000;omega);obtain⟨_,_,e7,_,_,s7⟩:=Rq.sl;cases e7;have HP:=hid (Bd ⟨1,0,4,[7],0,4,7⟩ e1.A (some ⟨w1.heap.size,0,none⟩) e1.c 1 (w1.alloc (.cells #[.int .u32 7] 22)) (by show 1≤_;omega) (O5.below bG bG.size) ⟨s7,fun z hz=>by obtain rfl:=List.mem_singleton.1 hz;rfl⟩);have HB:=hid ((HE.out.bel.trans (hb.mono (by have:=HE.out.size;omega))).trans (bG.mono (by have h1:=HE.out.size;have h2:=hb.size;omega)));clear hx g0 g1 aj dV hb O5 bG Rq s7 h0 h1 HR;go_wp2_with (go_at_call 29;refine HP.out.mono ?_;rintro e w2 ⟨rfl,aO⟩);go_ret;exact⟨rfl,HB.out.trans (aO.mono (by rw[← HN.out];exact HB.out.size))⟩
end Go.Proofs.YtabfcjohdgjkoaaGreatDoor
