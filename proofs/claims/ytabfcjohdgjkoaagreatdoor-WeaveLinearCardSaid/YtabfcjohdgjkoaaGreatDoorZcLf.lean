/- Calls in slices: whether they are a history; equal records. -/
import Derived.Test.YtabfcjohdgjkoaaGreatDoorZcLa
namespace Go.Proofs.YtabfcjohdgjkoaaGreatDoor
open Go.RowKit
open Go.Lib (hid)
set_option maxHeartbeats 4000000
set_option maxRecDepth 100000
def kh (x:Cl) (A:Option Addr) (c:Nat):Value:=.agg #[.int .i64 x.p,.int .i64 x.o,.int .i64 x.q,.slice A x.r.length c,.int .i64 x.c,.int .i64 x.b,.int .i64 x.e]
theorem fG (x y:Cl) (A A':Option Addr) (c c':Nat) (w:World):Calls Tryz.prog 34 #[kh x A c,kh y A' c'] w fun r w'=>r=.returned (.bool (dx x y))∧Below w.heap.size w w':=by
 obtain⟨p,o,q,r,cc,b,e⟩:=x;obtain⟨p2,o2,q2,r2,cc2,b2,e2⟩:=y;unfold kh;simp only;have hr:dx ⟨p,o,q,r,cc,b,e⟩ ⟨p2,o2,q2,r2,cc2,b2,e2⟩=(decide (0≤e)&&decide (e<b2)):=rfl;rw[hr]
 rcases h1:decide (0≤e) with _ | _ <;> rcases h2:decide (e<b2) with _ | _
 all_goals
  go_enter Tryz.func34,Tryz.ntmps34;go_wp2_with fail;go_ret;exact⟨rfl,((Below.refl _ w).alloc (Nat.le_refl _) _).alloc (by simp) _⟩
theorem sK (n:Int) (w:World):Calls Tryz.prog 62 #[.int .i64 n] w fun e w'=>e=.returned (.bool (xt n))∧w'=w:=by
 rcases h1:decide (0≤n) with _ | _ <;> rcases h2:decide (n≤1099511627776) with _ | _
 all_goals
  have hr:xt n=(decide (0≤n)&&decide (n≤1099511627776)):=rfl;rw[h1,h2] at hr;have Tv:=hid hr;clear hr;go_enter Tryz.func62,Tryz.ntmps62;go_wp2_with fail;go_ret;exact⟨az (by rw[Tv.out];rfl),rfl⟩
theorem ut (x:Cl) (A:Option Addr) (c:Nat) (w:World):Calls Tryz.prog 33 #[kh x A c] w fun r w'=>r=.returned (.bool (Dg x))∧Below w.heap.size w w':=by
 obtain⟨p,o,q,r,cc,b,e⟩:=x;unfold kh;simp only;have hr:Dg ⟨p,o,q,r,cc,b,e⟩=(xt p&&xt o&&xt b&&decide (1≤q)&&decide (q≤4)&&decide (0≤cc)&&decide (cc≤3)&&(e==-1 || decide (b≤e)&&xt e)&&decide (r.length≤8)):=rfl;rw[hr];clear hr;go_enter Tryz.func33,Tryz.ntmps33;go_wp2_with (go_at_call 62;refine(sK _ _).mono ?_;rintro e w1 ⟨rfl,rfl⟩)
 all_goals
  go_ret;exact⟨az (by simp[*] <;> omega),(Below.refl _ w).alloc (Nat.le_refl _) _⟩
def ClSl (w:World) (B:Nat) (A:Option Addr) (l:List Cl):Prop:=∀ (k:Nat) (x:Cl),l[k]?=some x→∃ b off Ar c,A=some ⟨b,off,none⟩∧b<B∧
 (w.cell? ⟨b,off+k*7,none⟩=some (.int .i64 x.p)∧w.cell? ⟨b,off+k*7+1,none⟩=some (.int .i64 x.o)∧w.cell? ⟨b,off+k*7+2,none⟩=some (.int .i64 x.q)∧w.cell? ⟨b,off+k*7+3,none⟩=some (.slice Ar x.r.length c)∧
  w.cell? ⟨b,off+k*7+4,none⟩=some (.int .i64 x.c)∧w.cell? ⟨b,off+k*7+5,none⟩=some (.int .i64 x.b)∧w.cell? ⟨b,off+k*7+6,none⟩=some (.int .i64 x.e))∧Ws w B Ar x.r∧x.r.length≤1000∧True
theorem ClSl.below {w w':World} {B B':Nat} {A:Option Addr} {l:List Cl} (h:ClSl w B A l) (hb:Below B w w') (hB:B≤B'):ClSl w' B' A l:=fun k x hx=>by
 obtain⟨b,off,Ar,c,hA,aJ,⟨h0,h1,h2,h3,h4,h5,h6⟩,hr,di⟩:=h k x hx;have hk:∀ {i:Nat} {u:Value},w.cell? ⟨b,i,none⟩=some u→w'.cell? ⟨b,i,none⟩=some u:=fun {i u} hc=>(hb.cell (p:=⟨b,i,none⟩) aJ).trans hc
 exact⟨b,off,Ar,c,hA,by omega,⟨hk h0,hk h1,hk h2,hk h3,hk h4,hk h5,hk h6⟩,hr.below hb hB,di⟩
def ClBox (W:World) (B:Nat) (x:Cl) (A:Option Addr) (c:Nat):Prop:=W.heap[B]?=some (.cells #[.int .i64 x.p,.int .i64 x.o,.int .i64 x.q,.slice A x.r.length c,.int .i64 x.c,.int .i64 x.b,.int .i64 x.e] 62 (0,0))
section
variable {W W':World} {B:Nat} {x:Cl} {A:Option Addr} {c:Nat}
theorem ClBox.lt (h:ClBox W B x A c):B<W.heap.size:=(Array.getElem?_eq_some_iff.1 h).1
theorem ClBox.new (W:World) (x:Cl) (A:Option Addr) (c:Nat):ClBox (W.alloc (.cells #[.int .i64 x.p,.int .i64 x.o,.int .i64 x.q,.slice A x.r.length c,.int .i64 x.c,.int .i64 x.b,.int .i64 x.e] 62)) W.heap.size x A c:=heap_alloc_new W _
theorem ClBox.cells (h:ClBox W B x A c):W.cell? ⟨B,0,none⟩=some (.int .i64 x.p)∧W.cell? ⟨B,1,none⟩=some (.int .i64 x.o)∧W.cell? ⟨B,2,none⟩=some (.int .i64 x.q)∧W.cell? ⟨B,3,none⟩=some (.slice A x.r.length c)∧W.cell? ⟨B,4,none⟩=some (.int .i64 x.c)∧W.cell? ⟨B,5,none⟩=some (.int .i64 x.b)∧W.cell? ⟨B,6,none⟩=some (.int .i64 x.e):=by
 refine⟨?_,?_,?_,?_,?_,?_,?_⟩ <;> simp[World.cell?,show W.heap[B]?=_ from h]
theorem ClBox.kept (h:ClBox W B x A c) (hb:Below W.heap.size W W'):ClBox W' B x A c:=(hb.block B h.lt).trans h
end
theorem sX (x y:Cl):((x.p==y.p)=false∧fU x y=true)∨((x.p==y.p)=true∧dx x y=true∧fU x y=true)∨((x.p==y.p)=true∧dx x y=false∧dx y x=true∧fU x y=true)∨((x.p==y.p)=true∧dx x y=false∧dx y x=false∧fU x y=false):=by
 unfold fU;cases (x.p==y.p) <;> cases dx x y <;> cases dx y x <;> simp
theorem gS (A:Option Addr) (c:Nat) (l:List Cl) (w:World) (hn:l.length≤1000) (hc:l.length≤c) (hl:ClSl w w.heap.size A l):
  Calls Tryz.prog 12 #[.slice A l.length c] w fun e w'=>e=.returned (.bool (eu l))∧Below w.heap.size w w':=by
 go_enter Tryz.func12,Tryz.ntmps12;go_wp2_with fail
 go_loopw [9] (fun j wr=>∃ k:Nat,k≤l.length∧j=.int .i64 k∧(∀ i,i<k→jL l i)∧Below w.heap.size w wr) (fun j _=>l.length - (intOf j).toNat)
 case atStart=>exact⟨0,Nat.zero_le _,rfl,fun i h=>by omega,Below.refl _ _⟩
 case round=>
  obtain⟨k,hk,rfl,eS,hb⟩:=hrel
  by_cases aJ:k<l.length
  ·obtain⟨x,hx⟩:=bu aJ;obtain⟨b,off,Ax,cx,rfl,rN,⟨h0,h1,h2,h3,h4,h5,h6⟩,_⟩:=(hl.below hb (Nat.le_refl _)) k x hx;have sJ:=ut x Ax cx (wr.alloc (.cells #[.int .i64 x.p,.int .i64 x.o,.int .i64 x.q,.slice Ax x.r.length cx,.int .i64 x.c,.int .i64 x.b,.int .i64 x.e] 62));have bF:=hb.alloc hb.size (.cells #[.int .i64 x.p,.int .i64 x.o,.int .i64 x.q,.slice Ax x.r.length cx,.int .i64 x.c,.int .i64 x.b,.int .i64 x.e] 62);have ar:=ClBox.new wr x Ax cx;have CQ:=hid hx;have zB:=hid eS;clear hx eS
   rcases hq:Dg x with _ | _
   ·rw[hq] at sJ;have Iq:=hid sJ
    have rQ:=hid (mz aJ (fun h=>by
     have:=(h x CQ.out).1;rw[hq] at this;cases this))
    clear sJ hq;go_wp2_with fail;refine Iq.out.mono ?_;rintro e w1 ⟨rfl,aq⟩;go_wp2_with fail;go_ret;exact⟨az (by rw[rQ.out]),bF.trans (aq.mono bF.size)⟩
   ·rw[hq] at sJ;have Iq:=hid sJ;have Tu:=hid hq;clear sJ hq;have k9:(k:Int)≤(l.length:Int):=by omega
    have UQ:(k:Int)≤(c:Int):=by omega
    obtain⟨nb,jI⟩:∃ n,wr.heap.size=n:=⟨_,rfl⟩;go_wp2_with fail;refine Iq.out.mono ?_;rintro e w1 ⟨rfl,aq⟩;have KS:=ar.kept aq;have dO:=bF.trans (aq.mono bF.size);rw[jI] at KS;clear ar aq bF;go_wp2_with fail
    go_loopw [21] (fun j wq=>∃ m:Nat,m≤k∧j=.int .i64 m∧(∀ i y,i<m→l[i]?=some y→fU x y=true)∧ClBox wq nb x Ax cx∧Below w.heap.size w wq) (fun j _=>k - (intOf j).toNat)
    case atStart=>exact⟨0,Nat.zero_le _,rfl,fun i y h=>by omega,KS,dO⟩
    case round=>
     obtain⟨m,hm,rfl,Ef,Hp,F3⟩:=hrel
     by_cases Tg:m<k
     ·obtain⟨y,hy⟩:=bu (show m<l.length by omega);obtain⟨b',off',Ay,cy,hA,_,⟨g0,g1,g2,g3,g4,g5,g6⟩,_⟩:=(hl.below F3 (Nat.le_refl _)) m y hy
      injection hA with hA
      injection hA with DQ dZ
      subst DQ dZ;have zr:=F3.alloc F3.size (.cells #[.int .i64 y.p,.int .i64 y.o,.int .i64 y.q,.slice Ay y.r.length cy,.int .i64 y.c,.int .i64 y.b,.int .i64 y.e] 62);have yj:=ClBox.new wr y Ay cy;have zK:=Hp.kept ((Below.refl _ wr).alloc (Nat.le_refl _) (.cells #[.int .i64 y.p,.int .i64 y.o,.int .i64 y.q,.slice Ay y.r.length cy,.int .i64 y.c,.int .i64 y.b,.int .i64 y.e] 62));obtain⟨d0,d1,d2,d3,d4,d5,d6⟩:=Hp.cells;have Ot:=Hp.lt;have OB:nb≠wr.heap.size:=by omega
      have Tk:(m:Int)<(k:Int):=by omega
      have aq:=hid (fun W=>fG x y Ax Ay cx cy W);have aO:=hid (fun W=>fG y x Ay Ax cy cx W);have IB:=hid hy;have In:=hid Ef;have hP:=sX x y;clear hy Ef
      rcases hP with ⟨p1,p2⟩ | ⟨p1,p2,p3⟩ | ⟨p1,p2,p3,p4⟩ | ⟨p1,p2,p3,p4⟩
      ·have pp:=hid p2;clear p2;go_wp2_with fail;go_roundw
       case rel=>exact⟨m+1,by omega,by go_num,fun i z hi hz=>by
         by_cases e:i=m
         ·subst e;have:=IB.out;rw[hz] at this;cases this;exact pp.out
         ·exact In.out i z (by omega) hz,zK,zr⟩
       case measure=>simp[intOf];omega
      ·have pp:=hid p3;have ue:=aq.out;rw[p2] at ue;have zE:=hid ue;clear p3 p2 ue aq aO;go_wp2_with fail;refine(zE.out _).mono ?_;rintro e w3 ⟨rfl,gR⟩;have DZ:=zK.kept gR;have iN:=zr.trans (gR.mono zr.size);go_wp2_with fail;go_roundw
       case rel=>exact⟨m+1,by omega,by go_num,fun i z hi hz=>by
         by_cases e:i=m
         ·subst e;have:=IB.out;rw[hz] at this;cases this;exact pp.out
         ·exact In.out i z (by omega) hz,DZ,iN⟩
       case measure=>simp[intOf];omega
      all_goals
       have pp:=hid p4;have ue:=aq.out;have zF:=aO.out;rw[p2] at ue;rw[p3] at zF;have zE:=hid ue;have KQ:=hid zF;clear p4 p3 p2 ue aq aO zF;go_wp2_with fail;refine(zE.out _).mono ?_;rintro e w3 ⟨rfl,gR⟩;have DZ:=zK.kept gR;have KU:=yj.kept gR;have iN:=zr.trans (gR.mono zr.size);obtain⟨mb,qe⟩:∃ n,wr.heap.size=n:=⟨_,rfl⟩;rw[qe] at KU;clear d0 d1 d2 d3 d4 d5 d6 Ot OB yj;obtain⟨d0,d1,d2,d3,d4,d5,d6⟩:=DZ.cells;obtain⟨e0,e1,e2,e3,e4,e5,e6⟩:=KU.cells;go_wp2_with fail;refine(KQ.out _).mono ?_;rintro e w4 ⟨rfl,uf⟩;have NV:=DZ.kept uf;have kF:=iN.trans (uf.mono iN.size);go_wp2_with fail
       first
        | (go_roundw
           case rel=>exact⟨m+1,by omega,by go_num,fun i z hi hz=>by
             by_cases e:i=m
             ·subst e;have:=IB.out;rw[hz] at this;cases this;exact pp.out
             ·exact In.out i z (by omega) hz,NV,kF⟩
           case measure=>simp[intOf];omega)
        | (go_ret
           exact⟨az (by rw[uK CQ.out IB.out (by omega) pp.out]),kF⟩)
     ·have vS:m=k:=by omega
      subst vS
      have yn:=hid (show jL l m from fun x2 pd=>by
       have:=CQ.out;rw[pd] at this;cases this;exact⟨Tu.out,fun i y hi hy=>Ef i y hi hy⟩)
      clear Ef;go_wp2_with fail;go_roundw
      case rel=>exact⟨m+1,by omega,by go_num,fun i hi=>by
        by_cases e:i=m
        ·subst e;exact yn.out
        ·exact zB.out i (by omega),F3⟩
      case measure=>simp[intOf];omega
  ·have hr:=hid (oQ (l:=l) (fun i hi=>eS i (by omega)));clear eS;go_wp2_with fail;go_ret;exact⟨az (by rw[hr.out]),hb⟩
theorem mM {B:Nat} {a w:World} (h:Below B a w):∀ n:Nat,Below B a (w.drewN n)
 | _=>⟨h.os,h.tape,h.output,h.size,h.block⟩
theorem iu {α:Type} {l:List α} {k:Nat} (h:¬ k<l.length):l.take k=l:=List.take_of_length_le (by omega)
set_option maxHeartbeats 400000
theorem wU (A A':Option Addr) (c c':Nat) (l m:List Int) (w:World) (hn:l.length≤9223372036854775807) (_hm:m.length≤9223372036854775807) (hl:Ws w w.heap.size A l) (Ld:Ws w w.heap.size A' m):
  Calls Tryz.prog 117 #[.slice A l.length c,.slice A' m.length c'] w fun e w'=>e=.returned (.bool (decide (l=m)))∧Below w.heap.size w w':=by
 by_cases bf:l.length=m.length
 ·have x0:((l.length:Int) != (m.length:Int))=false:=by simp[bf]
  have zW:=hid bf;clear bf;go_enter Tryz.func117,Tryz.ntmps117;go_wp2
  go_loopw [5,13] (fun i j wr=>∃ k:Nat,k≤l.length∧j=.int .i64 k∧l.take k=m.take k∧Below w.heap.size w wr) (fun _ j _=>l.length - (intOf j).toNat)
  case atStart=>exact⟨0,Nat.zero_le _,rfl,rfl,Below.refl _ _⟩
  case round=>
   obtain⟨k,hk,rfl,Hv,hb⟩:=hrel
   by_cases aJ:k<l.length
   ·obtain⟨x,hx⟩:=bu aJ;obtain⟨y,hy⟩:=bu (show k<m.length by have:=zW.out;omega);obtain⟨⟨_,_,_⟩,b,off,rfl,rN,h0⟩:=(hl.below hb (Nat.le_refl _)).get hx;obtain⟨⟨_,_,_⟩,b2,off2,rfl,Om,h1⟩:=(Ld.below hb (Nat.le_refl _)).get hy;have vS:(k:Int)<m.length:=by have:=zW.out;omega
    have N4:=hid Hv;have CQ:=hid hx;have IB:=hid hy;clear Hv hx hy
    by_cases hxy:x=y
    ·have x1:(x != y)=false:=by simp[hxy]
     have O9:=hid hxy;clear hxy;go_wp2
     go_quiet (fail)
     go_wp2;go_roundw
     case rel=>exact⟨k+1,by omega,by go_num,by rw[bp CQ.out,bp IB.out,N4.out,O9.out],mM hb _⟩
     case measure=>simp[intOf];omega
    ·have x1:(x != y)=true:=by simp[hxy]
     go_wp2
     go_quiet (fail)
     go_wp2;go_ret;refine⟨az ?_,mM hb _⟩
     symm
     rw[decide_eq_false_iff_not];intro e;have:=CQ.out;rw[e,IB.out] at this;exact hxy (by injection this with h;exact h.symm)
   ·have h1:=iu aJ;have h2:m.take k=m:=iu (by have:=zW.out;omega);have h3:=hid (show l=m by rw[← h1,Hv,h2]);clear h1 h2 Hv;go_wp2;go_ret;exact⟨az (by simpa using h3.out),hb⟩
 ·have x0:((l.length:Int) != (m.length:Int))=true:=by simp;omega
  go_enter Tryz.func117,Tryz.ntmps117;go_wp2;go_ret;exact⟨az (by symm;rw[decide_eq_false_iff_not];intro e;exact bf (by rw[e])),Below.refl _ _⟩
theorem ly (A A':Option Addr) (c c':Nat) (l m:List Int) (w:World) (hn:l.length≤9223372036854775807) (hm:m.length≤9223372036854775807) (hl:Ws w w.heap.size A l) (Ld:Ws w w.heap.size A' m):
  Calls Tryz.prog 67 #[.slice A l.length c,.slice A' m.length c'] w fun e w'=>e=.returned (.bool (decide (l=m)))∧Below w.heap.size w w':=by
 go_enter Tryz.func67,Tryz.ntmps67;go_wp2_with fail;refine(wU A A' c c' l m w hn hm hl Ld).mono ?_;rintro e w' ⟨rfl,hb⟩;go_wp2_with fail;go_ret;exact⟨rfl,hb⟩
def IZ (k:Int) (i:Nat):Int:=(k*(2*i+1)+i)%4294967296
def Pw (k:Int) (n:Nat):List Int:=(List.range n).map (IZ k)
def L7 (width:Int):Nat:=(max 0 (min width 8)).toNat
end Go.Proofs.YtabfcjohdgjkoaaGreatDoor
