/- linfifo.Check, linfifo.Follows. -/
import Derived.Test.YtabfcjohdgjkoaaGreatDoorZcLs
import Derived.Test.YtabfcjohdgjkoaaGreatDoorShelf
import Derived.Lib.OwnBridge
import Derived.Sort.OwnSortedInts
namespace Go.Proofs.YtabfcjohdgjkoaaGreatDoor
open Go.RowKit
theorem oM {base:Nat} {w:World} {A:Option Addr} {n c:Nat} {xs:List Int} (h:Own (bn .i64) 3 base w (.slice A n c) xs) (h0:xs≠[]):Value.slice A n c≠.slice none 0 0:=fun e=>by
 obtain⟨A',c',hv,_,hn,_⟩:=h.sl;rw[e] at hv
 injection hv with e1 e2 e3
 exact h0 (List.eq_nil_of_length_eq_zero e2.symm)
theorem sW {base:Nat} {w:World} {v:Value} {xs:List Int} (h:Own (bn .i64) 3 base w v xs):w.ownsRow base 3 1 v xs.length (xs.map (Value.int .i64)):=by
 have:=h;unfold Own at this;rw[show(bn .i64).all xs=xs.map (Value.int .i64) from iI _ _ _,show(bn .i64).size=1 from rfl] at this;exact this
theorem wv {base:Nat} {w:World} {v:Value} {xs:List Int} (h:w.ownsRow base 3 1 v xs.length (xs.map (Value.int .i64))):Own (bn .i64) 3 base w v xs:=by
 unfold Own;rw[show(bn .i64).all xs=xs.map (Value.int .i64) from iI _ _ _];exact h
def U5 (x y:Int):Bool:=decide (x≤y)
theorem xX {base:Nat} {w:World} {v:Value} {xs:List Int} (h:Own (bn .i64) 3 base w v xs) (hn:xs.length≤8796093022208) (hb:base≤w.heap.size):
  Calls Tryz.prog 114 #[v] w fun e w'=>e=.returned (.tuple #[])∧Own (bn .i64) 3 base w' v (xs.mergeSort fun x y=>decide (x≤y))∧Below base w w':=by
 obtain⟨A',c',rfl,_,_,_⟩:=h.sl
 by_cases h0:xs=[]
 ·subst h0;refine(Tryz.slices_Sort_int_none _ _ _).mono ?_;rintro e w1 ⟨rfl,rfl⟩;exact⟨rfl,by rw[List.mergeSort_nil];exact h,Below.refl _ _⟩
 ·have hv:=oM h h0;have sH:=sW h;obtain⟨g,cap,O1,hg,yl,F9,Q3,JM,hH⟩:=Lib.holds_of_ownsRow sH hv
  injection O1 with e1 _ e3
  subst e1 e3;have hS:=Tryz.slices_Sort_int g 0 c' xs w hH yl (by omega)
  obtain⟨cur,xk,lJ⟩:∃ cur,w.heap[g]?=some (.cells cur 3 (0,0))∧cur.size=c'*1:=by
   rcases sH.2 with ⟨h,_⟩ | ⟨g',cap',cur,h,_,h3,_,_,h6,_⟩
   ·exact absurd h hv
   ·injection h with h1 _ DP
    injection h1 with h1
    injection h1 with h1
    subst h1 DP;exact⟨cur,h3,h6⟩
  refine hS.mono ?_;rintro e w1 ⟨rfl,n,os,rfl⟩;refine⟨rfl,?_,(Below.refl base w).grown (grownBy_sortedI (w:=w) (g:=g) (n:=n) (os:=os) _) hb (fun k hk=>by injection hk with hk;omega)⟩;have:=ownsRow_sortedI (w:=w) (base:=base) (g:=g) (cap:=c') (n:=n) (e:=3) (os:=os) (cur:=cur) (ss:=xs) (ts:=xs.mergeSort fun x y=>decide (x≤y)) (List.length_mergeSort _) hg xk (by simpa using F9) Q3 lJ;refine wv ?_;rw[List.length_mergeSort];exact this
theorem wQ {base:Nat} {w:World} {v:Value} {xs:List Int} (h:Own (bn .i64) 3 base w v xs) (hn:xs.length≤8796093022208):
  Calls Tryz.prog 115 #[v] w fun e w'=>∃ v',e=.returned v'∧Own (bn .i64) 3 base w' v' (Lib.compact xs)∧Below base w w':=by
 obtain⟨A',c',rfl,_,_,_⟩:=h.sl
 by_cases h0:xs=[]
 ·subst h0;refine(Tryz.slices_Compact_int_empty _ _ _).mono ?_;rintro e w1 ⟨rfl,rfl⟩;exact⟨_,rfl,by rw[show Lib.compact ([]:List Int)=[] from rfl];exact h,Below.refl _ _⟩
 ·have hv:=oM h h0;have sH:=sW h;obtain⟨g,cap,O1,hg,yl,F9,Q3,JM,hH⟩:=Lib.holds_of_ownsRow sH hv
  injection O1 with e1 _ e3
  subst e1 e3;have hC:=Tryz.slices_Compact_int g 0 c' xs w hH (by omega) (by omega);have iw:=Lib.compact_length_le xs;refine hC.mono ?_;rintro e w2 ⟨rfl,q,rfl⟩;refine⟨_,rfl,?_,Lib.below_putRow (Below.refl base w) (by omega)⟩;have:=Lib.ownsRow_putRow (q:=q) (k:=(Lib.compact xs).length) (ys:=Lib.compact xs++List.replicate (xs.length - (Lib.compact xs).length) 0) sH (by simp;omega) iw;rw[List.take_left' rfl] at this;exact wv this
open Go.RowKit Go.Maps
open Go.Lib (hid)
set_option maxHeartbeats 8000000
set_option maxRecDepth 100000
theorem mK:∀ {a b:Nat},a≤b→fN a≤fN b
 | 0,_,_=>Nat.zero_le _
 | a+1,b+1,h=>by
  have:=mK (a:=a) (b:=b) (by omega);simp only[fN];omega
theorem wM:fN 41≤8796093022208:=by decide
def qH (n:Int) (S:List Cl):List Int:=(m4 n (aR S) (aH S) (S.length+1) ⟨0,0,0,0⟩ ([],[])).2
def oI (n:Int) (S:List Cl):List Int:=Lib.compact ((qH n S).mergeSort fun x y=>decide (x≤y))
def Kr (n:Int) (l:List Cl) (w:World) (e:Ending) (w':World):Prop:=∃ v Z,e=.returned v∧Own (bn .i64) 3 w.heap.size w' v Z∧(dr l=false→Z=[])∧(dr l=true→∃ S,SortOf S l∧Z=oI n S)∧Below w.heap.size w w'
theorem lk {W:World} {fb bm:Nat} {w0:World} {mid:Nat} (h:hJ mid fb bm w0 W) (j:Nat) (v:Value):hJ mid fb bm w0 (W.setCell ⟨fb,j,none⟩ v):=⟨by rw[qk];exact h.1,fun b h1 h2 h3=>(jJ W fb j v b h2).trans (h.2 b h1 h2 h3)⟩
theorem mu (mid fb bm:Nat) (W:World) (h:mid≤W.heap.size):hJ mid fb bm W W:=⟨h,fun _ _ _ _=>rfl⟩
theorem Ep {W W':World} {fb bm:Nat} {w0:World} {mid:Nat} (h:hJ mid fb bm w0 W) (hb:Below W.heap.size W W'):hJ mid fb bm w0 W':=⟨Nat.le_trans h.1 hb.size,fun b h1 h2 h3=>(hb.block b (by have:=h.1;omega)).trans (h.2 b h1 h2 h3)⟩
theorem uR (l:List Cl):l.Perm (aR l++aH l):=(List.filter_append_perm _ l).symm
theorem sQ (n:Int) (A:Option Addr) (c:Nat) (l:List Cl) (w:World) (hn:l.length≤40) (hc:l.length≤c) (hr:RisesC A c l w) (hl:ClSl w w.heap.size A l):
  Calls Tryz.prog 63 #[.int .i64 n,.slice A l.length c] w (Kr n l w):=by
 have am:=qi A c l w (by omega) hc hl;cases hf:dr l with
 | false=>
  rw[hf] at am;have HF:=hid am;have Fx:=hid hf;clear am hf hl;go_enter Tryz.func63,Tryz.ntmps63;go_wp2_with fail;refine HF.out.mono ?_;rintro e w1 ⟨rfl,aq⟩;go_wp2_with fail;go_ret;exact⟨_,[],rfl,Own.nil _ _,fun _=>rfl,fun h=>(by rw[Fx.out] at h;cases h),aq⟩
 | true=>
  rw[hf] at am;have HF:=hid am;have Fx:=hid hf;have M6:=hid hl;have Ie:=@run_makeMap Tryz.prog;clear am hf hl;go_enter Tryz.func63,Tryz.ntmps63;go_wp2_with fail;refine HF.out.mono ?_;rintro e w1 ⟨rfl,aq⟩;obtain⟨bm,zJ⟩:∃ x,w1.heap.size=x:=⟨_,rfl⟩;have bG:=bK w1 (.map #[] 0);have cH:=bG.alloc bG.size (.cells #[.int .i64 n,.slice none 0 0,.slice none 0 0,.slice none 0 0,.map (some bm),.slice none 0 0] 146);have fY:=heap_alloc_new w1 (.map #[] 0);have rO:=au fY ((Below.refl _ (w1.alloc (.map #[] 0))).alloc (Nat.le_refl _) (.cells #[.int .i64 n,.slice none 0 0,.slice none 0 0,.slice none 0 0,.map (some bm),.slice none 0 0] 146));have iD:=heap_alloc_new (w1.alloc (.map #[] 0)) (.cells #[.int .i64 n,.slice none 0 0,.slice none 0 0,.slice none 0 0,.map (some bm),.slice none 0 0] 146);rw[World.size_alloc] at iD;have fl:=aq.trans (cH.mono aq.size);have O2:w.heap.size≤bm:=by rw[← zJ];exact aq.size
  obtain⟨W2,gj⟩:∃ x,(w1.alloc (.map #[] 0)).alloc (.cells #[.int .i64 n,.slice none 0 0,.slice none 0 0,.slice none 0 0,.map (some bm),.slice none 0 0] 146)=x:=⟨_,rfl⟩;rw[zJ] at fY rO iD;rw[gj] at rO iD fl;have At:=hid (qq A c l W2 (by omega) (hr.below fl) (M6.out.below fl fl.size));have bk:=hid rO;have PI:=hid iD;have Fu:=hid fl;clear aq bG cH fY rO iD fl;go_wp2_with fail;refine At.out.mono ?_;rintro e w3 ⟨S,A1,c1,A2,c2,rfl,hS,⟨hP,eI⟩,⟨hT,eT⟩,gR⟩;have Ah:=hS.perm;have MD:S.length=l.length:=Ah.length_eq;have ov:=qK Fx.out;have CK:FBox w3 (bm+1) n none 0 0 none 0 0 none 0 0 bm (.slice none 0 0):=au PI.out gR;have CN:=au bk.out gR;have iN:=Fu.out.trans (gR.mono Fu.out.size);have Op:=cK CK;have Gg:(aR S).length≤S.length:=List.length_filter_le _ _;have fJ:(aH S).length≤S.length:=List.length_filter_le _ _;have jW:∀ x ∈ aR S,pe x=true∧x.q=3:=fun x hx=>⟨ov x (Ah.subset ((jy.1 hx).1)),(jy.1 hx).2⟩
  have zV:left (aR S) (aH S) ⟨0,0,0,0⟩<S.length+1:=by
   have h1:=(uR S).length_eq;rw[List.length_append] at h1;unfold left;simp only;omega
  obtain⟨P,DV⟩:∃ x,aR S=x:=⟨_,rfl⟩;obtain⟨T,DW⟩:∃ x,aH S=x:=⟨_,rfl⟩;rw[DV] at hP eI Gg jW zV;rw[DW] at hT eT fJ zV;rw[DV,DW];have F5:qH n S=(m4 n P T (S.length+1) ⟨0,0,0,0⟩ ([],[])).2:=by rw[← DV,← DW];rfl
  have JX:=hid F5;have Nl:=hid hS;have SJ:S.length≤40:=by omega
  obtain⟨fb,S1⟩:∃ x,bm+1=x:=⟨_,rfl⟩;rw[S1] at CK Op;have D7:bm≠fb:=by omega
  have ST:bm<fb:=by omega
  have Jw:FBox ((w3.setCell ⟨fb,1,none⟩ (.slice A1 P.length c1)).setCell ⟨fb,2,none⟩ (.slice A2 T.length c2)) fb n A1 P.length c1 A2 T.length c2 none 0 0 bm (.slice none 0 0):=by
   have h1:=bj w3 fb _ _ 1 (.slice A1 P.length c1) CK;have h2:=bj _ fb _ _ 2 (.slice A2 T.length c2) h1
   simpa [FBox] using h2
  have fX:hJ w3.heap.size fb bm w3 ((w3.setCell ⟨fb,1,none⟩ (.slice A1 P.length c1)).setCell ⟨fb,2,none⟩ (.slice A2 T.length c2)):=lk (lk (mu _ _ _ _ (Nat.le_refl _)) 1 _) 2 _;have zY:=aQ (aQ CN fb 1 (.slice A1 P.length c1) D7) fb 2 (.slice A2 T.length c2) D7;have kF:=(iN.setCell (p:=⟨fb,1,none⟩) (by show w.heap.size≤fb;omega) (.slice A1 P.length c1)).setCell (p:=⟨fb,2,none⟩) (by show w.heap.size≤fb;omega) (.slice A2 T.length c2);have e1:=FBox.cells CK;have r1:=ac CK 1;have r2:=ac CK 2;obtain⟨q0,q1,q2,q3,q4,q5⟩:=e1;obtain⟨W4,NQ⟩:∃ x,(w3.setCell ⟨fb,1,none⟩ (.slice A1 P.length c1)).setCell ⟨fb,2,none⟩ (.slice A2 T.length c2)=x:=⟨_,rfl⟩;rw[NQ] at Jw fX zY kF;have ow:=sY A1 c1 P W4 (by omega) (kV CK CN fX hP);have q41:=(FBox.cells Jw).2.1;have yC:=hid ow;have PK:=hid Jw;have vl:=hid fX;have eF:=hid zY;have yt:=hid kF;have PJ:=hid CK;have bx:=hid CN;have HP:=hid hP;have HT:=hid hT;have Kg:=hid jW;have ct:=hid MD;have TX:=hid DV;have TY:=hid DW;have TA:=fX.1;clear ow Jw fX zY kF CK CN hP hT jW hS gR iN Ah ov PI bk Fu At F5 MD DV DW;go_wp2_with fail;refine yC.out.mono ?_;rintro e w5 ⟨AI,cI,rfl,hI,NK,nm⟩;have Hy:=au PK.out nm;have Ov:=au eF.out nm;have vL:=yt.out.trans (nm.mono yt.out.size);have K0:=cK PK.out
  have KZ:FBox (w5.setCell ⟨fb,3,none⟩ (.slice AI (bM P).length cI)) fb n A1 P.length c1 A2 T.length c2 AI (bM P).length cI bm (.slice none 0 0):=by
   simpa [FBox] using bj w5 fb _ _ 3 (.slice AI (bM P).length cI) Hy
  have py:hJ w3.heap.size fb bm w3 (w5.setCell ⟨fb,3,none⟩ (.slice AI (bM P).length cI)):=lk (Ep vl.out nm) 3 _;have K7:hJ w5.heap.size fb bm w5 (w5.setCell ⟨fb,3,none⟩ (.slice AI (bM P).length cI)):=lk (mu _ _ _ _ (Nat.le_refl _)) 3 _;have JC:=aQ Ov fb 3 (.slice AI (bM P).length cI) D7;have Nz:=vL.setCell (p:=⟨fb,3,none⟩) (by show w.heap.size≤fb;omega) (.slice AI (bM P).length cI);have NJ:=wh Hy Ov K7 (fun b off e=>by have:=NK b off e;omega) hI;have k0:=aa Hy 3;simp at k0;have r3:=ac Hy 3;obtain⟨W6,SO⟩:∃ x,w5.setCell ⟨fb,3,none⟩ (.slice AI (bM P).length cI)=x:=⟨_,rfl⟩;rw[SO] at KZ py JC Nz NJ;have La:=cK KZ;have On:=cK JC;have hx:FixF W6 w.heap.size W6.heap.size fb bm n P T A1 c1 A2 c2 AI cI:=⟨KZ,⟨_,_,JC⟩,⟨La,On,fun e=>D7 e.symm,by omega,O2,Nz.size⟩,⟨by omega,by omega,eI,eT⟩,kV PJ.out bx.out py HP.out,kV PJ.out bx.out py HT.out,NJ,fun b off e=>by have:=NK b off e;omega,Kg.out⟩
  have Rv:W6.ownsMap Tryz.prog 149 (plainElem (H:=Unit) Tryz.prog 3) bm 0 (.map []):=by
   obtain⟨es,clock,h1,h2⟩:=World.ownsMap_made w1 Tryz.prog 149 (plainElem (H:=Unit) Tryz.prog 3);have h3:=heap_alloc_new w1 (.map #[] 0);rw[h1] at h3
   injection h3 with h3
   rw[← h3] at JC;exact⟨es,clock,JC,h2⟩
  have mf:FS W6 w.heap.size W6.heap.size fb bm n P T A1 c1 A2 c2 AI cI 0 ([],[]) W6:=⟨⟨_,KZ,Own.nil _ _⟩,⟨_,_,Rv,SeenD.zero⟩,Nat.le_refl _,Below.refl _ _,mu _ _ _ _ (Nat.le_refl _)⟩;have QY:fN (S.length+1)≤8796093022208:=Nat.le_trans (mK (by omega)) wM;have m7:Calls Tryz.prog 113 #[.pointer (some ⟨fb,0,none⟩),.agg #[.int .i64 0,.int .i64 0,.int .i64 0,.int .i64 0]] W6 _:=zi hx (S.length+1) ⟨0,0,0,0⟩ ([],[]) 0 W6 (Inv.zero n P T) zV (by omega) mf;have fV:=hid m7;have HX:=hid hx;have Jb:=hid Nz;have PC:=hid QY;clear Hy Ov vL KZ py K7 JC NJ hI NK hx mf m7 Rv QY nm q0 q1 q2 q3 q4 q5 r1 r2 q41;go_wp2_with fail;refine fV.out.mono ?_;rintro e w7 ⟨rfl,kZ,_⟩;obtain⟨vE,ND,QN⟩:=kZ.own;have Rh:=kZ.len;have Qt:=Jb.out.trans kZ.below;have Ti:=kZ.kept.1;have LB:=xX QN (by have:=PC.out;omega) Ti;obtain⟨j0,j1,j2,j3,j4,j5⟩:=FBox.cells ND;have Nm:=hid LB;have MW:=hid ND;have ve:=hid Qt;have pI:=hid Rh;clear kZ ND QN Rh Qt LB k0 r3;go_wp2_with fail;refine Nm.out.mono ?_;rintro e w8 ⟨rfl,QO,zH⟩;have QA:=(zH.block fb La).trans MW.out;obtain⟨i0,i1,i2,i3,i4,i5⟩:=FBox.cells QA;have KX:=wQ QO (by rw[List.length_mergeSort];have:=PC.out;have:=pI.out;omega);have fC:=hid KX;have Mf:=hid (ve.out.trans (zH.mono Jb.out.size));clear KX QA zH QO j0 j1 j2 j3 j4 j5;go_wp2_with fail;refine fC.out.mono ?_;rintro e w9 ⟨v',rfl,QP,xi⟩;have HR:=hid (show Kr n l w (.returned v') w9 from⟨v',_,rfl,QP.mono Jb.out.size,fun h=>(by rw[Fx.out] at h;cases h),fun _=>⟨S,Nl.out,by unfold oI;rw[JX.out]⟩,Mf.out.trans (xi.mono Jb.out.size)⟩);clear QP xi i0 i1 i2 i3 i4 i5;go_wp2_with fail;go_ret;exact HR.out
def yq (n:Int) (l:List Cl) (w:World) (e:Ending) (w':World):Prop:=∃ Z:List Int,e=.returned (.bool (decide (0<Z.length)))∧(dr l=false→Z=[])∧(dr l=true→∃ S,SortOf S l∧Z=oI n S)∧Below w.heap.size w w'
theorem wO (n:Int) (A:Option Addr) (c:Nat) (l:List Cl) (w:World) (hn:l.length≤40) (hc:l.length≤c) (hr:RisesC A c l w) (hl:ClSl w w.heap.size A l):
  Calls Tryz.prog 35 #[.int .i64 n,.slice A l.length c] w (yq n l w):=by
 have h:=hid (sQ n A c l w hn hc hr hl);clear hl hr;go_enter Tryz.func35,Tryz.ntmps35;go_wp2_with fail;refine h.out.mono ?_;rintro e w1 ⟨v,Z,rfl,hO,h1,h2,hb⟩;obtain⟨A1,c1,rfl,_,_,_⟩:=hO.sl;have HR:=hid (show yq n l w (.returned (.bool (decide (0<Z.length)))) w1 from⟨Z,rfl,h1,h2,hb⟩);clear hO h1 h2 hb h;obtain⟨m,hm⟩:∃ x,Z.length=x:=⟨_,rfl⟩;have HM:=hid hm;rw[hm];clear hm;go_wp2_with fail;go_ret;have:=HR.out;rw[HM.out] at this
 simpa using this
attribute [local go_sem] Oper.semAt_some
set_option maxHeartbeats 8000000
set_option maxRecDepth 100000
theorem IR {T:List Cl} {I:List (List Int)} (h:bE T<+:I) {k:Nat} {x:Cl} (hx:T[k]?=some x) (hg:nW x=true):I[(bE (T.take k)).length]?=some x.r:=by
 have h1:=mC hx hg
 have h2:bE (T.take (k+1))<+:bE T:=by
  unfold bE;exact((List.take_prefix _ _).filter _).map _
 rw[h1] at h2;obtain⟨t,ht⟩:=h2.trans h;rw[← ht];simp
theorem Be {T:List Cl} {I:List (List Int)} {k:Nat} {x:Cl} (hx:T[k]?=some x) (hg:nW x=true) (h:I[(bE (T.take k)).length]?≠some x.r):(bE T).isPrefixOf I=false:=by
 cases e:(bE T).isPrefixOf I with
 | false=>rfl
 | true=>exact absurd (IR (List.isPrefixOf_iff_prefix.1 e) hx hg) h
theorem EL {T:List Cl} {I:List (List Int)} (h:bE T=I.take (bE T).length):(bE T).isPrefixOf I=true:=by
 rw[List.isPrefixOf_iff_prefix,h];exact List.take_prefix _ _
def JO (l:List Cl) (w:World) (e:Ending) (w':World):Prop:=∃ b,e=.returned (.bool b)∧(dr l=false→b=false)∧(dr l=true→∃ S,SortOf S l∧b=(bE (aH S)).isPrefixOf (bM (aR S)))∧Below w.heap.size w w'
theorem ItSl.at {W:World} {N:Nat} {A:Option Addr} {l:List (List Int)} (h:ItSl W N A l) {k:Nat} {r:List Int} (hk:l[k]?=some r):∃ b off Ar c,A=some ⟨b,off,none⟩∧b<N∧W.cell? ⟨b,off+k,none⟩=some (.slice Ar r.length c)∧Ws W N Ar r∧r.length≤1000∧True:=h k r hk
theorem sq (A:Option Addr) (c:Nat) (l:List Cl) (w:World) (hn:l.length≤40) (hc:l.length≤c) (hr:RisesC A c l w) (hl:ClSl w w.heap.size A l):
  Calls Tryz.prog 36 #[.slice A l.length c] w (JO l w):=by
 have am:=qi A c l w (by omega) hc hl;cases hf:dr l with
 | false=>
  rw[hf] at am;have HF:=hid am;have Fx:=hid hf;clear am hf hl;go_enter Tryz.func36,Tryz.ntmps36;go_wp2_with fail;refine HF.out.mono ?_;rintro e w1 ⟨rfl,aq⟩;go_wp2_with fail;go_ret;exact⟨false,rfl,fun _=>rfl,fun h=>(by rw[Fx.out] at h;cases h),aq⟩
 | true=>
  rw[hf] at am;have HF:=hid am;have Fx:=hid hf;have M6:=hid hl;clear am hf hl;go_enter Tryz.func36,Tryz.ntmps36;go_wp2_with fail;refine HF.out.mono ?_;rintro e w1 ⟨rfl,aq⟩;have At:=qq A c l w1 (by omega) (hr.below aq) (M6.out.below aq aq.size);have Kk:=hid At;have bT:=hid aq;clear At aq;go_wp2_with fail;refine Kk.out.mono ?_;rintro e w2 ⟨S,A1,c1,A2,c2,rfl,hS,⟨hP,eI⟩,⟨hT,eT⟩,aO⟩;have MD:S.length=l.length:=hS.perm.length_eq;have Gg:(aR S).length≤S.length:=List.length_filter_le _ _;have fJ:(aH S).length≤S.length:=List.length_filter_le _ _;have Nl:=hid hS;have wE:=hid (fun b (w':World) (h1:b=(bE (aH S)).isPrefixOf (bM (aR S))) (h2:Below w.heap.size w w')=>(⟨b,rfl,fun h=>(by rw[Fx.out] at h;cases h),fun _=>⟨S,Nl.out,h1⟩,h2⟩:JO l w (.returned (.bool b)) w'));obtain⟨P,DV⟩:∃ x,aR S=x:=⟨_,rfl⟩;obtain⟨T,DW⟩:∃ x,aH S=x:=⟨_,rfl⟩;rw[DV] at hP eI Gg wE;rw[DW] at hT eT fJ wE;rw[DV,DW];have dO:=bT.out.trans (aO.mono bT.out.size);have ow:=sY A1 c1 P w2 (by omega) hP;have yC:=hid ow;have cD:=hid dO;have HT:=hid hT;have SL:T.length≤40:=by omega
  have NI:(bM P).length≤40:=by unfold bM;rw[List.length_map];exact Nat.le_trans (List.length_filter_le _ _) (by omega)
  clear aO hP hS ow dO hT DV DW MD Gg fJ;go_wp2_with fail;refine yC.out.mono ?_;rintro e w3 ⟨AI,cI,rfl,hI,_,gR⟩;have iN:=cD.out.trans (gR.mono cD.out.size);have jE:=hid iN;have Sj:=hid (HT.out.below gR gR.size);obtain⟨I,QE⟩:∃ x,bM P=x:=⟨_,rfl⟩;rw[QE] at hI NI wE ⊢;have HI:=hid hI;clear hI gR iN QE;go_wp2_with fail
  go_loopw [6,21] (fun a j wr=>∃ (k m:Nat),k≤T.length∧j=.int .i64 k∧a=.int .i64 m∧m=(bE (T.take k)).length∧bE (T.take k)=I.take m∧m≤I.length∧Below w3.heap.size w3 wr) (fun _ j _=>T.length - (intOf j).toNat)
  case atStart=>exact⟨0,0,Nat.zero_le _,rfl,rfl,rfl,by simp[bE],Nat.zero_le _,Below.refl _ _⟩
  case round=>
   obtain⟨k,m,hk,rfl,rfl,hm,xo,Rl,hb⟩:=hrel
   by_cases aJ:k<T.length
   ·obtain⟨x,hx⟩:=bu aJ;obtain⟨b',off,Ax,cx,rfl,rN,⟨h0,h1,h2,h3,h4,h5,h6⟩,dV,o8,df⟩:=(Sj.out.below hb (Nat.le_refl _)) k x hx;obtain⟨W1,kG⟩:∃ W1,wr.alloc (.cells #[.int .i64 x.p,.int .i64 x.o,.int .i64 x.q,.slice Ax x.r.length cx,.int .i64 x.c,.int .i64 x.b,.int .i64 x.e] 62)=W1:=⟨_,rfl⟩;have fl:=bK wr (.cells #[.int .i64 x.p,.int .i64 x.o,.int .i64 x.q,.slice Ax x.r.length cx,.int .i64 x.c,.int .i64 x.b,.int .i64 x.e] 62);have ar:=ClBox.new wr x Ax cx;rw[kG] at fl ar;have hB:=hb.trans (fl.mono hb.size);have Iz:=dV.below (fl.mono hb.size) (Nat.le_trans hb.size fl.size);obtain⟨y0,y1,y2,y3,y4,y5,y6⟩:=ar.cells;have Th:m≤40:=by omega
    have HB:=hid hB;have HX:=hid hx;have HM:=hid hm;have Kf:=hid xo;have kD:=hid ar;have o7:=hid Iz;cases hg:nW x with
    | false=>
     have na:=hid (iv hx hg)
     have KV:x.e<0∨(¬ x.e<0∧(x.c != 0)=true):=by
      by_cases he:x.e<0
      ·exact .inl he
      ·refine .inr ⟨he,?_⟩;unfold nW ez at hg
       simpa [he] using hg
     clear hx hm xo ar dV Iz hb fl hB hg
     rcases KV with he | ⟨he,Hq⟩
     all_goals
      go_wp2_with fail;go_roundw
      case rel=>exact⟨k+1,m,by omega,by go_num,rfl,by rw[na.out];exact HM.out,by rw[na.out];exact Kf.out,Rl,HB.out⟩
      case measure=>simp[intOf];omega
    | true=>
     have C4:=hid (mC hx hg);have HG:=hid hg
     have he:¬ x.e<0:=by
      intro h;unfold nW ez at hg;simp[h] at hg
     have Hq:(x.c != 0)=false:=by
      unfold nW ez at hg;simp[he] at hg
      simpa using hg
     obtain⟨nb,jI⟩:∃ y,wr.heap.size=y:=⟨_,rfl⟩;rw[jI] at y0 y1 y2 y3 y4 y5 y6;clear hx hm xo ar dV Iz hb fl hB hg
     by_cases hmI2:m=I.length
     ·have g0:((m:Int)==(I.length:Int))=true:=by simp[hmI2]
      have na:=hid (Be (I:=I) HX.out HG.out (by rw[← HM.out,List.getElem?_eq_none (by omega)];simp));clear hmI2;go_wp2_with fail;refine fg (S:=(fun w':World=>Below W1.heap.size W1 w'∧True)) ⟨(Below.refl _ W1).drew,trivial⟩ fun wd bq hHeld=>?_
      clear bq;refine ai 0 1 2 3 ?_;refine aX 4 ?_;refine jZ 5 6 7 8 ?_;refine jZ 9 10 11 12 ?_;refine aX 13 ?_;refine aY ?_;have xg:=HB.out.trans (hHeld.1.mono HB.out.size);have iA:=hid xg;clear hHeld xg;go_wp2_with fail;go_ret;exact wE.out false _ na.out.symm (jE.out.trans (iA.out.mono jE.out.size))
     ·have Le:m<I.length:=by omega
      have g0:((m:Int)==(I.length:Int))=false:=by simp;omega
      have Tk:(m:Int)<(I.length:Int):=by omega
      obtain⟨r0,ak⟩:=bu Le;have QD:=HI.out.below HB.out (Nat.le_refl _);obtain⟨ib,io,Ai,ci,rfl,Ra,Rb,Rc,zR,S8⟩:=QD m r0 ak;have iP:=fun (W':World) (hb:Below W1.heap.size W1 W')=>ly Ai Ax ci cx r0 x.r W' (by omega) (by omega) (Rc.below (hb.mono HB.out.size) (Nat.le_trans HB.out.size hb.size)) (o7.out.below hb hb.size)
      obtain⟨v,hv⟩:∃ v,decide (r0=x.r)=v:=⟨_,rfl⟩;rw[hv] at iP;have HV:=hid hv;have yh:=hid ak;have vt:=hid iP;clear iP Rc ak hmI2 QD hv;cases v with
      | false=>
       go_wp2_with fail;refine fg (S:=(fun w':World=>Below W1.heap.size W1 w'∧w'.cell? ⟨nb,3,none⟩=some (.slice Ax x.r.length cx)∧w'.cell? ⟨ib,io+m,none⟩=some (.slice Ai r0.length ci))) ⟨(Below.refl _ W1).drew,y3,Rb⟩ fun wd bq hHeld=>?_
       clear bq;refine ai 0 1 2 3 ?_;refine ai 4 5 6 7 ?_;refine bv 8 9 ?_;refine aX 10 ?_;refine dG [11] ?_;refine dp (fun K hK=>?_) AllReadyH.nil;go_simp;refine(vt.out _ hHeld.1).mono ?_;rintro e wx ⟨rfl,ar⟩;have aw:(fun w':World=>Below W1.heap.size W1 w'∧w'.cell? ⟨nb,3,none⟩=some (.slice Ax x.r.length cx)∧w'.cell? ⟨ib,io+m,none⟩=some (.slice Ai r0.length ci)) wx:=⟨hHeld.1.trans (ar.mono hHeld.1.size),aG hHeld.2.1 ar,aG hHeld.2.2 ar⟩;refine kH hK aw fun hHeld=>?_
       clear hK K;refine bv 12 13 ?_;refine aY ?_;have xg:=HB.out.trans (hHeld.1.mono HB.out.size);have iA:=hid xg;clear hHeld aw xg
       have na:=hid (Be (I:=I) HX.out HG.out (by
        rw[← HM.out,yh.out];intro e
        injection e with e
        exact absurd e (of_decide_eq_false HV.out)))
       go_wp2_with fail;go_ret;exact wE.out false _ na.out.symm (jE.out.trans (iA.out.mono jE.out.size))
      | true=>
       go_wp2_with fail;refine fg (S:=(fun w':World=>Below W1.heap.size W1 w'∧w'.cell? ⟨nb,3,none⟩=some (.slice Ax x.r.length cx)∧w'.cell? ⟨ib,io+m,none⟩=some (.slice Ai r0.length ci))) ⟨(Below.refl _ W1).drew,y3,Rb⟩ fun wd bq hHeld=>?_
       clear bq;refine ai 0 1 2 3 ?_;refine ai 4 5 6 7 ?_;refine bv 8 9 ?_;refine aX 10 ?_;refine dG [11] ?_;refine dp (fun K hK=>?_) AllReadyH.nil;go_simp;refine(vt.out _ hHeld.1).mono ?_;rintro e wx ⟨rfl,ar⟩;have aw:(fun w':World=>Below W1.heap.size W1 w'∧w'.cell? ⟨nb,3,none⟩=some (.slice Ax x.r.length cx)∧w'.cell? ⟨ib,io+m,none⟩=some (.slice Ai r0.length ci)) wx:=⟨hHeld.1.trans (ar.mono hHeld.1.size),aG hHeld.2.1 ar,aG hHeld.2.2 ar⟩;refine kH hK aw fun hHeld=>?_
       clear hK K;refine bv 12 13 ?_;refine aY ?_;have xg:=HB.out.trans (hHeld.1.mono HB.out.size);have iA:=hid xg;clear hHeld aw xg;go_wp2_with fail;go_roundw
       case rel=>
        refine⟨k+1,m+1,by omega,by go_num,by go_num,by rw[C4.out,List.length_append,← HM.out];rfl,?_,by omega,iA.out⟩;rw[C4.out,Kf.out,bp yh.out,of_decide_eq_true HV.out]
       case measure=>simp[intOf];omega
   ·have ht:=iu aJ;rw[ht] at hm xo;have C4:=hid (EL (T:=T) (I:=I) (by rw[xo,List.length_take,Nat.min_eq_left Rl]));have iA:=hid hb;clear hm xo ht hb;go_wp2_with fail;go_ret;exact wE.out true _ C4.out.symm (jE.out.trans (iA.out.mono jE.out.size))
end Go.Proofs.YtabfcjohdgjkoaaGreatDoor
