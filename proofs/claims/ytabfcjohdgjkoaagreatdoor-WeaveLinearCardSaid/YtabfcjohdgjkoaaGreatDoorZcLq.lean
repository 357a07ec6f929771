/- linfifo.split; what the finder holds. -/
import Derived.Test.YtabfcjohdgjkoaaGreatDoorZcLt
import Derived.Test.YtabfcjohdgjkoaaGreatDoorZcLg
import Derived.WideKeyEntry
import Derived.DeepKeys4
namespace Go.Proofs.YtabfcjohdgjkoaaGreatDoor
open Go.RowKit
open Go.Lib (hid)
set_option maxHeartbeats 4000000
set_option maxRecDepth 100000
theorem sV {t:TypeId} {base n1:Nat} {w w1:World} {v:Value} {L:List CV} (h:Own cvE t base w v L) (hh:HeldC n1 w1 L) (hb:Below n1 w1 w) (hn:n1≤w.heap.size):∃ A c,v=.slice A (L.map (·.x)).length c∧(L.map (·.x)).length≤c∧ClSl w w.heap.size A (L.map (·.x)):=by
 obtain⟨A,c,rfl,hc,_,hs⟩:=h.sl;refine⟨A,c,by rw[List.length_map],by rw[List.length_map];exact hc.1,fun k x hx=>?_⟩;rw[List.getElem?_map,Option.map_eq_some_iff] at hx;obtain⟨e,he,rfl⟩:=hx;obtain⟨b,off,hA,aJ,lJ⟩:=hs k e he;obtain⟨h1,h2,h3⟩:=hh e (List.mem_of_getElem? he);exact⟨b,off,e.A,e.c,hA,aJ,⟨lJ 0 _ rfl,lJ 1 _ rfl,lJ 2 _ rfl,lJ 3 _ rfl,lJ 4 _ rfl,lJ 5 _ rfl,lJ 6 _ rfl⟩,h1.below hb hn,h2,h3⟩
def SortOf (S l:List Cl):Prop:=S=l∧l.Pairwise fun x y=>x.b<y.b
theorem SortOf.perm {S l:List Cl} (h:SortOf S l):S.Perm l:=h.1 ▸ List.Perm.refl _
theorem SortOf.le {S l:List Cl} (h:SortOf S l):S.Pairwise fun x y=>x.b≤y.b:=by
 obtain⟨rfl,h⟩:=h;exact h.imp fun h=>by omega
def RisesC (A:Option Addr) (c:Nat) (l:List Cl) (w:World):Prop:=(l.Pairwise fun x y=>x.b<y.b)∧∀ W,Below w.heap.size w W→Calls Tryz.prog 31 #[.slice A l.length c] W (qu l W)
theorem RisesC.below {A:Option Addr} {c:Nat} {l:List Cl} {w W:World} (h:RisesC A c l w) (hb:Below w.heap.size w W):RisesC A c l W:=⟨h.1,fun V hV=>h.2 V (hb.trans (hV.mono hb.size))⟩
def yN (l:List Cl) (w:World) (e:Ending) (w':World):Prop:=∃ S A1 c1 A2 c2,e=.returned (.tuple #[.slice A1 (aR S).length c1,.slice A2 (aH S).length c2])∧SortOf S l∧
 (ClSl w' w'.heap.size A1 (aR S)∧(aR S).length≤c1)∧(ClSl w' w'.heap.size A2 (aH S)∧(aH S).length≤c2)∧Below w.heap.size w w'
theorem xP {S:List Cl} {k:Nat} {x:Cl} (h:S[k]?=some x):(x.q=3→aR (S.take (k+1))=aR (S.take k)++[x]∧aH (S.take (k+1))=aH (S.take k))∧(x.q≠3→aR (S.take (k+1))=aR (S.take k)∧aH (S.take (k+1))=aH (S.take k)++[x]):=by
 rw[bp h];unfold aR aH;simp only[List.filter_append,List.filter_cons,List.filter_nil];refine⟨fun e=>?_,fun e=>?_⟩
 ·simp[e]
 ·simp[e]
theorem qq (A:Option Addr) (c:Nat) (l:List Cl) (w:World) (hn:l.length≤60) (hr:RisesC A c l w) (_hl:ClSl w w.heap.size A l):
  Calls Tryz.prog 65 #[.slice A l.length c] w (yN l w):=by
 have RE:=hid (hr.2 w (Below.refl _ _));have o9:=hid hr.1;clear _hl hr;go_enter Tryz.func65,Tryz.ntmps65;go_wp2_with fail;refine RE.out.mono ?_;rintro e w1 ⟨A',c',es,rfl,hm,aj,dV,aq⟩;obtain⟨S,MC⟩:∃ S,S=l:=⟨_,rfl⟩;have hS:=iB aj dV;have la:es.length=l.length:=by rw[← hm,List.length_map]
 have FZ:SortOf S l:=⟨MC,o9.out⟩;have bf:l.length=S.length:=by rw[MC]
 rw[hm,← MC] at hS;rw[la];rw[bf] at hn ⊢;have Kj:=hid FZ;have bT:=hid aq;clear FZ aq MC hm aj dV la bf RE o9;go_wp2_with fail
 go_loopw [2,3,9] (fun v1 v2 j wr=>∃ (k:Nat) (L1 L2:List CV),k≤S.length∧j=.int .i64 k∧L1.map (·.x)=aR (S.take k)∧L2.map (·.x)=aH (S.take k)∧Own cvE 62 w1.heap.size wr v1 L1∧Own cvE 62 w1.heap.size wr v2 L2∧HeldC w1.heap.size w1 L1∧HeldC w1.heap.size w1 L2∧Apart v1 v2∧Below w1.heap.size w1 wr) (fun _ _ j _=>S.length - (intOf j).toNat)
 case atStart=>exact⟨0,[],[],Nat.zero_le _,rfl,rfl,rfl,Own.nil _ _,Own.nil _ _,HeldC.nil _ _,HeldC.nil _ _,fun b h=>(by cases h),Below.refl _ _⟩
 case round=>
  obtain⟨k,L1,L2,hk,rfl,e1,e2,bZ,fk,vQ,vR,zC,hb⟩:=hrel
  by_cases aJ:k<S.length
  ·obtain⟨x,hx⟩:=bu aJ;obtain⟨b',off,Ax,cx,rfl,rN,⟨h0,h1,h2,h3,h4,h5,h6⟩,dV,o8,df⟩:=(hS.below hb (Nat.le_refl _)) k x hx
   have lj:Ws w1 w1.heap.size Ax x.r:=by
    obtain⟨b2,off2,A2,cx2,dZ,mh,⟨g0,g1,g2,g3,g4,g5,g6⟩,AA,_,_⟩:=hS k x hx
    injection dZ with dZ
    injection dZ with q1 q2 q3
    subst q1 q2;have:=(hb.cell (p:=⟨b',off+k*7+3,none⟩) mh).trans g3;rw[h3] at this
    injection this with this
    injection this with this
    rw[this];exact AA
   have F8:L1.length≤k:=by
    have:=congrArg List.length e1;rw[List.length_map] at this;rw[this];exact Nat.le_trans (List.length_filter_le _ _) (by rw[List.length_take];omega)
   have CM:L2.length≤k:=by
    have:=congrArg List.length e2;rw[List.length_map] at this;rw[this];exact Nat.le_trans (List.length_filter_le _ _) (by rw[List.length_take];omega)
   have qg:=xP hx;obtain⟨W1,kG⟩:∃ W1,wr.alloc (.cells #[.int .i64 x.p,.int .i64 x.o,.int .i64 x.q,.slice Ax x.r.length cx,.int .i64 x.c,.int .i64 x.b,.int .i64 x.e] 62)=W1:=⟨_,rfl⟩;have fl:=bK wr (.cells #[.int .i64 x.p,.int .i64 x.o,.int .i64 x.q,.slice Ax x.r.length cx,.int .i64 x.c,.int .i64 x.b,.int .i64 x.e] 62);have ar:=ClBox.new wr x Ax cx;rw[kG] at fl ar;have hB:=hb.trans (fl.mono hb.size);have DT:=bZ.below fl (Nat.le_refl _);have DU:=fk.below fl (Nat.le_refl _);have cX:=hB.size;obtain⟨c0,c1,c2,c3,c4,c5,c6⟩:=ar.cells;have C0:=hid DT;have rW:=hid DU;have HB:=hid hB;have qv:=hid e1;have wD:=hid e2;have CX:=hid vQ;have CD:=hid vR;have yr:=hid zC;have o7:=hid (show Ws w1 w1.heap.size Ax x.r∧x.r.length≤1000∧True from⟨lj,o8,df⟩)
   by_cases hq:x.q=3
   ·have fr:(x.q==3)=true:=by simpa using hq
    have pi:=hid (qg.1 hq);clear hx dV lj qg fl ar hb hB DT DU bZ fk e1 e2 vQ vR zC hq hS
    go_wp2_with (first
     | (at_builtin;refine da rfl _ _ 34 rfl DM w1.heap.size C0.out rfl rfl rfl rfl (by unfold maxLen;omega) (by omega) cX ?_;intro v' W4 ju jq qW qY)
     | fail)
    go_roundw
    case rel=>
     refine⟨k+1,L1++[⟨x,Ax,cx⟩],L2,by omega,by go_num,?_,?_,Own.app ju rfl,gJ rW.out qW yr.out.symm,CX.out.snoc o7.out,CD.out,(Apart.grown rW.out yr.out.symm qY).symm,HB.out.trans jq⟩
     ·rw[pi.out.1,List.map_append,qv.out];rfl
     ·rw[pi.out.2,wD.out]
    case measure=>simp[intOf];omega
   ·have fr:(x.q==3)=false:=by simpa using hq
    have pi:=hid (qg.2 hq);clear hx dV lj qg fl ar hb hB DT DU bZ fk e1 e2 vQ vR zC hq hS
    go_wp2_with (first
     | (at_builtin;refine da rfl _ _ 34 rfl DM w1.heap.size rW.out rfl rfl rfl rfl (by unfold maxLen;omega) (by omega) cX ?_;intro v' W4 ju jq qW qY)
     | fail)
    go_roundw
    case rel=>
     refine⟨k+1,L1,L2++[⟨x,Ax,cx⟩],by omega,by go_num,?_,?_,gJ C0.out qW yr.out,Own.app ju rfl,CX.out,CD.out.snoc o7.out,Apart.grown C0.out yr.out qY,HB.out.trans jq⟩
     ·rw[pi.out.1,qv.out]
     ·rw[pi.out.2,List.map_append,wD.out];rfl
    case measure=>simp[intOf];omega
  ·have ht:=iu aJ;rw[ht] at e1 e2;obtain⟨A1,d1,rfl,q1,s1⟩:=sV bZ vQ hb hb.size;obtain⟨A2,d2,rfl,q2,s2⟩:=sV fk vR hb hb.size;rw[e1] at q1 s1;rw[e2] at q2 s2;rw[e1,e2];have HR:=hid (show yN l w (.returned (.tuple #[.slice A1 (aR S).length d1,.slice A2 (aH S).length d2])) wr from⟨S,A1,d1,A2,d2,rfl,Kj.out,⟨s1,q1⟩,⟨s2,q2⟩,bT.out.trans (hb.mono bT.out.size)⟩);clear e1 e2 bZ fk vQ vR zC hb s1 s2 ht hS;go_wp2_with fail;go_ret2;exact HR.out
set_option maxHeartbeats 4000000
set_option maxRecDepth 100000
structure It where
 r:List Int
 A:Option Addr
 c:Nat
def Ph:Enc It:=Enc.of1 (fun i=>.slice i.A i.r.length i.c) fun _=>rfl
theorem LS:ElemTy Tryz.prog 112 23 1 24:=ElemTy.of (z:=.slice none 0 0) Tryz.underlying112 (by kernel_rfl) rfl (by omega)
def FH (n1:Nat) (w1:World) (L:List It):Prop:=∀ e ∈ L,Ws w1 n1 e.A e.r∧e.r.length≤1000∧True
def ItSl (W:World) (N:Nat) (A:Option Addr) (l:List (List Int)):Prop:=∀ (k:Nat) (r:List Int),l[k]?=some r→∃ b off Ar c,A=some ⟨b,off,none⟩∧b<N∧W.cell? ⟨b,off+k,none⟩=some (.slice Ar r.length c)∧Ws W N Ar r∧r.length≤1000∧True
theorem ItSl.below {w w':World} {B B':Nat} {A:Option Addr} {l:List (List Int)} (h:ItSl w B A l) (hb:Below B w w') (hB:B≤B'):ItSl w' B' A l:=fun k r hk=>by
 obtain⟨b,off,Ar,c,hA,aJ,hc,hw,h1⟩:=h k r hk;exact⟨b,off,Ar,c,hA,by omega,(hb.cell (p:=⟨b,_,none⟩) aJ).trans hc,hw.below hb hB,h1⟩
theorem Bc {t:TypeId} {base n1:Nat} {w w1:World} {v:Value} {L:List It} (h:Own Ph t base w v L) (hh:FH n1 w1 L) (hb:Below n1 w1 w) (hn:n1≤w.heap.size):∃ A c,v=.slice A (L.map (·.r)).length c∧ItSl w w.heap.size A (L.map (·.r))∧∀ b off,A=some ⟨b,off,none⟩→base≤b:=by
 obtain⟨A,c,rfl,hc,_,hs⟩:=h.sl;refine⟨A,c,by rw[List.length_map],fun k x hx=>?_,fun b off e=>?_⟩;rotate_left
 ·subst e;exact(rj h (b:=b) (by rfl)).1
 rw[List.getElem?_map,Option.map_eq_some_iff] at hx;obtain⟨e,he,rfl⟩:=hx;obtain⟨b,off,hA,aJ,lJ⟩:=hs k e he;obtain⟨h1,h2,h3⟩:=hh e (List.mem_of_getElem? he);have:=lJ 0 _ rfl;refine⟨b,off,e.A,e.c,hA,aJ,?_,h1.below hb hn,h2,h3⟩
 simpa [Ph,Enc.of1] using this
theorem xO {P:List Cl} {k:Nat} {x:Cl} (h:P[k]?=some x):((x.e<0∨x.c=0)→bM (P.take (k+1))=bM (P.take k)++[x.r])∧(¬ (x.e<0∨x.c=0)→bM (P.take (k+1))=bM (P.take k)):=by
 rw[bp h];unfold bM;simp only[List.filter_append,List.map_append,List.filter_cons,List.filter_nil];refine⟨fun e=>?_,fun e=>?_⟩
 ·have:(ez x || x.c==0)=true:=by simpa [ez] using e
  simp[this]
 ·have:(ez x || x.c==0)=false:=by
   cases q:(ez x || x.c==0) with
   | false=>rfl
   | true=>exact absurd (by simpa [ez] using q) e
  simp[this]
def FI (P:List Cl) (w:World) (e:Ending) (w':World):Prop:=∃ A c,e=.returned (.slice A (bM P).length c)∧ItSl w' w'.heap.size A (bM P)∧(∀ b off,A=some ⟨b,off,none⟩→w.heap.size≤b)∧Below w.heap.size w w'
theorem sY (A:Option Addr) (c:Nat) (P:List Cl) (w:World) (hn:P.length≤60) (hS:ClSl w w.heap.size A P):
  Calls Tryz.prog 66 #[.slice A P.length c] w (FI P w):=by
 go_enter Tryz.func66,Tryz.ntmps66;go_wp2_with fail
 go_loopw [3,8] (fun v j wr=>∃ (k:Nat) (L:List It),k≤P.length∧j=.int .i64 k∧L.map (·.r)=bM (P.take k)∧Own Ph 23 w.heap.size wr v L∧FH w.heap.size w L∧Below w.heap.size w wr) (fun _ j _=>P.length - (intOf j).toNat)
 case atStart=>exact⟨0,[],Nat.zero_le _,rfl,rfl,Own.nil _ _,(fun e h=>by cases h),Below.refl _ _⟩
 case round=>
  obtain⟨k,L,hk,rfl,e1,ho,hh,hb⟩:=hrel
  by_cases aJ:k<P.length
  ·obtain⟨x,hx⟩:=bu aJ;obtain⟨b',off,Ax,cx,rfl,rN,⟨h0,h1,h2,h3,h4,h5,h6⟩,dV,o8,df⟩:=(hS.below hb (Nat.le_refl _)) k x hx
   have lj:Ws w w.heap.size Ax x.r:=by
    obtain⟨b2,off2,A2,cx2,dZ,mh,⟨g0,g1,g2,g3,g4,g5,g6⟩,AA,_,_⟩:=hS k x hx
    injection dZ with dZ
    injection dZ with q1 q2 q3
    subst q1 q2;have:=(hb.cell (p:=⟨b',off+k*7+3,none⟩) mh).trans g3;rw[h3] at this
    injection this with this
    injection this with this
    rw[this];exact AA
   have F8:L.length≤k:=by
    have:=congrArg List.length e1;rw[List.length_map] at this;rw[this];unfold bM;rw[List.length_map];exact Nat.le_trans (List.length_filter_le _ _) (by rw[List.length_take];omega)
   have qg:=xO hx;obtain⟨W1,kG⟩:∃ W1,wr.alloc (.cells #[.int .i64 x.p,.int .i64 x.o,.int .i64 x.q,.slice Ax x.r.length cx,.int .i64 x.c,.int .i64 x.b,.int .i64 x.e] 62)=W1:=⟨_,rfl⟩;have fl:=bK wr (.cells #[.int .i64 x.p,.int .i64 x.o,.int .i64 x.q,.slice Ax x.r.length cx,.int .i64 x.c,.int .i64 x.b,.int .i64 x.e] 62);have ar:=ClBox.new wr x Ax cx;rw[kG] at fl ar;have hB:=hb.trans (fl.mono hb.size);have hO:=ho.below fl (Nat.le_refl _);have cX:=hB.size;obtain⟨c0,c1,c2,c3,c4,c5,c6⟩:=ar.cells;have HO:=hid hO;have HB:=hid hB;have HE:=hid e1;have HH:=hid hh;have o7:=hid (show Ws w w.heap.size Ax x.r∧x.r.length≤1000∧True from⟨lj,o8,df⟩)
   by_cases he:x.e<0
   ·have pi:=hid (qg.1 (.inl he));clear hx dV lj qg fl ar hb hB hO ho e1 hh
    go_wp2_with (first
     | (at_builtin;refine da rfl _ _ 112 rfl LS w.heap.size HO.out rfl rfl rfl rfl (by unfold maxLen;omega) (by omega) cX ?_;intro v' W4 ju jq qW qY)
     | fail)
    go_roundw
    case rel=>exact⟨k+1,L++[⟨x.r,Ax,cx⟩],by omega,by go_num,by rw[pi.out,List.map_append,HE.out];rfl,Own.app ju rfl,fun e h=>(by
     rcases List.mem_append.1 h with q | q
     ·exact HH.out e q
     ·rw[List.mem_singleton.1 q];exact o7.out),HB.out.trans jq⟩
    case measure=>simp[intOf];omega
   ·by_cases dl:x.c=0
    ·have pi:=hid (qg.1 (.inr dl));have fr:(x.c==0)=true:=by simpa using dl
     clear hx dV lj qg fl ar hb hB hO ho e1 hh dl
     go_wp2_with (first
      | (at_builtin;refine da rfl _ _ 112 rfl LS w.heap.size HO.out rfl rfl rfl rfl (by unfold maxLen;omega) (by omega) cX ?_;intro v' W4 ju jq qW qY)
      | fail)
     go_roundw
     case rel=>exact⟨k+1,L++[⟨x.r,Ax,cx⟩],by omega,by go_num,by rw[pi.out,List.map_append,HE.out];rfl,Own.app ju rfl,fun e h=>(by
      rcases List.mem_append.1 h with q | q
      ·exact HH.out e q
      ·rw[List.mem_singleton.1 q];exact o7.out),HB.out.trans jq⟩
     case measure=>simp[intOf];omega
    ·have pi:=hid (qg.2 (by omega));have fr:(x.c==0)=false:=by simpa using dl
     clear hx dV lj qg fl ar hb hB hO ho e1 hh dl;go_wp2_with fail;go_roundw
     case rel=>exact⟨k+1,L,by omega,by go_num,by rw[pi.out,HE.out],HO.out,HH.out,HB.out⟩
     case measure=>simp[intOf];omega
  ·have ht:=iu aJ;rw[ht] at e1;obtain⟨A1,d1,rfl,s1,s2⟩:=Bc ho hh hb hb.size;rw[e1] at s1;rw[e1];have HR:=hid (show FI P w (.returned (.slice A1 (bM P).length d1)) wr from⟨A1,d1,rfl,s1,s2,hb⟩);clear e1 ho hh hb s1 s2 ht hS;go_wp2_with fail;go_ret;exact HR.out
open Go.RowKit Go.Maps
set_option maxRecDepth 100000
def CR (s:Sp):Lit:=.string (keyBytes [.int .i64 (s.a:Int),.int .i64 (s.b:Int),.int .i64 (s.i:Int),.int .i64 (s.o:Int)])
def Sp.Ok (s:Sp):Prop:=s.a≤1000∧s.b≤1000∧s.i≤1000∧s.o≤1000
theorem laidOut:laidOutB Tryz.prog=true:=by kernel_rfl
theorem Mb:(match Tryz.prog.underlying 149 with | some (.array _ _) | some (.struct _)=>true | _=>false)=true:=by kernel_rfl
theorem IE:WideMaps.KeyLaw Tryz.prog 149:=deep_law_laid laidOut (m:=2) (by omega) (of_decide_eq_true (by kernel_rfl)) (by kernel_rfl) Mb
theorem lawS:Keyed Tryz.prog 149:=Keyed.of_law IE
theorem rC {n:Nat} (h:n≤1000):(Lit.int .i64 (n:Int)).wf=true:=WalkArith.wf_i64 (by omega)
theorem wB {s:Sp} (h:s.Ok):keyOf Tryz.prog 149 (gK s)=some (CR s):=by
 obtain⟨h1,h2,h3,h4⟩:=h;have w1:=rC h1;have w2:=rC h2;have w3:=rC h3;have w4:=rC h4;have hk:Tryz.prog.keyType 149=true:=by kernel_rfl
 have hc:Tryz.prog.cellsOf 149=4:=by kernel_rfl
 have SV:Tryz.prog.cellsOf 3=1:=by kernel_rfl
 have hl:∃ m,Tryz.prog.types.size=m+1:=⟨Tryz.prog.types.size - 1,by kernel_rfl⟩;obtain⟨m,hm⟩:=hl;unfold keyOf gK;rw[Tryz.underlying149];simp only[hk,Value.formed,Tryz.underlying149,hc,hm];simp[Value.cells,Program.keyLits,Tryz.underlying149,Tryz.underlying3,hc,SV,w1,w2,w3,w4,CR]
theorem E0 {s t:Sp} (hs:s.Ok) (ht:t.Ok) (h:CR s=CR t):s=t:=by
 have h1:=wB hs;rw[h] at h1;have h2:=lawS.inj h1 (wB ht);obtain⟨a,b,i,o⟩:=s;obtain⟨a',b',i',o'⟩:=t;unfold gK at h2;simp only[Value.agg.injEq,Array.mk.injEq,List.cons.injEq,Value.int.injEq,true_and,and_true] at h2;obtain⟨q1,q2,q3,q4⟩:=h2;simp only[Sp.mk.injEq];omega
theorem rz (s:Sp):WideAt.IsKeyLit (CR s):=True.intro
structure SeenD (D:D0) (M:Nat) (seen:List Sp) (cnt:Sp→Nat):Prop where
 at_:∀ q:Sp,q.Ok→D.atKey (CR q) (.lit (.int .i64 0))=.lit (.int .i64 (cnt q:Int))
 le:∀ q,cnt q≤M
 iff:∀ q:Sp,q.Ok→(q ∈ seen↔0<cnt q)
theorem SeenD.zero:SeenD (.map []) 0 [] fun _=>0:=⟨fun q _=>rfl,fun _=>Nat.le_refl _,fun q _=>by simp⟩
theorem SeenD.mono {D:D0} {M M':Nat} {seen:List Sp} {cnt:Sp→Nat} (h:SeenD D M seen cnt) (hM:M≤M'):SeenD D M' seen cnt:=⟨h.at_,fun q=>Nat.le_trans (h.le q) hM,h.iff⟩
theorem SeenD.put {D:D0} {M:Nat} {seen:List Sp} {cnt:Sp→Nat} (h:SeenD D M seen cnt) (hD:IsMap D) {s:Sp} (hs:s.Ok) {c:Int} (hc:c=(cnt s:Int)) {seen':List Sp} (vY:∀ q,q ∈ seen'↔q=s∨q ∈ seen):
  SeenD (D.put (CR s) (.lit (.int .i64 (c+1)))) (M+1) seen' fun q=>if q=s then cnt s+1 else cnt q:=by
 subst hc;refine⟨fun q hq=>?_,fun q=>?_,fun q hq=>?_⟩
 ·by_cases e:q=s
  ·subst e;rw[atKey_put_same hD (rz q)];simp
  ·rw[atKey_put_other (fun h2=>e (E0 hq hs h2)),h.at_ q hq,if_neg e]
 ·have:=h.le q;have:=h.le s
  split <;> omega
 ·rw[vY q]
  by_cases e:q=s
  ·simp[e]
  ·simp[e,h.iff q hq]
section
open Go.MapKept Go.WideElems Go.ChangeMaps
variable {H:Type} {P:Program} {w:World} {t k e:TypeId} {R:Value→Option (DataW H × List MemPlace)} {b:Nat} {es:Array MapEntry} {clock:Nat}
theorem wT (K:WideMaps.KeyLaw P k) (ht:P.underlying t=some (.map k e)) {z:Value} (hz:∀ u:World,(zeroValue e).run P u=.ok z u) (hb:w.heap[b]?=some (.map es clock)) (F:Fit P k R es clock)
  {key:Value} {kl:Lit} (iE:keyOf P k key=some kl):∃ (v0:Value) (es1:Array MapEntry) (clock1:Nat) (st:Nat),(Instr.lookup t (.map (some b)) key false).run P w=.ok v0 w∧
   (Instr.mapEntry t (.map (some b)) key).run P w=.ok (.tuple #[v0,goInt st]) (setBlock w b (.map es1 clock1))∧(Instr.mapUpdate t (.map (some b)) key v0).run P w=.ok () (setBlock w b (.map es1 clock1)):=by
 rcases K.find w iE es.toList F.keys with ⟨h1,h2⟩ | ⟨j,e0,h1,h2,h3⟩
 ·refine⟨z,es.push ⟨key,z,clock⟩,clock+1,clock,?_,?_,?_⟩
  ·simp[Instr.lookup,run_underlying ht,MapKept.run_getObj_map hb,K.check w _ iE,h1,hz,Result.andThen]
  ·simp[Instr.mapEntry,run_underlying ht,MapKept.run_getObj_map hb,K.check w false iE,h1,hz,MapKept.run_setObj_map _ hb,Result.andThen,setBlock]
  ·simp[Instr.mapUpdate,run_underlying ht,MapKept.run_getObj_map hb,K.check w false iE,h1,MapKept.run_setObj_map _ hb,Result.andThen,setBlock]
 ·have hj:es[j]?=some e0:=by simpa using h2
  have iP:es.modify j (fun e=>{ e with key:=key })=es:=by
   apply Array.ext';rw[Array.toList_modify,modify_eq_set _ _ _ _ h2];have:({ e0 with key:=key }:MapEntry)=e0:=by rw[← h3]
   rw[this];exact set_self _ _ _ h2
  have Is:es.modify j (fun e'=>{ e' with key:=key,val:=e0.val })=es:=by
   apply Array.ext';rw[Array.toList_modify,modify_eq_set _ _ _ _ h2];have:({ e0 with key:=key,val:=e0.val }:MapEntry)=e0:=by rw[← h3]
   rw[this];exact set_self _ _ _ h2
  refine⟨e0.val,es,clock,e0.born,?_,?_,?_⟩
  ·simp[Instr.lookup,run_underlying ht,MapKept.run_getObj_map hb,K.check w _ iE,h1,Result.andThen]
  ·simp[Instr.mapEntry,run_underlying ht,MapKept.run_getObj_map hb,K.check w false iE,h1,hj,h3,K.stays w iE,iP,MapKept.run_setObj_map _ hb,Result.andThen,setBlock]
  ·simp[Instr.mapUpdate,run_underlying ht,MapKept.run_getObj_map hb,K.check w false iE,h1,hj,h3,K.stays w iE,Is,MapKept.run_setObj_map _ hb,Result.andThen,setBlock]
theorem oU {w:World} {b:Nat} {x y:Obj}:setBlock (setBlock w b x) b y=setBlock w b y:=by simp[setBlock]
end
theorem tH (w:World):(zeroValue 3).run Tryz.prog w=.ok (.int .i64 0) w:=by kernel_rfl
structure IncrR (bm:Nat) (key:Value) (c:Int) (st:Int) (w wm wz:World):Prop where
 look:(Instr.lookup 144 (.map (some bm)) key false).run Tryz.prog w=.ok (.int .i64 c) w
 entry:(Instr.mapEntry 144 (.map (some bm)) key).run Tryz.prog w=.ok (.tuple #[.int .i64 c,.int .i64 st]) wm
 look2:(Instr.lookup 144 (.map (some bm)) key false).run Tryz.prog wm=.ok (.int .i64 c) wm
 store:(Instr.entryStore 144 (.map (some bm)) (.int .i64 st) (.int .i64 (c+1))).run Tryz.prog wm=.ok () wz
 grown:w.grownBy wm (some bm)
 grown2:w.grownBy wz (some bm)
theorem AC {w:World} {bm M:Nat} {D:D0} (bU:w.ownsMap Tryz.prog 149 (plainElem Tryz.prog 3) bm M D) (hM:M<4611686018427387904) {s:Sp} (hs:s.Ok) (jU:∀ c:Int,D.atKey (CR s) (.lit (.int .i64 0))=.lit (.int .i64 c)→0≤c∧c≤4611686018427387904):
  ∃ c st wm wz,IncrR bm (gK s) c st w wm wz∧D.atKey (CR s) (.lit (.int .i64 0))=.lit (.int .i64 c)∧wz.ownsMap Tryz.prog 149 (plainElem Tryz.prog 3) bm (M+1) (D.put (CR s) (.lit (.int .i64 (c+1)))):=by
 have iE:=wB hs;have QL:M<maxLen:=by unfold maxLen;omega
 obtain⟨c,OR,nl,i7⟩:=bU.lookup_int lawS Tryz.underlying144 Tryz.underlying3 (tH w) iE;obtain⟨c0,c1⟩:=jU c nl;have O3:(Lit.int .i64 (c+1)).wf=true:=WalkArith.wf_i64 (by omega);obtain⟨w1,iz,lg,OW⟩:=bU.store (val:=.int .i64 c) lawS Tryz.underlying144 QL iE (plainElem_int Tryz.underlying3 i7);obtain⟨w2,bI,vU,LH⟩:=bU.store (val:=.int .i64 (c+1)) lawS Tryz.underlying144 QL iE (plainElem_int Tryz.underlying3 O3);obtain⟨c2,Am,zD,_⟩:=lg.lookup_int lawS Tryz.underlying144 Tryz.underlying3 (tH w1) iE;obtain⟨es,clock,hb,F,_,hD⟩:=bU
 have df:c2=c:=by
  rw[atKey_put_same (show IsMap D from⟨_,hD⟩) (rz s)] at zD
  injection zD with h
  injection h with _ h
  exact h.symm
 subst df;obtain⟨v0,es1,clock1,st,l1,l2,l3⟩:=wT IE Tryz.underlying144 (z:=.int .i64 0) tH hb F iE;obtain⟨v0',st',es1',clock1',m1,_,m3⟩:=Go.WideElems.entry_then_store IE Tryz.underlying144 (z:=.int .i64 0) tH hb F iE
 have e0:v0=.int .i64 c2:=by
  have:=l1.symm.trans OR
  injection this
 subst e0;have e1:=l2.symm.trans m1
 injection e1 with e1 e2
 have e3:=l3.symm.trans iz
 injection e3 with _ e3
 have zZ:w1.heap[bm]?=some (.map es1' clock1'):=by
  rw[← e3,e2];exact Go.ChangeMaps.heap_setBlock_same hb _
 obtain⟨es',clock',n1,n2⟩:=m3 w1 (.int .i64 (c2+1)) zZ;have e4:=n2.symm.trans bI
 injection e4 with _ e4
 have e5:Go.ChangeMaps.setBlock w1 bm (.map es' clock')=w2:=by
  rw[← e3,e2,oU] at *;exact e4
 have e6:goInt st'=.int .i64 (st':Int):=rfl;rw[e5] at n1;refine⟨c2,(st':Int),w1,w2,⟨l1,?_,Am,n1,OW.grown,LH.grown⟩,nl,vU⟩;rw[m1,← e1,← e2,e3]
 injection e1 with e1
 have e7:=congrArg (fun a:Array Value=>a[1]?) e1;have e8:goInt st=goInt st':=by simpa using e7
 rw[← e6,← e8]
def hJ (mid fb bm:Nat) (w0 W:World):Prop:=mid≤W.heap.size∧∀ b,b<mid→b≠fb→b≠bm→W.heap[b]?=w0.heap[b]?
def RQ (n:Int) (vP vT vI:Value) (bm:Nat) (vE:Value):Array Value:=#[.int .i64 n,vP,vT,vI,.map (some bm),vE]
section
variable {w0 W:World} {mid fb bm bm':Nat} {n:Int} {AP AT AI:Option Addr} {lP cP lT cT lI cI:Nat} {es:Array MapEntry} {clock:Nat}
theorem qB {b o:Nat} {v:Value} (hk:hJ mid fb bm w0 W) (h:w0.cell? ⟨b,o,none⟩=some v) (hb:b<mid) (h1:b≠fb) (h2:b≠bm):W.cell? ⟨b,o,none⟩=some v:=by
 unfold World.cell? at *;rw[hk.2 b hb h1 h2];exact h
theorem rg {b o:Nat} {v:Value} (hm:w0.heap[bm]?=some (.map es clock)) (h:w0.cell? ⟨b,o,none⟩=some v):b≠bm:=fun e=>by
 subst e;simp[World.cell?,hm] at h
theorem Gw (hF:FBox w0 fb n AP lP cP AT lT cT AI lI cI bm' (.slice none 0 0)) (hm:w0.heap[bm]?=some (.map es clock)) (hk:hJ mid fb bm w0 W) {A:Option Addr} {l:List Int} (h:Ws w0 mid A l):Ws W mid A l:=by
 refine⟨fun k z hz=>?_,h.2⟩;obtain⟨b,off,hA,aJ,hc⟩:=h.1 k z hz;refine⟨b,off,hA,aJ,fun j u hu=>?_⟩;have h1:=hc j u hu;refine qB hk h1 aJ (fun e=>?_) (rg hm h1);subst e;rw[aa hF] at h1
 have hj:u=.int .u32 z:=by
  cases j with
  | zero=>simpa [bn,Enc.of1] using hu.symm
  | succ j=>simp[bn,Enc.of1] at hu
 subst hj;generalize off+(k*(bn IntKind.u32).size+j)=o at h1
 rcases o with _ | _ | _ | _ | _ | _ | o <;> simp at h1
theorem kV (hF:FBox w0 fb n AP lP cP AT lT cT AI lI cI bm' (.slice none 0 0)) (hm:w0.heap[bm]?=some (.map es clock)) (hk:hJ mid fb bm w0 W) {A:Option Addr} {l:List Cl} (h:ClSl w0 mid A l):ClSl W W.heap.size A l:=by
 intro k x hx;obtain⟨b,off,Ar,c,hA,aJ,⟨h0,h1,h2,h3,h4,h5,h6⟩,hr,hc⟩:=h k x hx
 have eZ:b≠fb:=fun e=>by
  subst e;rw[aa hF] at h0 h1;generalize off+k*7=o at h0 h1
  rcases o with _ | _ | _ | _ | _ | _ | o <;> simp at h0 h1
 have hg:∀ {o:Nat} {v:Value},w0.cell? ⟨b,o,none⟩=some v→W.cell? ⟨b,o,none⟩=some v:=fun {o v} q=>qB hk q aJ eZ (rg hm q)
 have hw:=Gw hF hm hk hr;refine⟨b,off,Ar,c,hA,Nat.lt_of_lt_of_le aJ hk.1,⟨hg h0,hg h1,hg h2,hg h3,hg h4,hg h5,hg h6⟩,hw.below (Below.refl _ W) hk.1,hc⟩
theorem wh (hF:FBox w0 fb n AP lP cP AT lT cT AI lI cI bm' (.slice none 0 0)) (hm:w0.heap[bm]?=some (.map es clock)) (hk:hJ mid fb bm w0 W) {A:Option Addr} {l:List (List Int)} (eZ:∀ b off,A=some ⟨b,off,none⟩→b≠fb) (h:ItSl w0 mid A l):ItSl W W.heap.size A l:=by
 intro k r hr;obtain⟨b,off,Ar,c,hA,aJ,h0,hw,hc⟩:=h k r hr;exact⟨b,off,Ar,c,hA,Nat.lt_of_lt_of_le aJ hk.1,qB hk h0 aJ (eZ b off hA) (rg hm h0),(Gw hF hm hk hw).below (Below.refl _ W) hk.1,hc⟩
end
structure FixF (w0:World) (lo mid fb bm:Nat) (n:Int) (P T:List Cl) (AP:Option Addr) (cP:Nat) (AT:Option Addr) (cT:Nat) (AI:Option Addr) (cI:Nat):Prop where
 row:FBox w0 fb n AP P.length cP AT T.length cT AI (bM P).length cI bm (.slice none 0 0)
 map:∃ es clock,w0.heap[bm]?=some (.map es clock)
 fbm:fb<mid∧bm<mid∧fb≠bm∧lo≤fb∧lo≤bm∧lo≤mid
 lens:P.length≤60∧T.length≤60∧P.length≤cP∧T.length≤cT
 clP:ClSl w0 mid AP P
 clT:ClSl w0 mid AT T
 its:ItSl w0 mid AI (bM P)
 itn:∀ b off,AI=some ⟨b,off,none⟩→b≠fb
 puts:∀ x ∈ P,pe x=true∧x.q=3
structure FS (w0:World) (lo mid fb bm:Nat) (n:Int) (P T:List Cl) (AP:Option Addr) (cP:Nat) (AT:Option Addr) (cT:Nat) (AI:Option Addr) (cI M:Nat) (st:List Sp × List Int) (W:World):Prop where
 own:∃ vE,FBox W fb n AP P.length cP AT T.length cT AI (bM P).length cI bm vE∧Own (bn .i64) 3 mid W vE st.2
 seen:∃ (D:D0) (cnt:Sp→Nat),W.ownsMap Tryz.prog 149 (plainElem Tryz.prog 3) bm M D∧SeenD D M st.1 cnt
 len:st.2.length≤M
 below:Below lo w0 W
 kept:hJ mid fb bm w0 W
section
variable {w0 W W':World} {lo mid fb bm cP cT cI M M':Nat} {n:Int} {P T:List Cl} {AP AT AI:Option Addr} {st:List Sp × List Int}
theorem FS.mono (h:FS w0 lo mid fb bm n P T AP cP AT cT AI cI M st W) (hM:M≤M'):FS w0 lo mid fb bm n P T AP cP AT cT AI cI M' st W:=by
 obtain⟨D,cnt,h1,h2⟩:=h.seen;exact⟨h.own,⟨D,cnt,h1.mono hM,h2.mono hM⟩,Nat.le_trans h.len hM,h.below,h.kept⟩
theorem FS.go (h:FS w0 lo mid fb bm n P T AP cP AT cT AI cI M st W) (hx:FixF w0 lo mid fb bm n P T AP cP AT cT AI cI) (hb:Below W.heap.size W W'):FS w0 lo mid fb bm n P T AP cP AT cT AI cI M st W':=by
 obtain⟨vE,f1,f2⟩:=h.own;obtain⟨D,cnt,h1,h2⟩:=h.seen;have hk:=h.kept
 exact⟨⟨vE,au f1 hb,f2.below hb (Nat.le_refl _)⟩,⟨D,cnt,h1.kept (row:=none) ⟨hb.os,hb.tape,hb.output,hb.size,fun i hi _=>hb.block i hi⟩ (by simp),h2⟩,h.len,h.below.trans (hb.mono (Nat.le_trans hx.fbm.2.2.2.2.2 h.kept.1)),
  ⟨Nat.le_trans hk.1 hb.size,fun b h1 h2 h3=>(hb.block b (by have:=hk.1;omega)).trans (hk.2 b h1 h2 h3)⟩⟩
theorem FS.clP (h:FS w0 lo mid fb bm n P T AP cP AT cT AI cI M st W) (hx:FixF w0 lo mid fb bm n P T AP cP AT cT AI cI):ClSl W W.heap.size AP P:=by
 obtain⟨es,clock,hm⟩:=hx.map;exact kV hx.row hm h.kept hx.clP
theorem FS.clT (h:FS w0 lo mid fb bm n P T AP cP AT cT AI cI M st W) (hx:FixF w0 lo mid fb bm n P T AP cP AT cT AI cI):ClSl W W.heap.size AT T:=by
 obtain⟨es,clock,hm⟩:=hx.map;exact kV hx.row hm h.kept hx.clT
theorem FS.items (h:FS w0 lo mid fb bm n P T AP cP AT cT AI cI M st W) (hx:FixF w0 lo mid fb bm n P T AP cP AT cT AI cI):ItSl W W.heap.size AI (bM P):=by
 obtain⟨es,clock,hm⟩:=hx.map;exact wh hx.row hm h.kept hx.itn hx.its
theorem FS.turned (h:FS w0 lo mid fb bm n P T AP cP AT cT AI cI M st W) (hx:FixF w0 lo mid fb bm n P T AP cP AT cT AI cI) (hg:W.grownBy W' (some bm)) {seen':List Sp} (hs:∃ (D:D0) (cnt:Sp→Nat),W'.ownsMap Tryz.prog 149 (plainElem Tryz.prog 3) bm (M+1) D∧SeenD D (M+1) seen' cnt):
  FS w0 lo mid fb bm n P T AP cP AT cT AI cI (M+1) (seen',st.2) W':=by
 obtain⟨vE,f1,f2⟩:=h.own;obtain⟨g1,g2,g3,g4,g5,g6⟩:=hx.fbm;have hk:=h.kept;have F8:=cK f1;refine⟨⟨vE,(hg.block fb F8 (by simp[g3])).trans f1,f2.1,?_⟩,hs,Nat.le_succ_of_le h.len,h.below.grown hg (Nat.le_trans hx.fbm.2.2.2.2.2 h.kept.1) (fun j hj=>by cases hj;exact g5),⟨Nat.le_trans hk.1 hg.size,fun b h1 h2 h3=>(hg.block b (by have:=hk.1;omega) (by simp[h3])).trans (hk.2 b h1 h2 h3)⟩⟩
 rcases f2.2 with q | ⟨g,cap,cur,hv,Ia,hh,r⟩
 ·exact .inl q
 ·exact .inr ⟨g,cap,cur,hv,Ia,(hg.block g (Array.getElem?_eq_some_iff.1 hh).1 (by simp;omega)).trans hh,r⟩
theorem FS.noted (h:FS w0 lo mid fb bm n P T AP cP AT cT AI cI M st W) (hx:FixF w0 lo mid fb bm n P T AP cP AT cT AI cI) {vE v':Value} {k:Int} (f1:FBox W fb n AP P.length cP AT T.length cT AI (bM P).length cI bm vE) (_f2:Own (bn .i64) 3 mid W vE st.2)
  (ho:W'.ownsRow mid 3 1 v' (st.2.length+1) ((bn .i64).all st.2++[.int .i64 k])) (hb:Below mid (W.alloc (.cells #[.int .i64 k] 3)) W') (hl:st.2.length+1≤M)
  (_hk:∀ j,j<(W.alloc (.cells #[.int .i64 k] 3)).heap.size→some j≠vE.ownBlock→W'.heap[j]?=(W.alloc (.cells #[.int .i64 k] 3)).heap[j]?):
  FS w0 lo mid fb bm n P T AP cP AT cT AI cI M (st.1,st.2++[k]) (W'.setCell ⟨fb,5,none⟩ v'):=by
 obtain⟨g1,g2,g3,g4,g5,g6⟩:=hx.fbm;have k9:=h.kept;have bG:=(Below.refl mid W).alloc k9.1 (.cells #[.int .i64 k] 3);have zJ:=bG.trans hb;have f1':FBox W' fb n AP P.length cP AT T.length cT AI (bM P).length cI bm vE:=(zJ.block fb g1).trans f1;have pz:Own (bn .i64) 3 mid W' v' (st.2++[k]):=Own.app ho rfl;obtain⟨D,cnt,h1,h2⟩:=h.seen;have bY:=zJ.size;have dU:=k9.1;refine⟨⟨v',by simpa [FBox] using bj W' fb _ _ 5 v' f1',pz.1,?_⟩,⟨D,cnt,?_,h2⟩,by rw[List.length_append];exact hl,(h.below.trans (zJ.mono g6)).setCell (p:=⟨fb,5,none⟩) g4 v',⟨by rw[qk];omega,fun b h1 h2 h3=>?_⟩⟩
 ·rcases pz.2 with q | ⟨g,cap,cur,hv,Ia,hh,r⟩
  ·exact .inl q
  ·exact .inr ⟨g,cap,cur,hv,Ia,aQ hh fb 5 v' (by omega),r⟩
 ·refine World.ownsMap.setCell ?_ (a:=⟨fb,5,none⟩) (fun e=>g3 e.symm) v';obtain⟨es,clock,aO,r⟩:=h1;exact⟨es,clock,(zJ.block bm g2).trans aO,r⟩
 ·rw[jJ W' fb 5 v' b h2,zJ.block b h1];exact k9.2 b h1 h2 h3
end
end Go.Proofs.YtabfcjohdgjkoaaGreatDoor
