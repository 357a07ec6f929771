/- Calls that rise are sorted: the comparison, and insertion. -/
import Derived.Test.YtabfcjohdgjkoaaGreatDoorZcWa
namespace Go.Proofs.YtabfcjohdgjkoaaGreatDoor
open Go.RowKit
open Go.Lib (hid)
attribute [local go_sem] Oper.semAt_some
set_option maxHeartbeats 1000000
set_option maxRecDepth 100000
abbrev FP (a0:Nat) (a1:CV) (a2:Nat) (a3:CV) (w':World):Prop:=w'.cell? ⟨a0,5,none⟩=some (.int .i64 a1.x.b)∧w'.cell? ⟨a2,5,none⟩=some (.int .i64 a3.x.b)∧w'.cell? ⟨a0,0,none⟩=some (.int .i64 a1.x.p)∧w'.cell? ⟨a2,0,none⟩=some (.int .i64 a3.x.p)
theorem AU (a:Int) (w:World):Calls Tryz.prog 92 #[.int .i64 a] w fun e w'=>e=.returned (.bool false)∧w'=w:=by
 have h:(a != a)=false:=by simp
 go_enter Tryz.func92,Tryz.ntmps92;go_wp2_with fail;go_ret;exact⟨by first | rfl | rw[h],rfl⟩
theorem pU (a b:Int) (w:World):Calls Tryz.prog 57 #[.int .i64 a,.int .i64 b] w fun e w'=>(∃ z,e=.returned (.int .i64 z)∧(b<a→z=1))∧w'=w:=by
 have h1:=hid (AU a w);have h2:=hid (AU b w)
 have h:(decide (a<b)=true∧¬ b<a)∨(decide (a<b)=false∧decide (b<a)=true)∨(decide (a<b)=false∧decide (b<a)=false∧¬ b<a):=by
  simp only[decide_eq_true_eq,decide_eq_false_iff_not];omega
 rcases h with ⟨t,hn⟩ | ⟨t,t2⟩ | ⟨t,t2,hn⟩
 all_goals
  go_enter Tryz.func57,Tryz.ntmps57;go_wp2_with fail;refine h1.out.mono ?_;rintro e w1 ⟨rfl,rfl⟩;go_wp2_with fail;refine h2.out.mono ?_;rintro e w2 ⟨rfl,rfl⟩;go_wp2_with fail;go_ret;exact⟨⟨_,rfl,fun q=>by first | rfl | omega⟩,rfl⟩
theorem IN (b:Nat) (_y:Int) (w:World) (h0:w.cell? ⟨b,0,none⟩=some (.int .i64 1)):Calls Tryz.prog 56 #[.slice (some ⟨b,0,none⟩) 2 2] w fun e w'=>e=.returned (.int .i64 1)∧w'=w:=by
 go_enter Tryz.func56,Tryz.ntmps56;go_wp2_with fail
 go_loopw [5,8] (fun _ j wr=>j=.int .i64 0∧wr=w) (fun _ j _=>2 - (intOf j).toNat)
 case atStart=>exact⟨rfl,by first | trivial | rfl⟩
 case round=>
  obtain⟨rfl,rfl⟩:=hrel;go_wp2_with fail;go_ret;exact⟨rfl,rfl⟩
theorem lz (x y:CV) (w:World) (h:y.x.b<x.x.b):Calls Tryz.prog 55 #[.agg #[.int .i64 x.x.p,.int .i64 x.x.o,.int .i64 x.x.q,.slice x.A x.x.r.length x.c,.int .i64 x.x.c,.int .i64 x.x.b,.int .i64 x.x.e],.agg #[.int .i64 y.x.p,.int .i64 y.x.o,.int .i64 y.x.q,.slice y.A y.x.r.length y.c,.int .i64 y.x.c,.int .i64 y.x.b,.int .i64 y.x.e]] w fun e w'=>e=.returned (.int .i64 1)∧Below w.heap.size w w':=by
 have kx:=RowB.new w #[.int .i64 x.x.p,.int .i64 x.x.o,.int .i64 x.x.q,.slice x.A x.x.r.length x.c,.int .i64 x.x.c,.int .i64 x.x.b,.int .i64 x.x.e] 62;have jU:=bK w (.cells #[.int .i64 x.x.p,.int .i64 x.x.o,.int .i64 x.x.q,.slice x.A x.x.r.length x.c,.int .i64 x.x.c,.int .i64 x.x.b,.int .i64 x.x.e] 62);have lM:=kx.kept ((Below.refl _ (w.alloc (.cells #[.int .i64 x.x.p,.int .i64 x.x.o,.int .i64 x.x.q,.slice x.A x.x.r.length x.c,.int .i64 x.x.c,.int .i64 x.x.b,.int .i64 x.x.e] 62))).alloc (Nat.le_refl _) (.cells #[.int .i64 y.x.p,.int .i64 y.x.o,.int .i64 y.x.q,.slice y.A y.x.r.length y.c,.int .i64 y.x.c,.int .i64 y.x.b,.int .i64 y.x.e] 62));have aq:=jU.alloc jU.size (.cells #[.int .i64 y.x.p,.int .i64 y.x.o,.int .i64 y.x.q,.slice y.A y.x.r.length y.c,.int .i64 y.x.c,.int .i64 y.x.b,.int .i64 y.x.e] 62);have sL:=RowB.new (w.alloc (.cells #[.int .i64 x.x.p,.int .i64 x.x.o,.int .i64 x.x.q,.slice x.A x.x.r.length x.c,.int .i64 x.x.c,.int .i64 x.x.b,.int .i64 x.x.e] 62)) #[.int .i64 y.x.p,.int .i64 y.x.o,.int .i64 y.x.q,.slice y.A y.x.r.length y.c,.int .i64 y.x.c,.int .i64 y.x.b,.int .i64 y.x.e] 62;obtain⟨n,hn⟩:∃ n,w.heap.size=n:=⟨_,rfl⟩;obtain⟨m,hm⟩:∃ m,(w.alloc (.cells #[.int .i64 x.x.p,.int .i64 x.x.o,.int .i64 x.x.q,.slice x.A x.x.r.length x.c,.int .i64 x.x.c,.int .i64 x.x.b,.int .i64 x.x.e] 62)).heap.size=m:=⟨_,rfl⟩;rw[hn] at lM aq ⊢;rw[hm] at sL;have HX:=hid lM;have HY:=hid sL;have HB:=hid aq;have R7:=hid h;clear kx jU lM aq sL h;go_enter Tryz.func55,Tryz.ntmps55;go_wp2_with fail;clear hm hn;generalize ((w.alloc (.cells #[.int .i64 x.x.p,.int .i64 x.x.o,.int .i64 x.x.q,.slice x.A x.x.r.length x.c,.int .i64 x.x.c,.int .i64 x.x.b,.int .i64 x.x.e] 62)).alloc (.cells #[.int .i64 y.x.p,.int .i64 y.x.o,.int .i64 y.x.q,.slice y.A y.x.r.length y.c,.int .i64 y.x.c,.int .i64 y.x.b,.int .i64 y.x.e] 62))=w1 at HX HY HB ⊢;have yH:=hid (HX.out.kept (Below.refl _ w1).drew);have My:=hid (HY.out.kept (Below.refl _ w1).drew);have bT:=hid (HB.out.trans ((Below.refl w1.heap.size w1).drew.mono (by have:=HX.out.lt;omega)));refine fg (S:=(FP n x m y)) ⟨(yH.out.cell 5).trans rfl,(My.out.cell 5).trans rfl,(yH.out.cell 0).trans rfl,(My.out.cell 0).trans rfl⟩ fun w2 bq hHeld=>?_
 rw[bq] at yH My bT;clear bq;refine ai 0 1 2 3 ?_;refine ai 5 6 7 8 ?_;refine aV 4 (fun K hK=>?_)
 ·go_simp;refine(pU x.x.b y.x.b w2).mono ?_;rintro ex wx ⟨⟨z,rfl,hz⟩,hw⟩;rw[hw];clear hw;obtain rfl:=hz R7.out;refine kH hK hHeld fun hHeld=>?_
  clear hK K;refine aV 9 (fun K hK=>?_)
  ·go_simp;refine(pU x.x.p y.x.p w2).mono ?_;rintro ex wy ⟨⟨z2,rfl,lN⟩,hw⟩;rw[hw];clear hw lN;refine kH hK hHeld fun hHeld=>?_
   clear hK K;refine aV 10 (fun K hK=>?_)
   ·go_simp;have bG:=(Below.refl _ w2).alloc (Nat.le_refl _) (.cells #[.int .i64 1,.int .i64 z2] 3);have RC:=RowB.new w2 #[.int .i64 1,.int .i64 z2] 3;have Qg:=hid (yH.out.kept bG);have Qh:=hid (My.out.kept bG);have vh:=hid (bT.out.trans (bG.mono (by have:=yH.out.lt;omega)));have Sf:=hid RC;have p7:(FP n x m y) (w2.alloc (.cells #[.int .i64 1,.int .i64 z2] 3)):=⟨(Qg.out.cell 5).trans rfl,(Qh.out.cell 5).trans rfl,(Qg.out.cell 0).trans rfl,(Qh.out.cell 0).trans rfl⟩;clear bG RC;refine kH hK p7 fun hHeld=>?_
    clear hK K;refine aV 11 (fun K hK=>?_)
    ·go_simp;refine(IN w2.heap.size z2 _ ((Sf.out.cell 0).trans rfl)).mono ?_;rintro ex wz ⟨rfl,hw⟩;rw[hw];clear hw;refine kH hK hHeld fun hHeld=>?_
     clear hK K;refine aX 12 ?_;refine aY ?_;go_wp2_with fail;go_ret;exact⟨rfl,vh.out⟩
structure UpC (N:Nat) (w:World) (A:Option Addr) (cap:Nat) (es:List CV):Prop where
 own:Own cvE 62 N w (.slice A es.length cap) es
 up:∀ (i j:Nat) (x y:CV),i<j→es[i]?=some x→es[j]?=some y→x.x.b<y.x.b
 le:es.length≤100000
section
variable {N:Nat} {w w':World} {A:Option Addr} {cap:Nat} {es:List CV}
theorem UpC.below (h:UpC N w A cap es) (hb:Below w.heap.size w w'):UpC N w' A cap es:=⟨bl h.own (Tch.of_below (fun _=>False) hb) (fun _ _ q=>q),h.up,h.le⟩
theorem UpC.row (h:UpC N w A cap es) (h0:0<es.length):∃ g,A=some ⟨g,0,none⟩:=by
 rcases h.own.2 with ⟨_,e⟩ | ⟨g,c,cur,e,_⟩
 ·omega
 ·injection e with e _ _
  exact⟨g,e⟩
theorem UpC.lt (h:UpC N w A cap es) {g:Nat} (hA:A=some ⟨g,0,none⟩):g<w.heap.size:=by
 subst hA;exact(World.ownsRow.lt h.own g rfl).2
theorem UpC.get {g k:Nat} {x:CV} (h:UpC N w (some ⟨g,0,none⟩) cap es) (hx:es[k]?=some x):w.cell? ⟨g,k*7,none⟩=some (.int .i64 x.x.p)∧w.cell? ⟨g,k*7+1,none⟩=some (.int .i64 x.x.o)∧w.cell? ⟨g,k*7+2,none⟩=some (.int .i64 x.x.q)∧w.cell? ⟨g,k*7+3,none⟩=some (.slice x.A x.x.r.length x.c)∧w.cell? ⟨g,k*7+4,none⟩=some (.int .i64 x.x.c)∧w.cell? ⟨g,k*7+5,none⟩=some (.int .i64 x.x.b)∧w.cell? ⟨g,k*7+6,none⟩=some (.int .i64 x.x.e):=
 ⟨cA h.own hx (j:=0) rfl,cA h.own hx (j:=1) rfl,cA h.own hx (j:=2) rfl,cA h.own hx (j:=3) rfl,cA h.own hx (j:=4) rfl,cA h.own hx (j:=5) rfl,cA h.own hx (j:=6) rfl⟩
end
theorem bX {x:Int} (h0:0≤x) (h:x<9223372036854775808):IntKind.i64.wrap x=x:=ag (by omega) h
theorem IC (A:Option Addr) (cap a b:Nat) (es:List CV) (N:Nat) (w:World) (h:UpC N w A cap es) (hb:b≤es.length) (ha:a≤100000):
  Calls Tryz.prog 151 #[.slice A es.length cap,.int .i64 (a:Int),.int .i64 (b:Int),.func (.func 55) #[] #[]] w fun e w'=>e=.returned (.tuple #[])∧Below w.heap.size w w':=by
 have la:=h.le;have ig:IntKind.i64.wrap ((a:Int)+1)=(a:Int)+1:=bX (by omega) (by omega);have C3:=hid h;clear h;go_enter Tryz.func151,Tryz.ntmps151;go_wp2_with fail
 go_loopw [8] (fun i wr=>∃ i':Nat,i=.int .i64 (i':Int)∧a+1≤i'∧i'≤100001∧Below w.heap.size w wr) (fun i _=>b - (intOf i).toNat)
 case atStart=>exact⟨a+1,by go_num,Nat.le_refl _,by omega,Below.refl _ _⟩
 case round=>
  clear ig;obtain⟨i,rfl,SP,ul,cH⟩:=hrel
  by_cases aJ:i<b
  ·have hd:decide ((i:Int)<(b:Int))=true:=decide_eq_true (by omega);have qU:decide (i<b)=true:=decide_eq_true (by omega);have Ix:IntKind.i64.wrap ((i:Int)+1)=(i:Int)+1:=bX (by omega) (by omega);have Pz:=hid cH;clear cH;go_wp2_with fail
   go_loopw [9] (fun j wq=>j=.int .i64 (i:Int)∧Below w.heap.size w wq) (fun _ _=>0)
   case atStart=>exact⟨rfl,Pz.out⟩
   case round=>
    clear Pz;obtain⟨rfl,cH⟩:=hrel;have hu:=C3.out.below cH;obtain⟨g,rfl⟩:=hu.row (by omega);obtain⟨x,hx⟩:∃ x,es[i]?=some x:=⟨_,List.getElem?_eq_getElem (by omega)⟩;obtain⟨lo,kw⟩:∃ lo,i - 1=lo:=⟨_,rfl⟩;obtain⟨y,hy⟩:∃ y,es[lo]?=some y:=⟨_,List.getElem?_eq_getElem (by omega)⟩;obtain⟨hi,Ic⟩:∃ hi,i=hi:=⟨_,rfl⟩;rw[Ic] at hx;have yu:=hid (hu.up lo hi y x (by omega) hy hx);have vj:=hid hx;have vq:=hid hy;have HU:=hid hu;have HB:=hid cH;subst Ic;have e1:(i:Int) - 1=(lo:Int):=by omega
    have j1:decide ((a:Int)<(i:Int))=true:=decide_eq_true (by omega);have j1b:decide (a<i)=true:=decide_eq_true (by omega);have j2:IntKind.i64.wrap (lo:Int)=(lo:Int):=bX (by omega) (by omega);have k1:(i:Int)<(es.length:Int):=by omega
    have k2:(0:Int)≤(i:Int):=by omega
    have k3:(lo:Int)<(es.length:Int):=by omega
    have k4:(0:Int)≤(lo:Int):=by omega
    clear hu hx hy cH kw;go_wp2_with fail;have nc:=hid (HU.out.below (Below.refl _ wr).drew);have iA:=hid (HB.out.trans ((Below.refl _ wr).drew.mono HB.out.size));refine fg (S:=(fun w':World=>(w'.cell? ⟨g,i*7,none⟩=some (.int .i64 x.x.p)∧w'.cell? ⟨g,i*7+1,none⟩=some (.int .i64 x.x.o)∧w'.cell? ⟨g,i*7+2,none⟩=some (.int .i64 x.x.q)∧w'.cell? ⟨g,i*7+3,none⟩=some (.slice x.A x.x.r.length x.c)∧w'.cell? ⟨g,i*7+4,none⟩=some (.int .i64 x.x.c)∧w'.cell? ⟨g,i*7+5,none⟩=some (.int .i64 x.x.b)∧w'.cell? ⟨g,i*7+6,none⟩=some (.int .i64 x.x.e))∧(w'.cell? ⟨g,lo*7,none⟩=some (.int .i64 y.x.p)∧w'.cell? ⟨g,lo*7+1,none⟩=some (.int .i64 y.x.o)∧w'.cell? ⟨g,lo*7+2,none⟩=some (.int .i64 y.x.q)∧w'.cell? ⟨g,lo*7+3,none⟩=some (.slice y.A y.x.r.length y.c)∧w'.cell? ⟨g,lo*7+4,none⟩=some (.int .i64 y.x.c)∧w'.cell? ⟨g,lo*7+5,none⟩=some (.int .i64 y.x.b)∧w'.cell? ⟨g,lo*7+6,none⟩=some (.int .i64 y.x.e)))) ⟨nc.out.get vj.out,nc.out.get vq.out⟩ fun wd bq hHeld=>?_
    rw[bq] at nc iA;clear bq;refine ai 0 1 2 3 ?_;refine ai 4 5 6 7 ?_;refine ai 8 9 10 11 ?_;refine bv 12 13 ?_;refine aV 14 (fun K hK=>?_)
    ·go_simp;refine(lz x y wd yu.out).mono ?_;rintro ex wx ⟨rfl,ar⟩;have vu:=hid (nc.out.below ar);have kD:=hid (iA.out.trans (ar.mono iA.out.size));have aw:(fun w':World=>(w'.cell? ⟨g,i*7,none⟩=some (.int .i64 x.x.p)∧w'.cell? ⟨g,i*7+1,none⟩=some (.int .i64 x.x.o)∧w'.cell? ⟨g,i*7+2,none⟩=some (.int .i64 x.x.q)∧w'.cell? ⟨g,i*7+3,none⟩=some (.slice x.A x.x.r.length x.c)∧w'.cell? ⟨g,i*7+4,none⟩=some (.int .i64 x.x.c)∧w'.cell? ⟨g,i*7+5,none⟩=some (.int .i64 x.x.b)∧w'.cell? ⟨g,i*7+6,none⟩=some (.int .i64 x.x.e))∧(w'.cell? ⟨g,lo*7,none⟩=some (.int .i64 y.x.p)∧w'.cell? ⟨g,lo*7+1,none⟩=some (.int .i64 y.x.o)∧w'.cell? ⟨g,lo*7+2,none⟩=some (.int .i64 y.x.q)∧w'.cell? ⟨g,lo*7+3,none⟩=some (.slice y.A y.x.r.length y.c)∧w'.cell? ⟨g,lo*7+4,none⟩=some (.int .i64 y.x.c)∧w'.cell? ⟨g,lo*7+5,none⟩=some (.int .i64 y.x.b)∧w'.cell? ⟨g,lo*7+6,none⟩=some (.int .i64 y.x.e))) wx:=⟨vu.out.get vj.out,vu.out.get vq.out⟩;clear ar;refine kH hK aw fun hHeld=>?_
     clear hK K;refine bv 15 16 ?_;refine aY ?_;clear hHeld aw;go_wp2_with fail;exact⟨⟨i+1,by go_num,by omega,by omega,kD.out⟩,by simp[intOf];omega⟩
  ·have hd:decide ((i:Int)<(b:Int))=false:=decide_eq_false (by omega);have qU:decide (i<b)=false:=decide_eq_false (by omega);have HB:=hid cH;clear cH aJ;go_wp2_with fail
   (try simp only[Exit.inBlock,Exit.then])
   refine bodyPost_end (results_none rfl _ _ _) rfl ?_;exact⟨rfl,HB.out⟩
end Go.Proofs.YtabfcjohdgjkoaaGreatDoor
