/- Calls that rise are sorted: the comparison, and insertion. -/
import Derived.Test.YtolmpehgeinlkaaGreatDoorZcWa
import Derived.Test.YtolmpehgeinlkaaGreatDoorZcShF
namespace Go.Proofs.YtolmpehgeinlkaaGreatDoor
open Go.RowKit
open Go.Lib (hid)
attribute [local go_sem] Oper.semAt_some
set_option maxHeartbeats 1000000
set_option maxRecDepth 100000
abbrev QWvS0 (a0:Nat) (a1:CV) (a2:Nat) (a3:CV) (w':World):Prop:=w'.cell? ⟨a0,5,none⟩=some (.int .i64 a1.x.b)∧w'.cell? ⟨a2,5,none⟩=some (.int .i64 a3.x.b)∧w'.cell? ⟨a0,0,none⟩=some (.int .i64 a1.x.p)∧w'.cell? ⟨a2,0,none⟩=some (.int .i64 a3.x.p)
theorem nan_no (a:Int) (w:World):Calls Tryz.prog 74 #[.int .i64 a] w fun e w'=>e=.returned (.bool false)∧w'=w:=by
 have h:(a != a)=false:=by simp
 go_enter Tryz.func74,Tryz.ntmps74;go_wp2_with fail;go_ret;exact⟨by first | rfl | rw[h],rfl⟩
theorem compare_o (a b:Int) (w:World):Calls Tryz.prog 39 #[.int .i64 a,.int .i64 b] w fun e w'=>(∃ z,e=.returned (.int .i64 z)∧(b<a→z=1))∧w'=w:=by
 have h1:=hid (nan_no a w);have h2:=hid (nan_no b w)
 have h:(decide (a<b)=true∧¬ b<a)∨(decide (a<b)=false∧decide (b<a)=true)∨(decide (a<b)=false∧decide (b<a)=false∧¬ b<a):=by
  simp only[decide_eq_true_eq,decide_eq_false_iff_not];omega
 rcases h with ⟨t,hn⟩ | ⟨t,t2⟩ | ⟨t,t2,hn⟩
 all_goals
  go_enter Tryz.func39,Tryz.ntmps39;go_wp2_with fail;refine h1.out.mono ?_;rintro e w1 ⟨rfl,rfl⟩;go_wp2_with fail;refine h2.out.mono ?_;rintro e w2 ⟨rfl,rfl⟩;go_wp2_with fail;go_ret;exact⟨⟨_,rfl,fun q=>by first | rfl | (exfalso;omega)⟩,rfl⟩
theorem or_one (b:Nat) (_y:Int) (w:World) (h0:w.cell? ⟨b,0,none⟩=some (.int .i64 1)):Calls Tryz.prog 38 #[.slice (some ⟨b,0,none⟩) 2 2] w fun e w'=>e=.returned (.int .i64 1)∧w'=w:=by
 go_enter Tryz.func38,Tryz.ntmps38;go_wp2_with fail
 go_loopw [5,8] (fun _ j wr=>j=.int .i64 0∧wr=w) (fun _ j _=>2 - (intOf j).toNat)
 case atStart=>exact⟨rfl,by first | trivial | rfl⟩
 case round=>
  obtain⟨rfl,rfl⟩:=hrel;go_wp2_with fail;go_ret;exact⟨rfl,rfl⟩
theorem scmp_gt (x y:CV) (w:World) (h:y.x.b<x.x.b):Calls Tryz.prog 37 #[.agg #[.int .i64 x.x.p,.int .i64 x.x.o,.int .i64 x.x.q,.slice x.A x.x.r.length x.c,.int .i64 x.x.c,.int .i64 x.x.b,.int .i64 x.x.e],.agg #[.int .i64 y.x.p,.int .i64 y.x.o,.int .i64 y.x.q,.slice y.A y.x.r.length y.c,.int .i64 y.x.c,.int .i64 y.x.b,.int .i64 y.x.e]] w fun e w'=>e=.returned (.int .i64 1)∧Below w.heap.size w w':=by
 have hx0:=RowB.new w #[.int .i64 x.x.p,.int .i64 x.x.o,.int .i64 x.x.q,.slice x.A x.x.r.length x.c,.int .i64 x.x.c,.int .i64 x.x.b,.int .i64 x.x.e] 40;have hb0:=(Below.refl w.heap.size w).alloc (Nat.le_refl _) (.cells #[.int .i64 x.x.p,.int .i64 x.x.o,.int .i64 x.x.q,.slice x.A x.x.r.length x.c,.int .i64 x.x.c,.int .i64 x.x.b,.int .i64 x.x.e] 40);have hx1:=hx0.kept ((Below.refl _ (w.alloc (.cells #[.int .i64 x.x.p,.int .i64 x.x.o,.int .i64 x.x.q,.slice x.A x.x.r.length x.c,.int .i64 x.x.c,.int .i64 x.x.b,.int .i64 x.x.e] 40))).alloc (Nat.le_refl _) (.cells #[.int .i64 y.x.p,.int .i64 y.x.o,.int .i64 y.x.q,.slice y.A y.x.r.length y.c,.int .i64 y.x.c,.int .i64 y.x.b,.int .i64 y.x.e] 40));have hb1:=hb0.alloc hb0.size (.cells #[.int .i64 y.x.p,.int .i64 y.x.o,.int .i64 y.x.q,.slice y.A y.x.r.length y.c,.int .i64 y.x.c,.int .i64 y.x.b,.int .i64 y.x.e] 40);have hy1:=RowB.new (w.alloc (.cells #[.int .i64 x.x.p,.int .i64 x.x.o,.int .i64 x.x.q,.slice x.A x.x.r.length x.c,.int .i64 x.x.c,.int .i64 x.x.b,.int .i64 x.x.e] 40)) #[.int .i64 y.x.p,.int .i64 y.x.o,.int .i64 y.x.q,.slice y.A y.x.r.length y.c,.int .i64 y.x.c,.int .i64 y.x.b,.int .i64 y.x.e] 40;obtain⟨n,hn⟩:∃ n,w.heap.size=n:=⟨_,rfl⟩;obtain⟨m,hm⟩:∃ m,(w.alloc (.cells #[.int .i64 x.x.p,.int .i64 x.x.o,.int .i64 x.x.q,.slice x.A x.x.r.length x.c,.int .i64 x.x.c,.int .i64 x.x.b,.int .i64 x.x.e] 40)).heap.size=m:=⟨_,rfl⟩;rw[hn] at hx1 hb1 ⊢;rw[hm] at hy1;have HX:=hid hx1;have HY:=hid hy1;have HB:=hid hb1;have HLT:=hid h;clear hx0 hb0 hx1 hb1 hy1 h;go_enter Tryz.func37,Tryz.ntmps37;go_wp2_with fail;clear hm hn;generalize ((w.alloc (.cells #[.int .i64 x.x.p,.int .i64 x.x.o,.int .i64 x.x.q,.slice x.A x.x.r.length x.c,.int .i64 x.x.c,.int .i64 x.x.b,.int .i64 x.x.e] 40)).alloc (.cells #[.int .i64 y.x.p,.int .i64 y.x.o,.int .i64 y.x.q,.slice y.A y.x.r.length y.c,.int .i64 y.x.c,.int .i64 y.x.b,.int .i64 y.x.e] 40))=w1 at HX HY HB ⊢;have HX1:=hid (HX.out.kept (Below.refl _ w1).drew);have HY1:=hid (HY.out.kept (Below.refl _ w1).drew);have HB1:=hid (HB.out.trans ((Below.refl w1.heap.size w1).drew.mono (by have:=HX.out.lt;omega)));refine rgn (S:=(QWvS0 n x m y)) ⟨(HX1.out.cell 5).trans rfl,(HY1.out.cell 5).trans rfl,(HX1.out.cell 0).trans rfl,(HY1.out.cell 0).trans rfl⟩ fun w2 hw9 hHeld=>?_
 rw[hw9] at HX1 HY1 HB1;clear hw9;refine tk4 0 1 2 3 ?_;refine tk4 5 6 7 8 ?_;refine clH 4 (fun K hK=>?_)
 ·go_simp;refine(compare_o x.x.b y.x.b w2).mono ?_;rintro ex wx ⟨⟨z,rfl,hz⟩,hw⟩;rw[hw];clear hw;obtain rfl:=hz HLT.out;refine kH hK hHeld fun hHeld=>?_
  clear hK K;refine clH 9 (fun K hK=>?_)
  ·go_simp;refine(compare_o x.x.p y.x.p w2).mono ?_;rintro ex wy ⟨⟨z2,rfl,hz2⟩,hw⟩;rw[hw];clear hw hz2;refine kH hK hHeld fun hHeld=>?_
   clear hK K;refine clH 10 (fun K hK=>?_)
   ·go_simp;have hba:=(Below.refl _ w2).alloc (Nat.le_refl _) (.cells #[.int .i64 1,.int .i64 z2] 3);have hra:=RowB.new w2 #[.int .i64 1,.int .i64 z2] 3;have HXA:=hid (HX1.out.kept hba);have HYA:=hid (HY1.out.kept hba);have HBA:=hid (HB1.out.trans (hba.mono (by have:=HX1.out.lt;omega)));have HRA:=hid hra;have hSa:(QWvS0 n x m y) (w2.alloc (.cells #[.int .i64 1,.int .i64 z2] 3)):=⟨(HXA.out.cell 5).trans rfl,(HYA.out.cell 5).trans rfl,(HXA.out.cell 0).trans rfl,(HYA.out.cell 0).trans rfl⟩;clear hba hra;refine kH hK hSa fun hHeld=>?_
    clear hK K;refine clH 11 (fun K hK=>?_)
    ·go_simp;refine(or_one w2.heap.size z2 _ ((HRA.out.cell 0).trans rfl)).mono ?_;rintro ex wz ⟨rfl,hw⟩;rw[hw];clear hw;refine kH hK hHeld fun hHeld=>?_
     clear hK K;refine tkH 12 ?_;refine dnH ?_;go_wp2_with fail;go_ret;exact⟨rfl,HBA.out⟩
structure UpC (N:Nat) (w:World) (A:Option Addr) (cap:Nat) (es:List CV):Prop where
 own:Own cvE 40 N w (.slice A es.length cap) es
 up:∀ (i j:Nat) (x y:CV),i<j→es[i]?=some x→es[j]?=some y→x.x.b<y.x.b
 le:es.length≤100000
section
variable {N:Nat} {w w':World} {A:Option Addr} {cap:Nat} {es:List CV}
theorem UpC.below (h:UpC N w A cap es) (hb:Below w.heap.size w w'):UpC N w' A cap es:=⟨own_tch h.own (Tch.of_below (fun _=>False) hb) (fun _ _ q=>q),h.up,h.le⟩
theorem UpC.row (h:UpC N w A cap es) (h0:0<es.length):∃ g,A=some ⟨g,0,none⟩:=by
 rcases h.own.2 with ⟨_,e⟩ | ⟨g,c,cur,e,_⟩
 ·omega
 ·injection e with e _ _
  exact⟨g,e⟩
theorem UpC.lt (h:UpC N w A cap es) {g:Nat} (hA:A=some ⟨g,0,none⟩):g<w.heap.size:=by
 subst hA;exact(World.ownsRow.lt h.own g rfl).2
theorem UpC.get {g k:Nat} {x:CV} (h:UpC N w (some ⟨g,0,none⟩) cap es) (hx:es[k]?=some x):w.cell? ⟨g,k*7,none⟩=some (.int .i64 x.x.p)∧w.cell? ⟨g,k*7+1,none⟩=some (.int .i64 x.x.o)∧w.cell? ⟨g,k*7+2,none⟩=some (.int .i64 x.x.q)∧w.cell? ⟨g,k*7+3,none⟩=some (.slice x.A x.x.r.length x.c)∧w.cell? ⟨g,k*7+4,none⟩=some (.int .i64 x.x.c)∧w.cell? ⟨g,k*7+5,none⟩=some (.int .i64 x.x.b)∧w.cell? ⟨g,k*7+6,none⟩=some (.int .i64 x.x.e):=
 ⟨own_get h.own hx (j:=0) rfl,own_get h.own hx (j:=1) rfl,own_get h.own hx (j:=2) rfl,own_get h.own hx (j:=3) rfl,own_get h.own hx (j:=4) rfl,own_get h.own hx (j:=5) rfl,own_get h.own hx (j:=6) rfl⟩
end
theorem wrapN {x:Int} (h0:0≤x) (h:x<9223372036854775808):IntKind.i64.wrap x=x:=sh_wrap (by omega) h
theorem ins_up (A:Option Addr) (cap a b:Nat) (es:List CV) (N:Nat) (w:World) (h:UpC N w A cap es) (hb:b≤es.length) (ha:a≤100000):
  Calls Tryz.prog 121 #[.slice A es.length cap,.int .i64 (a:Int),.int .i64 (b:Int),.func (.func 37) #[] #[]] w fun e w'=>e=.returned (.tuple #[])∧Below w.heap.size w w':=by
 have hle:=h.le;have hwa:IntKind.i64.wrap ((a:Int)+1)=(a:Int)+1:=wrapN (by omega) (by omega);have HU0:=hid h;clear h;go_enter Tryz.func121,Tryz.ntmps121;go_wp2_with fail
 go_loopw [8] (fun i wr=>∃ i':Nat,i=.int .i64 (i':Int)∧a+1≤i'∧i'≤100001∧Below w.heap.size w wr) (fun i _=>b - (intOf i).toNat)
 case atStart=>exact⟨a+1,by go_num,Nat.le_refl _,by omega,Below.refl _ _⟩
 case round=>
  clear hwa;obtain⟨i,rfl,hai,hi1,hbb⟩:=hrel
  by_cases hlt:i<b
  ·have hd:decide ((i:Int)<(b:Int))=true:=decide_eq_true (by omega);have hd2:decide (i<b)=true:=decide_eq_true (by omega);have hwi:IntKind.i64.wrap ((i:Int)+1)=(i:Int)+1:=wrapN (by omega) (by omega);have HBO:=hid hbb;clear hbb;go_wp2_with fail
   go_loopw [9] (fun j wq=>j=.int .i64 (i:Int)∧Below w.heap.size w wq) (fun _ _=>0)
   case atStart=>exact⟨rfl,HBO.out⟩
   case round=>
    clear HBO;obtain⟨rfl,hbb⟩:=hrel;have hu:=HU0.out.below hbb;obtain⟨g,rfl⟩:=hu.row (by omega);obtain⟨x,hx⟩:∃ x,es[i]?=some x:=⟨_,List.getElem?_eq_getElem (by omega)⟩;obtain⟨lo,hlo⟩:∃ lo,i - 1=lo:=⟨_,rfl⟩;obtain⟨y,hy⟩:∃ y,es[lo]?=some y:=⟨_,List.getElem?_eq_getElem (by omega)⟩;obtain⟨hi,hhi⟩:∃ hi,i=hi:=⟨_,rfl⟩;rw[hhi] at hx;have HGT:=hid (hu.up lo hi y x (by omega) hy hx);have HHI:=hid hx;have HLO:=hid hy;have HU:=hid hu;have HB:=hid hbb;subst hhi;have e1:(i:Int) - 1=(lo:Int):=by omega
    have j1:decide ((a:Int)<(i:Int))=true:=decide_eq_true (by omega);have j1b:decide (a<i)=true:=decide_eq_true (by omega);have j2:IntKind.i64.wrap (lo:Int)=(lo:Int):=wrapN (by omega) (by omega);have k1:(i:Int)<(es.length:Int):=by omega
    have k2:(0:Int)≤(i:Int):=by omega
    have k3:(lo:Int)<(es.length:Int):=by omega
    have k4:(0:Int)≤(lo:Int):=by omega
    clear hu hx hy hbb hlo;go_wp2_with fail;have HUD:=hid (HU.out.below (Below.refl _ wr).drew);have HBD:=hid (HB.out.trans ((Below.refl _ wr).drew.mono HB.out.size));refine rgn (S:=(fun w':World=>(w'.cell? ⟨g,i*7,none⟩=some (.int .i64 x.x.p)∧w'.cell? ⟨g,i*7+1,none⟩=some (.int .i64 x.x.o)∧w'.cell? ⟨g,i*7+2,none⟩=some (.int .i64 x.x.q)∧w'.cell? ⟨g,i*7+3,none⟩=some (.slice x.A x.x.r.length x.c)∧w'.cell? ⟨g,i*7+4,none⟩=some (.int .i64 x.x.c)∧w'.cell? ⟨g,i*7+5,none⟩=some (.int .i64 x.x.b)∧w'.cell? ⟨g,i*7+6,none⟩=some (.int .i64 x.x.e))∧(w'.cell? ⟨g,lo*7,none⟩=some (.int .i64 y.x.p)∧w'.cell? ⟨g,lo*7+1,none⟩=some (.int .i64 y.x.o)∧w'.cell? ⟨g,lo*7+2,none⟩=some (.int .i64 y.x.q)∧w'.cell? ⟨g,lo*7+3,none⟩=some (.slice y.A y.x.r.length y.c)∧w'.cell? ⟨g,lo*7+4,none⟩=some (.int .i64 y.x.c)∧w'.cell? ⟨g,lo*7+5,none⟩=some (.int .i64 y.x.b)∧w'.cell? ⟨g,lo*7+6,none⟩=some (.int .i64 y.x.e)))) ⟨HUD.out.get HHI.out,HUD.out.get HLO.out⟩ fun wd hw9 hHeld=>?_
    rw[hw9] at HUD HBD;clear hw9;refine tk4 0 1 2 3 ?_;refine tk4 4 5 6 7 ?_;refine tk4 8 9 10 11 ?_;refine tk2 12 13 ?_;refine clH 14 (fun K hK=>?_)
    ·go_simp;refine(scmp_gt x y wd HGT.out).mono ?_;rintro ex wx ⟨rfl,hbx⟩;have HUX:=hid (HUD.out.below hbx);have HBX:=hid (HBD.out.trans (hbx.mono HBD.out.size));have hSx:(fun w':World=>(w'.cell? ⟨g,i*7,none⟩=some (.int .i64 x.x.p)∧w'.cell? ⟨g,i*7+1,none⟩=some (.int .i64 x.x.o)∧w'.cell? ⟨g,i*7+2,none⟩=some (.int .i64 x.x.q)∧w'.cell? ⟨g,i*7+3,none⟩=some (.slice x.A x.x.r.length x.c)∧w'.cell? ⟨g,i*7+4,none⟩=some (.int .i64 x.x.c)∧w'.cell? ⟨g,i*7+5,none⟩=some (.int .i64 x.x.b)∧w'.cell? ⟨g,i*7+6,none⟩=some (.int .i64 x.x.e))∧(w'.cell? ⟨g,lo*7,none⟩=some (.int .i64 y.x.p)∧w'.cell? ⟨g,lo*7+1,none⟩=some (.int .i64 y.x.o)∧w'.cell? ⟨g,lo*7+2,none⟩=some (.int .i64 y.x.q)∧w'.cell? ⟨g,lo*7+3,none⟩=some (.slice y.A y.x.r.length y.c)∧w'.cell? ⟨g,lo*7+4,none⟩=some (.int .i64 y.x.c)∧w'.cell? ⟨g,lo*7+5,none⟩=some (.int .i64 y.x.b)∧w'.cell? ⟨g,lo*7+6,none⟩=some (.int .i64 y.x.e))) wx:=⟨HUX.out.get HHI.out,HUX.out.get HLO.out⟩;clear hbx;refine kH hK hSx fun hHeld=>?_
     clear hK K;refine tk2 15 16 ?_;refine dnH ?_;clear hHeld hSx;go_wp2_with fail;exact⟨⟨i+1,by go_num,by omega,by omega,HBX.out⟩,by simp[intOf];omega⟩
  ·have hd:decide ((i:Int)<(b:Int))=false:=decide_eq_false (by omega);have hd2:decide (i<b)=false:=decide_eq_false (by omega);have HB:=hid hbb;clear hbb hlt;go_wp2_with fail
   (try simp only[Exit.inBlock,Exit.then])
   refine bodyPost_end (results_none rfl _ _ _) rfl ?_;exact⟨rfl,HB.out⟩
end Go.Proofs.YtolmpehgeinlkaaGreatDoor
