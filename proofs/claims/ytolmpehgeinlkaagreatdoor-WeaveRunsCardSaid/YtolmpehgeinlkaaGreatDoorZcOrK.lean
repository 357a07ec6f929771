/- The document's step. -/
import Derived.Test.YtolmpehgeinlkaaGreatDoorZcOrJ
namespace Go.Proofs.YtolmpehgeinlkaaGreatDoor
open Go.RowKit
open Go.Lib (hid)
attribute [local go_sem] Oper.semAt_some
set_option maxHeartbeats 2000000
set_option maxRecDepth 100000
abbrev QOrK0 (a0:Nat) (a1:Ob) (a2:Kc) (w':World):Prop:=w'.cell? ⟨a0,0,none⟩=some (.int .i64 a1.k)∧w'.cell? ⟨a0,1,none⟩=some (.int .i64 a1.wd)∧w'.cell? ⟨a0,2,none⟩=some (.int .i64 a1.s)∧w'.cell? ⟨a0,3,none⟩=some (.int .i64 a1.c)∧w'.cell? ⟨a0,4,none⟩=some (.int .u32 a1.st)∧w'.cell? ⟨a0,5,none⟩=some (.slice a1.I a1.ni a1.ci)∧w'.cell? ⟨a0,6,none⟩=some (.int .i64 a1.wr)∧w'.cell? ⟨a0,7,none⟩=some (.slice a1.R a1.nr a1.cr)∧w'.cell? ⟨a0,8,none⟩=some (.int .i64 (a2.base:Int))∧w'.cell? ⟨a0,39,none⟩=some (.bool false)
abbrev QOrK1 (a0:Nat) (a1:Kc) (a2:Ob) (w':World):Prop:=w'.cell? ⟨a0,9,none⟩=some (.int .i64 a1.op)∧w'.cell? ⟨a0,0,none⟩=some (.int .i64 a2.k)
section
variable (yb lb cap:Nat) (o:Ob) (c:Kc) (rv:Value) (l:List Int)
def stF (k:Int) (wr:Bool):Nat:=match k.toNat,wr with
 | 1,true=>81
 | 1,false=>82
 | 2,true=>83
 | 2,false=>84
 | 3,true=>85
 | 3,false=>86
 | 4,true=>87
 | 4,false=>87
 | 5,true=>88
 | 5,false=>89
 | 6,true=>90
 | 6,false=>90
 | _,_=>0
def stX (k:Int) (wr:Bool) (y l:Value):Array Value:=if k=4∨k=6 then #[y,l,.bool wr] else #[y,l]
theorem r_step_k (w:World) (h:SR w yb lb cap o c rv l) (ho:o.Ok) (hov:c.over=false) (hat:c.base≤l.length) (hsz:sizeZ o≤(l.length:Int) - (c.base:Int)) (hs0:0<sizeZ o) (hk:isK o.k=true) (k:Int) (wr:Bool) (hkd:o.k=k) (hwr:c.wr=wr) (hst:c.steps<1000000) (hcp:l.length≤cap) (d:Kc) (l2:List Int) (HW:∀ (W:World),SR W yb lb cap o { c with steps:=c.steps+1 } rv l→Calls Tryz.prog (stF k wr) (stX k wr (.pointer (some ⟨yb,0,none⟩)) (.slice (some ⟨lb,c.base,none⟩) (l.length - c.base) (cap - c.base))) W (DidR yb lb cap o W rv d l2 (.tuple #[]))):Calls Tryz.prog 48 #[.pointer (some ⟨yb,0,none⟩),.slice (some ⟨lb,0,none⟩) l.length cap] w (DidR yb lb cap o w rv d l2 (.bool true)):=by
 obtain⟨HS0,HM0,hfit,HF,HWD,HSL,HCP,HNR⟩:=h.start;have hb63:=hfit.base1;have hln6:=h.len;have HSZ:=hid fun W=>rsize_o o ho W
 unfold obA at HSZ;clear h hfit ho;have HOV:=hid hov;have hd1:decide ((l.length:Int)<(c.base:Int))=false:=decide_eq_false (by omega);have hd1n:decide (l.length<c.base)=false:=decide_eq_false (by omega);have ew:IntKind.i64.wrap ((l.length:Int) - (c.base:Int))=(l.length:Int) - (c.base:Int):=sh_wrap (by omega) (by omega);have hd2:decide ((l.length:Int) - (c.base:Int)<sizeZ o)=false:=decide_eq_false (by omega);have hop:=oA_wr hk HS0.out.opk;rw[hwr] at hop;have HOP:=hid hop;have HWK:=hid fun W=>rWrites_any o.k W hk
 have HHW:=hid HW
 have hk6:k=1∨k=2∨k=3∨k=4∨k=5∨k=6:=by
  rcases isK_cases o.k with q | q
  ·rw[← hkd];exact q.2
  ·rw[q.1] at hk;cases hk
 have HKD:=hid (And.intro hk6 hkd);have HST:=hid hst;have hbl:c.base<l.length:=by omega
 clear hov hop hwr hk HW hkd hk6;go_enter Tryz.func48,Tryz.ntmps48;go_wp2_with fail;refine rgR (S:=(QOrK0 yb o c)) HS0 HM0 (fun HS1=>(by and_intros <;> first | exact HS1.out.row.c rfl | exact(HS1.out.row.cell 39).trans (by show some (Value.bool c.over)=_;rw[HOV.out]))) fun w1 HS1 HM1 hHeld=>?_
 refine tk4 0 1 2 3 ?_;refine tk4 4 5 6 7 ?_;refine tk4 8 9 10 11 ?_;refine tk4 12 13 14 15 ?_;refine tk4 16 17 19 20 ?_;refine tk4 21 22 23 24 ?_;refine tkH 25 ?_;refine clH 18 (fun K hK=>?_)
 ·go_simp;refine(HSZ.out _).mono ?_;rintro ex w2 ⟨rfl,hb⟩;have HS2:=hid (HS1.out.below hb);have HM2:=hid (HM1.out.trans (Mv.below hb _));clear hb;have hSx:(QOrK0 yb o c) w2:=(by and_intros <;> first | exact HS2.out.row.c rfl | exact(HS2.out.row.cell 39).trans (by show some (Value.bool c.over)=_;rw[HOV.out]));refine kH hK hSx fun hHeld=>?_
  clear hK K;refine tk2 26 27 ?_;refine dnH ?_;clear hHeld hSx;have hr2:=HS2.out.row;have c15_2:=hr2.at 15 (.int .i64 (c.steps:Int));have c8_2:=hr2.at 8 (.int .i64 (c.base:Int));have f15_2:=hr2.frozen 15;clear hr2;have hb0:(0:Int)≤(c.base:Int):=by omega
  have hb1:(c.base:Int)≤(l.length:Int):=by omega
  have hb2:¬ cap=c.base:=by omega
  have hb3:((c.base:Int)).toNat=c.base:=by omega
  have hb4:(c.base:Int)≤(cap:Int):=by omega
  have hc0:(l.length:Int)≤(cap:Int):=by omega
  have est:IntKind.i64.wrap ((c.steps:Int)+1)=(c.steps:Int)+1:=sh_wrap (by omega) (by have:=HST.out;omega);go_wp2_with fail;obtain⟨HS3,HM3⟩:=nxR (w2.setCell ⟨yb,15,none⟩ (.int .i64 ((c.steps:Int)+1))) (HS2.out.setSt HST.out) HM2;clear hb0 hb1 hb2 hb3 hb4 hc0 est;have hd:=HOP.out;refine rgR (S:=(QOrK1 yb c o)) HS3 HM3 (fun HS4=>⟨(HS4.out.row.cell 9).trans rfl,(HS4.out.row.cell 0).trans rfl⟩) fun w4 HS4 HM4 hHeld=>?_
  refine tk4 0 1 2 3 ?_;refine tk4 4 5 6 7 ?_;refine tkH 8 ?_;refine clH 9 (fun K hK=>?_)
  ·go_simp;refine(HWK.out _).mono ?_;rintro ex w5 ⟨rfl,rfl⟩;have HS5:=HS4;have HM5:=HM4;have hSx:(QOrK1 yb c o) w5:=⟨(HS5.out.row.cell 9).trans rfl,(HS5.out.row.cell 0).trans rfl⟩;refine kH hK hSx fun hHeld=>?_
   clear hK K;refine tk2 10 11 ?_;refine dnH ?_;clear hHeld hSx;clear hd;obtain⟨hk6,hkd⟩:=HKD.out
   rcases hk6 with rfl | rfl | rfl | rfl | rfl | rfl
   ·have kb1:(o.k==1)=true:=by rw[hkd];rfl
    cases wr <;> (go_wp2_with fail;refine(HHW.out _ HS5.out).mono ?_;rintro ex wz ⟨rvz,rfl,hs,hm⟩;go_wp2_with fail;go_ret;exact⟨_,rfl,hs,HM5.out.trans hm⟩)
   ·have kb1:(o.k==1)=false:=by rw[hkd];rfl
    have kb2:(o.k==2)=true:=by rw[hkd];rfl
    cases wr <;> (go_wp2_with fail;refine(HHW.out _ HS5.out).mono ?_;rintro ex wz ⟨rvz,rfl,hs,hm⟩;go_wp2_with fail;go_ret;exact⟨_,rfl,hs,HM5.out.trans hm⟩)
   ·have kb1:(o.k==1)=false:=by rw[hkd];rfl
    have kb2:(o.k==2)=false:=by rw[hkd];rfl
    have kb3:(o.k==3)=true:=by rw[hkd];rfl
    cases wr <;> (go_wp2_with fail;refine(HHW.out _ HS5.out).mono ?_;rintro ex wz ⟨rvz,rfl,hs,hm⟩;go_wp2_with fail;go_ret;exact⟨_,rfl,hs,HM5.out.trans hm⟩)
   ·have kb1:(o.k==1)=false:=by rw[hkd];rfl
    have kb2:(o.k==2)=false:=by rw[hkd];rfl
    have kb3:(o.k==3)=false:=by rw[hkd];rfl
    have kb4:(o.k==4)=true:=by rw[hkd];rfl
    cases wr <;> (go_wp2_with fail;refine(HHW.out _ HS5.out).mono ?_;rintro ex wz ⟨rvz,rfl,hs,hm⟩;go_wp2_with fail;go_ret;exact⟨_,rfl,hs,HM5.out.trans hm⟩)
   ·have kb1:(o.k==1)=false:=by rw[hkd];rfl
    have kb2:(o.k==2)=false:=by rw[hkd];rfl
    have kb3:(o.k==3)=false:=by rw[hkd];rfl
    have kb4:(o.k==4)=false:=by rw[hkd];rfl
    have kb5:(o.k==5)=true:=by rw[hkd];rfl
    cases wr <;> (go_wp2_with fail;refine(HHW.out _ HS5.out).mono ?_;rintro ex wz ⟨rvz,rfl,hs,hm⟩;go_wp2_with fail;go_ret;exact⟨_,rfl,hs,HM5.out.trans hm⟩)
   ·have kb1:(o.k==1)=false:=by rw[hkd];rfl
    have kb2:(o.k==2)=false:=by rw[hkd];rfl
    have kb3:(o.k==3)=false:=by rw[hkd];rfl
    have kb4:(o.k==4)=false:=by rw[hkd];rfl
    have kb5:(o.k==5)=false:=by rw[hkd];rfl
    have kb6:(o.k==6)=true:=by rw[hkd];rfl
    cases wr <;> (go_wp2_with fail;refine(HHW.out _ HS5.out).mono ?_;rintro ex wz ⟨rvz,rfl,hs,hm⟩;go_wp2_with fail;go_ret;exact⟨_,rfl,hs,HM5.out.trans hm⟩)
end
end Go.Proofs.YtolmpehgeinlkaaGreatDoor
