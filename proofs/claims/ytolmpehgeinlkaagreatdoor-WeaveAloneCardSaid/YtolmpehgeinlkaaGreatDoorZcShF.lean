/- What is done with each kind. -/
import Derived.Test.YtolmpehgeinlkaaGreatDoorZcShC
import Derived.Test.YtolmpehgeinlkaaGreatDoorZcA
namespace Go.Proofs.YtolmpehgeinlkaaGreatDoor
open Go.RowKit
open Go.Lib (hid)
set_option maxHeartbeats 2000000
set_option maxRecDepth 100000
theorem any_four {o:Ob} (h:o.k=1):decide (anyR o)=decide (fourR o):=by
 obtain⟨k1,k2,k3,k4,k5,k6⟩:=@kind_of o;rw[decide_eq_decide];unfold anyR
 constructor
 ·rintro(q | q | q | q | q | q)
  ·exact q
  ·exfalso;have:=k2 q;omega
  ·exfalso;have:=k3 q;omega
  ·exfalso;have:=k4 q;omega
  ·exfalso;have:=k5 q;omega
  ·exfalso;have:=k6 q;omega
 ·exact fun q=>.inl q
theorem any_chen {o:Ob} (h:o.k=2):decide (anyR o)=decide (chenR o):=by
 obtain⟨k1,k2,k3,k4,k5,k6⟩:=@kind_of o;rw[decide_eq_decide];unfold anyR
 constructor
 ·rintro(q | q | q | q | q | q)
  ·exfalso;have:=k1 q;omega
  ·exact q
  ·exfalso;have:=k3 q;omega
  ·exfalso;have:=k4 q;omega
  ·exfalso;have:=k5 q;omega
  ·exfalso;have:=k6 q;omega
 ·exact fun q=>.inr (.inl q)
theorem any_seq {o:Ob} (h:o.k=3):decide (anyR o)=decide (seqR o):=by
 obtain⟨k1,k2,k3,k4,k5,k6⟩:=@kind_of o;rw[decide_eq_decide];unfold anyR
 constructor
 ·rintro(q | q | q | q | q | q)
  ·exfalso;have:=k1 q;omega
  ·exfalso;have:=k2 q;omega
  ·exact q
  ·exfalso;have:=k4 q;omega
  ·exfalso;have:=k5 q;omega
  ·exfalso;have:=k6 q;omega
 ·exact fun q=>.inr (.inr (.inl q))
theorem any_ring {o:Ob} (h:o.k=4):decide (anyR o)=decide (ringR o):=by
 obtain⟨k1,k2,k3,k4,k5,k6⟩:=@kind_of o;rw[decide_eq_decide];unfold anyR
 constructor
 ·rintro(q | q | q | q | q | q)
  ·exfalso;have:=k1 q;omega
  ·exfalso;have:=k2 q;omega
  ·exfalso;have:=k3 q;omega
  ·exact q
  ·exfalso;have:=k5 q;omega
  ·exfalso;have:=k6 q;omega
 ·exact fun q=>.inr (.inr (.inr (.inl q)))
theorem any_cab {o:Ob} (h:o.k=5):decide (anyR o)=decide (cabR o):=by
 obtain⟨k1,k2,k3,k4,k5,k6⟩:=@kind_of o;rw[decide_eq_decide];unfold anyR
 constructor
 ·rintro(q | q | q | q | q | q)
  ·exfalso;have:=k1 q;omega
  ·exfalso;have:=k2 q;omega
  ·exfalso;have:=k3 q;omega
  ·exfalso;have:=k4 q;omega
  ·exact q
  ·exfalso;have:=k6 q;omega
 ·exact fun q=>.inr (.inr (.inr (.inr (.inl q))))
theorem any_fifo {o:Ob} (h:¬ o.k=1∧¬ o.k=2∧¬ o.k=3∧¬ o.k=4∧¬ o.k=5):decide (anyR o)=decide (fifoR o):=by
 obtain⟨k1,k2,k3,k4,k5,k6⟩:=@kind_of o;rw[decide_eq_decide];unfold anyR
 constructor
 ·rintro(q | q | q | q | q | q)
  ·exfalso;have:=k1 q;omega
  ·exfalso;have:=k2 q;omega
  ·exfalso;have:=k3 q;omega
  ·exfalso;have:=k4 q;omega
  ·exfalso;have:=k5 q;omega
  ·exact q
 ·exact fun q=>.inr (.inr (.inr (.inr (.inr q))))
theorem shaped_o (o:Ob) (ho:o.Ok) (w:World):Calls Tryz.prog 23 #[.agg (obA o)] w fun e w'=>e=.returned (.bool (decide (anyR o)))∧Below w.heap.size w w':=by
 have hn:=ObX.new w o;have hB:=(Below.refl w.heap.size w).alloc (Nat.le_refl _) (.cells (obA o) 26);obtain⟨n,hn0⟩:∃ n,w.heap.size=n:=⟨_,rfl⟩;rw[hn0] at hn hB;have HN:=hid hn;have HB:=hid hB;clear hn hB;rw[hn0]
 by_cases hk1:o.k=1
 ·have kb1:(o.k==1)=true:=by simpa using hk1
  rw[any_four hk1];have HK1:=hid hk1;clear hk1;have hr:=fun W=>fourRight_o o ho W
  unfold obA at hr;have HR:=hid hr;clear hr;unfold obA at *;go_enter Tryz.func23,Tryz.ntmps23;go_wp2_with fail;refine(HR.out _).mono ?_;rintro e w1 ⟨rfl,hb1⟩;have ho1:=ObX.kept (HN.out) hb1;have hB1:=(HB.out).trans (hb1.mono (by have:=(HB.out).size;omega));obtain⟨d0,d1,d2,d3,d4,d5,d6,d7⟩:=ho1.cells;go_wp2_with fail;go_ret;exact⟨rfl,hB1⟩
 ·have kb1:(o.k==1)=false:=by simpa using hk1
  by_cases hk2:o.k=2
  ·have kb2:(o.k==2)=true:=by simpa using hk2
   rw[any_chen hk2];have HK1:=hid hk1;clear hk1;have HK2:=hid hk2;clear hk2;have hr:=fun W=>chenRight_o o ho W
   unfold obA at hr;have HR:=hid hr;clear hr;unfold obA at *;go_enter Tryz.func23,Tryz.ntmps23;go_wp2_with fail;refine(HR.out _).mono ?_;rintro e w1 ⟨rfl,hb1⟩;have ho1:=ObX.kept (HN.out) hb1;have hB1:=(HB.out).trans (hb1.mono (by have:=(HB.out).size;omega));obtain⟨d0,d1,d2,d3,d4,d5,d6,d7⟩:=ho1.cells;go_wp2_with fail;go_ret;exact⟨rfl,hB1⟩
  ·have kb2:(o.k==2)=false:=by simpa using hk2
   by_cases hk3:o.k=3
   ·have kb3:(o.k==3)=true:=by simpa using hk3
    rw[any_seq hk3];have HK1:=hid hk1;clear hk1;have HK2:=hid hk2;clear hk2;have HK3:=hid hk3;clear hk3;have hr:=fun W=>seqRight_o o ho W
    unfold obA at hr;have HR:=hid hr;clear hr;unfold obA at *;go_enter Tryz.func23,Tryz.ntmps23;go_wp2_with fail;refine(HR.out _).mono ?_;rintro e w1 ⟨rfl,hb1⟩;have ho1:=ObX.kept (HN.out) hb1;have hB1:=(HB.out).trans (hb1.mono (by have:=(HB.out).size;omega));obtain⟨d0,d1,d2,d3,d4,d5,d6,d7⟩:=ho1.cells;go_wp2_with fail;go_ret;exact⟨rfl,hB1⟩
   ·have kb3:(o.k==3)=false:=by simpa using hk3
    by_cases hk4:o.k=4
    ·have kb4:(o.k==4)=true:=by simpa using hk4
     rw[any_ring hk4];have HK1:=hid hk1;clear hk1;have HK2:=hid hk2;clear hk2;have HK3:=hid hk3;clear hk3;have HK4:=hid hk4;clear hk4;have hr:=fun W=>ringRight_o o W
     unfold obA at hr;have HR:=hid hr;clear hr;unfold obA at *;go_enter Tryz.func23,Tryz.ntmps23;go_wp2_with fail;refine(HR.out _).mono ?_;rintro e w1 ⟨rfl,hb1⟩;have ho1:=ObX.kept (HN.out) hb1;have hB1:=(HB.out).trans (hb1.mono (by have:=(HB.out).size;omega));obtain⟨d0,d1,d2,d3,d4,d5,d6,d7⟩:=ho1.cells;go_wp2_with fail;go_ret;exact⟨rfl,hB1⟩
    ·have kb4:(o.k==4)=false:=by simpa using hk4
     by_cases hk5:o.k=5
     ·have kb5:(o.k==5)=true:=by simpa using hk5
      rw[any_cab hk5];have HK1:=hid hk1;clear hk1;have HK2:=hid hk2;clear hk2;have HK3:=hid hk3;clear hk3;have HK4:=hid hk4;clear hk4;have HK5:=hid hk5;clear hk5;have hr:=fun W=>cabRight_o o ho W
      unfold obA at hr;have HR:=hid hr;clear hr;unfold obA at *;go_enter Tryz.func23,Tryz.ntmps23;go_wp2_with fail;refine(HR.out _).mono ?_;rintro e w1 ⟨rfl,hb1⟩;have ho1:=ObX.kept (HN.out) hb1;have hB1:=(HB.out).trans (hb1.mono (by have:=(HB.out).size;omega));obtain⟨d0,d1,d2,d3,d4,d5,d6,d7⟩:=ho1.cells;go_wp2_with fail;go_ret;exact⟨rfl,hB1⟩
     ·have kb5:(o.k==5)=false:=by simpa using hk5
      rw[any_fifo ⟨hk1,hk2,hk3,hk4,hk5⟩];have HK1:=hid hk1;clear hk1;have HK2:=hid hk2;clear hk2;have HK3:=hid hk3;clear hk3;have HK4:=hid hk4;clear hk4;have HK5:=hid hk5;clear hk5;have hr:=fun W=>fifoRight_o o W
      unfold obA at hr;have HR:=hid hr;clear hr;unfold obA at *;go_enter Tryz.func23,Tryz.ntmps23;go_wp2_with fail;refine(HR.out _).mono ?_;rintro e w1 ⟨rfl,hb1⟩;have ho1:=ObX.kept (HN.out) hb1;have hB1:=(HB.out).trans (hb1.mono (by have:=(HB.out).size;omega));obtain⟨d0,d1,d2,d3,d4,d5,d6,d7⟩:=ho1.cells;go_wp2_with fail;go_ret;exact⟨rfl,hB1⟩
end Go.Proofs.YtolmpehgeinlkaaGreatDoor

namespace Go.Proofs.YtolmpehgeinlkaaGreatDoor
open Go.RowKit
open Go.Lib (hid)
attribute [local go_sem] Oper.semAt_some
set_option maxHeartbeats 2000000
set_option maxRecDepth 100000
abbrev QShF0 (a0:World) (a1:Nat) (a2:Ob) (w':World):Prop:=Below a0.heap.size a0 w'∧w'.cell? ⟨a1,0,none⟩=some (.int .i64 a2.k)∧w'.cell? ⟨a1,1,none⟩=some (.int .i64 a2.wd)∧w'.cell? ⟨a1,2,none⟩=some (.int .i64 a2.s)∧w'.cell? ⟨a1,3,none⟩=some (.int .i64 a2.c)∧w'.cell? ⟨a1,4,none⟩=some (.int .u32 a2.st)∧w'.cell? ⟨a1,5,none⟩=some (.slice a2.I a2.ni a2.ci)∧w'.cell? ⟨a1,6,none⟩=some (.int .i64 a2.wr)∧w'.cell? ⟨a1,7,none⟩=some (.slice a2.R a2.nr a2.cr)
theorem mul_bd {a b:Int} (h1:0≤a) (h2:a≤16) (h3:0≤b) (h4:b≤16):0≤a*b∧a*b≤256:=
 ⟨Int.mul_nonneg h1 h3,by have:=Int.mul_le_mul h2 h4 h3 (by omega:(0:Int)≤16);omega⟩
theorem sizeZ_no {o:Ob} (h:¬ anyR o):sizeZ o=0:=by
 unfold anyR at h;unfold sizeZ;rw[if_neg (fun q=>h (.inl q)),if_neg (fun q=>h (.inr (.inl q))),if_neg (fun q=>h (.inr (.inr (.inl q)))),if_neg (fun q=>h (.inr (.inr (.inr (.inl q))))),if_neg (fun q=>h (.inr (.inr (.inr (.inr (.inl q)))))),if_neg (fun q=>h (.inr (.inr (.inr (.inr (.inr q))))))]
theorem sizeZ_four {o:Ob} (h:fourR o):sizeZ o=(4+4*o.wd):=by
 obtain⟨k1,k2,k3,k4,k5,k6⟩:=@kind_of o;unfold sizeZ;rw[if_pos h]
theorem sizeZ_chen {o:Ob} (h:chenR o):sizeZ o=(1+o.nr+((o.nr:Int)+2)*o.wd):=by
 obtain⟨k1,k2,k3,k4,k5,k6⟩:=@kind_of o;unfold sizeZ;rw[if_neg (fun q=>absurd (k1 q) (by have:=k2 h;omega)),if_pos h]
theorem sizeZ_seq {o:Ob} (h:seqR o):sizeZ o=(1+o.wd):=by
 obtain⟨k1,k2,k3,k4,k5,k6⟩:=@kind_of o;unfold sizeZ;rw[if_neg (fun q=>absurd (k1 q) (by have:=k3 h;omega)),if_neg (fun q=>absurd (k2 q) (by have:=k3 h;omega)),if_pos h]
theorem sizeZ_ring {o:Ob} (h:ringR o):sizeZ o=(1+o.s*o.wd):=by
 obtain⟨k1,k2,k3,k4,k5,k6⟩:=@kind_of o;unfold sizeZ;rw[if_neg (fun q=>absurd (k1 q) (by have:=k4 h;omega)),if_neg (fun q=>absurd (k2 q) (by have:=k4 h;omega)),if_neg (fun q=>absurd (k3 q) (by have:=k4 h;omega)),if_pos h]
theorem sizeZ_cab {o:Ob} (h:cabR o):sizeZ o=(1+o.nr+o.s*o.wd):=by
 obtain⟨k1,k2,k3,k4,k5,k6⟩:=@kind_of o;unfold sizeZ;rw[if_neg (fun q=>absurd (k1 q) (by have:=k5 h;omega)),if_neg (fun q=>absurd (k2 q) (by have:=k5 h;omega)),if_neg (fun q=>absurd (k3 q) (by have:=k5 h;omega)),if_neg (fun q=>absurd (k4 q) (by have:=k5 h;omega)),if_pos h]
theorem sizeZ_fifo {o:Ob} (h:fifoR o):sizeZ o=(2+o.s*o.wd):=by
 obtain⟨k1,k2,k3,k4,k5,k6⟩:=@kind_of o;unfold sizeZ;rw[if_neg (fun q=>absurd (k1 q) (by have:=k6 h;omega)),if_neg (fun q=>absurd (k2 q) (by have:=k6 h;omega)),if_neg (fun q=>absurd (k3 q) (by have:=k6 h;omega)),if_neg (fun q=>absurd (k4 q) (by have:=k6 h;omega)),if_neg (fun q=>absurd (k5 q) (by have:=k6 h;omega)),if_pos h]
theorem four_bd {o:Ob} (h:fourR o):1≤o.wd∧o.wd≤8∧1≤o.nr∧o.nr≤4:=by
 unfold fourR wordsR at h;omega
theorem chen_bd {o:Ob} (h:chenR o):1≤o.wd∧o.wd≤8∧1≤o.nr∧o.nr≤4:=by
 unfold chenR wordsR at h;omega
theorem seq_bd {o:Ob} (h:seqR o):1≤o.wd∧o.wd≤8∧1≤o.nr∧o.nr≤4∧1≤o.c∧o.c≤16:=by
 unfold seqR wordsR capsR at h;omega
theorem ring_bd {o:Ob} (h:ringR o):1≤o.wd∧o.wd≤8∧1≤o.nr∧o.nr≤4∧1≤o.c∧o.c≤16∧2≤o.s∧o.s≤16:=by
 unfold ringR wordsR capsR at h;omega
theorem cab_bd {o:Ob} (h:cabR o):1≤o.wd∧o.wd≤8∧1≤o.nr∧o.nr≤4∧1≤o.c∧o.c≤16∧(o.nr:Int)+2≤o.s∧o.s≤16:=by
 unfold cabR wordsR capsR at h;omega
theorem fifo_bd {o:Ob} (h:fifoR o):1≤o.wd∧o.wd≤8∧1≤o.nr∧o.nr≤4∧1≤o.s∧o.s≤16:=by
 unfold fifoR wordsR at h;omega
theorem chenData_o (o:Ob) (h:o.nr≤4) (w:World):Calls Tryz.prog 118 #[.agg (obA o)] w fun e w'=>e=.returned (.int .i64 (1+o.nr))∧Below w.heap.size w w':=by
 have q5:(o.nr:Int)≤4:=by omega
 have hn:=ObX.new w o;have hB:=(Below.refl w.heap.size w).alloc (Nat.le_refl _) (.cells (obA o) 26);obtain⟨n,hn0⟩:∃ n,w.heap.size=n:=⟨_,rfl⟩;rw[hn0] at hn hB;have HN:=hid hn;have HB:=hid hB;clear hn hB;rw[hn0];unfold obA at *;go_enter Tryz.func118,Tryz.ntmps118;go_wp2_with fail;go_ret;exact⟨rfl,HB.out⟩
theorem chenSlots_o (o:Ob) (h:o.nr≤4) (w:World):Calls Tryz.prog 153 #[.agg (obA o)] w fun e w'=>e=.returned (.int .i64 ((o.nr:Int)+2))∧Below w.heap.size w w':=by
 have q5:(o.nr:Int)≤4:=by omega
 have hn:=ObX.new w o;have hB:=(Below.refl w.heap.size w).alloc (Nat.le_refl _) (.cells (obA o) 26);obtain⟨n,hn0⟩:∃ n,w.heap.size=n:=⟨_,rfl⟩;rw[hn0] at hn hB;have HN:=hid hn;have HB:=hid hB;clear hn hB;rw[hn0];unfold obA at *;go_enter Tryz.func153,Tryz.ntmps153;go_wp2_with fail;go_ret;exact⟨rfl,HB.out⟩
theorem cabData_o (o:Ob) (h:o.nr≤4) (w:World):Calls Tryz.prog 120 #[.agg (obA o)] w fun e w'=>e=.returned (.int .i64 (1+o.nr))∧Below w.heap.size w w':=by
 have q5:(o.nr:Int)≤4:=by omega
 have hn:=ObX.new w o;have hB:=(Below.refl w.heap.size w).alloc (Nat.le_refl _) (.cells (obA o) 26);obtain⟨n,hn0⟩:∃ n,w.heap.size=n:=⟨_,rfl⟩;rw[hn0] at hn hB;have HN:=hid hn;have HB:=hid hB;clear hn hB;rw[hn0];unfold obA at *;go_enter Tryz.func120,Tryz.ntmps120;go_wp2_with fail;go_ret;exact⟨rfl,HB.out⟩
theorem fourSz_o (o:Ob) (h:fourR o) (w:World):Calls Tryz.prog 111 #[.agg (obA o)] w fun e w'=>e=.returned (.int .i64 (4+4*o.wd))∧Below w.heap.size w w':=by
 obtain⟨q1,q2,q3,q4⟩:=four_bd h;clear h;have hn:=ObX.new w o;have hB:=(Below.refl w.heap.size w).alloc (Nat.le_refl _) (.cells (obA o) 26);obtain⟨n,hn0⟩:∃ n,w.heap.size=n:=⟨_,rfl⟩;rw[hn0] at hn hB;have HN:=hid hn;have HB:=hid hB;clear hn hB;rw[hn0];unfold obA at *;go_enter Tryz.func111,Tryz.ntmps111;go_wp2_with fail;go_ret;exact⟨rfl,HB.out⟩
theorem seqSz_o (o:Ob) (h:seqR o) (w:World):Calls Tryz.prog 113 #[.agg (obA o)] w fun e w'=>e=.returned (.int .i64 (1+o.wd))∧Below w.heap.size w w':=by
 obtain⟨q1,q2,q3,q4,q5,q6⟩:=seq_bd h;clear h;have hn:=ObX.new w o;have hB:=(Below.refl w.heap.size w).alloc (Nat.le_refl _) (.cells (obA o) 26);obtain⟨n,hn0⟩:∃ n,w.heap.size=n:=⟨_,rfl⟩;rw[hn0] at hn hB;have HN:=hid hn;have HB:=hid hB;clear hn hB;rw[hn0];unfold obA at *;go_enter Tryz.func113,Tryz.ntmps113;go_wp2_with fail;go_ret;exact⟨rfl,HB.out⟩
theorem ringSz_o (o:Ob) (h:ringR o) (w:World):Calls Tryz.prog 114 #[.agg (obA o)] w fun e w'=>e=.returned (.int .i64 (1+o.s*o.wd))∧Below w.heap.size w w':=by
 obtain⟨q1,q2,q3,q4,q5,q6,q7,q8⟩:=ring_bd h;clear h;have m:=mul_bd (a:=o.s) (b:=o.wd) (by omega) (by omega) (by omega) (by omega);have e1:IntKind.i64.wrap (o.s*o.wd)=o.s*o.wd:=sh_wrap (by omega) (by omega);have e2:IntKind.i64.wrap (1+o.s*o.wd)=1+o.s*o.wd:=sh_wrap (by omega) (by omega);have hn:=ObX.new w o;have hB:=(Below.refl w.heap.size w).alloc (Nat.le_refl _) (.cells (obA o) 26);obtain⟨n,hn0⟩:∃ n,w.heap.size=n:=⟨_,rfl⟩;rw[hn0] at hn hB;have HN:=hid hn;have HB:=hid hB;clear hn hB;rw[hn0];unfold obA at *;go_enter Tryz.func114,Tryz.ntmps114;go_wp2_with fail;go_ret;exact⟨rfl,HB.out⟩
theorem fifoSz_o (o:Ob) (h:fifoR o) (w:World):Calls Tryz.prog 116 #[.agg (obA o)] w fun e w'=>e=.returned (.int .i64 (2+o.s*o.wd))∧Below w.heap.size w w':=by
 obtain⟨q1,q2,q3,q4,q5,q6⟩:=fifo_bd h;clear h;have m:=mul_bd (a:=o.s) (b:=o.wd) (by omega) (by omega) (by omega) (by omega);have e1:IntKind.i64.wrap (o.s*o.wd)=o.s*o.wd:=sh_wrap (by omega) (by omega);have e2:IntKind.i64.wrap (2+o.s*o.wd)=2+o.s*o.wd:=sh_wrap (by omega) (by omega);have hn:=ObX.new w o;have hB:=(Below.refl w.heap.size w).alloc (Nat.le_refl _) (.cells (obA o) 26);obtain⟨n,hn0⟩:∃ n,w.heap.size=n:=⟨_,rfl⟩;rw[hn0] at hn hB;have HN:=hid hn;have HB:=hid hB;clear hn hB;rw[hn0];unfold obA at *;go_enter Tryz.func116,Tryz.ntmps116;go_wp2_with fail;go_ret;exact⟨rfl,HB.out⟩
theorem chenSz_o (o:Ob) (h:chenR o) (w:World):Calls Tryz.prog 112 #[.agg (obA o)] w fun e w'=>e=.returned (.int .i64 (1+o.nr+((o.nr:Int)+2)*o.wd))∧Below w.heap.size w w':=by
 obtain⟨q1,q2,q3,q4⟩:=chen_bd h;have hc0:=fun W=>chenData_o o q4 W
 unfold obA at hc0;have HC0:=hid hc0;clear hc0;have hc1:=fun W=>chenSlots_o o q4 W
 unfold obA at hc1;have HC1:=hid hc1;clear hc1;clear h;have m:=mul_bd (a:=(o.nr:Int)+2) (b:=o.wd) (by omega) (by omega) (by omega) (by omega);have e1:IntKind.i64.wrap (((o.nr:Int)+2)*o.wd)=((o.nr:Int)+2)*o.wd:=sh_wrap (by omega) (by omega);have e2:IntKind.i64.wrap (1+(o.nr:Int)+((o.nr:Int)+2)*o.wd)=1+(o.nr:Int)+((o.nr:Int)+2)*o.wd:=sh_wrap (by omega) (by omega);obtain⟨W0,hW0⟩:∃ W0,w.alloc (.cells #[.int .i64 o.k,.int .i64 o.wd,.int .i64 o.s,.int .i64 o.c,.int .u32 o.st,.slice o.I o.ni o.ci,.int .i64 o.wr,.slice o.R o.nr o.cr] 26)=W0:=⟨_,rfl⟩;have hn:=ObX.new w o;have hB:=(Below.refl w.heap.size w).alloc (Nat.le_refl _) (.cells (obA o) 26);unfold obA at hn hB;rw[hW0] at hn hB;obtain⟨n,hn0⟩:∃ n,w.heap.size=n:=⟨_,rfl⟩;rw[hn0] at hn hB;have HN:=hid hn;have HB:=hid hB;clear hn hB;rw[hn0];unfold obA;go_enter Tryz.func112,Tryz.ntmps112;go_wp2_with fail;have hSd:(QShF0 W0 n o) W0.drew:=⟨(Below.refl _ W0).drew,(ObX.kept HN.out (Below.refl _ W0).drew).cells⟩;refine wp_region_held_drew (S:=(QShF0 W0 n o)) (by kernel_rfl) hSd (fun hHeld=>?_);generalize W0.drew=wd at hHeld ⊢;have hHeld:(QShF0 W0 n o) wd:=hHeld;refine tk4 0 2 4 5 ?_;refine clH 1 (fun K hK=>?_);go_simp;refine(HC0.out _).mono ?_;rintro ex wx ⟨rfl,hbx⟩
 have hSx:(QShF0 W0 n o) wx:=by
  obtain⟨h0,u0,u1,u2,u3,u4,u5,u6,u7⟩:=hHeld;have hk:∀ {i:Nat} {u:Value},_→wx.cell? ⟨n,i,none⟩=some u:=fun {i u} hc=>(hbx.cell (p:=⟨n,i,none⟩) (cell_lt hc)).trans hc
  exact⟨h0.trans (hbx.mono h0.size),hk u0,hk u1,hk u2,hk u3,hk u4,hk u5,hk u6,hk u7⟩
 refine kH hK hSx fun hHeld=>?_
 clear hK K;refine clH 3 (fun K hK=>?_);go_simp;refine(HC1.out _).mono ?_;rintro ex wx ⟨rfl,hbx⟩
 have hSx:(QShF0 W0 n o) wx:=by
  obtain⟨h0,u0,u1,u2,u3,u4,u5,u6,u7⟩:=hHeld;have hk:∀ {i:Nat} {u:Value},_→wx.cell? ⟨n,i,none⟩=some u:=fun {i u} hc=>(hbx.cell (p:=⟨n,i,none⟩) (cell_lt hc)).trans hc
  exact⟨h0.trans (hbx.mono h0.size),hk u0,hk u1,hk u2,hk u3,hk u4,hk u5,hk u6,hk u7⟩
 refine kH hK hSx fun hHeld=>?_
 clear hK K;refine tk2 6 7 ?_;refine tkH 8 ?_;refine dnH ?_;clear hSd;go_wp2_with fail;go_ret;exact⟨rfl,HB.out.trans (hHeld.1.mono (by have:=HB.out.size;omega))⟩
theorem cabSz_o (o:Ob) (h:cabR o) (w:World):Calls Tryz.prog 115 #[.agg (obA o)] w fun e w'=>e=.returned (.int .i64 (1+o.nr+o.s*o.wd))∧Below w.heap.size w w':=by
 obtain⟨q1,q2,q3,q4,q5,q6,q7,q8⟩:=cab_bd h;have hc0:=fun W=>cabData_o o q4 W
 unfold obA at hc0;have HC0:=hid hc0;clear hc0;clear h;have m:=mul_bd (a:=o.s) (b:=o.wd) (by omega) (by omega) (by omega) (by omega);have e1:IntKind.i64.wrap (o.s*o.wd)=o.s*o.wd:=sh_wrap (by omega) (by omega);have e2:IntKind.i64.wrap (1+(o.nr:Int)+o.s*o.wd)=1+(o.nr:Int)+o.s*o.wd:=sh_wrap (by omega) (by omega);obtain⟨W0,hW0⟩:∃ W0,w.alloc (.cells #[.int .i64 o.k,.int .i64 o.wd,.int .i64 o.s,.int .i64 o.c,.int .u32 o.st,.slice o.I o.ni o.ci,.int .i64 o.wr,.slice o.R o.nr o.cr] 26)=W0:=⟨_,rfl⟩;have hn:=ObX.new w o;have hB:=(Below.refl w.heap.size w).alloc (Nat.le_refl _) (.cells (obA o) 26);unfold obA at hn hB;rw[hW0] at hn hB;obtain⟨n,hn0⟩:∃ n,w.heap.size=n:=⟨_,rfl⟩;rw[hn0] at hn hB;have HN:=hid hn;have HB:=hid hB;clear hn hB;rw[hn0];unfold obA;go_enter Tryz.func115,Tryz.ntmps115;go_wp2_with fail;have hSd:(QShF0 W0 n o) W0.drew:=⟨(Below.refl _ W0).drew,(ObX.kept HN.out (Below.refl _ W0).drew).cells⟩;refine wp_region_held_drew (S:=(QShF0 W0 n o)) (by kernel_rfl) hSd (fun hHeld=>?_);generalize W0.drew=wd at hHeld ⊢;have hHeld:(QShF0 W0 n o) wd:=hHeld;refine tk4 0 2 3 4 ?_;refine tk2 5 6 ?_;refine clH 1 (fun K hK=>?_);go_simp;refine(HC0.out _).mono ?_;rintro ex wx ⟨rfl,hbx⟩
 have hSx:(QShF0 W0 n o) wx:=by
  obtain⟨h0,u0,u1,u2,u3,u4,u5,u6,u7⟩:=hHeld;have hk:∀ {i:Nat} {u:Value},_→wx.cell? ⟨n,i,none⟩=some u:=fun {i u} hc=>(hbx.cell (p:=⟨n,i,none⟩) (cell_lt hc)).trans hc
  exact⟨h0.trans (hbx.mono h0.size),hk u0,hk u1,hk u2,hk u3,hk u4,hk u5,hk u6,hk u7⟩
 refine kH hK hSx fun hHeld=>?_
 clear hK K;refine tk2 7 8 ?_;refine dnH ?_;clear hSd;go_wp2_with fail;go_ret;exact⟨rfl,HB.out.trans (hHeld.1.mono (by have:=HB.out.size;omega))⟩
theorem fourSize_o (o:Ob) (ho:o.Ok) (hk:o.k=1) (w:World):Calls Tryz.prog 59 #[.agg (obA o)] w fun e w'=>e=.returned (.int .i64 (sizeZ o))∧Below w.heap.size w w':=by
 by_cases h:fourR o
 ·rw[sizeZ_four h];have hr:=fun W=>fourRight_o o ho W
  rw[decide_eq_true h] at hr;have hs:=fun W=>fourSz_o o h W
  clear h hk ho;unfold obA at hr hs;have HR:=hid hr;have HS:=hid hs;clear hr hs;have hn:=ObX.new w o;have hB:=(Below.refl w.heap.size w).alloc (Nat.le_refl _) (.cells (obA o) 26);obtain⟨n,hn0⟩:∃ n,w.heap.size=n:=⟨_,rfl⟩;rw[hn0] at hn hB;have HN:=hid hn;have HB:=hid hB;clear hn hB;rw[hn0];unfold obA at *;go_enter Tryz.func59,Tryz.ntmps59;go_wp2_with fail;refine(HR.out _).mono ?_;rintro e w1 ⟨rfl,hb1⟩;have ho1:=ObX.kept (HN.out) hb1;have hB1:=(HB.out).trans (hb1.mono (by have:=(HB.out).size;omega));obtain⟨d0,d1,d2,d3,d4,d5,d6,d7⟩:=ho1.cells;go_wp2_with fail;refine(HS.out _).mono ?_;rintro e w2 ⟨rfl,hb2⟩;have ho2:=ObX.kept (ho1) hb2;have hB2:=(hB1).trans (hb2.mono (by have:=(hB1).size;omega));clear d0 d1 d2 d3 d4 d5 d6 d7;obtain⟨d0,d1,d2,d3,d4,d5,d6,d7⟩:=ho2.cells;go_wp2_with fail;go_ret;exact⟨rfl,hB2⟩
 ·have hna:¬ anyR o:=fun q=>h (of_decide_eq_true ((any_four hk).symm.trans (decide_eq_true q)))
  rw[sizeZ_no hna];have hr:=fun W=>fourRight_o o ho W
  rw[decide_eq_false h] at hr;clear h hk ho hna;unfold obA at hr;have HR:=hid hr;clear hr;have hn:=ObX.new w o;have hB:=(Below.refl w.heap.size w).alloc (Nat.le_refl _) (.cells (obA o) 26);obtain⟨n,hn0⟩:∃ n,w.heap.size=n:=⟨_,rfl⟩;rw[hn0] at hn hB;have HN:=hid hn;have HB:=hid hB;clear hn hB;rw[hn0];unfold obA at *;go_enter Tryz.func59,Tryz.ntmps59;go_wp2_with fail;refine(HR.out _).mono ?_;rintro e w1 ⟨rfl,hb1⟩;have ho1:=ObX.kept (HN.out) hb1;have hB1:=(HB.out).trans (hb1.mono (by have:=(HB.out).size;omega));obtain⟨d0,d1,d2,d3,d4,d5,d6,d7⟩:=ho1.cells;go_wp2_with fail;go_ret;exact⟨rfl,hB1⟩
theorem chenSize_o (o:Ob) (ho:o.Ok) (hk:o.k=2) (w:World):Calls Tryz.prog 60 #[.agg (obA o)] w fun e w'=>e=.returned (.int .i64 (sizeZ o))∧Below w.heap.size w w':=by
 by_cases h:chenR o
 ·rw[sizeZ_chen h];have hr:=fun W=>chenRight_o o ho W
  rw[decide_eq_true h] at hr;have hs:=fun W=>chenSz_o o h W
  clear h hk ho;unfold obA at hr hs;have HR:=hid hr;have HS:=hid hs;clear hr hs;have hn:=ObX.new w o;have hB:=(Below.refl w.heap.size w).alloc (Nat.le_refl _) (.cells (obA o) 26);obtain⟨n,hn0⟩:∃ n,w.heap.size=n:=⟨_,rfl⟩;rw[hn0] at hn hB;have HN:=hid hn;have HB:=hid hB;clear hn hB;rw[hn0];unfold obA at *;go_enter Tryz.func60,Tryz.ntmps60;go_wp2_with fail;refine(HR.out _).mono ?_;rintro e w1 ⟨rfl,hb1⟩;have ho1:=ObX.kept (HN.out) hb1;have hB1:=(HB.out).trans (hb1.mono (by have:=(HB.out).size;omega));obtain⟨d0,d1,d2,d3,d4,d5,d6,d7⟩:=ho1.cells;go_wp2_with fail;refine(HS.out _).mono ?_;rintro e w2 ⟨rfl,hb2⟩;have ho2:=ObX.kept (ho1) hb2;have hB2:=(hB1).trans (hb2.mono (by have:=(hB1).size;omega));clear d0 d1 d2 d3 d4 d5 d6 d7;obtain⟨d0,d1,d2,d3,d4,d5,d6,d7⟩:=ho2.cells;go_wp2_with fail;go_ret;exact⟨rfl,hB2⟩
 ·have hna:¬ anyR o:=fun q=>h (of_decide_eq_true ((any_chen hk).symm.trans (decide_eq_true q)))
  rw[sizeZ_no hna];have hr:=fun W=>chenRight_o o ho W
  rw[decide_eq_false h] at hr;clear h hk ho hna;unfold obA at hr;have HR:=hid hr;clear hr;have hn:=ObX.new w o;have hB:=(Below.refl w.heap.size w).alloc (Nat.le_refl _) (.cells (obA o) 26);obtain⟨n,hn0⟩:∃ n,w.heap.size=n:=⟨_,rfl⟩;rw[hn0] at hn hB;have HN:=hid hn;have HB:=hid hB;clear hn hB;rw[hn0];unfold obA at *;go_enter Tryz.func60,Tryz.ntmps60;go_wp2_with fail;refine(HR.out _).mono ?_;rintro e w1 ⟨rfl,hb1⟩;have ho1:=ObX.kept (HN.out) hb1;have hB1:=(HB.out).trans (hb1.mono (by have:=(HB.out).size;omega));obtain⟨d0,d1,d2,d3,d4,d5,d6,d7⟩:=ho1.cells;go_wp2_with fail;go_ret;exact⟨rfl,hB1⟩
theorem seqSize_o (o:Ob) (ho:o.Ok) (hk:o.k=3) (w:World):Calls Tryz.prog 61 #[.agg (obA o)] w fun e w'=>e=.returned (.int .i64 (sizeZ o))∧Below w.heap.size w w':=by
 by_cases h:seqR o
 ·rw[sizeZ_seq h];have hr:=fun W=>seqRight_o o ho W
  rw[decide_eq_true h] at hr;have hs:=fun W=>seqSz_o o h W
  clear h hk ho;unfold obA at hr hs;have HR:=hid hr;have HS:=hid hs;clear hr hs;have hn:=ObX.new w o;have hB:=(Below.refl w.heap.size w).alloc (Nat.le_refl _) (.cells (obA o) 26);obtain⟨n,hn0⟩:∃ n,w.heap.size=n:=⟨_,rfl⟩;rw[hn0] at hn hB;have HN:=hid hn;have HB:=hid hB;clear hn hB;rw[hn0];unfold obA at *;go_enter Tryz.func61,Tryz.ntmps61;go_wp2_with fail;refine(HR.out _).mono ?_;rintro e w1 ⟨rfl,hb1⟩;have ho1:=ObX.kept (HN.out) hb1;have hB1:=(HB.out).trans (hb1.mono (by have:=(HB.out).size;omega));obtain⟨d0,d1,d2,d3,d4,d5,d6,d7⟩:=ho1.cells;go_wp2_with fail;refine(HS.out _).mono ?_;rintro e w2 ⟨rfl,hb2⟩;have ho2:=ObX.kept (ho1) hb2;have hB2:=(hB1).trans (hb2.mono (by have:=(hB1).size;omega));clear d0 d1 d2 d3 d4 d5 d6 d7;obtain⟨d0,d1,d2,d3,d4,d5,d6,d7⟩:=ho2.cells;go_wp2_with fail;go_ret;exact⟨rfl,hB2⟩
 ·have hna:¬ anyR o:=fun q=>h (of_decide_eq_true ((any_seq hk).symm.trans (decide_eq_true q)))
  rw[sizeZ_no hna];have hr:=fun W=>seqRight_o o ho W
  rw[decide_eq_false h] at hr;clear h hk ho hna;unfold obA at hr;have HR:=hid hr;clear hr;have hn:=ObX.new w o;have hB:=(Below.refl w.heap.size w).alloc (Nat.le_refl _) (.cells (obA o) 26);obtain⟨n,hn0⟩:∃ n,w.heap.size=n:=⟨_,rfl⟩;rw[hn0] at hn hB;have HN:=hid hn;have HB:=hid hB;clear hn hB;rw[hn0];unfold obA at *;go_enter Tryz.func61,Tryz.ntmps61;go_wp2_with fail;refine(HR.out _).mono ?_;rintro e w1 ⟨rfl,hb1⟩;have ho1:=ObX.kept (HN.out) hb1;have hB1:=(HB.out).trans (hb1.mono (by have:=(HB.out).size;omega));obtain⟨d0,d1,d2,d3,d4,d5,d6,d7⟩:=ho1.cells;go_wp2_with fail;go_ret;exact⟨rfl,hB1⟩
theorem ringSize_o (o:Ob) (_ho:o.Ok) (hk:o.k=4) (w:World):Calls Tryz.prog 62 #[.agg (obA o)] w fun e w'=>e=.returned (.int .i64 (sizeZ o))∧Below w.heap.size w w':=by
 by_cases h:ringR o
 ·rw[sizeZ_ring h];have hr:=fun W=>ringRight_o o W
  rw[decide_eq_true h] at hr;have hs:=fun W=>ringSz_o o h W
  clear h hk _ho;unfold obA at hr hs;have HR:=hid hr;have HS:=hid hs;clear hr hs;have hn:=ObX.new w o;have hB:=(Below.refl w.heap.size w).alloc (Nat.le_refl _) (.cells (obA o) 26);obtain⟨n,hn0⟩:∃ n,w.heap.size=n:=⟨_,rfl⟩;rw[hn0] at hn hB;have HN:=hid hn;have HB:=hid hB;clear hn hB;rw[hn0];unfold obA at *;go_enter Tryz.func62,Tryz.ntmps62;go_wp2_with fail;refine(HR.out _).mono ?_;rintro e w1 ⟨rfl,hb1⟩;have ho1:=ObX.kept (HN.out) hb1;have hB1:=(HB.out).trans (hb1.mono (by have:=(HB.out).size;omega));obtain⟨d0,d1,d2,d3,d4,d5,d6,d7⟩:=ho1.cells;go_wp2_with fail;refine(HS.out _).mono ?_;rintro e w2 ⟨rfl,hb2⟩;have ho2:=ObX.kept (ho1) hb2;have hB2:=(hB1).trans (hb2.mono (by have:=(hB1).size;omega));clear d0 d1 d2 d3 d4 d5 d6 d7;obtain⟨d0,d1,d2,d3,d4,d5,d6,d7⟩:=ho2.cells;go_wp2_with fail;go_ret;exact⟨rfl,hB2⟩
 ·have hna:¬ anyR o:=fun q=>h (of_decide_eq_true ((any_ring hk).symm.trans (decide_eq_true q)))
  rw[sizeZ_no hna];have hr:=fun W=>ringRight_o o W
  rw[decide_eq_false h] at hr;clear h hk _ho hna;unfold obA at hr;have HR:=hid hr;clear hr;have hn:=ObX.new w o;have hB:=(Below.refl w.heap.size w).alloc (Nat.le_refl _) (.cells (obA o) 26);obtain⟨n,hn0⟩:∃ n,w.heap.size=n:=⟨_,rfl⟩;rw[hn0] at hn hB;have HN:=hid hn;have HB:=hid hB;clear hn hB;rw[hn0];unfold obA at *;go_enter Tryz.func62,Tryz.ntmps62;go_wp2_with fail;refine(HR.out _).mono ?_;rintro e w1 ⟨rfl,hb1⟩;have ho1:=ObX.kept (HN.out) hb1;have hB1:=(HB.out).trans (hb1.mono (by have:=(HB.out).size;omega));obtain⟨d0,d1,d2,d3,d4,d5,d6,d7⟩:=ho1.cells;go_wp2_with fail;go_ret;exact⟨rfl,hB1⟩
theorem cabSize_o (o:Ob) (ho:o.Ok) (hk:o.k=5) (w:World):Calls Tryz.prog 63 #[.agg (obA o)] w fun e w'=>e=.returned (.int .i64 (sizeZ o))∧Below w.heap.size w w':=by
 by_cases h:cabR o
 ·rw[sizeZ_cab h];have hr:=fun W=>cabRight_o o ho W
  rw[decide_eq_true h] at hr;have hs:=fun W=>cabSz_o o h W
  clear h hk ho;unfold obA at hr hs;have HR:=hid hr;have HS:=hid hs;clear hr hs;have hn:=ObX.new w o;have hB:=(Below.refl w.heap.size w).alloc (Nat.le_refl _) (.cells (obA o) 26);obtain⟨n,hn0⟩:∃ n,w.heap.size=n:=⟨_,rfl⟩;rw[hn0] at hn hB;have HN:=hid hn;have HB:=hid hB;clear hn hB;rw[hn0];unfold obA at *;go_enter Tryz.func63,Tryz.ntmps63;go_wp2_with fail;refine(HR.out _).mono ?_;rintro e w1 ⟨rfl,hb1⟩;have ho1:=ObX.kept (HN.out) hb1;have hB1:=(HB.out).trans (hb1.mono (by have:=(HB.out).size;omega));obtain⟨d0,d1,d2,d3,d4,d5,d6,d7⟩:=ho1.cells;go_wp2_with fail;refine(HS.out _).mono ?_;rintro e w2 ⟨rfl,hb2⟩;have ho2:=ObX.kept (ho1) hb2;have hB2:=(hB1).trans (hb2.mono (by have:=(hB1).size;omega));clear d0 d1 d2 d3 d4 d5 d6 d7;obtain⟨d0,d1,d2,d3,d4,d5,d6,d7⟩:=ho2.cells;go_wp2_with fail;go_ret;exact⟨rfl,hB2⟩
 ·have hna:¬ anyR o:=fun q=>h (of_decide_eq_true ((any_cab hk).symm.trans (decide_eq_true q)))
  rw[sizeZ_no hna];have hr:=fun W=>cabRight_o o ho W
  rw[decide_eq_false h] at hr;clear h hk ho hna;unfold obA at hr;have HR:=hid hr;clear hr;have hn:=ObX.new w o;have hB:=(Below.refl w.heap.size w).alloc (Nat.le_refl _) (.cells (obA o) 26);obtain⟨n,hn0⟩:∃ n,w.heap.size=n:=⟨_,rfl⟩;rw[hn0] at hn hB;have HN:=hid hn;have HB:=hid hB;clear hn hB;rw[hn0];unfold obA at *;go_enter Tryz.func63,Tryz.ntmps63;go_wp2_with fail;refine(HR.out _).mono ?_;rintro e w1 ⟨rfl,hb1⟩;have ho1:=ObX.kept (HN.out) hb1;have hB1:=(HB.out).trans (hb1.mono (by have:=(HB.out).size;omega));obtain⟨d0,d1,d2,d3,d4,d5,d6,d7⟩:=ho1.cells;go_wp2_with fail;go_ret;exact⟨rfl,hB1⟩
theorem fifoSize_o (o:Ob) (_ho:o.Ok) (hk:¬ o.k=1∧¬ o.k=2∧¬ o.k=3∧¬ o.k=4∧¬ o.k=5) (w:World):Calls Tryz.prog 64 #[.agg (obA o)] w fun e w'=>e=.returned (.int .i64 (sizeZ o))∧Below w.heap.size w w':=by
 by_cases h:fifoR o
 ·rw[sizeZ_fifo h];have hr:=fun W=>fifoRight_o o W
  rw[decide_eq_true h] at hr;have hs:=fun W=>fifoSz_o o h W
  clear h hk _ho;unfold obA at hr hs;have HR:=hid hr;have HS:=hid hs;clear hr hs;have hn:=ObX.new w o;have hB:=(Below.refl w.heap.size w).alloc (Nat.le_refl _) (.cells (obA o) 26);obtain⟨n,hn0⟩:∃ n,w.heap.size=n:=⟨_,rfl⟩;rw[hn0] at hn hB;have HN:=hid hn;have HB:=hid hB;clear hn hB;rw[hn0];unfold obA at *;go_enter Tryz.func64,Tryz.ntmps64;go_wp2_with fail;refine(HR.out _).mono ?_;rintro e w1 ⟨rfl,hb1⟩;have ho1:=ObX.kept (HN.out) hb1;have hB1:=(HB.out).trans (hb1.mono (by have:=(HB.out).size;omega));obtain⟨d0,d1,d2,d3,d4,d5,d6,d7⟩:=ho1.cells;go_wp2_with fail;refine(HS.out _).mono ?_;rintro e w2 ⟨rfl,hb2⟩;have ho2:=ObX.kept (ho1) hb2;have hB2:=(hB1).trans (hb2.mono (by have:=(hB1).size;omega));clear d0 d1 d2 d3 d4 d5 d6 d7;obtain⟨d0,d1,d2,d3,d4,d5,d6,d7⟩:=ho2.cells;go_wp2_with fail;go_ret;exact⟨rfl,hB2⟩
 ·have hna:¬ anyR o:=fun q=>h (of_decide_eq_true ((any_fifo hk).symm.trans (decide_eq_true q)))
  rw[sizeZ_no hna];have hr:=fun W=>fifoRight_o o W
  rw[decide_eq_false h] at hr;clear h hk _ho hna;unfold obA at hr;have HR:=hid hr;clear hr;have hn:=ObX.new w o;have hB:=(Below.refl w.heap.size w).alloc (Nat.le_refl _) (.cells (obA o) 26);obtain⟨n,hn0⟩:∃ n,w.heap.size=n:=⟨_,rfl⟩;rw[hn0] at hn hB;have HN:=hid hn;have HB:=hid hB;clear hn hB;rw[hn0];unfold obA at *;go_enter Tryz.func64,Tryz.ntmps64;go_wp2_with fail;refine(HR.out _).mono ?_;rintro e w1 ⟨rfl,hb1⟩;have ho1:=ObX.kept (HN.out) hb1;have hB1:=(HB.out).trans (hb1.mono (by have:=(HB.out).size;omega));obtain⟨d0,d1,d2,d3,d4,d5,d6,d7⟩:=ho1.cells;go_wp2_with fail;go_ret;exact⟨rfl,hB1⟩
theorem size_o (o:Ob) (ho:o.Ok) (w:World):Calls Tryz.prog 31 #[.agg (obA o)] w fun e w'=>e=.returned (.int .i64 (sizeZ o))∧Below w.heap.size w w':=by
 obtain⟨Z,hZ⟩:∃ Z,sizeZ o=Z:=⟨_,rfl⟩;rw[hZ];have hn:=ObX.new w o;have hB:=(Below.refl w.heap.size w).alloc (Nat.le_refl _) (.cells (obA o) 26);obtain⟨n,hn0⟩:∃ n,w.heap.size=n:=⟨_,rfl⟩;rw[hn0] at hn hB;have HN:=hid hn;have HB:=hid hB;clear hn hB;rw[hn0]
 by_cases hk1:o.k=1
 ·have kb1:(o.k==1)=true:=by simpa using hk1
  have hr:=fun W=>fourSize_o o ho hk1 W
  rw[hZ] at hr;clear hZ;clear hk1;unfold obA at hr;have HR:=hid hr;clear hr;unfold obA at *;go_enter Tryz.func31,Tryz.ntmps31;go_wp2_with fail;refine(HR.out _).mono ?_;rintro e w1 ⟨rfl,hb1⟩;have ho1:=ObX.kept (HN.out) hb1;have hB1:=(HB.out).trans (hb1.mono (by have:=(HB.out).size;omega));obtain⟨d0,d1,d2,d3,d4,d5,d6,d7⟩:=ho1.cells;go_wp2_with fail;go_ret;exact⟨rfl,hB1⟩
 ·have kb1:(o.k==1)=false:=by simpa using hk1
  by_cases hk2:o.k=2
  ·have kb2:(o.k==2)=true:=by simpa using hk2
   have hr:=fun W=>chenSize_o o ho hk2 W
   rw[hZ] at hr;clear hZ;clear hk1;clear hk2;unfold obA at hr;have HR:=hid hr;clear hr;unfold obA at *;go_enter Tryz.func31,Tryz.ntmps31;go_wp2_with fail;refine(HR.out _).mono ?_;rintro e w1 ⟨rfl,hb1⟩;have ho1:=ObX.kept (HN.out) hb1;have hB1:=(HB.out).trans (hb1.mono (by have:=(HB.out).size;omega));obtain⟨d0,d1,d2,d3,d4,d5,d6,d7⟩:=ho1.cells;go_wp2_with fail;go_ret;exact⟨rfl,hB1⟩
  ·have kb2:(o.k==2)=false:=by simpa using hk2
   by_cases hk3:o.k=3
   ·have kb3:(o.k==3)=true:=by simpa using hk3
    have hr:=fun W=>seqSize_o o ho hk3 W
    rw[hZ] at hr;clear hZ;clear hk1;clear hk2;clear hk3;unfold obA at hr;have HR:=hid hr;clear hr;unfold obA at *;go_enter Tryz.func31,Tryz.ntmps31;go_wp2_with fail;refine(HR.out _).mono ?_;rintro e w1 ⟨rfl,hb1⟩;have ho1:=ObX.kept (HN.out) hb1;have hB1:=(HB.out).trans (hb1.mono (by have:=(HB.out).size;omega));obtain⟨d0,d1,d2,d3,d4,d5,d6,d7⟩:=ho1.cells;go_wp2_with fail;go_ret;exact⟨rfl,hB1⟩
   ·have kb3:(o.k==3)=false:=by simpa using hk3
    by_cases hk4:o.k=4
    ·have kb4:(o.k==4)=true:=by simpa using hk4
     have hr:=fun W=>ringSize_o o ho hk4 W
     rw[hZ] at hr;clear hZ;clear hk1;clear hk2;clear hk3;clear hk4;unfold obA at hr;have HR:=hid hr;clear hr;unfold obA at *;go_enter Tryz.func31,Tryz.ntmps31;go_wp2_with fail;refine(HR.out _).mono ?_;rintro e w1 ⟨rfl,hb1⟩;have ho1:=ObX.kept (HN.out) hb1;have hB1:=(HB.out).trans (hb1.mono (by have:=(HB.out).size;omega));obtain⟨d0,d1,d2,d3,d4,d5,d6,d7⟩:=ho1.cells;go_wp2_with fail;go_ret;exact⟨rfl,hB1⟩
    ·have kb4:(o.k==4)=false:=by simpa using hk4
     by_cases hk5:o.k=5
     ·have kb5:(o.k==5)=true:=by simpa using hk5
      have hr:=fun W=>cabSize_o o ho hk5 W
      rw[hZ] at hr;clear hZ;clear hk1;clear hk2;clear hk3;clear hk4;clear hk5;unfold obA at hr;have HR:=hid hr;clear hr;unfold obA at *;go_enter Tryz.func31,Tryz.ntmps31;go_wp2_with fail;refine(HR.out _).mono ?_;rintro e w1 ⟨rfl,hb1⟩;have ho1:=ObX.kept (HN.out) hb1;have hB1:=(HB.out).trans (hb1.mono (by have:=(HB.out).size;omega));obtain⟨d0,d1,d2,d3,d4,d5,d6,d7⟩:=ho1.cells;go_wp2_with fail;go_ret;exact⟨rfl,hB1⟩
     ·have kb5:(o.k==5)=false:=by simpa using hk5
      have hr:=fun W=>fifoSize_o o ho ⟨hk1,hk2,hk3,hk4,hk5⟩ W
      rw[hZ] at hr;clear hZ;clear hk1;clear hk2;clear hk3;clear hk4;clear hk5;unfold obA at hr;have HR:=hid hr;clear hr;unfold obA at *;go_enter Tryz.func31,Tryz.ntmps31;go_wp2_with fail;refine(HR.out _).mono ?_;rintro e w1 ⟨rfl,hb1⟩;have ho1:=ObX.kept (HN.out) hb1;have hB1:=(HB.out).trans (hb1.mono (by have:=(HB.out).size;omega));obtain⟨d0,d1,d2,d3,d4,d5,d6,d7⟩:=ho1.cells;go_wp2_with fail;go_ret;exact⟨rfl,hB1⟩
end Go.Proofs.YtolmpehgeinlkaaGreatDoor

namespace Go.Proofs.YtolmpehgeinlkaaGreatDoor
open Go.RowKit
def headZ (o:Ob):Int:=if o.k=1 then 4 else if o.k=2∨o.k=5 then 1+o.nr else if o.k=6 then 2 else 1
def recZ (o:Ob):Int:=if o.k=1 then 4 else if o.k=2 then (o.nr:Int)+2 else if o.k=3 then 1 else o.s
theorem head_four {o:Ob} (h:o.k=1):headZ o=4:=by
 unfold headZ;simp[h]
theorem rec_four {o:Ob} (h:o.k=1):recZ o=4:=by
 unfold recZ;simp[h]
theorem head_chen {o:Ob} (h:o.k=2):headZ o=1+(o.nr:Int):=by
 unfold headZ;simp[h]
theorem rec_chen {o:Ob} (h:o.k=2):recZ o=(o.nr:Int)+2:=by
 unfold recZ;simp[h]
theorem head_seq {o:Ob} (h:o.k=3):headZ o=1:=by
 unfold headZ;simp[h]
theorem rec_seq {o:Ob} (h:o.k=3):recZ o=1:=by
 unfold recZ;simp[h]
theorem head_ring {o:Ob} (h:o.k=4):headZ o=1:=by
 unfold headZ;simp[h]
theorem rec_ring {o:Ob} (h:o.k=4):recZ o=o.s:=by
 unfold recZ;simp[h]
theorem head_cab {o:Ob} (h:o.k=5):headZ o=1+(o.nr:Int):=by
 unfold headZ;simp[h]
theorem rec_cab {o:Ob} (h:o.k=5):recZ o=o.s:=by
 unfold recZ;simp[h]
theorem head_fifo {o:Ob} (h:o.k=6):headZ o=2:=by
 unfold headZ;simp[h]
theorem rec_fifo {o:Ob} (h:o.k=6):recZ o=o.s:=by
 unfold recZ;simp[h]
theorem any_cases {o:Ob} (h:anyR o):(o.k=1∧fourR o)∨(o.k=2∧chenR o)∨(o.k=3∧seqR o)∨(o.k=4∧ringR o)∨(o.k=5∧cabR o)∨(o.k=6∧fifoR o):=by
 obtain⟨k1,k2,k3,k4,k5,k6⟩:=@kind_of o
 rcases h with q | q | q | q | q | q
 ·exact .inl ⟨k1 q,q⟩
 ·exact .inr (.inl ⟨k2 q,q⟩)
 ·exact .inr (.inr (.inl ⟨k3 q,q⟩))
 ·exact .inr (.inr (.inr (.inl ⟨k4 q,q⟩)))
 ·exact .inr (.inr (.inr (.inr (.inl ⟨k5 q,q⟩))))
 ·exact .inr (.inr (.inr (.inr (.inr ⟨k6 q,q⟩))))
theorem any_bd {o:Ob} (h:anyR o):(1≤o.wd∧o.wd≤8)∧(1≤o.nr∧o.nr≤4)∧(1≤headZ o∧headZ o≤5)∧(1≤recZ o∧recZ o≤16)∧sizeZ o=headZ o+recZ o*o.wd:=by
 rcases any_cases h with ⟨k,q⟩ | ⟨k,q⟩ | ⟨k,q⟩ | ⟨k,q⟩ | ⟨k,q⟩ | ⟨k,q⟩
 ·have b:=four_bd q;rw[sizeZ_four q,head_four k,rec_four k];exact⟨by omega,by omega,by omega,by omega,by first | rfl | omega⟩
 ·have b:=chen_bd q;rw[sizeZ_chen q,head_chen k,rec_chen k];exact⟨by omega,by omega,by omega,by omega,by first | rfl | omega⟩
 ·have b:=seq_bd q;rw[sizeZ_seq q,head_seq k,rec_seq k];exact⟨by omega,by omega,by omega,by omega,by first | rfl | omega⟩
 ·have b:=ring_bd q;rw[sizeZ_ring q,head_ring k,rec_ring k];exact⟨by omega,by omega,by omega,by omega,by first | rfl | omega⟩
 ·have b:=cab_bd q;rw[sizeZ_cab q,head_cab k,rec_cab k];exact⟨by omega,by omega,by omega,by omega,by first | rfl | omega⟩
 ·have b:=fifo_bd q;rw[sizeZ_fifo q,head_fifo k,rec_fifo k];exact⟨by omega,by omega,by omega,by omega,by first | rfl | omega⟩
theorem size_bd (o:Ob):0≤sizeZ o∧sizeZ o≤261:=by
 by_cases h:anyR o
 ·obtain⟨a,_,c,d,e⟩:=any_bd h;have:=mul_bd (a:=recZ o) (b:=o.wd) (by omega) (by omega) (by omega) (by omega);omega
 ·rw[sizeZ_no h];omega
end Go.Proofs.YtolmpehgeinlkaaGreatDoor

namespace Go.Proofs.YtolmpehgeinlkaaGreatDoor
open Go.RowKit
attribute [local go_sem] Oper.semAt_some
set_option maxRecDepth 100000
def isK (k:Int):Bool:=decide (1≤k)&&decide (k≤6)
def oA (k:Int):Int:=if isK k=true then (if k=6 then 3 else 2) else 0
def oB (k:Int):Int:=if isK k=true then (if k=6 then 4 else 1) else 0
theorem isK_cases (k:Int):(isK k=true∧(k=1∨k=2∨k=3∨k=4∨k=5∨k=6))∨(isK k=false∧k≠1∧k≠2∧k≠3∧k≠4∧k≠5∧k≠6):=by
 unfold isK
 by_cases h1:1≤k <;> by_cases h2:k≤6
 ·left
  rw[decide_eq_true h1,decide_eq_true h2];exact⟨rfl,by omega⟩
 ·right
  rw[decide_eq_false h2,Bool.and_false];exact⟨rfl,by omega,by omega,by omega,by omega,by omega,by omega⟩
 ·right
  rw[decide_eq_false h1,Bool.false_and];exact⟨rfl,by omega,by omega,by omega,by omega,by omega,by omega⟩
 ·omega
theorem oops_any (k:Int) (w:World):Calls Tryz.prog 24 #[.int .i64 k] w fun e w'=>e=.returned (.tuple #[.int .i64 (oA k),.int .i64 (oB k),.bool (isK k)])∧w'=w:=by
 rcases isK_cases k with ⟨hk,rfl | rfl | rfl | rfl | rfl | rfl⟩ | ⟨hk,h1,h2,h3,h4,h5,h6⟩
 ·go_enter Tryz.func24,Tryz.ntmps24;go_wp2_with fail;refine bodyPost_ret (v:=.tuple #[.int .i64 (oA 1),.int .i64 (oB 1),.bool (isK 1)]) (by simp[results,go_sem,oA,oB,isK]) rfl ?_;exact⟨rfl,rfl⟩
 ·go_enter Tryz.func24,Tryz.ntmps24;go_wp2_with fail;refine bodyPost_ret (v:=.tuple #[.int .i64 (oA 2),.int .i64 (oB 2),.bool (isK 2)]) (by simp[results,go_sem,oA,oB,isK]) rfl ?_;exact⟨rfl,rfl⟩
 ·go_enter Tryz.func24,Tryz.ntmps24;go_wp2_with fail;refine bodyPost_ret (v:=.tuple #[.int .i64 (oA 3),.int .i64 (oB 3),.bool (isK 3)]) (by simp[results,go_sem,oA,oB,isK]) rfl ?_;exact⟨rfl,rfl⟩
 ·go_enter Tryz.func24,Tryz.ntmps24;go_wp2_with fail;refine bodyPost_ret (v:=.tuple #[.int .i64 (oA 4),.int .i64 (oB 4),.bool (isK 4)]) (by simp[results,go_sem,oA,oB,isK]) rfl ?_;exact⟨rfl,rfl⟩
 ·go_enter Tryz.func24,Tryz.ntmps24;go_wp2_with fail;refine bodyPost_ret (v:=.tuple #[.int .i64 (oA 5),.int .i64 (oB 5),.bool (isK 5)]) (by simp[results,go_sem,oA,oB,isK]) rfl ?_;exact⟨rfl,rfl⟩
 ·go_enter Tryz.func24,Tryz.ntmps24;go_wp2_with fail;refine bodyPost_ret (v:=.tuple #[.int .i64 (oA 6),.int .i64 (oB 6),.bool (isK 6)]) (by simp[results,go_sem,oA,oB,isK]) rfl ?_;exact⟨rfl,rfl⟩
 ·have a1:(k==1)=false:=by rw[beq_eq_false_iff_ne];exact h1
  have a2:(k==2)=false:=by rw[beq_eq_false_iff_ne];exact h2
  have a3:(k==3)=false:=by rw[beq_eq_false_iff_ne];exact h3
  have a4:(k==4)=false:=by rw[beq_eq_false_iff_ne];exact h4
  have a5:(k==5)=false:=by rw[beq_eq_false_iff_ne];exact h5
  have a6:(k==6)=false:=by rw[beq_eq_false_iff_ne];exact h6
  have e1:oA k=0:=by unfold oA;rw[hk];rfl
  have e2:oB k=0:=by unfold oB;rw[hk];rfl
  rw[e1,e2,hk];clear e1 e2 hk h1 h2 h3 h4 h5 h6;go_enter Tryz.func24,Tryz.ntmps24;go_wp2_with fail;refine bodyPost_ret (v:=.tuple #[.int .i64 0,.int .i64 0,.bool false]) (by simp[results,go_sem]) rfl ?_;exact⟨rfl,rfl⟩
theorem rWrites_any (k:Int) (w:World) (hk:isK k=true):Calls Tryz.prog 21 #[.int .i64 k] w fun e w'=>e=.returned (.int .i64 (oA k))∧w'=w:=by
 unfold oA;rw[if_pos hk]
 by_cases h:k=6
 ·rw[if_pos h];have t:(k==6)=true:=by rw[h];rfl
  clear hk h;go_enter Tryz.func21,Tryz.ntmps21;go_wp2_with fail;go_ret;exact⟨rfl,rfl⟩
 ·rw[if_neg h];have t:(k==6)=false:=by rw[beq_eq_false_iff_ne];exact h
  clear hk h;go_enter Tryz.func21,Tryz.ntmps21;go_wp2_with fail;go_ret;exact⟨rfl,rfl⟩
theorem rReads_any (k:Int) (w:World) (hk:isK k=true):Calls Tryz.prog 22 #[.int .i64 k] w fun e w'=>e=.returned (.int .i64 (oB k))∧w'=w:=by
 unfold oB;rw[if_pos hk]
 by_cases h:k=6
 ·rw[if_pos h];have t:(k==6)=true:=by rw[h];rfl
  clear hk h;go_enter Tryz.func22,Tryz.ntmps22;go_wp2_with fail;go_ret;exact⟨rfl,rfl⟩
 ·rw[if_neg h];have t:(k==6)=false:=by rw[beq_eq_false_iff_ne];exact h
  clear hk h;go_enter Tryz.func22,Tryz.ntmps22;go_wp2_with fail;go_ret;exact⟨rfl,rfl⟩
end Go.Proofs.YtolmpehgeinlkaaGreatDoor
