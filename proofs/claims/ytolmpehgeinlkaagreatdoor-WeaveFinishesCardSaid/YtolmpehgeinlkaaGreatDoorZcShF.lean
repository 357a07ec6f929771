/- What is done with each kind. -/
import Derived.Test.YtolmpehgeinlkaaGreatDoorZcShC
namespace Go.Proofs.YtolmpehgeinlkaaGreatDoor
open Go.RowKit
open Go.Lib (hid)
set_option maxHeartbeats 2000000
set_option maxRecDepth 100000
theorem iB {o:Ob} (h:o.k=1):decide (aT o)=decide (cG o):=by
 obtain⟨k1,k2,k3,k4,k5,k6⟩:=@bo o;rw[decide_eq_decide];unfold aT
 constructor
 ·rintro(q | q | q | q | q | q)
  ·exact q
  ·exfalso;have:=k2 q;omega
  ·exfalso;have:=k3 q;omega
  ·exfalso;have:=k4 q;omega
  ·exfalso;have:=k5 q;omega
  ·exfalso;have:=k6 q;omega
 ·exact fun q=>.inl q
theorem ix {o:Ob} (h:o.k=2):decide (aT o)=decide (cF o):=by
 obtain⟨k1,k2,k3,k4,k5,k6⟩:=@bo o;rw[decide_eq_decide];unfold aT
 constructor
 ·rintro(q | q | q | q | q | q)
  ·exfalso;have:=k1 q;omega
  ·exact q
  ·exfalso;have:=k3 q;omega
  ·exfalso;have:=k4 q;omega
  ·exfalso;have:=k5 q;omega
  ·exfalso;have:=k6 q;omega
 ·exact fun q=>.inr (.inl q)
theorem jT {o:Ob} (h:o.k=3):decide (aT o)=decide (dB o):=by
 obtain⟨k1,k2,k3,k4,k5,k6⟩:=@bo o;rw[decide_eq_decide];unfold aT
 constructor
 ·rintro(q | q | q | q | q | q)
  ·exfalso;have:=k1 q;omega
  ·exfalso;have:=k2 q;omega
  ·exact q
  ·exfalso;have:=k4 q;omega
  ·exfalso;have:=k5 q;omega
  ·exfalso;have:=k6 q;omega
 ·exact fun q=>.inr (.inr (.inl q))
theorem ip {o:Ob} (h:o.k=4):decide (aT o)=decide (bY o):=by
 obtain⟨k1,k2,k3,k4,k5,k6⟩:=@bo o;rw[decide_eq_decide];unfold aT
 constructor
 ·rintro(q | q | q | q | q | q)
  ·exfalso;have:=k1 q;omega
  ·exfalso;have:=k2 q;omega
  ·exfalso;have:=k3 q;omega
  ·exact q
  ·exfalso;have:=k5 q;omega
  ·exfalso;have:=k6 q;omega
 ·exact fun q=>.inr (.inr (.inr (.inl q)))
theorem j8 {o:Ob} (h:o.k=5):decide (aT o)=decide (dK o):=by
 obtain⟨k1,k2,k3,k4,k5,k6⟩:=@bo o;rw[decide_eq_decide];unfold aT
 constructor
 ·rintro(q | q | q | q | q | q)
  ·exfalso;have:=k1 q;omega
  ·exfalso;have:=k2 q;omega
  ·exfalso;have:=k3 q;omega
  ·exfalso;have:=k4 q;omega
  ·exact q
  ·exfalso;have:=k6 q;omega
 ·exact fun q=>.inr (.inr (.inr (.inr (.inl q))))
theorem gB {o:Ob} (h:¬ o.k=1∧¬ o.k=2∧¬ o.k=3∧¬ o.k=4∧¬ o.k=5):decide (aT o)=decide (bS o):=by
 obtain⟨k1,k2,k3,k4,k5,k6⟩:=@bo o;rw[decide_eq_decide];unfold aT
 constructor
 ·rintro(q | q | q | q | q | q)
  ·exfalso;have:=k1 q;omega
  ·exfalso;have:=k2 q;omega
  ·exfalso;have:=k3 q;omega
  ·exfalso;have:=k4 q;omega
  ·exfalso;have:=k5 q;omega
  ·exact q
 ·exact fun q=>.inr (.inr (.inr (.inr (.inr q))))
theorem rp (o:Ob) (ho:o.Ok) (w:World):Calls Tryz.prog 23 #[.agg (af o)] w fun e w'=>e=.returned (.bool (decide (aT o)))∧Below w.heap.size w w':=by
 have hn:=ObX.new w o;have hB:=bt w (.cells (af o) 26);obtain⟨n,aq⟩:∃ n,w.heap.size=n:=⟨_,rfl⟩;rw[aq] at hn hB;have HN:=hid hn;have HB:=hid hB;clear hn hB;rw[aq]
 by_cases cP:o.k=1
 ·have kb1:(o.k==1)=true:=by simpa using cP
  rw[iB cP];have tT:=hid cP;clear cP;have hr:=fun W=>fc o ho W
  unfold af at hr;have HR:=hid hr;clear hr;unfold af at *;go_enter Tryz.func23,Tryz.ntmps23;go_wp2_with fail;refine(HR.out _).mono ?_;rintro e w1 ⟨rfl,am⟩;have aP:=ObX.kept HN.out am;have aO:=bv HB.out am;obtain⟨d0,d1,d2,d3,d4,d5,d6,d7⟩:=aP.cells;go_wp2_with fail;go_ret;exact⟨rfl,aO⟩
 ·have kb1:(o.k==1)=false:=by simpa using cP
  by_cases dg:o.k=2
  ·have kb2:(o.k==2)=true:=by simpa using dg
   rw[ix dg];have tT:=hid cP;clear cP;have ym:=hid dg;clear dg;have hr:=fun W=>fg o ho W
   unfold af at hr;have HR:=hid hr;clear hr;unfold af at *;go_enter Tryz.func23,Tryz.ntmps23;go_wp2_with fail;refine(HR.out _).mono ?_;rintro e w1 ⟨rfl,am⟩;have aP:=ObX.kept HN.out am;have aO:=bv HB.out am;obtain⟨d0,d1,d2,d3,d4,d5,d6,d7⟩:=aP.cells;go_wp2_with fail;go_ret;exact⟨rfl,aO⟩
  ·have kb2:(o.k==2)=false:=by simpa using dg
   by_cases hk3:o.k=3
   ·have kb3:(o.k==3)=true:=by simpa using hk3
    rw[jT hk3];have tT:=hid cP;clear cP;have ym:=hid dg;clear dg;have AI:=hid hk3;clear hk3;have hr:=fun W=>ee o ho W
    unfold af at hr;have HR:=hid hr;clear hr;unfold af at *;go_enter Tryz.func23,Tryz.ntmps23;go_wp2_with fail;refine(HR.out _).mono ?_;rintro e w1 ⟨rfl,am⟩;have aP:=ObX.kept HN.out am;have aO:=bv HB.out am;obtain⟨d0,d1,d2,d3,d4,d5,d6,d7⟩:=aP.cells;go_wp2_with fail;go_ret;exact⟨rfl,aO⟩
   ·have kb3:(o.k==3)=false:=by simpa using hk3
    by_cases fk:o.k=4
    ·have kb4:(o.k==4)=true:=by simpa using fk
     rw[ip fk];have tT:=hid cP;clear cP;have ym:=hid dg;clear dg;have AI:=hid hk3;clear hk3;have En:=hid fk;clear fk;have hr:=fun W=>fh o W
     unfold af at hr;have HR:=hid hr;clear hr;unfold af at *;go_enter Tryz.func23,Tryz.ntmps23;go_wp2_with fail;refine(HR.out _).mono ?_;rintro e w1 ⟨rfl,am⟩;have aP:=ObX.kept HN.out am;have aO:=bv HB.out am;obtain⟨d0,d1,d2,d3,d4,d5,d6,d7⟩:=aP.cells;go_wp2_with fail;go_ret;exact⟨rfl,aO⟩
    ·have kb4:(o.k==4)=false:=by simpa using fk
     by_cases hk5:o.k=5
     ·have kb5:(o.k==5)=true:=by simpa using hk5
      rw[j8 hk5];have tT:=hid cP;clear cP;have ym:=hid dg;clear dg;have AI:=hid hk3;clear hk3;have En:=hid fk;clear fk;have CI:=hid hk5;clear hk5;have hr:=fun W=>fL o ho W
      unfold af at hr;have HR:=hid hr;clear hr;unfold af at *;go_enter Tryz.func23,Tryz.ntmps23;go_wp2_with fail;refine(HR.out _).mono ?_;rintro e w1 ⟨rfl,am⟩;have aP:=ObX.kept HN.out am;have aO:=bv HB.out am;obtain⟨d0,d1,d2,d3,d4,d5,d6,d7⟩:=aP.cells;go_wp2_with fail;go_ret;exact⟨rfl,aO⟩
     ·have kb5:(o.k==5)=false:=by simpa using hk5
      rw[gB ⟨cP,dg,hk3,fk,hk5⟩];have tT:=hid cP;clear cP;have ym:=hid dg;clear dg;have AI:=hid hk3;clear hk3;have En:=hid fk;clear fk;have CI:=hid hk5;clear hk5;have hr:=fun W=>fb o W
      unfold af at hr;have HR:=hid hr;clear hr;unfold af at *;go_enter Tryz.func23,Tryz.ntmps23;go_wp2_with fail;refine(HR.out _).mono ?_;rintro e w1 ⟨rfl,am⟩;have aP:=ObX.kept HN.out am;have aO:=bv HB.out am;obtain⟨d0,d1,d2,d3,d4,d5,d6,d7⟩:=aP.cells;go_wp2_with fail;go_ret;exact⟨rfl,aO⟩
attribute [local go_sem] Oper.semAt_some
set_option maxHeartbeats 2000000
set_option maxRecDepth 100000
abbrev jO (a0:World) (a1:Nat) (a2:Ob) (w':World):Prop:=Below a0.heap.size a0 w'∧w'.cell? ⟨a1,0,none⟩=some (.int .i64 a2.k)∧w'.cell? ⟨a1,1,none⟩=some (.int .i64 a2.wd)∧w'.cell? ⟨a1,2,none⟩=some (.int .i64 a2.s)∧w'.cell? ⟨a1,3,none⟩=some (.int .i64 a2.c)∧w'.cell? ⟨a1,4,none⟩=some (.int .u32 a2.st)∧w'.cell? ⟨a1,5,none⟩=some (.slice a2.I a2.ni a2.ci)∧w'.cell? ⟨a1,6,none⟩=some (.int .i64 a2.wr)∧w'.cell? ⟨a1,7,none⟩=some (.slice a2.R a2.nr a2.cr)
theorem dH {a b:Int} (h1:0≤a) (h2:a≤16) (h3:0≤b) (h4:b≤16):0≤a*b∧a*b≤256:=
 ⟨Int.mul_nonneg h1 h3,by have:=Int.mul_le_mul h2 h4 h3 (by omega:(0:Int)≤16);omega⟩
theorem cH {o:Ob} (h:¬ aT o):av o=0:=by
 unfold aT at h;unfold av;rw[if_neg (fun q=>h (.inl q)),if_neg (fun q=>h (.inr (.inl q))),if_neg (fun q=>h (.inr (.inr (.inl q)))),if_neg (fun q=>h (.inr (.inr (.inr (.inl q))))),if_neg (fun q=>h (.inr (.inr (.inr (.inr (.inl q)))))),if_neg (fun q=>h (.inr (.inr (.inr (.inr (.inr q))))))]
theorem eT {o:Ob} (op:Int) (h:¬ aT o):bI o op=0:=by
 unfold aT at h;unfold bI;rw[if_neg (fun q=>h (.inl q)),if_neg (fun q=>h (.inr (.inl q))),if_neg (fun q=>h (.inr (.inr (.inl q)))),if_neg (fun q=>h (.inr (.inr (.inr (.inl q))))),if_neg (fun q=>h (.inr (.inr (.inr (.inr (.inl q)))))),if_neg (fun q=>h (.inr (.inr (.inr (.inr (.inr q))))))]
theorem eR {o:Ob} (h:cG o):av o=(4+4*o.wd):=by
 obtain⟨k1,k2,k3,k4,k5,k6⟩:=@bo o;unfold av;rw[if_pos h]
theorem iw {o:Ob} (op:Int) (h:cG o):bI o op=(if op=2 then o.wd+4 else if op=1 then o.wd+3 else 0):=by
 obtain⟨k1,k2,k3,k4,k5,k6⟩:=@bo o;unfold bI;rw[if_pos h]
theorem eS {o:Ob} (h:cF o):av o=(1+o.nr+((o.nr:Int)+2)*o.wd):=by
 obtain⟨k1,k2,k3,k4,k5,k6⟩:=@bo o;unfold av;rw[if_neg (fun q=>absurd (k1 q) (by have:=k2 h;omega)),if_pos h]
theorem iz {o:Ob} (op:Int) (h:cF o):bI o op=(if op=2 then o.wd+2*o.nr+2 else if op=1 then o.wd+4 else 0):=by
 obtain⟨k1,k2,k3,k4,k5,k6⟩:=@bo o;unfold bI;rw[if_neg (fun q=>absurd (k1 q) (by have:=k2 h;omega)),if_pos h]
theorem fE {o:Ob} (h:dB o):av o=(1+o.wd):=by
 obtain⟨k1,k2,k3,k4,k5,k6⟩:=@bo o;unfold av;rw[if_neg (fun q=>absurd (k1 q) (by have:=k3 h;omega)),if_neg (fun q=>absurd (k2 q) (by have:=k3 h;omega)),if_pos h]
theorem jD {o:Ob} (op:Int) (h:dB o):bI o op=(if op=2 then o.wd+3 else if op=1 then o.c*(o.wd+2) else 0):=by
 obtain⟨k1,k2,k3,k4,k5,k6⟩:=@bo o;unfold bI;rw[if_neg (fun q=>absurd (k1 q) (by have:=k3 h;omega)),if_neg (fun q=>absurd (k2 q) (by have:=k3 h;omega)),if_pos h]
theorem eU {o:Ob} (h:bY o):av o=(1+o.s*o.wd):=by
 obtain⟨k1,k2,k3,k4,k5,k6⟩:=@bo o;unfold av;rw[if_neg (fun q=>absurd (k1 q) (by have:=k4 h;omega)),if_neg (fun q=>absurd (k2 q) (by have:=k4 h;omega)),if_neg (fun q=>absurd (k3 q) (by have:=k4 h;omega)),if_pos h]
theorem iI {o:Ob} (op:Int) (h:bY o):bI o op=(if op=2 then o.wd+2 else if op=1 then o.c*(o.wd+2) else 0):=by
 obtain⟨k1,k2,k3,k4,k5,k6⟩:=@bo o;unfold bI;rw[if_neg (fun q=>absurd (k1 q) (by have:=k4 h;omega)),if_neg (fun q=>absurd (k2 q) (by have:=k4 h;omega)),if_neg (fun q=>absurd (k3 q) (by have:=k4 h;omega)),if_pos h]
theorem fG {o:Ob} (h:dK o):av o=(1+o.nr+o.s*o.wd):=by
 obtain⟨k1,k2,k3,k4,k5,k6⟩:=@bo o;unfold av;rw[if_neg (fun q=>absurd (k1 q) (by have:=k5 h;omega)),if_neg (fun q=>absurd (k2 q) (by have:=k5 h;omega)),if_neg (fun q=>absurd (k3 q) (by have:=k5 h;omega)),if_neg (fun q=>absurd (k4 q) (by have:=k5 h;omega)),if_pos h]
theorem jy {o:Ob} (op:Int) (h:dK o):bI o op=(if op=2 then o.wd+o.nr+2 else if op=1 then 3*o.c+o.wd+1 else 0):=by
 obtain⟨k1,k2,k3,k4,k5,k6⟩:=@bo o;unfold bI;rw[if_neg (fun q=>absurd (k1 q) (by have:=k5 h;omega)),if_neg (fun q=>absurd (k2 q) (by have:=k5 h;omega)),if_neg (fun q=>absurd (k3 q) (by have:=k5 h;omega)),if_neg (fun q=>absurd (k4 q) (by have:=k5 h;omega)),if_pos h]
theorem eP {o:Ob} (h:bS o):av o=(2+o.s*o.wd):=by
 obtain⟨k1,k2,k3,k4,k5,k6⟩:=@bo o;unfold av;rw[if_neg (fun q=>absurd (k1 q) (by have:=k6 h;omega)),if_neg (fun q=>absurd (k2 q) (by have:=k6 h;omega)),if_neg (fun q=>absurd (k3 q) (by have:=k6 h;omega)),if_neg (fun q=>absurd (k4 q) (by have:=k6 h;omega)),if_neg (fun q=>absurd (k5 q) (by have:=k6 h;omega)),if_pos h]
theorem iy {o:Ob} (op:Int) (h:bS o):bI o op=(if op=3∨op=4 then o.wd+3 else 0):=by
 obtain⟨k1,k2,k3,k4,k5,k6⟩:=@bo o;unfold bI;rw[if_neg (fun q=>absurd (k1 q) (by have:=k6 h;omega)),if_neg (fun q=>absurd (k2 q) (by have:=k6 h;omega)),if_neg (fun q=>absurd (k3 q) (by have:=k6 h;omega)),if_neg (fun q=>absurd (k4 q) (by have:=k6 h;omega)),if_neg (fun q=>absurd (k5 q) (by have:=k6 h;omega)),if_pos h]
theorem gb {o:Ob} (h:cG o):1≤o.wd∧o.wd≤8∧1≤o.nr∧o.nr≤4:=by
 unfold cG aH at h;omega
theorem f7 {o:Ob} (h:cF o):1≤o.wd∧o.wd≤8∧1≤o.nr∧o.nr≤4:=by
 unfold cF aH at h;omega
theorem gj {o:Ob} (h:dB o):1≤o.wd∧o.wd≤8∧1≤o.nr∧o.nr≤4∧1≤o.c∧o.c≤16:=by
 unfold dB aH di at h;omega
theorem dc {o:Ob} (h:bY o):1≤o.wd∧o.wd≤8∧1≤o.nr∧o.nr≤4∧1≤o.c∧o.c≤16∧2≤o.s∧o.s≤16:=by
 unfold bY aH di at h;omega
theorem eM {o:Ob} (h:dK o):1≤o.wd∧o.wd≤8∧1≤o.nr∧o.nr≤4∧1≤o.c∧o.c≤16∧(o.nr:Int)+2≤o.s∧o.s≤16:=by
 unfold dK aH di at h;omega
theorem ea {o:Ob} (h:bS o):1≤o.wd∧o.wd≤8∧1≤o.nr∧o.nr≤4∧1≤o.s∧o.s≤16:=by
 unfold bS aH at h;omega
theorem jH (o:Ob) (h:o.nr≤4) (w:World):Calls Tryz.prog 118 #[.agg (af o)] w fun e w'=>e=.returned (.int .i64 (1+o.nr))∧Below w.heap.size w w':=by
 have q5:(o.nr:Int)≤4:=by omega
 have hn:=ObX.new w o;have hB:=bt w (.cells (af o) 26);obtain⟨n,aq⟩:∃ n,w.heap.size=n:=⟨_,rfl⟩;rw[aq] at hn hB;have HN:=hid hn;have HB:=hid hB;clear hn hB;rw[aq];unfold af at *;go_enter Tryz.func118,Tryz.ntmps118;go_wp2_with fail;go_ret;exact⟨rfl,HB.out⟩
theorem lh (o:Ob) (h:o.nr≤4) (w:World):Calls Tryz.prog 153 #[.agg (af o)] w fun e w'=>e=.returned (.int .i64 ((o.nr:Int)+2))∧Below w.heap.size w w':=by
 have q5:(o.nr:Int)≤4:=by omega
 have hn:=ObX.new w o;have hB:=bt w (.cells (af o) 26);obtain⟨n,aq⟩:∃ n,w.heap.size=n:=⟨_,rfl⟩;rw[aq] at hn hB;have HN:=hid hn;have HB:=hid hB;clear hn hB;rw[aq];unfold af at *;go_enter Tryz.func153,Tryz.ntmps153;go_wp2_with fail;go_ret;exact⟨rfl,HB.out⟩
theorem ki (o:Ob) (h:o.nr≤4) (w:World):Calls Tryz.prog 120 #[.agg (af o)] w fun e w'=>e=.returned (.int .i64 (1+o.nr))∧Below w.heap.size w w':=by
 have q5:(o.nr:Int)≤4:=by omega
 have hn:=ObX.new w o;have hB:=bt w (.cells (af o) 26);obtain⟨n,aq⟩:∃ n,w.heap.size=n:=⟨_,rfl⟩;rw[aq] at hn hB;have HN:=hid hn;have HB:=hid hB;clear hn hB;rw[aq];unfold af at *;go_enter Tryz.func120,Tryz.ntmps120;go_wp2_with fail;go_ret;exact⟨rfl,HB.out⟩
theorem zl (o:Ob) (h:cG o) (w:World):Calls Tryz.prog 111 #[.agg (af o)] w fun e w'=>e=.returned (.int .i64 (4+4*o.wd))∧Below w.heap.size w w':=by
 obtain⟨q1,q2,q3,q4⟩:=gb h;clear h;have hn:=ObX.new w o;have hB:=bt w (.cells (af o) 26);obtain⟨n,aq⟩:∃ n,w.heap.size=n:=⟨_,rfl⟩;rw[aq] at hn hB;have HN:=hid hn;have HB:=hid hB;clear hn hB;rw[aq];unfold af at *;go_enter Tryz.func111,Tryz.ntmps111;go_wp2_with fail;go_ret;exact⟨rfl,HB.out⟩
theorem A6 (o:Ob) (h:dB o) (w:World):Calls Tryz.prog 113 #[.agg (af o)] w fun e w'=>e=.returned (.int .i64 (1+o.wd))∧Below w.heap.size w w':=by
 obtain⟨q1,q2,q3,q4,q5,q6⟩:=gj h;clear h;have hn:=ObX.new w o;have hB:=bt w (.cells (af o) 26);obtain⟨n,aq⟩:∃ n,w.heap.size=n:=⟨_,rfl⟩;rw[aq] at hn hB;have HN:=hid hn;have HB:=hid hB;clear hn hB;rw[aq];unfold af at *;go_enter Tryz.func113,Tryz.ntmps113;go_wp2_with fail;go_ret;exact⟨rfl,HB.out⟩
theorem yH (o:Ob) (h:bY o) (w:World):Calls Tryz.prog 114 #[.agg (af o)] w fun e w'=>e=.returned (.int .i64 (1+o.s*o.wd))∧Below w.heap.size w w':=by
 obtain⟨q1,q2,q3,q4,q5,q6,q7,q8⟩:=dc h;clear h;have m:=dH (a:=o.s) (b:=o.wd) (by omega) (by omega) (by omega) (by omega);have e1:IntKind.i64.wrap (o.s*o.wd)=o.s*o.wd:=ac (by omega) (by omega);have e2:IntKind.i64.wrap (1+o.s*o.wd)=1+o.s*o.wd:=ac (by omega) (by omega);have hn:=ObX.new w o;have hB:=bt w (.cells (af o) 26);obtain⟨n,aq⟩:∃ n,w.heap.size=n:=⟨_,rfl⟩;rw[aq] at hn hB;have HN:=hid hn;have HB:=hid hB;clear hn hB;rw[aq];unfold af at *;go_enter Tryz.func114,Tryz.ntmps114;go_wp2_with fail;go_ret;exact⟨rfl,HB.out⟩
theorem za (o:Ob) (h:bS o) (w:World):Calls Tryz.prog 116 #[.agg (af o)] w fun e w'=>e=.returned (.int .i64 (2+o.s*o.wd))∧Below w.heap.size w w':=by
 obtain⟨q1,q2,q3,q4,q5,q6⟩:=ea h;clear h;have m:=dH (a:=o.s) (b:=o.wd) (by omega) (by omega) (by omega) (by omega);have e1:IntKind.i64.wrap (o.s*o.wd)=o.s*o.wd:=ac (by omega) (by omega);have e2:IntKind.i64.wrap (2+o.s*o.wd)=2+o.s*o.wd:=ac (by omega) (by omega);have hn:=ObX.new w o;have hB:=bt w (.cells (af o) 26);obtain⟨n,aq⟩:∃ n,w.heap.size=n:=⟨_,rfl⟩;rw[aq] at hn hB;have HN:=hid hn;have HB:=hid hB;clear hn hB;rw[aq];unfold af at *;go_enter Tryz.func116,Tryz.ntmps116;go_wp2_with fail;go_ret;exact⟨rfl,HB.out⟩
theorem xv (o:Ob) (h:cF o) (w:World):Calls Tryz.prog 112 #[.agg (af o)] w fun e w'=>e=.returned (.int .i64 (1+o.nr+((o.nr:Int)+2)*o.wd))∧Below w.heap.size w w':=by
 obtain⟨q1,q2,q3,q4⟩:=f7 h;have df:=fun W=>jH o q4 W
 unfold af at df;have Ab:=hid df;clear df;have pZ:=fun W=>lh o q4 W
 unfold af at pZ;have I8:=hid pZ;clear pZ;clear h;have m:=dH (a:=(o.nr:Int)+2) (b:=o.wd) (by omega) (by omega) (by omega) (by omega);have e1:IntKind.i64.wrap (((o.nr:Int)+2)*o.wd)=((o.nr:Int)+2)*o.wd:=ac (by omega) (by omega);have e2:IntKind.i64.wrap (1+(o.nr:Int)+((o.nr:Int)+2)*o.wd)=1+(o.nr:Int)+((o.nr:Int)+2)*o.wd:=ac (by omega) (by omega);obtain⟨W0,BW⟩:∃ W0,w.alloc (.cells #[.int .i64 o.k,.int .i64 o.wd,.int .i64 o.s,.int .i64 o.c,.int .u32 o.st,.slice o.I o.ni o.ci,.int .i64 o.wr,.slice o.R o.nr o.cr] 26)=W0:=⟨_,rfl⟩;have hn:=ObX.new w o;have hB:=bt w (.cells (af o) 26);unfold af at hn hB;rw[BW] at hn hB;obtain⟨n,aq⟩:∃ n,w.heap.size=n:=⟨_,rfl⟩;rw[aq] at hn hB;have HN:=hid hn;have HB:=hid hB;clear hn hB;rw[aq];unfold af;go_enter Tryz.func112,Tryz.ntmps112;go_wp2_with fail;have ct:(jO W0 n o) W0.drew:=⟨(Below.refl _ W0).drew,(ObX.kept HN.out (Below.refl _ W0).drew).cells⟩;refine wp_region_held_drew (S:=(jO W0 n o)) (by kernel_rfl) ct (fun hHeld=>?_);generalize W0.drew=wd at hHeld ⊢;have hHeld:(jO W0 n o) wd:=hHeld;refine ap 0 2 4 5 ?_;refine aJ 1 (fun K hK=>?_);go_simp;refine(Ab.out _).mono ?_;rintro ex wx ⟨rfl,br⟩
 have aN:(jO W0 n o) wx:=by
  obtain⟨h0,u0,u1,u2,u3,u4,u5,u6,u7⟩:=hHeld;have hk:∀ {i:Nat} {u:Value},_→wx.cell? ⟨n,i,none⟩=some u:=fun {i u} hc=>(br.cell (p:=⟨n,i,none⟩) (aX hc)).trans hc
  exact⟨h0.trans (br.mono h0.size),hk u0,hk u1,hk u2,hk u3,hk u4,hk u5,hk u6,hk u7⟩
 refine kH hK aN fun hHeld=>?_
 clear hK K;refine aJ 3 (fun K hK=>?_);go_simp;refine(I8.out _).mono ?_;rintro ex wx ⟨rfl,br⟩
 have aN:(jO W0 n o) wx:=by
  obtain⟨h0,u0,u1,u2,u3,u4,u5,u6,u7⟩:=hHeld;have hk:∀ {i:Nat} {u:Value},_→wx.cell? ⟨n,i,none⟩=some u:=fun {i u} hc=>(br.cell (p:=⟨n,i,none⟩) (aX hc)).trans hc
  exact⟨h0.trans (br.mono h0.size),hk u0,hk u1,hk u2,hk u3,hk u4,hk u5,hk u6,hk u7⟩
 refine kH hK aN fun hHeld=>?_
 clear hK K;refine bw 6 7 ?_;refine aF 8 ?_;refine bh ?_;clear ct;go_wp2_with fail;go_ret;exact⟨rfl,HB.out.trans (hHeld.1.mono (by have:=HB.out.size;omega))⟩
theorem Bg (o:Ob) (h:dK o) (w:World):Calls Tryz.prog 115 #[.agg (af o)] w fun e w'=>e=.returned (.int .i64 (1+o.nr+o.s*o.wd))∧Below w.heap.size w w':=by
 obtain⟨q1,q2,q3,q4,q5,q6,q7,q8⟩:=eM h;have df:=fun W=>ki o q4 W
 unfold af at df;have Ab:=hid df;clear df;clear h;have m:=dH (a:=o.s) (b:=o.wd) (by omega) (by omega) (by omega) (by omega);have e1:IntKind.i64.wrap (o.s*o.wd)=o.s*o.wd:=ac (by omega) (by omega);have e2:IntKind.i64.wrap (1+(o.nr:Int)+o.s*o.wd)=1+(o.nr:Int)+o.s*o.wd:=ac (by omega) (by omega);obtain⟨W0,BW⟩:∃ W0,w.alloc (.cells #[.int .i64 o.k,.int .i64 o.wd,.int .i64 o.s,.int .i64 o.c,.int .u32 o.st,.slice o.I o.ni o.ci,.int .i64 o.wr,.slice o.R o.nr o.cr] 26)=W0:=⟨_,rfl⟩;have hn:=ObX.new w o;have hB:=bt w (.cells (af o) 26);unfold af at hn hB;rw[BW] at hn hB;obtain⟨n,aq⟩:∃ n,w.heap.size=n:=⟨_,rfl⟩;rw[aq] at hn hB;have HN:=hid hn;have HB:=hid hB;clear hn hB;rw[aq];unfold af;go_enter Tryz.func115,Tryz.ntmps115;go_wp2_with fail;have ct:(jO W0 n o) W0.drew:=⟨(Below.refl _ W0).drew,(ObX.kept HN.out (Below.refl _ W0).drew).cells⟩;refine wp_region_held_drew (S:=(jO W0 n o)) (by kernel_rfl) ct (fun hHeld=>?_);generalize W0.drew=wd at hHeld ⊢;have hHeld:(jO W0 n o) wd:=hHeld;refine ap 0 2 3 4 ?_;refine bw 5 6 ?_;refine aJ 1 (fun K hK=>?_);go_simp;refine(Ab.out _).mono ?_;rintro ex wx ⟨rfl,br⟩
 have aN:(jO W0 n o) wx:=by
  obtain⟨h0,u0,u1,u2,u3,u4,u5,u6,u7⟩:=hHeld;have hk:∀ {i:Nat} {u:Value},_→wx.cell? ⟨n,i,none⟩=some u:=fun {i u} hc=>(br.cell (p:=⟨n,i,none⟩) (aX hc)).trans hc
  exact⟨h0.trans (br.mono h0.size),hk u0,hk u1,hk u2,hk u3,hk u4,hk u5,hk u6,hk u7⟩
 refine kH hK aN fun hHeld=>?_
 clear hK K;refine bw 7 8 ?_;refine bh ?_;clear ct;go_wp2_with fail;go_ret;exact⟨rfl,HB.out.trans (hHeld.1.mono (by have:=HB.out.size;omega))⟩
theorem jj (o:Ob) (ho:o.Ok) (hk:o.k=1) (w:World):Calls Tryz.prog 59 #[.agg (af o)] w fun e w'=>e=.returned (.int .i64 (av o))∧Below w.heap.size w w':=by
 by_cases h:cG o
 ·rw[eR h];have hr:=fun W=>fc o ho W
  rw[decide_eq_true h] at hr;have hs:=fun W=>zl o h W
  clear h hk ho;unfold af at hr hs;have HR:=hid hr;have HS:=hid hs;clear hr hs;have hn:=ObX.new w o;have hB:=bt w (.cells (af o) 26);obtain⟨n,aq⟩:∃ n,w.heap.size=n:=⟨_,rfl⟩;rw[aq] at hn hB;have HN:=hid hn;have HB:=hid hB;clear hn hB;rw[aq];unfold af at *;go_enter Tryz.func59,Tryz.ntmps59;go_wp2_with fail;refine(HR.out _).mono ?_;rintro e w1 ⟨rfl,am⟩;have aP:=ObX.kept HN.out am;have aO:=bv HB.out am;obtain⟨d0,d1,d2,d3,d4,d5,d6,d7⟩:=aP.cells;go_wp2_with fail;refine(HS.out _).mono ?_;rintro e w2 ⟨rfl,bu⟩;have cC:=ObX.kept (aP) bu;have bz:=bv aO bu;clear d0 d1 d2 d3 d4 d5 d6 d7;obtain⟨d0,d1,d2,d3,d4,d5,d6,d7⟩:=cC.cells;go_wp2_with fail;go_ret;exact⟨rfl,bz⟩
 ·have eh:¬ aT o:=fun q=>h (of_decide_eq_true ((iB hk).symm.trans (decide_eq_true q)))
  rw[cH eh];have hr:=fun W=>fc o ho W
  rw[decide_eq_false h] at hr;clear h hk ho eh;unfold af at hr;have HR:=hid hr;clear hr;have hn:=ObX.new w o;have hB:=bt w (.cells (af o) 26);obtain⟨n,aq⟩:∃ n,w.heap.size=n:=⟨_,rfl⟩;rw[aq] at hn hB;have HN:=hid hn;have HB:=hid hB;clear hn hB;rw[aq];unfold af at *;go_enter Tryz.func59,Tryz.ntmps59;go_wp2_with fail;refine(HR.out _).mono ?_;rintro e w1 ⟨rfl,am⟩;have aP:=ObX.kept HN.out am;have aO:=bv HB.out am;obtain⟨d0,d1,d2,d3,d4,d5,d6,d7⟩:=aP.cells;go_wp2_with fail;go_ret;exact⟨rfl,aO⟩
theorem jx (o:Ob) (ho:o.Ok) (hk:o.k=2) (w:World):Calls Tryz.prog 60 #[.agg (af o)] w fun e w'=>e=.returned (.int .i64 (av o))∧Below w.heap.size w w':=by
 by_cases h:cF o
 ·rw[eS h];have hr:=fun W=>fg o ho W
  rw[decide_eq_true h] at hr;have hs:=fun W=>xv o h W
  clear h hk ho;unfold af at hr hs;have HR:=hid hr;have HS:=hid hs;clear hr hs;have hn:=ObX.new w o;have hB:=bt w (.cells (af o) 26);obtain⟨n,aq⟩:∃ n,w.heap.size=n:=⟨_,rfl⟩;rw[aq] at hn hB;have HN:=hid hn;have HB:=hid hB;clear hn hB;rw[aq];unfold af at *;go_enter Tryz.func60,Tryz.ntmps60;go_wp2_with fail;refine(HR.out _).mono ?_;rintro e w1 ⟨rfl,am⟩;have aP:=ObX.kept HN.out am;have aO:=bv HB.out am;obtain⟨d0,d1,d2,d3,d4,d5,d6,d7⟩:=aP.cells;go_wp2_with fail;refine(HS.out _).mono ?_;rintro e w2 ⟨rfl,bu⟩;have cC:=ObX.kept (aP) bu;have bz:=bv aO bu;clear d0 d1 d2 d3 d4 d5 d6 d7;obtain⟨d0,d1,d2,d3,d4,d5,d6,d7⟩:=cC.cells;go_wp2_with fail;go_ret;exact⟨rfl,bz⟩
 ·have eh:¬ aT o:=fun q=>h (of_decide_eq_true ((ix hk).symm.trans (decide_eq_true q)))
  rw[cH eh];have hr:=fun W=>fg o ho W
  rw[decide_eq_false h] at hr;clear h hk ho eh;unfold af at hr;have HR:=hid hr;clear hr;have hn:=ObX.new w o;have hB:=bt w (.cells (af o) 26);obtain⟨n,aq⟩:∃ n,w.heap.size=n:=⟨_,rfl⟩;rw[aq] at hn hB;have HN:=hid hn;have HB:=hid hB;clear hn hB;rw[aq];unfold af at *;go_enter Tryz.func60,Tryz.ntmps60;go_wp2_with fail;refine(HR.out _).mono ?_;rintro e w1 ⟨rfl,am⟩;have aP:=ObX.kept HN.out am;have aO:=bv HB.out am;obtain⟨d0,d1,d2,d3,d4,d5,d6,d7⟩:=aP.cells;go_wp2_with fail;go_ret;exact⟨rfl,aO⟩
theorem ov (o:Ob) (ho:o.Ok) (hk:o.k=3) (w:World):Calls Tryz.prog 61 #[.agg (af o)] w fun e w'=>e=.returned (.int .i64 (av o))∧Below w.heap.size w w':=by
 by_cases h:dB o
 ·rw[fE h];have hr:=fun W=>ee o ho W
  rw[decide_eq_true h] at hr;have hs:=fun W=>A6 o h W
  clear h hk ho;unfold af at hr hs;have HR:=hid hr;have HS:=hid hs;clear hr hs;have hn:=ObX.new w o;have hB:=bt w (.cells (af o) 26);obtain⟨n,aq⟩:∃ n,w.heap.size=n:=⟨_,rfl⟩;rw[aq] at hn hB;have HN:=hid hn;have HB:=hid hB;clear hn hB;rw[aq];unfold af at *;go_enter Tryz.func61,Tryz.ntmps61;go_wp2_with fail;refine(HR.out _).mono ?_;rintro e w1 ⟨rfl,am⟩;have aP:=ObX.kept HN.out am;have aO:=bv HB.out am;obtain⟨d0,d1,d2,d3,d4,d5,d6,d7⟩:=aP.cells;go_wp2_with fail;refine(HS.out _).mono ?_;rintro e w2 ⟨rfl,bu⟩;have cC:=ObX.kept (aP) bu;have bz:=bv aO bu;clear d0 d1 d2 d3 d4 d5 d6 d7;obtain⟨d0,d1,d2,d3,d4,d5,d6,d7⟩:=cC.cells;go_wp2_with fail;go_ret;exact⟨rfl,bz⟩
 ·have eh:¬ aT o:=fun q=>h (of_decide_eq_true ((jT hk).symm.trans (decide_eq_true q)))
  rw[cH eh];have hr:=fun W=>ee o ho W
  rw[decide_eq_false h] at hr;clear h hk ho eh;unfold af at hr;have HR:=hid hr;clear hr;have hn:=ObX.new w o;have hB:=bt w (.cells (af o) 26);obtain⟨n,aq⟩:∃ n,w.heap.size=n:=⟨_,rfl⟩;rw[aq] at hn hB;have HN:=hid hn;have HB:=hid hB;clear hn hB;rw[aq];unfold af at *;go_enter Tryz.func61,Tryz.ntmps61;go_wp2_with fail;refine(HR.out _).mono ?_;rintro e w1 ⟨rfl,am⟩;have aP:=ObX.kept HN.out am;have aO:=bv HB.out am;obtain⟨d0,d1,d2,d3,d4,d5,d6,d7⟩:=aP.cells;go_wp2_with fail;go_ret;exact⟨rfl,aO⟩
theorem jw (o:Ob) (_ho:o.Ok) (hk:o.k=4) (w:World):Calls Tryz.prog 62 #[.agg (af o)] w fun e w'=>e=.returned (.int .i64 (av o))∧Below w.heap.size w w':=by
 by_cases h:bY o
 ·rw[eU h];have hr:=fun W=>fh o W
  rw[decide_eq_true h] at hr;have hs:=fun W=>yH o h W
  clear h hk _ho;unfold af at hr hs;have HR:=hid hr;have HS:=hid hs;clear hr hs;have hn:=ObX.new w o;have hB:=bt w (.cells (af o) 26);obtain⟨n,aq⟩:∃ n,w.heap.size=n:=⟨_,rfl⟩;rw[aq] at hn hB;have HN:=hid hn;have HB:=hid hB;clear hn hB;rw[aq];unfold af at *;go_enter Tryz.func62,Tryz.ntmps62;go_wp2_with fail;refine(HR.out _).mono ?_;rintro e w1 ⟨rfl,am⟩;have aP:=ObX.kept HN.out am;have aO:=bv HB.out am;obtain⟨d0,d1,d2,d3,d4,d5,d6,d7⟩:=aP.cells;go_wp2_with fail;refine(HS.out _).mono ?_;rintro e w2 ⟨rfl,bu⟩;have cC:=ObX.kept (aP) bu;have bz:=bv aO bu;clear d0 d1 d2 d3 d4 d5 d6 d7;obtain⟨d0,d1,d2,d3,d4,d5,d6,d7⟩:=cC.cells;go_wp2_with fail;go_ret;exact⟨rfl,bz⟩
 ·have eh:¬ aT o:=fun q=>h (of_decide_eq_true ((ip hk).symm.trans (decide_eq_true q)))
  rw[cH eh];have hr:=fun W=>fh o W
  rw[decide_eq_false h] at hr;clear h hk _ho eh;unfold af at hr;have HR:=hid hr;clear hr;have hn:=ObX.new w o;have hB:=bt w (.cells (af o) 26);obtain⟨n,aq⟩:∃ n,w.heap.size=n:=⟨_,rfl⟩;rw[aq] at hn hB;have HN:=hid hn;have HB:=hid hB;clear hn hB;rw[aq];unfold af at *;go_enter Tryz.func62,Tryz.ntmps62;go_wp2_with fail;refine(HR.out _).mono ?_;rintro e w1 ⟨rfl,am⟩;have aP:=ObX.kept HN.out am;have aO:=bv HB.out am;obtain⟨d0,d1,d2,d3,d4,d5,d6,d7⟩:=aP.cells;go_wp2_with fail;go_ret;exact⟨rfl,aO⟩
theorem kx (o:Ob) (ho:o.Ok) (hk:o.k=5) (w:World):Calls Tryz.prog 63 #[.agg (af o)] w fun e w'=>e=.returned (.int .i64 (av o))∧Below w.heap.size w w':=by
 by_cases h:dK o
 ·rw[fG h];have hr:=fun W=>fL o ho W
  rw[decide_eq_true h] at hr;have hs:=fun W=>Bg o h W
  clear h hk ho;unfold af at hr hs;have HR:=hid hr;have HS:=hid hs;clear hr hs;have hn:=ObX.new w o;have hB:=bt w (.cells (af o) 26);obtain⟨n,aq⟩:∃ n,w.heap.size=n:=⟨_,rfl⟩;rw[aq] at hn hB;have HN:=hid hn;have HB:=hid hB;clear hn hB;rw[aq];unfold af at *;go_enter Tryz.func63,Tryz.ntmps63;go_wp2_with fail;refine(HR.out _).mono ?_;rintro e w1 ⟨rfl,am⟩;have aP:=ObX.kept HN.out am;have aO:=bv HB.out am;obtain⟨d0,d1,d2,d3,d4,d5,d6,d7⟩:=aP.cells;go_wp2_with fail;refine(HS.out _).mono ?_;rintro e w2 ⟨rfl,bu⟩;have cC:=ObX.kept (aP) bu;have bz:=bv aO bu;clear d0 d1 d2 d3 d4 d5 d6 d7;obtain⟨d0,d1,d2,d3,d4,d5,d6,d7⟩:=cC.cells;go_wp2_with fail;go_ret;exact⟨rfl,bz⟩
 ·have eh:¬ aT o:=fun q=>h (of_decide_eq_true ((j8 hk).symm.trans (decide_eq_true q)))
  rw[cH eh];have hr:=fun W=>fL o ho W
  rw[decide_eq_false h] at hr;clear h hk ho eh;unfold af at hr;have HR:=hid hr;clear hr;have hn:=ObX.new w o;have hB:=bt w (.cells (af o) 26);obtain⟨n,aq⟩:∃ n,w.heap.size=n:=⟨_,rfl⟩;rw[aq] at hn hB;have HN:=hid hn;have HB:=hid hB;clear hn hB;rw[aq];unfold af at *;go_enter Tryz.func63,Tryz.ntmps63;go_wp2_with fail;refine(HR.out _).mono ?_;rintro e w1 ⟨rfl,am⟩;have aP:=ObX.kept HN.out am;have aO:=bv HB.out am;obtain⟨d0,d1,d2,d3,d4,d5,d6,d7⟩:=aP.cells;go_wp2_with fail;go_ret;exact⟨rfl,aO⟩
theorem ju (o:Ob) (_ho:o.Ok) (hk:¬ o.k=1∧¬ o.k=2∧¬ o.k=3∧¬ o.k=4∧¬ o.k=5) (w:World):Calls Tryz.prog 64 #[.agg (af o)] w fun e w'=>e=.returned (.int .i64 (av o))∧Below w.heap.size w w':=by
 by_cases h:bS o
 ·rw[eP h];have hr:=fun W=>fb o W
  rw[decide_eq_true h] at hr;have hs:=fun W=>za o h W
  clear h hk _ho;unfold af at hr hs;have HR:=hid hr;have HS:=hid hs;clear hr hs;have hn:=ObX.new w o;have hB:=bt w (.cells (af o) 26);obtain⟨n,aq⟩:∃ n,w.heap.size=n:=⟨_,rfl⟩;rw[aq] at hn hB;have HN:=hid hn;have HB:=hid hB;clear hn hB;rw[aq];unfold af at *;go_enter Tryz.func64,Tryz.ntmps64;go_wp2_with fail;refine(HR.out _).mono ?_;rintro e w1 ⟨rfl,am⟩;have aP:=ObX.kept HN.out am;have aO:=bv HB.out am;obtain⟨d0,d1,d2,d3,d4,d5,d6,d7⟩:=aP.cells;go_wp2_with fail;refine(HS.out _).mono ?_;rintro e w2 ⟨rfl,bu⟩;have cC:=ObX.kept (aP) bu;have bz:=bv aO bu;clear d0 d1 d2 d3 d4 d5 d6 d7;obtain⟨d0,d1,d2,d3,d4,d5,d6,d7⟩:=cC.cells;go_wp2_with fail;go_ret;exact⟨rfl,bz⟩
 ·have eh:¬ aT o:=fun q=>h (of_decide_eq_true ((gB hk).symm.trans (decide_eq_true q)))
  rw[cH eh];have hr:=fun W=>fb o W
  rw[decide_eq_false h] at hr;clear h hk _ho eh;unfold af at hr;have HR:=hid hr;clear hr;have hn:=ObX.new w o;have hB:=bt w (.cells (af o) 26);obtain⟨n,aq⟩:∃ n,w.heap.size=n:=⟨_,rfl⟩;rw[aq] at hn hB;have HN:=hid hn;have HB:=hid hB;clear hn hB;rw[aq];unfold af at *;go_enter Tryz.func64,Tryz.ntmps64;go_wp2_with fail;refine(HR.out _).mono ?_;rintro e w1 ⟨rfl,am⟩;have aP:=ObX.kept HN.out am;have aO:=bv HB.out am;obtain⟨d0,d1,d2,d3,d4,d5,d6,d7⟩:=aP.cells;go_wp2_with fail;go_ret;exact⟨rfl,aO⟩
theorem DT (o:Ob) (ho:o.Ok) (w:World):Calls Tryz.prog 31 #[.agg (af o)] w fun e w'=>e=.returned (.int .i64 (av o))∧Below w.heap.size w w':=by
 obtain⟨Z,hZ⟩:∃ Z,av o=Z:=⟨_,rfl⟩;rw[hZ];have hn:=ObX.new w o;have hB:=bt w (.cells (af o) 26);obtain⟨n,aq⟩:∃ n,w.heap.size=n:=⟨_,rfl⟩;rw[aq] at hn hB;have HN:=hid hn;have HB:=hid hB;clear hn hB;rw[aq]
 by_cases cP:o.k=1
 ·have kb1:(o.k==1)=true:=by simpa using cP
  have hr:=fun W=>jj o ho cP W
  rw[hZ] at hr;clear hZ;clear cP;unfold af at hr;have HR:=hid hr;clear hr;unfold af at *;go_enter Tryz.func31,Tryz.ntmps31;go_wp2_with fail;refine(HR.out _).mono ?_;rintro e w1 ⟨rfl,am⟩;have aP:=ObX.kept HN.out am;have aO:=bv HB.out am;obtain⟨d0,d1,d2,d3,d4,d5,d6,d7⟩:=aP.cells;go_wp2_with fail;go_ret;exact⟨rfl,aO⟩
 ·have kb1:(o.k==1)=false:=by simpa using cP
  by_cases dg:o.k=2
  ·have kb2:(o.k==2)=true:=by simpa using dg
   have hr:=fun W=>jx o ho dg W
   rw[hZ] at hr;clear hZ;clear cP;clear dg;unfold af at hr;have HR:=hid hr;clear hr;unfold af at *;go_enter Tryz.func31,Tryz.ntmps31;go_wp2_with fail;refine(HR.out _).mono ?_;rintro e w1 ⟨rfl,am⟩;have aP:=ObX.kept HN.out am;have aO:=bv HB.out am;obtain⟨d0,d1,d2,d3,d4,d5,d6,d7⟩:=aP.cells;go_wp2_with fail;go_ret;exact⟨rfl,aO⟩
  ·have kb2:(o.k==2)=false:=by simpa using dg
   by_cases hk3:o.k=3
   ·have kb3:(o.k==3)=true:=by simpa using hk3
    have hr:=fun W=>ov o ho hk3 W
    rw[hZ] at hr;clear hZ;clear cP;clear dg;clear hk3;unfold af at hr;have HR:=hid hr;clear hr;unfold af at *;go_enter Tryz.func31,Tryz.ntmps31;go_wp2_with fail;refine(HR.out _).mono ?_;rintro e w1 ⟨rfl,am⟩;have aP:=ObX.kept HN.out am;have aO:=bv HB.out am;obtain⟨d0,d1,d2,d3,d4,d5,d6,d7⟩:=aP.cells;go_wp2_with fail;go_ret;exact⟨rfl,aO⟩
   ·have kb3:(o.k==3)=false:=by simpa using hk3
    by_cases fk:o.k=4
    ·have kb4:(o.k==4)=true:=by simpa using fk
     have hr:=fun W=>jw o ho fk W
     rw[hZ] at hr;clear hZ;clear cP;clear dg;clear hk3;clear fk;unfold af at hr;have HR:=hid hr;clear hr;unfold af at *;go_enter Tryz.func31,Tryz.ntmps31;go_wp2_with fail;refine(HR.out _).mono ?_;rintro e w1 ⟨rfl,am⟩;have aP:=ObX.kept HN.out am;have aO:=bv HB.out am;obtain⟨d0,d1,d2,d3,d4,d5,d6,d7⟩:=aP.cells;go_wp2_with fail;go_ret;exact⟨rfl,aO⟩
    ·have kb4:(o.k==4)=false:=by simpa using fk
     by_cases hk5:o.k=5
     ·have kb5:(o.k==5)=true:=by simpa using hk5
      have hr:=fun W=>kx o ho hk5 W
      rw[hZ] at hr;clear hZ;clear cP;clear dg;clear hk3;clear fk;clear hk5;unfold af at hr;have HR:=hid hr;clear hr;unfold af at *;go_enter Tryz.func31,Tryz.ntmps31;go_wp2_with fail;refine(HR.out _).mono ?_;rintro e w1 ⟨rfl,am⟩;have aP:=ObX.kept HN.out am;have aO:=bv HB.out am;obtain⟨d0,d1,d2,d3,d4,d5,d6,d7⟩:=aP.cells;go_wp2_with fail;go_ret;exact⟨rfl,aO⟩
     ·have kb5:(o.k==5)=false:=by simpa using hk5
      have hr:=fun W=>ju o ho ⟨cP,dg,hk3,fk,hk5⟩ W
      rw[hZ] at hr;clear hZ;clear cP;clear dg;clear hk3;clear fk;clear hk5;unfold af at hr;have HR:=hid hr;clear hr;unfold af at *;go_enter Tryz.func31,Tryz.ntmps31;go_wp2_with fail;refine(HR.out _).mono ?_;rintro e w1 ⟨rfl,am⟩;have aP:=ObX.kept HN.out am;have aO:=bv HB.out am;obtain⟨d0,d1,d2,d3,d4,d5,d6,d7⟩:=aP.cells;go_wp2_with fail;go_ret;exact⟨rfl,aO⟩
theorem rG (o:Ob) (ho:o.Ok) (hk:o.k=1) (op:Int) (w:World):Calls Tryz.prog 53 #[.agg (af o),.int .i64 op] w fun e w'=>e=.returned (.int .i64 (bI o op))∧Below w.heap.size w w':=by
 by_cases h:cG o
 ·rw[iw op h];have hr:=fun W=>fc o ho W
  rw[decide_eq_true h] at hr;obtain⟨q1,q2,q3,q4⟩:=gb h;clear h hk ho;unfold af at hr;have HR:=hid hr;clear hr;have hn:=ObX.new w o;have hB:=bt w (.cells (af o) 26);obtain⟨n,aq⟩:∃ n,w.heap.size=n:=⟨_,rfl⟩;rw[aq] at hn hB;have HN:=hid hn;have HB:=hid hB;clear hn hB;rw[aq]
  by_cases h2:op=2
  ·have b2:(op==2)=true:=by simpa using h2
   rw[if_pos h2];clear h2;unfold af at *;go_enter Tryz.func53,Tryz.ntmps53;go_wp2_with fail;refine(HR.out _).mono ?_;rintro e w1 ⟨rfl,am⟩;have aP:=ObX.kept HN.out am;have aO:=bv HB.out am;obtain⟨d0,d1,d2,d3,d4,d5,d6,d7⟩:=aP.cells;go_wp2_with fail;go_ret;exact⟨rfl,aO⟩
  ·have b2:(op==2)=false:=by simpa using h2
   rw[if_neg h2];clear h2
   by_cases h1:op=1
   ·have b1:(op==1)=true:=by simpa using h1
    rw[if_pos h1];clear h1;unfold af at *;go_enter Tryz.func53,Tryz.ntmps53;go_wp2_with fail;refine(HR.out _).mono ?_;rintro e w1 ⟨rfl,am⟩;have aP:=ObX.kept HN.out am;have aO:=bv HB.out am;obtain⟨d0,d1,d2,d3,d4,d5,d6,d7⟩:=aP.cells;go_wp2_with fail;go_ret;exact⟨rfl,aO⟩
   ·have b1:(op==1)=false:=by simpa using h1
    rw[if_neg h1];clear h1;unfold af at *;go_enter Tryz.func53,Tryz.ntmps53;go_wp2_with fail;refine(HR.out _).mono ?_;rintro e w1 ⟨rfl,am⟩;have aP:=ObX.kept HN.out am;have aO:=bv HB.out am;obtain⟨d0,d1,d2,d3,d4,d5,d6,d7⟩:=aP.cells;go_wp2_with fail;go_ret;exact⟨rfl,aO⟩
 ·have eh:¬ aT o:=fun q=>h (of_decide_eq_true ((iB hk).symm.trans (decide_eq_true q)))
  rw[eT op eh];have hr:=fun W=>fc o ho W
  rw[decide_eq_false h] at hr;clear h hk ho eh;unfold af at hr;have HR:=hid hr;clear hr;have hn:=ObX.new w o;have hB:=bt w (.cells (af o) 26);obtain⟨n,aq⟩:∃ n,w.heap.size=n:=⟨_,rfl⟩;rw[aq] at hn hB;have HN:=hid hn;have HB:=hid hB;clear hn hB;rw[aq];unfold af at *;go_enter Tryz.func53,Tryz.ntmps53;go_wp2_with fail;refine(HR.out _).mono ?_;rintro e w1 ⟨rfl,am⟩;have aP:=ObX.kept HN.out am;have aO:=bv HB.out am;obtain⟨d0,d1,d2,d3,d4,d5,d6,d7⟩:=aP.cells;go_wp2_with fail;go_ret;exact⟨rfl,aO⟩
theorem qN (o:Ob) (ho:o.Ok) (hk:o.k=2) (op:Int) (w:World):Calls Tryz.prog 54 #[.agg (af o),.int .i64 op] w fun e w'=>e=.returned (.int .i64 (bI o op))∧Below w.heap.size w w':=by
 by_cases h:cF o
 ·rw[iz op h];have hr:=fun W=>fg o ho W
  rw[decide_eq_true h] at hr;obtain⟨q1,q2,q3,q4⟩:=f7 h;clear h hk ho;unfold af at hr;have HR:=hid hr;clear hr;have hn:=ObX.new w o;have hB:=bt w (.cells (af o) 26);obtain⟨n,aq⟩:∃ n,w.heap.size=n:=⟨_,rfl⟩;rw[aq] at hn hB;have HN:=hid hn;have HB:=hid hB;clear hn hB;rw[aq]
  by_cases h2:op=2
  ·have b2:(op==2)=true:=by simpa using h2
   rw[if_pos h2];clear h2;unfold af at *;go_enter Tryz.func54,Tryz.ntmps54;go_wp2_with fail;refine(HR.out _).mono ?_;rintro e w1 ⟨rfl,am⟩;have aP:=ObX.kept HN.out am;have aO:=bv HB.out am;obtain⟨d0,d1,d2,d3,d4,d5,d6,d7⟩:=aP.cells;go_wp2_with fail;go_ret;exact⟨rfl,aO⟩
  ·have b2:(op==2)=false:=by simpa using h2
   rw[if_neg h2];clear h2
   by_cases h1:op=1
   ·have b1:(op==1)=true:=by simpa using h1
    rw[if_pos h1];clear h1;unfold af at *;go_enter Tryz.func54,Tryz.ntmps54;go_wp2_with fail;refine(HR.out _).mono ?_;rintro e w1 ⟨rfl,am⟩;have aP:=ObX.kept HN.out am;have aO:=bv HB.out am;obtain⟨d0,d1,d2,d3,d4,d5,d6,d7⟩:=aP.cells;go_wp2_with fail;go_ret;exact⟨rfl,aO⟩
   ·have b1:(op==1)=false:=by simpa using h1
    rw[if_neg h1];clear h1;unfold af at *;go_enter Tryz.func54,Tryz.ntmps54;go_wp2_with fail;refine(HR.out _).mono ?_;rintro e w1 ⟨rfl,am⟩;have aP:=ObX.kept HN.out am;have aO:=bv HB.out am;obtain⟨d0,d1,d2,d3,d4,d5,d6,d7⟩:=aP.cells;go_wp2_with fail;go_ret;exact⟨rfl,aO⟩
 ·have eh:¬ aT o:=fun q=>h (of_decide_eq_true ((ix hk).symm.trans (decide_eq_true q)))
  rw[eT op eh];have hr:=fun W=>fg o ho W
  rw[decide_eq_false h] at hr;clear h hk ho eh;unfold af at hr;have HR:=hid hr;clear hr;have hn:=ObX.new w o;have hB:=bt w (.cells (af o) 26);obtain⟨n,aq⟩:∃ n,w.heap.size=n:=⟨_,rfl⟩;rw[aq] at hn hB;have HN:=hid hn;have HB:=hid hB;clear hn hB;rw[aq];unfold af at *;go_enter Tryz.func54,Tryz.ntmps54;go_wp2_with fail;refine(HR.out _).mono ?_;rintro e w1 ⟨rfl,am⟩;have aP:=ObX.kept HN.out am;have aO:=bv HB.out am;obtain⟨d0,d1,d2,d3,d4,d5,d6,d7⟩:=aP.cells;go_wp2_with fail;go_ret;exact⟨rfl,aO⟩
theorem sx (o:Ob) (ho:o.Ok) (hk:o.k=3) (op:Int) (w:World):Calls Tryz.prog 55 #[.agg (af o),.int .i64 op] w fun e w'=>e=.returned (.int .i64 (bI o op))∧Below w.heap.size w w':=by
 by_cases h:dB o
 ·rw[jD op h];have hr:=fun W=>ee o ho W
  rw[decide_eq_true h] at hr;obtain⟨q1,q2,q3,q4,q5,q6⟩:=gj h;have m:=dH (a:=o.c) (b:=o.wd+2) (by omega) (by omega) (by omega) (by omega);have e1:IntKind.i64.wrap (o.c*(o.wd+2))=o.c*(o.wd+2):=ac (by omega) (by omega);clear h hk ho;unfold af at hr;have HR:=hid hr;clear hr;have hn:=ObX.new w o;have hB:=bt w (.cells (af o) 26);obtain⟨n,aq⟩:∃ n,w.heap.size=n:=⟨_,rfl⟩;rw[aq] at hn hB;have HN:=hid hn;have HB:=hid hB;clear hn hB;rw[aq]
  by_cases h2:op=2
  ·have b2:(op==2)=true:=by simpa using h2
   rw[if_pos h2];clear h2;unfold af at *;go_enter Tryz.func55,Tryz.ntmps55;go_wp2_with fail;refine(HR.out _).mono ?_;rintro e w1 ⟨rfl,am⟩;have aP:=ObX.kept HN.out am;have aO:=bv HB.out am;obtain⟨d0,d1,d2,d3,d4,d5,d6,d7⟩:=aP.cells;go_wp2_with fail;go_ret;exact⟨rfl,aO⟩
  ·have b2:(op==2)=false:=by simpa using h2
   rw[if_neg h2];clear h2
   by_cases h1:op=1
   ·have b1:(op==1)=true:=by simpa using h1
    rw[if_pos h1];clear h1;unfold af at *;go_enter Tryz.func55,Tryz.ntmps55;go_wp2_with fail;refine(HR.out _).mono ?_;rintro e w1 ⟨rfl,am⟩;have aP:=ObX.kept HN.out am;have aO:=bv HB.out am;obtain⟨d0,d1,d2,d3,d4,d5,d6,d7⟩:=aP.cells;go_wp2_with fail;go_ret;exact⟨rfl,aO⟩
   ·have b1:(op==1)=false:=by simpa using h1
    rw[if_neg h1];clear h1;unfold af at *;go_enter Tryz.func55,Tryz.ntmps55;go_wp2_with fail;refine(HR.out _).mono ?_;rintro e w1 ⟨rfl,am⟩;have aP:=ObX.kept HN.out am;have aO:=bv HB.out am;obtain⟨d0,d1,d2,d3,d4,d5,d6,d7⟩:=aP.cells;go_wp2_with fail;go_ret;exact⟨rfl,aO⟩
 ·have eh:¬ aT o:=fun q=>h (of_decide_eq_true ((jT hk).symm.trans (decide_eq_true q)))
  rw[eT op eh];have hr:=fun W=>ee o ho W
  rw[decide_eq_false h] at hr;clear h hk ho eh;unfold af at hr;have HR:=hid hr;clear hr;have hn:=ObX.new w o;have hB:=bt w (.cells (af o) 26);obtain⟨n,aq⟩:∃ n,w.heap.size=n:=⟨_,rfl⟩;rw[aq] at hn hB;have HN:=hid hn;have HB:=hid hB;clear hn hB;rw[aq];unfold af at *;go_enter Tryz.func55,Tryz.ntmps55;go_wp2_with fail;refine(HR.out _).mono ?_;rintro e w1 ⟨rfl,am⟩;have aP:=ObX.kept HN.out am;have aO:=bv HB.out am;obtain⟨d0,d1,d2,d3,d4,d5,d6,d7⟩:=aP.cells;go_wp2_with fail;go_ret;exact⟨rfl,aO⟩
theorem qR (o:Ob) (_ho:o.Ok) (hk:o.k=4) (op:Int) (w:World):Calls Tryz.prog 56 #[.agg (af o),.int .i64 op] w fun e w'=>e=.returned (.int .i64 (bI o op))∧Below w.heap.size w w':=by
 by_cases h:bY o
 ·rw[iI op h];have hr:=fun W=>fh o W
  rw[decide_eq_true h] at hr;obtain⟨q1,q2,q3,q4,q5,q6,q7,q8⟩:=dc h;have m:=dH (a:=o.c) (b:=o.wd+2) (by omega) (by omega) (by omega) (by omega);have e1:IntKind.i64.wrap (o.c*(o.wd+2))=o.c*(o.wd+2):=ac (by omega) (by omega);clear h hk _ho;unfold af at hr;have HR:=hid hr;clear hr;have hn:=ObX.new w o;have hB:=bt w (.cells (af o) 26);obtain⟨n,aq⟩:∃ n,w.heap.size=n:=⟨_,rfl⟩;rw[aq] at hn hB;have HN:=hid hn;have HB:=hid hB;clear hn hB;rw[aq]
  by_cases h2:op=2
  ·have b2:(op==2)=true:=by simpa using h2
   rw[if_pos h2];clear h2;unfold af at *;go_enter Tryz.func56,Tryz.ntmps56;go_wp2_with fail;refine(HR.out _).mono ?_;rintro e w1 ⟨rfl,am⟩;have aP:=ObX.kept HN.out am;have aO:=bv HB.out am;obtain⟨d0,d1,d2,d3,d4,d5,d6,d7⟩:=aP.cells;go_wp2_with fail;go_ret;exact⟨rfl,aO⟩
  ·have b2:(op==2)=false:=by simpa using h2
   rw[if_neg h2];clear h2
   by_cases h1:op=1
   ·have b1:(op==1)=true:=by simpa using h1
    rw[if_pos h1];clear h1;unfold af at *;go_enter Tryz.func56,Tryz.ntmps56;go_wp2_with fail;refine(HR.out _).mono ?_;rintro e w1 ⟨rfl,am⟩;have aP:=ObX.kept HN.out am;have aO:=bv HB.out am;obtain⟨d0,d1,d2,d3,d4,d5,d6,d7⟩:=aP.cells;go_wp2_with fail;go_ret;exact⟨rfl,aO⟩
   ·have b1:(op==1)=false:=by simpa using h1
    rw[if_neg h1];clear h1;unfold af at *;go_enter Tryz.func56,Tryz.ntmps56;go_wp2_with fail;refine(HR.out _).mono ?_;rintro e w1 ⟨rfl,am⟩;have aP:=ObX.kept HN.out am;have aO:=bv HB.out am;obtain⟨d0,d1,d2,d3,d4,d5,d6,d7⟩:=aP.cells;go_wp2_with fail;go_ret;exact⟨rfl,aO⟩
 ·have eh:¬ aT o:=fun q=>h (of_decide_eq_true ((ip hk).symm.trans (decide_eq_true q)))
  rw[eT op eh];have hr:=fun W=>fh o W
  rw[decide_eq_false h] at hr;clear h hk _ho eh;unfold af at hr;have HR:=hid hr;clear hr;have hn:=ObX.new w o;have hB:=bt w (.cells (af o) 26);obtain⟨n,aq⟩:∃ n,w.heap.size=n:=⟨_,rfl⟩;rw[aq] at hn hB;have HN:=hid hn;have HB:=hid hB;clear hn hB;rw[aq];unfold af at *;go_enter Tryz.func56,Tryz.ntmps56;go_wp2_with fail;refine(HR.out _).mono ?_;rintro e w1 ⟨rfl,am⟩;have aP:=ObX.kept HN.out am;have aO:=bv HB.out am;obtain⟨d0,d1,d2,d3,d4,d5,d6,d7⟩:=aP.cells;go_wp2_with fail;go_ret;exact⟨rfl,aO⟩
theorem sA (o:Ob) (ho:o.Ok) (hk:o.k=5) (op:Int) (w:World):Calls Tryz.prog 57 #[.agg (af o),.int .i64 op] w fun e w'=>e=.returned (.int .i64 (bI o op))∧Below w.heap.size w w':=by
 by_cases h:dK o
 ·rw[jy op h];have hr:=fun W=>fL o ho W
  rw[decide_eq_true h] at hr;obtain⟨q1,q2,q3,q4,q5,q6,q7,q8⟩:=eM h;clear h hk ho;unfold af at hr;have HR:=hid hr;clear hr;have hn:=ObX.new w o;have hB:=bt w (.cells (af o) 26);obtain⟨n,aq⟩:∃ n,w.heap.size=n:=⟨_,rfl⟩;rw[aq] at hn hB;have HN:=hid hn;have HB:=hid hB;clear hn hB;rw[aq]
  by_cases h2:op=2
  ·have b2:(op==2)=true:=by simpa using h2
   rw[if_pos h2];clear h2;unfold af at *;go_enter Tryz.func57,Tryz.ntmps57;go_wp2_with fail;refine(HR.out _).mono ?_;rintro e w1 ⟨rfl,am⟩;have aP:=ObX.kept HN.out am;have aO:=bv HB.out am;obtain⟨d0,d1,d2,d3,d4,d5,d6,d7⟩:=aP.cells;go_wp2_with fail;go_ret;exact⟨rfl,aO⟩
  ·have b2:(op==2)=false:=by simpa using h2
   rw[if_neg h2];clear h2
   by_cases h1:op=1
   ·have b1:(op==1)=true:=by simpa using h1
    rw[if_pos h1];clear h1;unfold af at *;go_enter Tryz.func57,Tryz.ntmps57;go_wp2_with fail;refine(HR.out _).mono ?_;rintro e w1 ⟨rfl,am⟩;have aP:=ObX.kept HN.out am;have aO:=bv HB.out am;obtain⟨d0,d1,d2,d3,d4,d5,d6,d7⟩:=aP.cells;go_wp2_with fail;go_ret;exact⟨rfl,aO⟩
   ·have b1:(op==1)=false:=by simpa using h1
    rw[if_neg h1];clear h1;unfold af at *;go_enter Tryz.func57,Tryz.ntmps57;go_wp2_with fail;refine(HR.out _).mono ?_;rintro e w1 ⟨rfl,am⟩;have aP:=ObX.kept HN.out am;have aO:=bv HB.out am;obtain⟨d0,d1,d2,d3,d4,d5,d6,d7⟩:=aP.cells;go_wp2_with fail;go_ret;exact⟨rfl,aO⟩
 ·have eh:¬ aT o:=fun q=>h (of_decide_eq_true ((j8 hk).symm.trans (decide_eq_true q)))
  rw[eT op eh];have hr:=fun W=>fL o ho W
  rw[decide_eq_false h] at hr;clear h hk ho eh;unfold af at hr;have HR:=hid hr;clear hr;have hn:=ObX.new w o;have hB:=bt w (.cells (af o) 26);obtain⟨n,aq⟩:∃ n,w.heap.size=n:=⟨_,rfl⟩;rw[aq] at hn hB;have HN:=hid hn;have HB:=hid hB;clear hn hB;rw[aq];unfold af at *;go_enter Tryz.func57,Tryz.ntmps57;go_wp2_with fail;refine(HR.out _).mono ?_;rintro e w1 ⟨rfl,am⟩;have aP:=ObX.kept HN.out am;have aO:=bv HB.out am;obtain⟨d0,d1,d2,d3,d4,d5,d6,d7⟩:=aP.cells;go_wp2_with fail;go_ret;exact⟨rfl,aO⟩
theorem rT (o:Ob) (_ho:o.Ok) (hk:¬ o.k=1∧¬ o.k=2∧¬ o.k=3∧¬ o.k=4∧¬ o.k=5) (op:Int) (w:World):Calls Tryz.prog 58 #[.agg (af o),.int .i64 op] w fun e w'=>e=.returned (.int .i64 (bI o op))∧Below w.heap.size w w':=by
 by_cases h:bS o
 ·rw[iy op h];have hr:=fun W=>fb o W
  rw[decide_eq_true h] at hr;obtain⟨q1,q2,q3,q4,q5,q6⟩:=ea h;clear h hk _ho;unfold af at hr;have HR:=hid hr;clear hr;have hn:=ObX.new w o;have hB:=bt w (.cells (af o) 26);obtain⟨n,aq⟩:∃ n,w.heap.size=n:=⟨_,rfl⟩;rw[aq] at hn hB;have HN:=hid hn;have HB:=hid hB;clear hn hB;rw[aq]
  by_cases h3:op=3
  ·have b3:(op != 3)=false:=by simpa using h3
   rw[if_pos (.inl h3)];clear h3;unfold af at *;go_enter Tryz.func58,Tryz.ntmps58;go_wp2_with fail;refine(HR.out _).mono ?_;rintro e w1 ⟨rfl,am⟩;have aP:=ObX.kept HN.out am;have aO:=bv HB.out am;obtain⟨d0,d1,d2,d3,d4,d5,d6,d7⟩:=aP.cells;go_wp2_with fail;go_ret;exact⟨rfl,aO⟩
  ·have b3:(op != 3)=true:=by simpa using h3
   by_cases h4:op=4
   ·have b4:(op != 4)=false:=by simpa using h4
    rw[if_pos (.inr h4)];clear h3 h4;unfold af at *;go_enter Tryz.func58,Tryz.ntmps58;go_wp2_with fail;refine(HR.out _).mono ?_;rintro e w1 ⟨rfl,am⟩;have aP:=ObX.kept HN.out am;have aO:=bv HB.out am;obtain⟨d0,d1,d2,d3,d4,d5,d6,d7⟩:=aP.cells;go_wp2_with fail;go_ret;exact⟨rfl,aO⟩
   ·have b4:(op != 4)=true:=by simpa using h4
    rw[if_neg (by omega)];clear h3 h4;unfold af at *;go_enter Tryz.func58,Tryz.ntmps58;go_wp2_with fail;refine(HR.out _).mono ?_;rintro e w1 ⟨rfl,am⟩;have aP:=ObX.kept HN.out am;have aO:=bv HB.out am;obtain⟨d0,d1,d2,d3,d4,d5,d6,d7⟩:=aP.cells;go_wp2_with fail;go_ret;exact⟨rfl,aO⟩
 ·have eh:¬ aT o:=fun q=>h (of_decide_eq_true ((gB hk).symm.trans (decide_eq_true q)))
  rw[eT op eh];have hr:=fun W=>fb o W
  rw[decide_eq_false h] at hr;clear h hk _ho eh;unfold af at hr;have HR:=hid hr;clear hr;have hn:=ObX.new w o;have hB:=bt w (.cells (af o) 26);obtain⟨n,aq⟩:∃ n,w.heap.size=n:=⟨_,rfl⟩;rw[aq] at hn hB;have HN:=hid hn;have HB:=hid hB;clear hn hB;rw[aq];unfold af at *;go_enter Tryz.func58,Tryz.ntmps58;go_wp2_with fail;refine(HR.out _).mono ?_;rintro e w1 ⟨rfl,am⟩;have aP:=ObX.kept HN.out am;have aO:=bv HB.out am;obtain⟨d0,d1,d2,d3,d4,d5,d6,d7⟩:=aP.cells;go_wp2_with fail;go_ret;exact⟨rfl,aO⟩
theorem Ca (o:Ob) (ho:o.Ok) (op:Int) (w:World):Calls Tryz.prog 28 #[.agg (af o),.int .i64 op] w fun e w'=>e=.returned (.int .i64 (bI o op))∧Below w.heap.size w w':=by
 obtain⟨Z,hZ⟩:∃ Z,bI o op=Z:=⟨_,rfl⟩;rw[hZ];have hn:=ObX.new w o;have hB:=bt w (.cells (af o) 26);obtain⟨n,aq⟩:∃ n,w.heap.size=n:=⟨_,rfl⟩;rw[aq] at hn hB;have HN:=hid hn;have HB:=hid hB;clear hn hB;rw[aq]
 by_cases cP:o.k=1
 ·have kb1:(o.k==1)=true:=by simpa using cP
  have hr:=fun W=>rG o ho cP op W
  rw[hZ] at hr;clear hZ;clear cP;unfold af at hr;have HR:=hid hr;clear hr;unfold af at *;go_enter Tryz.func28,Tryz.ntmps28;go_wp2_with fail;refine(HR.out _).mono ?_;rintro e w1 ⟨rfl,am⟩;have aP:=ObX.kept HN.out am;have aO:=bv HB.out am;obtain⟨d0,d1,d2,d3,d4,d5,d6,d7⟩:=aP.cells;go_wp2_with fail;go_ret;exact⟨rfl,aO⟩
 ·have kb1:(o.k==1)=false:=by simpa using cP
  by_cases dg:o.k=2
  ·have kb2:(o.k==2)=true:=by simpa using dg
   have hr:=fun W=>qN o ho dg op W
   rw[hZ] at hr;clear hZ;clear cP;clear dg;unfold af at hr;have HR:=hid hr;clear hr;unfold af at *;go_enter Tryz.func28,Tryz.ntmps28;go_wp2_with fail;refine(HR.out _).mono ?_;rintro e w1 ⟨rfl,am⟩;have aP:=ObX.kept HN.out am;have aO:=bv HB.out am;obtain⟨d0,d1,d2,d3,d4,d5,d6,d7⟩:=aP.cells;go_wp2_with fail;go_ret;exact⟨rfl,aO⟩
  ·have kb2:(o.k==2)=false:=by simpa using dg
   by_cases hk3:o.k=3
   ·have kb3:(o.k==3)=true:=by simpa using hk3
    have hr:=fun W=>sx o ho hk3 op W
    rw[hZ] at hr;clear hZ;clear cP;clear dg;clear hk3;unfold af at hr;have HR:=hid hr;clear hr;unfold af at *;go_enter Tryz.func28,Tryz.ntmps28;go_wp2_with fail;refine(HR.out _).mono ?_;rintro e w1 ⟨rfl,am⟩;have aP:=ObX.kept HN.out am;have aO:=bv HB.out am;obtain⟨d0,d1,d2,d3,d4,d5,d6,d7⟩:=aP.cells;go_wp2_with fail;go_ret;exact⟨rfl,aO⟩
   ·have kb3:(o.k==3)=false:=by simpa using hk3
    by_cases fk:o.k=4
    ·have kb4:(o.k==4)=true:=by simpa using fk
     have hr:=fun W=>qR o ho fk op W
     rw[hZ] at hr;clear hZ;clear cP;clear dg;clear hk3;clear fk;unfold af at hr;have HR:=hid hr;clear hr;unfold af at *;go_enter Tryz.func28,Tryz.ntmps28;go_wp2_with fail;refine(HR.out _).mono ?_;rintro e w1 ⟨rfl,am⟩;have aP:=ObX.kept HN.out am;have aO:=bv HB.out am;obtain⟨d0,d1,d2,d3,d4,d5,d6,d7⟩:=aP.cells;go_wp2_with fail;go_ret;exact⟨rfl,aO⟩
    ·have kb4:(o.k==4)=false:=by simpa using fk
     by_cases hk5:o.k=5
     ·have kb5:(o.k==5)=true:=by simpa using hk5
      have hr:=fun W=>sA o ho hk5 op W
      rw[hZ] at hr;clear hZ;clear cP;clear dg;clear hk3;clear fk;clear hk5;unfold af at hr;have HR:=hid hr;clear hr;unfold af at *;go_enter Tryz.func28,Tryz.ntmps28;go_wp2_with fail;refine(HR.out _).mono ?_;rintro e w1 ⟨rfl,am⟩;have aP:=ObX.kept HN.out am;have aO:=bv HB.out am;obtain⟨d0,d1,d2,d3,d4,d5,d6,d7⟩:=aP.cells;go_wp2_with fail;go_ret;exact⟨rfl,aO⟩
     ·have kb5:(o.k==5)=false:=by simpa using hk5
      have hr:=fun W=>rT o ho ⟨cP,dg,hk3,fk,hk5⟩ op W
      rw[hZ] at hr;clear hZ;clear cP;clear dg;clear hk3;clear fk;clear hk5;unfold af at hr;have HR:=hid hr;clear hr;unfold af at *;go_enter Tryz.func28,Tryz.ntmps28;go_wp2_with fail;refine(HR.out _).mono ?_;rintro e w1 ⟨rfl,am⟩;have aP:=ObX.kept HN.out am;have aO:=bv HB.out am;obtain⟨d0,d1,d2,d3,d4,d5,d6,d7⟩:=aP.cells;go_wp2_with fail;go_ret;exact⟨rfl,aO⟩
def bn (o:Ob):Int:=if o.k=1 then 4 else if o.k=2∨o.k=5 then 1+o.nr else if o.k=6 then 2 else 1
def cU (o:Ob):Int:=if o.k=1 then 4 else if o.k=2 then (o.nr:Int)+2 else if o.k=3 then 1 else o.s
theorem gp {o:Ob} (h:o.k=1):bn o=4:=by
 unfold bn;simp[h]
theorem zr {o:Ob} (h:o.k=1):cU o=4:=by
 unfold cU;simp[h]
theorem gv {o:Ob} (h:o.k=2):bn o=1+(o.nr:Int):=by
 unfold bn;simp[h]
theorem mg {o:Ob} (h:o.k=2):cU o=(o.nr:Int)+2:=by
 unfold cU;simp[h]
theorem iq {o:Ob} (h:o.k=3):bn o=1:=by
 unfold bn;simp[h]
theorem Ce {o:Ob} (h:o.k=3):cU o=1:=by
 unfold cU;simp[h]
theorem gq {o:Ob} (h:o.k=4):bn o=1:=by
 unfold bn;simp[h]
theorem xW {o:Ob} (h:o.k=4):cU o=o.s:=by
 unfold cU;simp[h]
theorem io {o:Ob} (h:o.k=5):bn o=1+(o.nr:Int):=by
 unfold bn;simp[h]
theorem pD {o:Ob} (h:o.k=5):cU o=o.s:=by
 unfold cU;simp[h]
theorem gu {o:Ob} (h:o.k=6):bn o=2:=by
 unfold bn;simp[h]
theorem xY {o:Ob} (h:o.k=6):cU o=o.s:=by
 unfold cU;simp[h]
theorem bQ {o:Ob} (h:aT o):(o.k=1∧cG o)∨(o.k=2∧cF o)∨(o.k=3∧dB o)∨(o.k=4∧bY o)∨(o.k=5∧dK o)∨(o.k=6∧bS o):=by
 obtain⟨k1,k2,k3,k4,k5,k6⟩:=@bo o
 rcases h with q | q | q | q | q | q
 ·exact .inl ⟨k1 q,q⟩
 ·exact .inr (.inl ⟨k2 q,q⟩)
 ·exact .inr (.inr (.inl ⟨k3 q,q⟩))
 ·exact .inr (.inr (.inr (.inl ⟨k4 q,q⟩)))
 ·exact .inr (.inr (.inr (.inr (.inl ⟨k5 q,q⟩))))
 ·exact .inr (.inr (.inr (.inr (.inr ⟨k6 q,q⟩))))
theorem gP {o:Ob} (h:aT o):(1≤o.wd∧o.wd≤8)∧(1≤o.nr∧o.nr≤4)∧(1≤bn o∧bn o≤5)∧(1≤cU o∧cU o≤16)∧av o=bn o+cU o*o.wd:=by
 rcases bQ h with ⟨k,q⟩ | ⟨k,q⟩ | ⟨k,q⟩ | ⟨k,q⟩ | ⟨k,q⟩ | ⟨k,q⟩
 ·have b:=gb q;rw[eR q,gp k,zr k];exact⟨by omega,by omega,by omega,by omega,by first | rfl | omega⟩
 ·have b:=f7 q;rw[eS q,gv k,mg k];exact⟨by omega,by omega,by omega,by omega,by first | rfl | omega⟩
 ·have b:=gj q;rw[fE q,iq k,Ce k];exact⟨by omega,by omega,by omega,by omega,by first | rfl | omega⟩
 ·have b:=dc q;rw[eU q,gq k,xW k];exact⟨by omega,by omega,by omega,by omega,by first | rfl | omega⟩
 ·have b:=eM q;rw[fG q,io k,pD k];exact⟨by omega,by omega,by omega,by omega,by first | rfl | omega⟩
 ·have b:=ea q;rw[eP q,gu k,xY k];exact⟨by omega,by omega,by omega,by omega,by first | rfl | omega⟩
theorem gJ (o:Ob):0≤av o∧av o≤261:=by
 by_cases h:aT o
 ·obtain⟨a,_,c,d,e⟩:=gP h;have:=dH (a:=cU o) (b:=o.wd) (by omega) (by omega) (by omega) (by omega);omega
 ·rw[cH h];omega
set_option maxRecDepth 100000
def bG (k:Int):Bool:=decide (1≤k)&&decide (k≤6)
def oA (k:Int):Int:=if bG k=true then (if k=6 then 3 else 2) else 0
def oB (k:Int):Int:=if bG k=true then (if k=6 then 4 else 1) else 0
theorem oo (k:Int):(bG k=true∧(k=1∨k=2∨k=3∨k=4∨k=5∨k=6))∨(bG k=false∧k≠1∧k≠2∧k≠3∧k≠4∧k≠5∧k≠6):=by
 unfold bG
 by_cases h1:1≤k <;> by_cases h2:k≤6
 ·left
  rw[decide_eq_true h1,decide_eq_true h2];exact⟨rfl,by omega⟩
 ·right
  rw[decide_eq_false h2,Bool.and_false];exact⟨rfl,by omega,by omega,by omega,by omega,by omega,by omega⟩
 ·right
  rw[decide_eq_false h1,Bool.false_and];exact⟨rfl,by omega,by omega,by omega,by omega,by omega,by omega⟩
 ·omega
theorem zi (k:Int) (w:World):Calls Tryz.prog 24 #[.int .i64 k] w fun e w'=>e=.returned (.tuple #[.int .i64 (oA k),.int .i64 (oB k),.bool (bG k)])∧w'=w:=by
 rcases oo k with ⟨hk,rfl | rfl | rfl | rfl | rfl | rfl⟩ | ⟨hk,h1,h2,h3,h4,h5,h6⟩
 ·go_enter Tryz.func24,Tryz.ntmps24;go_wp2_with fail;refine bodyPost_ret (v:=.tuple #[.int .i64 (oA 1),.int .i64 (oB 1),.bool (bG 1)]) (by simp[results,go_sem,oA,oB,bG]) rfl ?_;exact⟨rfl,rfl⟩
 ·go_enter Tryz.func24,Tryz.ntmps24;go_wp2_with fail;refine bodyPost_ret (v:=.tuple #[.int .i64 (oA 2),.int .i64 (oB 2),.bool (bG 2)]) (by simp[results,go_sem,oA,oB,bG]) rfl ?_;exact⟨rfl,rfl⟩
 ·go_enter Tryz.func24,Tryz.ntmps24;go_wp2_with fail;refine bodyPost_ret (v:=.tuple #[.int .i64 (oA 3),.int .i64 (oB 3),.bool (bG 3)]) (by simp[results,go_sem,oA,oB,bG]) rfl ?_;exact⟨rfl,rfl⟩
 ·go_enter Tryz.func24,Tryz.ntmps24;go_wp2_with fail;refine bodyPost_ret (v:=.tuple #[.int .i64 (oA 4),.int .i64 (oB 4),.bool (bG 4)]) (by simp[results,go_sem,oA,oB,bG]) rfl ?_;exact⟨rfl,rfl⟩
 ·go_enter Tryz.func24,Tryz.ntmps24;go_wp2_with fail;refine bodyPost_ret (v:=.tuple #[.int .i64 (oA 5),.int .i64 (oB 5),.bool (bG 5)]) (by simp[results,go_sem,oA,oB,bG]) rfl ?_;exact⟨rfl,rfl⟩
 ·go_enter Tryz.func24,Tryz.ntmps24;go_wp2_with fail;refine bodyPost_ret (v:=.tuple #[.int .i64 (oA 6),.int .i64 (oB 6),.bool (bG 6)]) (by simp[results,go_sem,oA,oB,bG]) rfl ?_;exact⟨rfl,rfl⟩
 ·have a1:(k==1)=false:=by rw[beq_eq_false_iff_ne];exact h1
  have a2:(k==2)=false:=by rw[beq_eq_false_iff_ne];exact h2
  have a3:(k==3)=false:=by rw[beq_eq_false_iff_ne];exact h3
  have a4:(k==4)=false:=by rw[beq_eq_false_iff_ne];exact h4
  have a5:(k==5)=false:=by rw[beq_eq_false_iff_ne];exact h5
  have a6:(k==6)=false:=by rw[beq_eq_false_iff_ne];exact h6
  have e1:oA k=0:=by unfold oA;rw[hk];rfl
  have e2:oB k=0:=by unfold oB;rw[hk];rfl
  rw[e1,e2,hk];clear e1 e2 hk h1 h2 h3 h4 h5 h6;go_enter Tryz.func24,Tryz.ntmps24;go_wp2_with fail;refine bodyPost_ret (v:=.tuple #[.int .i64 0,.int .i64 0,.bool false]) (by simp[results,go_sem]) rfl ?_;exact⟨rfl,rfl⟩
theorem bc (k:Int) (w:World) (hk:bG k=true):Calls Tryz.prog 21 #[.int .i64 k] w fun e w'=>e=.returned (.int .i64 (oA k))∧w'=w:=by
 unfold oA;rw[if_pos hk]
 by_cases h:k=6
 ·rw[if_pos h];have t:(k==6)=true:=by rw[h];rfl
  clear hk h;go_enter Tryz.func21,Tryz.ntmps21;go_wp2_with fail;go_ret;exact⟨rfl,rfl⟩
 ·rw[if_neg h];have t:(k==6)=false:=by rw[beq_eq_false_iff_ne];exact h
  clear hk h;go_enter Tryz.func21,Tryz.ntmps21;go_wp2_with fail;go_ret;exact⟨rfl,rfl⟩
theorem bO (k:Int) (w:World) (hk:bG k=true):Calls Tryz.prog 22 #[.int .i64 k] w fun e w'=>e=.returned (.int .i64 (oB k))∧w'=w:=by
 unfold oB;rw[if_pos hk]
 by_cases h:k=6
 ·rw[if_pos h];have t:(k==6)=true:=by rw[h];rfl
  clear hk h;go_enter Tryz.func22,Tryz.ntmps22;go_wp2_with fail;go_ret;exact⟨rfl,rfl⟩
 ·rw[if_neg h];have t:(k==6)=false:=by rw[beq_eq_false_iff_ne];exact h
  clear hk h;go_enter Tryz.func22,Tryz.ntmps22;go_wp2_with fail;go_ret;exact⟨rfl,rfl⟩
end Go.Proofs.YtolmpehgeinlkaaGreatDoor
