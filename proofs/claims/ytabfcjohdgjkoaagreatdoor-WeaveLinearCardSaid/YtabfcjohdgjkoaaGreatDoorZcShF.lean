/- What is done with each kind. -/
import Derived.Test.YtabfcjohdgjkoaaGreatDoorZcShC
namespace Go.Proofs.YtabfcjohdgjkoaaGreatDoor
open Go.RowKit
open Go.Lib (hid)
set_option maxHeartbeats 2000000
set_option maxRecDepth 100000
theorem kR {o:Ob} (h:o.k=1):decide (bD o)=decide (cG o):=by
 obtain⟨k1,k2,k3,k4,k5,k6⟩:=@cm o;rw[decide_eq_decide];unfold bD
 constructor
 ·rintro(q | q | q | q | q | q)
  ·exact q
  ·exfalso;have:=k2 q;omega
  ·exfalso;have:=k3 q;omega
  ·exfalso;have:=k4 q;omega
  ·exfalso;have:=k5 q;omega
  ·exfalso;have:=k6 q;omega
 ·exact fun q=>.inl q
theorem kQ {o:Ob} (h:o.k=2):decide (bD o)=decide (cF o):=by
 obtain⟨k1,k2,k3,k4,k5,k6⟩:=@cm o;rw[decide_eq_decide];unfold bD
 constructor
 ·rintro(q | q | q | q | q | q)
  ·exfalso;have:=k1 q;omega
  ·exact q
  ·exfalso;have:=k3 q;omega
  ·exfalso;have:=k4 q;omega
  ·exfalso;have:=k5 q;omega
  ·exfalso;have:=k6 q;omega
 ·exact fun q=>.inr (.inl q)
theorem ng {o:Ob} (h:o.k=3):decide (bD o)=decide (ee o):=by
 obtain⟨k1,k2,k3,k4,k5,k6⟩:=@cm o;rw[decide_eq_decide];unfold bD
 constructor
 ·rintro(q | q | q | q | q | q)
  ·exfalso;have:=k1 q;omega
  ·exfalso;have:=k2 q;omega
  ·exact q
  ·exfalso;have:=k4 q;omega
  ·exfalso;have:=k5 q;omega
  ·exfalso;have:=k6 q;omega
 ·exact fun q=>.inr (.inr (.inl q))
theorem kS {o:Ob} (h:o.k=4):decide (bD o)=decide (ce o):=by
 obtain⟨k1,k2,k3,k4,k5,k6⟩:=@cm o;rw[decide_eq_decide];unfold bD
 constructor
 ·rintro(q | q | q | q | q | q)
  ·exfalso;have:=k1 q;omega
  ·exfalso;have:=k2 q;omega
  ·exfalso;have:=k3 q;omega
  ·exact q
  ·exfalso;have:=k5 q;omega
  ·exfalso;have:=k6 q;omega
 ·exact fun q=>.inr (.inr (.inr (.inl q)))
theorem nf {o:Ob} (h:o.k=5):decide (bD o)=decide (eh o):=by
 obtain⟨k1,k2,k3,k4,k5,k6⟩:=@cm o;rw[decide_eq_decide];unfold bD
 constructor
 ·rintro(q | q | q | q | q | q)
  ·exfalso;have:=k1 q;omega
  ·exfalso;have:=k2 q;omega
  ·exfalso;have:=k3 q;omega
  ·exfalso;have:=k4 q;omega
  ·exact q
  ·exfalso;have:=k6 q;omega
 ·exact fun q=>.inr (.inr (.inr (.inr (.inl q))))
theorem ja {o:Ob} (h:¬ o.k=1∧¬ o.k=2∧¬ o.k=3∧¬ o.k=4∧¬ o.k=5):decide (bD o)=decide (bL o):=by
 obtain⟨k1,k2,k3,k4,k5,k6⟩:=@cm o;rw[decide_eq_decide];unfold bD
 constructor
 ·rintro(q | q | q | q | q | q)
  ·exfalso;have:=k1 q;omega
  ·exfalso;have:=k2 q;omega
  ·exfalso;have:=k3 q;omega
  ·exfalso;have:=k4 q;omega
  ·exfalso;have:=k5 q;omega
  ·exact q
 ·exact fun q=>.inr (.inr (.inr (.inr (.inr q))))
theorem tB (o:Ob) (ho:o.Ok) (w:World):Calls Tryz.prog 75 #[.agg (af o)] w fun e w'=>e=.returned (.bool (decide (bD o)))∧Below w.heap.size w w':=by
 have hn:=ObX.new w o;have hB:=bK w (.cells (af o) 26);obtain⟨n,aI⟩:∃ n,w.heap.size=n:=⟨_,rfl⟩;rw[aI] at hn hB;have HN:=hid hn;have HB:=hid hB;clear hn hB;rw[aI]
 by_cases dU:o.k=1
 ·have kb1:(o.k==1)=true:=by simpa using dU
  rw[kR dU];have tP:=hid dU;clear dU;have hr:=fun W=>jo o ho W
  unfold af at hr;have HR:=hid hr;clear hr;unfold af at *;go_enter Tryz.func75,Tryz.ntmps75;go_wp2_with fail;refine(HR.out _).mono ?_;rintro e w1 ⟨rfl,aq⟩;have bZ:=ObX.kept HN.out aq;have bF:=eC HB.out aq;obtain⟨d0,d1,d2,d3,d4,d5,d6,d7⟩:=bZ.cells;go_wp2_with fail;go_ret;exact⟨rfl,bF⟩
 ·have kb1:(o.k==1)=false:=by simpa using dU
  by_cases eW:o.k=2
  ·have kb2:(o.k==2)=true:=by simpa using eW
   rw[kQ eW];have tP:=hid dU;clear dU;have yv:=hid eW;clear eW;have hr:=fun W=>je o ho W
   unfold af at hr;have HR:=hid hr;clear hr;unfold af at *;go_enter Tryz.func75,Tryz.ntmps75;go_wp2_with fail;refine(HR.out _).mono ?_;rintro e w1 ⟨rfl,aq⟩;have bZ:=ObX.kept HN.out aq;have bF:=eC HB.out aq;obtain⟨d0,d1,d2,d3,d4,d5,d6,d7⟩:=bZ.cells;go_wp2_with fail;go_ret;exact⟨rfl,bF⟩
  ·have kb2:(o.k==2)=false:=by simpa using eW
   by_cases fW:o.k=3
   ·have kb3:(o.k==3)=true:=by simpa using fW
    rw[ng fW];have tP:=hid dU;clear dU;have yv:=hid eW;clear eW;have vk:=hid fW;clear fW;have hr:=fun W=>gu o ho W
    unfold af at hr;have HR:=hid hr;clear hr;unfold af at *;go_enter Tryz.func75,Tryz.ntmps75;go_wp2_with fail;refine(HR.out _).mono ?_;rintro e w1 ⟨rfl,aq⟩;have bZ:=ObX.kept HN.out aq;have bF:=eC HB.out aq;obtain⟨d0,d1,d2,d3,d4,d5,d6,d7⟩:=bZ.cells;go_wp2_with fail;go_ret;exact⟨rfl,bF⟩
   ·have kb3:(o.k==3)=false:=by simpa using fW
    by_cases fX:o.k=4
    ·have kb4:(o.k==4)=true:=by simpa using fX
     rw[kS fX];have tP:=hid dU;clear dU;have yv:=hid eW;clear eW;have vk:=hid fW;clear fW;have vl:=hid fX;clear fX;have hr:=fun W=>jA o W
     unfold af at hr;have HR:=hid hr;clear hr;unfold af at *;go_enter Tryz.func75,Tryz.ntmps75;go_wp2_with fail;refine(HR.out _).mono ?_;rintro e w1 ⟨rfl,aq⟩;have bZ:=ObX.kept HN.out aq;have bF:=eC HB.out aq;obtain⟨d0,d1,d2,d3,d4,d5,d6,d7⟩:=bZ.cells;go_wp2_with fail;go_ret;exact⟨rfl,bF⟩
    ·have kb4:(o.k==4)=false:=by simpa using fX
     by_cases gZ:o.k=5
     ·have kb5:(o.k==5)=true:=by simpa using gZ
      rw[nf gZ];have tP:=hid dU;clear dU;have yv:=hid eW;clear eW;have vk:=hid fW;clear fW;have vl:=hid fX;clear fX;have yw:=hid gZ;clear gZ;have hr:=fun W=>ka o ho W
      unfold af at hr;have HR:=hid hr;clear hr;unfold af at *;go_enter Tryz.func75,Tryz.ntmps75;go_wp2_with fail;refine(HR.out _).mono ?_;rintro e w1 ⟨rfl,aq⟩;have bZ:=ObX.kept HN.out aq;have bF:=eC HB.out aq;obtain⟨d0,d1,d2,d3,d4,d5,d6,d7⟩:=bZ.cells;go_wp2_with fail;go_ret;exact⟨rfl,bF⟩
     ·have kb5:(o.k==5)=false:=by simpa using gZ
      rw[ja ⟨dU,eW,fW,fX,gZ⟩];have tP:=hid dU;clear dU;have yv:=hid eW;clear eW;have vk:=hid fW;clear fW;have vl:=hid fX;clear fX;have yw:=hid gZ;clear gZ;have hr:=fun W=>jh o W
      unfold af at hr;have HR:=hid hr;clear hr;unfold af at *;go_enter Tryz.func75,Tryz.ntmps75;go_wp2_with fail;refine(HR.out _).mono ?_;rintro e w1 ⟨rfl,aq⟩;have bZ:=ObX.kept HN.out aq;have bF:=eC HB.out aq;obtain⟨d0,d1,d2,d3,d4,d5,d6,d7⟩:=bZ.cells;go_wp2_with fail;go_ret;exact⟨rfl,bF⟩
attribute [local go_sem] Oper.semAt_some
set_option maxHeartbeats 2000000
set_option maxRecDepth 100000
abbrev kO (a0:World) (a1:Nat) (a2:Ob) (w':World):Prop:=Below a0.heap.size a0 w'∧w'.cell? ⟨a1,0,none⟩=some (.int .i64 a2.k)∧w'.cell? ⟨a1,1,none⟩=some (.int .i64 a2.wd)∧w'.cell? ⟨a1,2,none⟩=some (.int .i64 a2.s)∧w'.cell? ⟨a1,3,none⟩=some (.int .i64 a2.c)∧w'.cell? ⟨a1,4,none⟩=some (.int .u32 a2.st)∧w'.cell? ⟨a1,5,none⟩=some (.slice a2.I a2.ni a2.ci)∧w'.cell? ⟨a1,6,none⟩=some (.int .i64 a2.wr)∧w'.cell? ⟨a1,7,none⟩=some (.slice a2.R a2.nr a2.cr)
theorem fP {a b:Int} (h1:0≤a) (h2:a≤16) (h3:0≤b) (h4:b≤16):0≤a*b∧a*b≤256:=
 ⟨Int.mul_nonneg h1 h3,by have:=Int.mul_le_mul h2 h4 h3 (by omega:(0:Int)≤16);omega⟩
theorem cZ {o:Ob} (h:¬ bD o):aB o=0:=by
 unfold bD at h;unfold aB;rw[if_neg (fun q=>h (.inl q)),if_neg (fun q=>h (.inr (.inl q))),if_neg (fun q=>h (.inr (.inr (.inl q)))),if_neg (fun q=>h (.inr (.inr (.inr (.inl q))))),if_neg (fun q=>h (.inr (.inr (.inr (.inr (.inl q)))))),if_neg (fun q=>h (.inr (.inr (.inr (.inr (.inr q))))))]
theorem gx {o:Ob} (h:cG o):aB o=(4+4*o.wd):=by
 obtain⟨k1,k2,k3,k4,k5,k6⟩:=@cm o;unfold aB;rw[if_pos h]
theorem gv {o:Ob} (h:cF o):aB o=(1+o.nr+((o.nr:Int)+2)*o.wd):=by
 obtain⟨k1,k2,k3,k4,k5,k6⟩:=@cm o;unfold aB;rw[if_neg (fun q=>absurd (k1 q) (by have:=k2 h;omega)),if_pos h]
theorem ir {o:Ob} (h:ee o):aB o=(1+o.wd):=by
 obtain⟨k1,k2,k3,k4,k5,k6⟩:=@cm o;unfold aB;rw[if_neg (fun q=>absurd (k1 q) (by have:=k3 h;omega)),if_neg (fun q=>absurd (k2 q) (by have:=k3 h;omega)),if_pos h]
theorem gy {o:Ob} (h:ce o):aB o=(1+o.s*o.wd):=by
 obtain⟨k1,k2,k3,k4,k5,k6⟩:=@cm o;unfold aB;rw[if_neg (fun q=>absurd (k1 q) (by have:=k4 h;omega)),if_neg (fun q=>absurd (k2 q) (by have:=k4 h;omega)),if_neg (fun q=>absurd (k3 q) (by have:=k4 h;omega)),if_pos h]
theorem iq {o:Ob} (h:eh o):aB o=(1+o.nr+o.s*o.wd):=by
 obtain⟨k1,k2,k3,k4,k5,k6⟩:=@cm o;unfold aB;rw[if_neg (fun q=>absurd (k1 q) (by have:=k5 h;omega)),if_neg (fun q=>absurd (k2 q) (by have:=k5 h;omega)),if_neg (fun q=>absurd (k3 q) (by have:=k5 h;omega)),if_neg (fun q=>absurd (k4 q) (by have:=k5 h;omega)),if_pos h]
theorem gw {o:Ob} (h:bL o):aB o=(2+o.s*o.wd):=by
 obtain⟨k1,k2,k3,k4,k5,k6⟩:=@cm o;unfold aB;rw[if_neg (fun q=>absurd (k1 q) (by have:=k6 h;omega)),if_neg (fun q=>absurd (k2 q) (by have:=k6 h;omega)),if_neg (fun q=>absurd (k3 q) (by have:=k6 h;omega)),if_neg (fun q=>absurd (k4 q) (by have:=k6 h;omega)),if_neg (fun q=>absurd (k5 q) (by have:=k6 h;omega)),if_pos h]
theorem kX {o:Ob} (h:cG o):1≤o.wd∧o.wd≤8∧1≤o.nr∧o.nr≤4:=by
 unfold cG ax at h;omega
theorem kU {o:Ob} (h:cF o):1≤o.wd∧o.wd≤8∧1≤o.nr∧o.nr≤4:=by
 unfold cF ax at h;omega
theorem kC {o:Ob} (h:ee o):1≤o.wd∧o.wd≤8∧1≤o.nr∧o.nr≤4∧1≤o.c∧o.c≤16:=by
 unfold ee ax dB at h;omega
theorem fh {o:Ob} (h:ce o):1≤o.wd∧o.wd≤8∧1≤o.nr∧o.nr≤4∧1≤o.c∧o.c≤16∧2≤o.s∧o.s≤16:=by
 unfold ce ax dB at h;omega
theorem gP {o:Ob} (h:eh o):1≤o.wd∧o.wd≤8∧1≤o.nr∧o.nr≤4∧1≤o.c∧o.c≤16∧(o.nr:Int)+2≤o.s∧o.s≤16:=by
 unfold eh ax dB at h;omega
theorem gG {o:Ob} (h:bL o):1≤o.wd∧o.wd≤8∧1≤o.nr∧o.nr≤4∧1≤o.s∧o.s≤16:=by
 unfold bL ax at h;omega
theorem kf (o:Ob) (h:o.nr≤4) (w:World):Calls Tryz.prog 148 #[.agg (af o)] w fun e w'=>e=.returned (.int .i64 (1+o.nr))∧Below w.heap.size w w':=by
 have q5:(o.nr:Int)≤4:=by omega
 have hn:=ObX.new w o;have hB:=bK w (.cells (af o) 26);obtain⟨n,aI⟩:∃ n,w.heap.size=n:=⟨_,rfl⟩;rw[aI] at hn hB;have HN:=hid hn;have HB:=hid hB;clear hn hB;rw[aI];unfold af at *;go_enter Tryz.func148,Tryz.ntmps148;go_wp2_with fail;go_ret;exact⟨rfl,HB.out⟩
theorem mL (o:Ob) (h:o.nr≤4) (w:World):Calls Tryz.prog 197 #[.agg (af o)] w fun e w'=>e=.returned (.int .i64 ((o.nr:Int)+2))∧Below w.heap.size w w':=by
 have q5:(o.nr:Int)≤4:=by omega
 have hn:=ObX.new w o;have hB:=bK w (.cells (af o) 26);obtain⟨n,aI⟩:∃ n,w.heap.size=n:=⟨_,rfl⟩;rw[aI] at hn hB;have HN:=hid hn;have HB:=hid hB;clear hn hB;rw[aI];unfold af at *;go_enter Tryz.func197,Tryz.ntmps197;go_wp2_with fail;go_ret;exact⟨rfl,HB.out⟩
theorem lY (o:Ob) (h:o.nr≤4) (w:World):Calls Tryz.prog 150 #[.agg (af o)] w fun e w'=>e=.returned (.int .i64 (1+o.nr))∧Below w.heap.size w w':=by
 have q5:(o.nr:Int)≤4:=by omega
 have hn:=ObX.new w o;have hB:=bK w (.cells (af o) 26);obtain⟨n,aI⟩:∃ n,w.heap.size=n:=⟨_,rfl⟩;rw[aI] at hn hB;have HN:=hid hn;have HB:=hid hB;clear hn hB;rw[aI];unfold af at *;go_enter Tryz.func150,Tryz.ntmps150;go_wp2_with fail;go_ret;exact⟨rfl,HB.out⟩
theorem zg (o:Ob) (h:cG o) (w:World):Calls Tryz.prog 141 #[.agg (af o)] w fun e w'=>e=.returned (.int .i64 (4+4*o.wd))∧Below w.heap.size w w':=by
 obtain⟨q1,q2,q3,q4⟩:=kX h;clear h;have hn:=ObX.new w o;have hB:=bK w (.cells (af o) 26);obtain⟨n,aI⟩:∃ n,w.heap.size=n:=⟨_,rfl⟩;rw[aI] at hn hB;have HN:=hid hn;have HB:=hid hB;clear hn hB;rw[aI];unfold af at *;go_enter Tryz.func141,Tryz.ntmps141;go_wp2_with fail;go_ret;exact⟨rfl,HB.out⟩
theorem EV (o:Ob) (h:ee o) (w:World):Calls Tryz.prog 143 #[.agg (af o)] w fun e w'=>e=.returned (.int .i64 (1+o.wd))∧Below w.heap.size w w':=by
 obtain⟨q1,q2,q3,q4,q5,q6⟩:=kC h;clear h;have hn:=ObX.new w o;have hB:=bK w (.cells (af o) 26);obtain⟨n,aI⟩:∃ n,w.heap.size=n:=⟨_,rfl⟩;rw[aI] at hn hB;have HN:=hid hn;have HB:=hid hB;clear hn hB;rw[aI];unfold af at *;go_enter Tryz.func143,Tryz.ntmps143;go_wp2_with fail;go_ret;exact⟨rfl,HB.out⟩
theorem Bt (o:Ob) (h:ce o) (w:World):Calls Tryz.prog 144 #[.agg (af o)] w fun e w'=>e=.returned (.int .i64 (1+o.s*o.wd))∧Below w.heap.size w w':=by
 obtain⟨q1,q2,q3,q4,q5,q6,q7,q8⟩:=fh h;clear h;have m:=fP (a:=o.s) (b:=o.wd) (by omega) (by omega) (by omega) (by omega);have e1:IntKind.i64.wrap (o.s*o.wd)=o.s*o.wd:=ag (by omega) (by omega);have e2:IntKind.i64.wrap (1+o.s*o.wd)=1+o.s*o.wd:=ag (by omega) (by omega);have hn:=ObX.new w o;have hB:=bK w (.cells (af o) 26);obtain⟨n,aI⟩:∃ n,w.heap.size=n:=⟨_,rfl⟩;rw[aI] at hn hB;have HN:=hid hn;have HB:=hid hB;clear hn hB;rw[aI];unfold af at *;go_enter Tryz.func144,Tryz.ntmps144;go_wp2_with fail;go_ret;exact⟨rfl,HB.out⟩
theorem y9 (o:Ob) (h:bL o) (w:World):Calls Tryz.prog 146 #[.agg (af o)] w fun e w'=>e=.returned (.int .i64 (2+o.s*o.wd))∧Below w.heap.size w w':=by
 obtain⟨q1,q2,q3,q4,q5,q6⟩:=gG h;clear h;have m:=fP (a:=o.s) (b:=o.wd) (by omega) (by omega) (by omega) (by omega);have e1:IntKind.i64.wrap (o.s*o.wd)=o.s*o.wd:=ag (by omega) (by omega);have e2:IntKind.i64.wrap (2+o.s*o.wd)=2+o.s*o.wd:=ag (by omega) (by omega);have hn:=ObX.new w o;have hB:=bK w (.cells (af o) 26);obtain⟨n,aI⟩:∃ n,w.heap.size=n:=⟨_,rfl⟩;rw[aI] at hn hB;have HN:=hid hn;have HB:=hid hB;clear hn hB;rw[aI];unfold af at *;go_enter Tryz.func146,Tryz.ntmps146;go_wp2_with fail;go_ret;exact⟨rfl,HB.out⟩
theorem yV (o:Ob) (h:cF o) (w:World):Calls Tryz.prog 142 #[.agg (af o)] w fun e w'=>e=.returned (.int .i64 (1+o.nr+((o.nr:Int)+2)*o.wd))∧Below w.heap.size w w':=by
 obtain⟨q1,q2,q3,q4⟩:=kU h;have dl:=fun W=>kf o q4 W
 unfold af at dl;have Fv:=hid dl;clear dl;have o8:=fun W=>mL o q4 W
 unfold af at o8;have RV:=hid o8;clear o8;clear h;have m:=fP (a:=(o.nr:Int)+2) (b:=o.wd) (by omega) (by omega) (by omega) (by omega);have e1:IntKind.i64.wrap (((o.nr:Int)+2)*o.wd)=((o.nr:Int)+2)*o.wd:=ag (by omega) (by omega);have e2:IntKind.i64.wrap (1+(o.nr:Int)+((o.nr:Int)+2)*o.wd)=1+(o.nr:Int)+((o.nr:Int)+2)*o.wd:=ag (by omega) (by omega);obtain⟨W0,DX⟩:∃ W0,w.alloc (.cells #[.int .i64 o.k,.int .i64 o.wd,.int .i64 o.s,.int .i64 o.c,.int .u32 o.st,.slice o.I o.ni o.ci,.int .i64 o.wr,.slice o.R o.nr o.cr] 26)=W0:=⟨_,rfl⟩;have hn:=ObX.new w o;have hB:=bK w (.cells (af o) 26);unfold af at hn hB;rw[DX] at hn hB;obtain⟨n,aI⟩:∃ n,w.heap.size=n:=⟨_,rfl⟩;rw[aI] at hn hB;have HN:=hid hn;have HB:=hid hB;clear hn hB;rw[aI];unfold af;go_enter Tryz.func142,Tryz.ntmps142;go_wp2_with fail;have dc:(kO W0 n o) W0.drew:=⟨(Below.refl _ W0).drew,(ObX.kept HN.out (Below.refl _ W0).drew).cells⟩;refine wp_region_held_drew (S:=(kO W0 n o)) (by kernel_rfl) dc (fun hHeld=>?_);generalize W0.drew=wd at hHeld ⊢;have hHeld:(kO W0 n o) wd:=hHeld;refine ai 0 2 4 5 ?_;refine aV 1 (fun K hK=>?_);go_simp;refine(Fv.out _).mono ?_;rintro ex wx ⟨rfl,ar⟩
 have aw:(kO W0 n o) wx:=by
  obtain⟨h0,u0,u1,u2,u3,u4,u5,u6,u7⟩:=hHeld;have hk:∀ {i:Nat} {u:Value},_→wx.cell? ⟨n,i,none⟩=some u:=fun {i u} hc=>(ar.cell (p:=⟨n,i,none⟩) (aM hc)).trans hc
  exact⟨h0.trans (ar.mono h0.size),hk u0,hk u1,hk u2,hk u3,hk u4,hk u5,hk u6,hk u7⟩
 refine kH hK aw fun hHeld=>?_
 clear hK K;refine aV 3 (fun K hK=>?_);go_simp;refine(RV.out _).mono ?_;rintro ex wx ⟨rfl,ar⟩
 have aw:(kO W0 n o) wx:=by
  obtain⟨h0,u0,u1,u2,u3,u4,u5,u6,u7⟩:=hHeld;have hk:∀ {i:Nat} {u:Value},_→wx.cell? ⟨n,i,none⟩=some u:=fun {i u} hc=>(ar.cell (p:=⟨n,i,none⟩) (aM hc)).trans hc
  exact⟨h0.trans (ar.mono h0.size),hk u0,hk u1,hk u2,hk u3,hk u4,hk u5,hk u6,hk u7⟩
 refine kH hK aw fun hHeld=>?_
 clear hK K;refine bv 6 7 ?_;refine aX 8 ?_;refine aY ?_;clear dc;go_wp2_with fail;go_ret;exact⟨rfl,HB.out.trans (hHeld.1.mono (by have:=HB.out.size;omega))⟩
theorem C6 (o:Ob) (h:eh o) (w:World):Calls Tryz.prog 145 #[.agg (af o)] w fun e w'=>e=.returned (.int .i64 (1+o.nr+o.s*o.wd))∧Below w.heap.size w w':=by
 obtain⟨q1,q2,q3,q4,q5,q6,q7,q8⟩:=gP h;have dl:=fun W=>lY o q4 W
 unfold af at dl;have Fv:=hid dl;clear dl;clear h;have m:=fP (a:=o.s) (b:=o.wd) (by omega) (by omega) (by omega) (by omega);have e1:IntKind.i64.wrap (o.s*o.wd)=o.s*o.wd:=ag (by omega) (by omega);have e2:IntKind.i64.wrap (1+(o.nr:Int)+o.s*o.wd)=1+(o.nr:Int)+o.s*o.wd:=ag (by omega) (by omega);obtain⟨W0,DX⟩:∃ W0,w.alloc (.cells #[.int .i64 o.k,.int .i64 o.wd,.int .i64 o.s,.int .i64 o.c,.int .u32 o.st,.slice o.I o.ni o.ci,.int .i64 o.wr,.slice o.R o.nr o.cr] 26)=W0:=⟨_,rfl⟩;have hn:=ObX.new w o;have hB:=bK w (.cells (af o) 26);unfold af at hn hB;rw[DX] at hn hB;obtain⟨n,aI⟩:∃ n,w.heap.size=n:=⟨_,rfl⟩;rw[aI] at hn hB;have HN:=hid hn;have HB:=hid hB;clear hn hB;rw[aI];unfold af;go_enter Tryz.func145,Tryz.ntmps145;go_wp2_with fail;have dc:(kO W0 n o) W0.drew:=⟨(Below.refl _ W0).drew,(ObX.kept HN.out (Below.refl _ W0).drew).cells⟩;refine wp_region_held_drew (S:=(kO W0 n o)) (by kernel_rfl) dc (fun hHeld=>?_);generalize W0.drew=wd at hHeld ⊢;have hHeld:(kO W0 n o) wd:=hHeld;refine ai 0 2 3 4 ?_;refine bv 5 6 ?_;refine aV 1 (fun K hK=>?_);go_simp;refine(Fv.out _).mono ?_;rintro ex wx ⟨rfl,ar⟩
 have aw:(kO W0 n o) wx:=by
  obtain⟨h0,u0,u1,u2,u3,u4,u5,u6,u7⟩:=hHeld;have hk:∀ {i:Nat} {u:Value},_→wx.cell? ⟨n,i,none⟩=some u:=fun {i u} hc=>(ar.cell (p:=⟨n,i,none⟩) (aM hc)).trans hc
  exact⟨h0.trans (ar.mono h0.size),hk u0,hk u1,hk u2,hk u3,hk u4,hk u5,hk u6,hk u7⟩
 refine kH hK aw fun hHeld=>?_
 clear hK K;refine bv 7 8 ?_;refine aY ?_;clear dc;go_wp2_with fail;go_ret;exact⟨rfl,HB.out.trans (hHeld.1.mono (by have:=HB.out.size;omega))⟩
theorem kp (o:Ob) (ho:o.Ok) (hk:o.k=1) (w:World):Calls Tryz.prog 77 #[.agg (af o)] w fun e w'=>e=.returned (.int .i64 (aB o))∧Below w.heap.size w w':=by
 by_cases h:cG o
 ·rw[gx h];have hr:=fun W=>jo o ho W
  rw[decide_eq_true h] at hr;have hs:=fun W=>zg o h W
  clear h hk ho;unfold af at hr hs;have HR:=hid hr;have HS:=hid hs;clear hr hs;have hn:=ObX.new w o;have hB:=bK w (.cells (af o) 26);obtain⟨n,aI⟩:∃ n,w.heap.size=n:=⟨_,rfl⟩;rw[aI] at hn hB;have HN:=hid hn;have HB:=hid hB;clear hn hB;rw[aI];unfold af at *;go_enter Tryz.func77,Tryz.ntmps77;go_wp2_with fail;refine(HR.out _).mono ?_;rintro e w1 ⟨rfl,aq⟩;have bZ:=ObX.kept HN.out aq;have bF:=eC HB.out aq;obtain⟨d0,d1,d2,d3,d4,d5,d6,d7⟩:=bZ.cells;go_wp2_with fail;refine(HS.out _).mono ?_;rintro e w2 ⟨rfl,aO⟩;have fk:=ObX.kept (bZ) aO;have dO:=eC bF aO;clear d0 d1 d2 d3 d4 d5 d6 d7;obtain⟨d0,d1,d2,d3,d4,d5,d6,d7⟩:=fk.cells;go_wp2_with fail;go_ret;exact⟨rfl,dO⟩
 ·have gF:¬ bD o:=fun q=>h (of_decide_eq_true ((kR hk).symm.trans (decide_eq_true q)))
  rw[cZ gF];have hr:=fun W=>jo o ho W
  rw[decide_eq_false h] at hr;clear h hk ho gF;unfold af at hr;have HR:=hid hr;clear hr;have hn:=ObX.new w o;have hB:=bK w (.cells (af o) 26);obtain⟨n,aI⟩:∃ n,w.heap.size=n:=⟨_,rfl⟩;rw[aI] at hn hB;have HN:=hid hn;have HB:=hid hB;clear hn hB;rw[aI];unfold af at *;go_enter Tryz.func77,Tryz.ntmps77;go_wp2_with fail;refine(HR.out _).mono ?_;rintro e w1 ⟨rfl,aq⟩;have bZ:=ObX.kept HN.out aq;have bF:=eC HB.out aq;obtain⟨d0,d1,d2,d3,d4,d5,d6,d7⟩:=bZ.cells;go_wp2_with fail;go_ret;exact⟨rfl,bF⟩
theorem kg (o:Ob) (ho:o.Ok) (hk:o.k=2) (w:World):Calls Tryz.prog 78 #[.agg (af o)] w fun e w'=>e=.returned (.int .i64 (aB o))∧Below w.heap.size w w':=by
 by_cases h:cF o
 ·rw[gv h];have hr:=fun W=>je o ho W
  rw[decide_eq_true h] at hr;have hs:=fun W=>yV o h W
  clear h hk ho;unfold af at hr hs;have HR:=hid hr;have HS:=hid hs;clear hr hs;have hn:=ObX.new w o;have hB:=bK w (.cells (af o) 26);obtain⟨n,aI⟩:∃ n,w.heap.size=n:=⟨_,rfl⟩;rw[aI] at hn hB;have HN:=hid hn;have HB:=hid hB;clear hn hB;rw[aI];unfold af at *;go_enter Tryz.func78,Tryz.ntmps78;go_wp2_with fail;refine(HR.out _).mono ?_;rintro e w1 ⟨rfl,aq⟩;have bZ:=ObX.kept HN.out aq;have bF:=eC HB.out aq;obtain⟨d0,d1,d2,d3,d4,d5,d6,d7⟩:=bZ.cells;go_wp2_with fail;refine(HS.out _).mono ?_;rintro e w2 ⟨rfl,aO⟩;have fk:=ObX.kept (bZ) aO;have dO:=eC bF aO;clear d0 d1 d2 d3 d4 d5 d6 d7;obtain⟨d0,d1,d2,d3,d4,d5,d6,d7⟩:=fk.cells;go_wp2_with fail;go_ret;exact⟨rfl,dO⟩
 ·have gF:¬ bD o:=fun q=>h (of_decide_eq_true ((kQ hk).symm.trans (decide_eq_true q)))
  rw[cZ gF];have hr:=fun W=>je o ho W
  rw[decide_eq_false h] at hr;clear h hk ho gF;unfold af at hr;have HR:=hid hr;clear hr;have hn:=ObX.new w o;have hB:=bK w (.cells (af o) 26);obtain⟨n,aI⟩:∃ n,w.heap.size=n:=⟨_,rfl⟩;rw[aI] at hn hB;have HN:=hid hn;have HB:=hid hB;clear hn hB;rw[aI];unfold af at *;go_enter Tryz.func78,Tryz.ntmps78;go_wp2_with fail;refine(HR.out _).mono ?_;rintro e w1 ⟨rfl,aq⟩;have bZ:=ObX.kept HN.out aq;have bF:=eC HB.out aq;obtain⟨d0,d1,d2,d3,d4,d5,d6,d7⟩:=bZ.cells;go_wp2_with fail;go_ret;exact⟨rfl,bF⟩
theorem qp (o:Ob) (ho:o.Ok) (hk:o.k=3) (w:World):Calls Tryz.prog 79 #[.agg (af o)] w fun e w'=>e=.returned (.int .i64 (aB o))∧Below w.heap.size w w':=by
 by_cases h:ee o
 ·rw[ir h];have hr:=fun W=>gu o ho W
  rw[decide_eq_true h] at hr;have hs:=fun W=>EV o h W
  clear h hk ho;unfold af at hr hs;have HR:=hid hr;have HS:=hid hs;clear hr hs;have hn:=ObX.new w o;have hB:=bK w (.cells (af o) 26);obtain⟨n,aI⟩:∃ n,w.heap.size=n:=⟨_,rfl⟩;rw[aI] at hn hB;have HN:=hid hn;have HB:=hid hB;clear hn hB;rw[aI];unfold af at *;go_enter Tryz.func79,Tryz.ntmps79;go_wp2_with fail;refine(HR.out _).mono ?_;rintro e w1 ⟨rfl,aq⟩;have bZ:=ObX.kept HN.out aq;have bF:=eC HB.out aq;obtain⟨d0,d1,d2,d3,d4,d5,d6,d7⟩:=bZ.cells;go_wp2_with fail;refine(HS.out _).mono ?_;rintro e w2 ⟨rfl,aO⟩;have fk:=ObX.kept (bZ) aO;have dO:=eC bF aO;clear d0 d1 d2 d3 d4 d5 d6 d7;obtain⟨d0,d1,d2,d3,d4,d5,d6,d7⟩:=fk.cells;go_wp2_with fail;go_ret;exact⟨rfl,dO⟩
 ·have gF:¬ bD o:=fun q=>h (of_decide_eq_true ((ng hk).symm.trans (decide_eq_true q)))
  rw[cZ gF];have hr:=fun W=>gu o ho W
  rw[decide_eq_false h] at hr;clear h hk ho gF;unfold af at hr;have HR:=hid hr;clear hr;have hn:=ObX.new w o;have hB:=bK w (.cells (af o) 26);obtain⟨n,aI⟩:∃ n,w.heap.size=n:=⟨_,rfl⟩;rw[aI] at hn hB;have HN:=hid hn;have HB:=hid hB;clear hn hB;rw[aI];unfold af at *;go_enter Tryz.func79,Tryz.ntmps79;go_wp2_with fail;refine(HR.out _).mono ?_;rintro e w1 ⟨rfl,aq⟩;have bZ:=ObX.kept HN.out aq;have bF:=eC HB.out aq;obtain⟨d0,d1,d2,d3,d4,d5,d6,d7⟩:=bZ.cells;go_wp2_with fail;go_ret;exact⟨rfl,bF⟩
theorem kB (o:Ob) (_ho:o.Ok) (hk:o.k=4) (w:World):Calls Tryz.prog 80 #[.agg (af o)] w fun e w'=>e=.returned (.int .i64 (aB o))∧Below w.heap.size w w':=by
 by_cases h:ce o
 ·rw[gy h];have hr:=fun W=>jA o W
  rw[decide_eq_true h] at hr;have hs:=fun W=>Bt o h W
  clear h hk _ho;unfold af at hr hs;have HR:=hid hr;have HS:=hid hs;clear hr hs;have hn:=ObX.new w o;have hB:=bK w (.cells (af o) 26);obtain⟨n,aI⟩:∃ n,w.heap.size=n:=⟨_,rfl⟩;rw[aI] at hn hB;have HN:=hid hn;have HB:=hid hB;clear hn hB;rw[aI];unfold af at *;go_enter Tryz.func80,Tryz.ntmps80;go_wp2_with fail;refine(HR.out _).mono ?_;rintro e w1 ⟨rfl,aq⟩;have bZ:=ObX.kept HN.out aq;have bF:=eC HB.out aq;obtain⟨d0,d1,d2,d3,d4,d5,d6,d7⟩:=bZ.cells;go_wp2_with fail;refine(HS.out _).mono ?_;rintro e w2 ⟨rfl,aO⟩;have fk:=ObX.kept (bZ) aO;have dO:=eC bF aO;clear d0 d1 d2 d3 d4 d5 d6 d7;obtain⟨d0,d1,d2,d3,d4,d5,d6,d7⟩:=fk.cells;go_wp2_with fail;go_ret;exact⟨rfl,dO⟩
 ·have gF:¬ bD o:=fun q=>h (of_decide_eq_true ((kS hk).symm.trans (decide_eq_true q)))
  rw[cZ gF];have hr:=fun W=>jA o W
  rw[decide_eq_false h] at hr;clear h hk _ho gF;unfold af at hr;have HR:=hid hr;clear hr;have hn:=ObX.new w o;have hB:=bK w (.cells (af o) 26);obtain⟨n,aI⟩:∃ n,w.heap.size=n:=⟨_,rfl⟩;rw[aI] at hn hB;have HN:=hid hn;have HB:=hid hB;clear hn hB;rw[aI];unfold af at *;go_enter Tryz.func80,Tryz.ntmps80;go_wp2_with fail;refine(HR.out _).mono ?_;rintro e w1 ⟨rfl,aq⟩;have bZ:=ObX.kept HN.out aq;have bF:=eC HB.out aq;obtain⟨d0,d1,d2,d3,d4,d5,d6,d7⟩:=bZ.cells;go_wp2_with fail;go_ret;exact⟨rfl,bF⟩
theorem lZ (o:Ob) (ho:o.Ok) (hk:o.k=5) (w:World):Calls Tryz.prog 81 #[.agg (af o)] w fun e w'=>e=.returned (.int .i64 (aB o))∧Below w.heap.size w w':=by
 by_cases h:eh o
 ·rw[iq h];have hr:=fun W=>ka o ho W
  rw[decide_eq_true h] at hr;have hs:=fun W=>C6 o h W
  clear h hk ho;unfold af at hr hs;have HR:=hid hr;have HS:=hid hs;clear hr hs;have hn:=ObX.new w o;have hB:=bK w (.cells (af o) 26);obtain⟨n,aI⟩:∃ n,w.heap.size=n:=⟨_,rfl⟩;rw[aI] at hn hB;have HN:=hid hn;have HB:=hid hB;clear hn hB;rw[aI];unfold af at *;go_enter Tryz.func81,Tryz.ntmps81;go_wp2_with fail;refine(HR.out _).mono ?_;rintro e w1 ⟨rfl,aq⟩;have bZ:=ObX.kept HN.out aq;have bF:=eC HB.out aq;obtain⟨d0,d1,d2,d3,d4,d5,d6,d7⟩:=bZ.cells;go_wp2_with fail;refine(HS.out _).mono ?_;rintro e w2 ⟨rfl,aO⟩;have fk:=ObX.kept (bZ) aO;have dO:=eC bF aO;clear d0 d1 d2 d3 d4 d5 d6 d7;obtain⟨d0,d1,d2,d3,d4,d5,d6,d7⟩:=fk.cells;go_wp2_with fail;go_ret;exact⟨rfl,dO⟩
 ·have gF:¬ bD o:=fun q=>h (of_decide_eq_true ((nf hk).symm.trans (decide_eq_true q)))
  rw[cZ gF];have hr:=fun W=>ka o ho W
  rw[decide_eq_false h] at hr;clear h hk ho gF;unfold af at hr;have HR:=hid hr;clear hr;have hn:=ObX.new w o;have hB:=bK w (.cells (af o) 26);obtain⟨n,aI⟩:∃ n,w.heap.size=n:=⟨_,rfl⟩;rw[aI] at hn hB;have HN:=hid hn;have HB:=hid hB;clear hn hB;rw[aI];unfold af at *;go_enter Tryz.func81,Tryz.ntmps81;go_wp2_with fail;refine(HR.out _).mono ?_;rintro e w1 ⟨rfl,aq⟩;have bZ:=ObX.kept HN.out aq;have bF:=eC HB.out aq;obtain⟨d0,d1,d2,d3,d4,d5,d6,d7⟩:=bZ.cells;go_wp2_with fail;go_ret;exact⟨rfl,bF⟩
theorem km (o:Ob) (_ho:o.Ok) (hk:¬ o.k=1∧¬ o.k=2∧¬ o.k=3∧¬ o.k=4∧¬ o.k=5) (w:World):Calls Tryz.prog 82 #[.agg (af o)] w fun e w'=>e=.returned (.int .i64 (aB o))∧Below w.heap.size w w':=by
 by_cases h:bL o
 ·rw[gw h];have hr:=fun W=>jh o W
  rw[decide_eq_true h] at hr;have hs:=fun W=>y9 o h W
  clear h hk _ho;unfold af at hr hs;have HR:=hid hr;have HS:=hid hs;clear hr hs;have hn:=ObX.new w o;have hB:=bK w (.cells (af o) 26);obtain⟨n,aI⟩:∃ n,w.heap.size=n:=⟨_,rfl⟩;rw[aI] at hn hB;have HN:=hid hn;have HB:=hid hB;clear hn hB;rw[aI];unfold af at *;go_enter Tryz.func82,Tryz.ntmps82;go_wp2_with fail;refine(HR.out _).mono ?_;rintro e w1 ⟨rfl,aq⟩;have bZ:=ObX.kept HN.out aq;have bF:=eC HB.out aq;obtain⟨d0,d1,d2,d3,d4,d5,d6,d7⟩:=bZ.cells;go_wp2_with fail;refine(HS.out _).mono ?_;rintro e w2 ⟨rfl,aO⟩;have fk:=ObX.kept (bZ) aO;have dO:=eC bF aO;clear d0 d1 d2 d3 d4 d5 d6 d7;obtain⟨d0,d1,d2,d3,d4,d5,d6,d7⟩:=fk.cells;go_wp2_with fail;go_ret;exact⟨rfl,dO⟩
 ·have gF:¬ bD o:=fun q=>h (of_decide_eq_true ((ja hk).symm.trans (decide_eq_true q)))
  rw[cZ gF];have hr:=fun W=>jh o W
  rw[decide_eq_false h] at hr;clear h hk _ho gF;unfold af at hr;have HR:=hid hr;clear hr;have hn:=ObX.new w o;have hB:=bK w (.cells (af o) 26);obtain⟨n,aI⟩:∃ n,w.heap.size=n:=⟨_,rfl⟩;rw[aI] at hn hB;have HN:=hid hn;have HB:=hid hB;clear hn hB;rw[aI];unfold af at *;go_enter Tryz.func82,Tryz.ntmps82;go_wp2_with fail;refine(HR.out _).mono ?_;rintro e w1 ⟨rfl,aq⟩;have bZ:=ObX.kept HN.out aq;have bF:=eC HB.out aq;obtain⟨d0,d1,d2,d3,d4,d5,d6,d7⟩:=bZ.cells;go_wp2_with fail;go_ret;exact⟨rfl,bF⟩
theorem IY (o:Ob) (ho:o.Ok) (w:World):Calls Tryz.prog 49 #[.agg (af o)] w fun e w'=>e=.returned (.int .i64 (aB o))∧Below w.heap.size w w':=by
 obtain⟨Z,hZ⟩:∃ Z,aB o=Z:=⟨_,rfl⟩;rw[hZ];have hn:=ObX.new w o;have hB:=bK w (.cells (af o) 26);obtain⟨n,aI⟩:∃ n,w.heap.size=n:=⟨_,rfl⟩;rw[aI] at hn hB;have HN:=hid hn;have HB:=hid hB;clear hn hB;rw[aI]
 by_cases dU:o.k=1
 ·have kb1:(o.k==1)=true:=by simpa using dU
  have hr:=fun W=>kp o ho dU W
  rw[hZ] at hr;clear hZ;clear dU;unfold af at hr;have HR:=hid hr;clear hr;unfold af at *;go_enter Tryz.func49,Tryz.ntmps49;go_wp2_with fail;refine(HR.out _).mono ?_;rintro e w1 ⟨rfl,aq⟩;have bZ:=ObX.kept HN.out aq;have bF:=eC HB.out aq;obtain⟨d0,d1,d2,d3,d4,d5,d6,d7⟩:=bZ.cells;go_wp2_with fail;go_ret;exact⟨rfl,bF⟩
 ·have kb1:(o.k==1)=false:=by simpa using dU
  by_cases eW:o.k=2
  ·have kb2:(o.k==2)=true:=by simpa using eW
   have hr:=fun W=>kg o ho eW W
   rw[hZ] at hr;clear hZ;clear dU;clear eW;unfold af at hr;have HR:=hid hr;clear hr;unfold af at *;go_enter Tryz.func49,Tryz.ntmps49;go_wp2_with fail;refine(HR.out _).mono ?_;rintro e w1 ⟨rfl,aq⟩;have bZ:=ObX.kept HN.out aq;have bF:=eC HB.out aq;obtain⟨d0,d1,d2,d3,d4,d5,d6,d7⟩:=bZ.cells;go_wp2_with fail;go_ret;exact⟨rfl,bF⟩
  ·have kb2:(o.k==2)=false:=by simpa using eW
   by_cases fW:o.k=3
   ·have kb3:(o.k==3)=true:=by simpa using fW
    have hr:=fun W=>qp o ho fW W
    rw[hZ] at hr;clear hZ;clear dU;clear eW;clear fW;unfold af at hr;have HR:=hid hr;clear hr;unfold af at *;go_enter Tryz.func49,Tryz.ntmps49;go_wp2_with fail;refine(HR.out _).mono ?_;rintro e w1 ⟨rfl,aq⟩;have bZ:=ObX.kept HN.out aq;have bF:=eC HB.out aq;obtain⟨d0,d1,d2,d3,d4,d5,d6,d7⟩:=bZ.cells;go_wp2_with fail;go_ret;exact⟨rfl,bF⟩
   ·have kb3:(o.k==3)=false:=by simpa using fW
    by_cases fX:o.k=4
    ·have kb4:(o.k==4)=true:=by simpa using fX
     have hr:=fun W=>kB o ho fX W
     rw[hZ] at hr;clear hZ;clear dU;clear eW;clear fW;clear fX;unfold af at hr;have HR:=hid hr;clear hr;unfold af at *;go_enter Tryz.func49,Tryz.ntmps49;go_wp2_with fail;refine(HR.out _).mono ?_;rintro e w1 ⟨rfl,aq⟩;have bZ:=ObX.kept HN.out aq;have bF:=eC HB.out aq;obtain⟨d0,d1,d2,d3,d4,d5,d6,d7⟩:=bZ.cells;go_wp2_with fail;go_ret;exact⟨rfl,bF⟩
    ·have kb4:(o.k==4)=false:=by simpa using fX
     by_cases gZ:o.k=5
     ·have kb5:(o.k==5)=true:=by simpa using gZ
      have hr:=fun W=>lZ o ho gZ W
      rw[hZ] at hr;clear hZ;clear dU;clear eW;clear fW;clear fX;clear gZ;unfold af at hr;have HR:=hid hr;clear hr;unfold af at *;go_enter Tryz.func49,Tryz.ntmps49;go_wp2_with fail;refine(HR.out _).mono ?_;rintro e w1 ⟨rfl,aq⟩;have bZ:=ObX.kept HN.out aq;have bF:=eC HB.out aq;obtain⟨d0,d1,d2,d3,d4,d5,d6,d7⟩:=bZ.cells;go_wp2_with fail;go_ret;exact⟨rfl,bF⟩
     ·have kb5:(o.k==5)=false:=by simpa using gZ
      have hr:=fun W=>km o ho ⟨dU,eW,fW,fX,gZ⟩ W
      rw[hZ] at hr;clear hZ;clear dU;clear eW;clear fW;clear fX;clear gZ;unfold af at hr;have HR:=hid hr;clear hr;unfold af at *;go_enter Tryz.func49,Tryz.ntmps49;go_wp2_with fail;refine(HR.out _).mono ?_;rintro e w1 ⟨rfl,aq⟩;have bZ:=ObX.kept HN.out aq;have bF:=eC HB.out aq;obtain⟨d0,d1,d2,d3,d4,d5,d6,d7⟩:=bZ.cells;go_wp2_with fail;go_ret;exact⟨rfl,bF⟩
def dT (o:Ob):Int:=if o.k=1 then 4 else if o.k=2∨o.k=5 then 1+o.nr else if o.k=6 then 2 else 1
def iY (o:Ob):Int:=if o.k=1 then 4 else if o.k=2 then (o.nr:Int)+2 else if o.k=3 then 1 else o.s
theorem mc {o:Ob} (h:o.k=1):dT o=4:=by
 unfold dT;simp[h]
theorem Bl {o:Ob} (h:o.k=1):iY o=4:=by
 unfold iY;simp[h]
theorem ma {o:Ob} (h:o.k=2):dT o=1+(o.nr:Int):=by
 unfold dT;simp[h]
theorem Bj {o:Ob} (h:o.k=2):iY o=(o.nr:Int)+2:=by
 unfold iY;simp[h]
theorem ot {o:Ob} (h:o.k=3):dT o=1:=by
 unfold dT;simp[h]
theorem EO {o:Ob} (h:o.k=3):iY o=1:=by
 unfold iY;simp[h]
theorem me {o:Ob} (h:o.k=4):dT o=1:=by
 unfold dT;simp[h]
theorem Bm {o:Ob} (h:o.k=4):iY o=o.s:=by
 unfold iY;simp[h]
theorem oq {o:Ob} (h:o.k=5):dT o=1+(o.nr:Int):=by
 unfold dT;simp[h]
theorem EN {o:Ob} (h:o.k=5):iY o=o.s:=by
 unfold iY;simp[h]
theorem p9 {o:Ob} (h:o.k=6):dT o=2:=by
 unfold dT;simp[h]
theorem Bk {o:Ob} (h:o.k=6):iY o=o.s:=by
 unfold iY;simp[h]
theorem ba {o:Ob} (h:bD o):(o.k=1∧cG o)∨(o.k=2∧cF o)∨(o.k=3∧ee o)∨(o.k=4∧ce o)∨(o.k=5∧eh o)∨(o.k=6∧bL o):=by
 obtain⟨k1,k2,k3,k4,k5,k6⟩:=@cm o
 rcases h with q | q | q | q | q | q
 ·exact .inl ⟨k1 q,q⟩
 ·exact .inr (.inl ⟨k2 q,q⟩)
 ·exact .inr (.inr (.inl ⟨k3 q,q⟩))
 ·exact .inr (.inr (.inr (.inl ⟨k4 q,q⟩)))
 ·exact .inr (.inr (.inr (.inr (.inl ⟨k5 q,q⟩))))
 ·exact .inr (.inr (.inr (.inr (.inr ⟨k6 q,q⟩))))
theorem nE {o:Ob} (h:bD o):(1≤o.wd∧o.wd≤8)∧(1≤o.nr∧o.nr≤4)∧(1≤dT o∧dT o≤5)∧(1≤iY o∧iY o≤16)∧aB o=dT o+iY o*o.wd:=by
 rcases ba h with ⟨k,q⟩ | ⟨k,q⟩ | ⟨k,q⟩ | ⟨k,q⟩ | ⟨k,q⟩ | ⟨k,q⟩
 ·have b:=kX q;rw[gx q,mc k,Bl k];exact⟨by omega,by omega,by omega,by omega,by first | rfl | omega⟩
 ·have b:=kU q;rw[gv q,ma k,Bj k];exact⟨by omega,by omega,by omega,by omega,by first | rfl | omega⟩
 ·have b:=kC q;rw[ir q,ot k,EO k];exact⟨by omega,by omega,by omega,by omega,by first | rfl | omega⟩
 ·have b:=fh q;rw[gy q,me k,Bm k];exact⟨by omega,by omega,by omega,by omega,by first | rfl | omega⟩
 ·have b:=gP q;rw[iq q,oq k,EN k];exact⟨by omega,by omega,by omega,by omega,by first | rfl | omega⟩
 ·have b:=gG q;rw[gw q,p9 k,Bk k];exact⟨by omega,by omega,by omega,by omega,by first | rfl | omega⟩
theorem ny (o:Ob):0≤aB o∧aB o≤261:=by
 by_cases h:bD o
 ·obtain⟨a,_,c,d,e⟩:=nE h;have:=fP (a:=iY o) (b:=o.wd) (by omega) (by omega) (by omega) (by omega);omega
 ·rw[cZ h];omega
set_option maxRecDepth 100000
def mr (k:Int):Bool:=decide (1≤k)&&decide (k≤6)
def oA (k:Int):Int:=if mr k=true then (if k=6 then 3 else 2) else 0
def oB (k:Int):Int:=if mr k=true then (if k=6 then 4 else 1) else 0
theorem xu (k:Int):(mr k=true∧(k=1∨k=2∨k=3∨k=4∨k=5∨k=6))∨(mr k=false∧k≠1∧k≠2∧k≠3∧k≠4∧k≠5∧k≠6):=by
 unfold mr
 by_cases h1:1≤k <;> by_cases h2:k≤6
 ·left
  rw[decide_eq_true h1,decide_eq_true h2];exact⟨rfl,by omega⟩
 ·right
  rw[decide_eq_false h2,Bool.and_false];exact⟨rfl,by omega,by omega,by omega,by omega,by omega,by omega⟩
 ·right
  rw[decide_eq_false h1,Bool.false_and];exact⟨rfl,by omega,by omega,by omega,by omega,by omega,by omega⟩
 ·omega
theorem AX (k:Int) (w:World):Calls Tryz.prog 76 #[.int .i64 k] w fun e w'=>e=.returned (.tuple #[.int .i64 (oA k),.int .i64 (oB k),.bool (mr k)])∧w'=w:=by
 rcases xu k with ⟨hk,rfl | rfl | rfl | rfl | rfl | rfl⟩ | ⟨hk,h1,h2,h3,h4,h5,h6⟩
 ·go_enter Tryz.func76,Tryz.ntmps76;go_wp2_with fail;refine bodyPost_ret (v:=.tuple #[.int .i64 (oA 1),.int .i64 (oB 1),.bool (mr 1)]) (by simp[results,go_sem,oA,oB,mr]) rfl ?_;exact⟨rfl,rfl⟩
 ·go_enter Tryz.func76,Tryz.ntmps76;go_wp2_with fail;refine bodyPost_ret (v:=.tuple #[.int .i64 (oA 2),.int .i64 (oB 2),.bool (mr 2)]) (by simp[results,go_sem,oA,oB,mr]) rfl ?_;exact⟨rfl,rfl⟩
 ·go_enter Tryz.func76,Tryz.ntmps76;go_wp2_with fail;refine bodyPost_ret (v:=.tuple #[.int .i64 (oA 3),.int .i64 (oB 3),.bool (mr 3)]) (by simp[results,go_sem,oA,oB,mr]) rfl ?_;exact⟨rfl,rfl⟩
 ·go_enter Tryz.func76,Tryz.ntmps76;go_wp2_with fail;refine bodyPost_ret (v:=.tuple #[.int .i64 (oA 4),.int .i64 (oB 4),.bool (mr 4)]) (by simp[results,go_sem,oA,oB,mr]) rfl ?_;exact⟨rfl,rfl⟩
 ·go_enter Tryz.func76,Tryz.ntmps76;go_wp2_with fail;refine bodyPost_ret (v:=.tuple #[.int .i64 (oA 5),.int .i64 (oB 5),.bool (mr 5)]) (by simp[results,go_sem,oA,oB,mr]) rfl ?_;exact⟨rfl,rfl⟩
 ·go_enter Tryz.func76,Tryz.ntmps76;go_wp2_with fail;refine bodyPost_ret (v:=.tuple #[.int .i64 (oA 6),.int .i64 (oB 6),.bool (mr 6)]) (by simp[results,go_sem,oA,oB,mr]) rfl ?_;exact⟨rfl,rfl⟩
 ·have a1:(k==1)=false:=by rw[beq_eq_false_iff_ne];exact h1
  have a2:(k==2)=false:=by rw[beq_eq_false_iff_ne];exact h2
  have a3:(k==3)=false:=by rw[beq_eq_false_iff_ne];exact h3
  have a4:(k==4)=false:=by rw[beq_eq_false_iff_ne];exact h4
  have a5:(k==5)=false:=by rw[beq_eq_false_iff_ne];exact h5
  have a6:(k==6)=false:=by rw[beq_eq_false_iff_ne];exact h6
  have e1:oA k=0:=by unfold oA;rw[hk];rfl
  have e2:oB k=0:=by unfold oB;rw[hk];rfl
  rw[e1,e2,hk];clear e1 e2 hk h1 h2 h3 h4 h5 h6;go_enter Tryz.func76,Tryz.ntmps76;go_wp2_with fail;refine bodyPost_ret (v:=.tuple #[.int .i64 0,.int .i64 0,.bool false]) (by simp[results,go_sem]) rfl ?_;exact⟨rfl,rfl⟩
theorem te (k:Int) (w:World) (hk:mr k=true):Calls Tryz.prog 21 #[.int .i64 k] w fun e w'=>e=.returned (.int .i64 (oA k))∧w'=w:=by
 unfold oA;rw[if_pos hk]
 by_cases h:k=6
 ·rw[if_pos h];have t:(k==6)=true:=by rw[h];rfl
  clear hk h;go_enter Tryz.func21,Tryz.ntmps21;go_wp2_with fail;go_ret;exact⟨rfl,rfl⟩
 ·rw[if_neg h];have t:(k==6)=false:=by rw[beq_eq_false_iff_ne];exact h
  clear hk h;go_enter Tryz.func21,Tryz.ntmps21;go_wp2_with fail;go_ret;exact⟨rfl,rfl⟩
theorem uG (k:Int) (w:World) (hk:mr k=true):Calls Tryz.prog 22 #[.int .i64 k] w fun e w'=>e=.returned (.int .i64 (oB k))∧w'=w:=by
 unfold oB;rw[if_pos hk]
 by_cases h:k=6
 ·rw[if_pos h];have t:(k==6)=true:=by rw[h];rfl
  clear hk h;go_enter Tryz.func22,Tryz.ntmps22;go_wp2_with fail;go_ret;exact⟨rfl,rfl⟩
 ·rw[if_neg h];have t:(k==6)=false:=by rw[beq_eq_false_iff_ne];exact h
  clear hk h;go_enter Tryz.func22,Tryz.ntmps22;go_wp2_with fail;go_ret;exact⟨rfl,rfl⟩
end Go.Proofs.YtabfcjohdgjkoaaGreatDoor
