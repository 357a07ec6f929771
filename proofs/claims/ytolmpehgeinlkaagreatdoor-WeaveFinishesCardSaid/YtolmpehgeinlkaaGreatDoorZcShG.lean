/- The reference: how many words, how many steps. -/
import Derived.Test.YtolmpehgeinlkaaGreatDoorZcShE
namespace Go.Proofs.YtolmpehgeinlkaaGreatDoor
open Go.RowKit
open Go.Lib (hid)
attribute [local go_sem] Oper.semAt_some
set_option maxHeartbeats 2000000
set_option maxRecDepth 100000
abbrev qw (a0:World) (a1:Nat) (a2:Ob) (w':World):Prop:=Below a0.heap.size a0 w'∧w'.cell? ⟨a1,0,none⟩=some (.int .i64 a2.k)∧w'.cell? ⟨a1,1,none⟩=some (.int .i64 a2.wd)∧w'.cell? ⟨a1,2,none⟩=some (.int .i64 a2.s)∧w'.cell? ⟨a1,3,none⟩=some (.int .i64 a2.c)∧w'.cell? ⟨a1,4,none⟩=some (.int .u32 a2.st)∧w'.cell? ⟨a1,5,none⟩=some (.slice a2.I a2.ni a2.ci)∧w'.cell? ⟨a1,6,none⟩=some (.int .i64 a2.wr)∧w'.cell? ⟨a1,7,none⟩=some (.slice a2.R a2.nr a2.cr)
theorem dm {P:Program} {f:FuncId} {args:Array Value} {W:World} {a b:Value} (h:Calls P f args W fun e w'=>e=.returned a∧w'=W) (sd:a=b):Calls P f args W fun e w'=>e=.returned b∧Below W.heap.size W w':=
 h.mono fun e w' q=>by
  obtain⟨q1,q2⟩:=q;subst q2 sd;exact⟨q1,Below.refl _ _⟩
theorem ku (o:Ob) (h:o.nr≤4) (w:World):Calls Tryz.prog 80 #[.agg (af o)] w fun e w'=>e=.returned (.int .i64 (bn o))∧Below w.heap.size w w':=by
 have q5:(o.nr:Int)≤4:=by omega
 obtain⟨Z,hZ⟩:∃ Z,bn o=Z:=⟨_,rfl⟩;rw[hZ];have hn:=ObX.new w o;have hB:=bt w (.cells (af o) 26);obtain⟨n,aq⟩:∃ n,w.heap.size=n:=⟨_,rfl⟩;rw[aq] at hn hB;have HN:=hid hn;have HB:=hid hB;clear hn hB;rw[aq]
 by_cases cP:o.k=1
 ·have kb1:(o.k==1)=true:=by simpa using cP
  unfold bn at hZ;simp[cP] at hZ;subst hZ;clear cP;unfold af at *;go_enter Tryz.func80,Tryz.ntmps80;go_wp2_with fail;go_ret;exact⟨rfl,HB.out⟩
 ·have kb1:(o.k==1)=false:=by simpa using cP
  by_cases dg:o.k=2
  ·have kb2:(o.k==2)=true:=by simpa using dg
   unfold bn at hZ;simp[dg] at hZ;subst hZ;clear cP;clear dg;unfold af at *;go_enter Tryz.func80,Tryz.ntmps80;go_wp2_with fail;go_ret;exact⟨rfl,HB.out⟩
  ·have kb2:(o.k==2)=false:=by simpa using dg
   by_cases hk5:o.k=5
   ·have kb5:(o.k==5)=true:=by simpa using hk5
    unfold bn at hZ;simp[hk5] at hZ;subst hZ;clear cP;clear dg;clear hk5;unfold af at *;go_enter Tryz.func80,Tryz.ntmps80;go_wp2_with fail;go_ret;exact⟨rfl,HB.out⟩
   ·have kb5:(o.k==5)=false:=by simpa using hk5
    by_cases l6:o.k=6
    ·have kb6:(o.k==6)=true:=by simpa using l6
     unfold bn at hZ;simp[l6] at hZ;subst hZ;clear cP;clear dg;clear hk5;clear l6;unfold af at *;go_enter Tryz.func80,Tryz.ntmps80;go_wp2_with fail;go_ret;exact⟨rfl,HB.out⟩
    ·have kb6:(o.k==6)=false:=by simpa using l6
     unfold bn at hZ;simp[cP,dg,hk5,l6] at hZ;subst hZ;clear cP;clear dg;clear hk5;clear l6;unfold af at *;go_enter Tryz.func80,Tryz.ntmps80;go_wp2_with fail;go_ret;exact⟨rfl,HB.out⟩
theorem kC (o:Ob) (h:o.nr≤4) (w:World):Calls Tryz.prog 123 #[.agg (af o)] w fun e w'=>e=.returned (.int .i64 (cU o))∧Below w.heap.size w w':=by
 have q5:(o.nr:Int)≤4:=by omega
 obtain⟨Z,hZ⟩:∃ Z,cU o=Z:=⟨_,rfl⟩;rw[hZ];have hn:=ObX.new w o;have hB:=bt w (.cells (af o) 26);obtain⟨n,aq⟩:∃ n,w.heap.size=n:=⟨_,rfl⟩;rw[aq] at hn hB;have HN:=hid hn;have HB:=hid hB;clear hn hB;rw[aq]
 by_cases cP:o.k=1
 ·have kb1:(o.k==1)=true:=by simpa using cP
  unfold cU at hZ;simp[cP] at hZ;subst hZ;clear cP;unfold af at *;go_enter Tryz.func123,Tryz.ntmps123;go_wp2_with fail;go_ret;exact⟨rfl,HB.out⟩
 ·have kb1:(o.k==1)=false:=by simpa using cP
  by_cases dg:o.k=2
  ·have kb2:(o.k==2)=true:=by simpa using dg
   unfold cU at hZ;simp[dg] at hZ;subst hZ;clear cP;clear dg;unfold af at *;go_enter Tryz.func123,Tryz.ntmps123;go_wp2_with fail;go_ret;exact⟨rfl,HB.out⟩
  ·have kb2:(o.k==2)=false:=by simpa using dg
   by_cases hk3:o.k=3
   ·have kb3:(o.k==3)=true:=by simpa using hk3
    unfold cU at hZ;simp[hk3] at hZ;subst hZ;clear cP;clear dg;clear hk3;unfold af at *;go_enter Tryz.func123,Tryz.ntmps123;go_wp2_with fail;go_ret;exact⟨rfl,HB.out⟩
   ·have kb3:(o.k==3)=false:=by simpa using hk3
    unfold cU at hZ;simp[cP,dg,hk3] at hZ;subst hZ;clear cP;clear dg;clear hk3;unfold af at *;go_enter Tryz.func123,Tryz.ntmps123;go_wp2_with fail;go_ret;exact⟨rfl,HB.out⟩
theorem lN (o:Ob) (ho:o.Ok) (w:World):Calls Tryz.prog 79 #[.agg (af o)] w fun e w'=>e=.returned (.int .i64 (av o))∧Below w.heap.size w w':=by
 by_cases h:aT o
 ·obtain⟨⟨q1,q2⟩,⟨q3,q4⟩,⟨q5,q6⟩,⟨q7,q8⟩,q9⟩:=gP h;rw[q9];have hr:=fun W=>aY o ho W
  rw[decide_eq_true h] at hr;have df:=fun W=>ku o q4 W
  have pZ:=fun W=>kC o q4 W
  unfold af at hr df pZ;clear h ho q9;obtain⟨H,hH⟩:∃ H,bn o=H:=⟨_,rfl⟩;obtain⟨C,hC⟩:∃ C,cU o=C:=⟨_,rfl⟩;rw[hH] at df q5 q6;rw[hC] at pZ q7 q8;rw[hH,hC];clear hH hC;have m:=dH (a:=C) (b:=o.wd) (by omega) (by omega) (by omega) (by omega);have e1:IntKind.i64.wrap (C*o.wd)=C*o.wd:=ac (by omega) (by omega);have e2:IntKind.i64.wrap (H+C*o.wd)=H+C*o.wd:=ac (by omega) (by omega);have HR:=hid hr;have Ab:=hid df;have I8:=hid pZ;clear hr df pZ;have hn:=ObX.new w o;have hB:=bt w (.cells (af o) 26);obtain⟨n,aq⟩:∃ n,w.heap.size=n:=⟨_,rfl⟩;rw[aq] at hn hB;have HN:=hid hn;have HB:=hid hB;clear hn hB;rw[aq];unfold af at *;go_enter Tryz.func79,Tryz.ntmps79;go_wp2_with fail;refine(HR.out _).mono ?_;rintro e w1 ⟨rfl,am⟩;have aP:=ObX.kept HN.out am;have aO:=bv HB.out am;obtain⟨d0,d1,d2,d3,d4,d5,d6,d7⟩:=aP.cells;go_wp2_with fail;clear d0 d1 d2 d3 d4 d5 d6 d7;have ct:(qw w1 n o) w1.drew:=⟨(Below.refl _ w1).drew,(ObX.kept aP (Below.refl _ w1).drew).cells⟩;refine wp_region_held_drew (S:=(qw w1 n o)) (by kernel_rfl) ct (fun hHeld=>?_);generalize w1.drew=wd at hHeld ⊢;have hHeld:(qw w1 n o) wd:=hHeld;refine wpAnyH_take (i:=0) (oi:=?_) (v:=?_) ?_ (by kernel_rfl) (by kernel_rfl) (by kernel_rfl) ?_ (Or.inl ⟨?_,?_⟩) (by assumption) ?_;rotate_left 2
  ·(simp only[List.getElem?_toArray,List.getElem?_cons_zero];rfl)
  ·first | exact fun _ _ _ h=>h | exact fun _ _ _ h=>by cases h.1
  ·rfl
  ·((intro wq cd;(try dsimp only at cd);go_simp);(try with_reducible rfl))
  try simp only[Act.put,List.setIfInBounds_toArray,List.set_cons_zero,List.set_cons_succ]
  refine wpAnyH_take (i:=2) (oi:=?_) (v:=?_) ?_ (by kernel_rfl) (by kernel_rfl) (by kernel_rfl) ?_ (Or.inl ⟨?_,?_⟩) (by assumption) ?_;rotate_left 2
  ·(simp only[List.getElem?_toArray,List.getElem?_cons_succ,List.getElem?_cons_zero];rfl)
  ·first | exact fun _ _ _ h=>h | exact fun _ _ _ h=>by cases h.1
  ·rfl
  ·((intro wq cd;(try dsimp only at cd);go_simp);(try with_reducible rfl))
  try simp only[Act.put,List.setIfInBounds_toArray,List.set_cons_zero,List.set_cons_succ]
  refine wpAnyH_take (i:=4) (oi:=?_) (v:=?_) ?_ (by kernel_rfl) (by kernel_rfl) (by kernel_rfl) ?_ (Or.inl ⟨?_,?_⟩) (by assumption) ?_;rotate_left 2
  ·(simp only[List.getElem?_toArray,List.getElem?_cons_succ,List.getElem?_cons_zero];rfl)
  ·first | exact fun _ _ _ h=>h | exact fun _ _ _ h=>by cases h.1
  ·rfl
  ·((intro wq cd;(try dsimp only at cd);go_simp);(try with_reducible rfl))
  try simp only[Act.put,List.setIfInBounds_toArray,List.set_cons_zero,List.set_cons_succ]
  refine wpAnyH_take (i:=5) (oi:=?_) (v:=?_) ?_ (by kernel_rfl) (by kernel_rfl) (by kernel_rfl) ?_ (Or.inl ⟨?_,?_⟩) (by assumption) ?_;rotate_left 2
  ·(simp only[List.getElem?_toArray,List.getElem?_cons_succ,List.getElem?_cons_zero];rfl)
  ·first | exact fun _ _ _ h=>h | exact fun _ _ _ h=>by cases h.1
  ·rfl
  ·((intro wq cd;(try dsimp only at cd);go_simp);(try with_reducible rfl))
  try simp only[Act.put,List.setIfInBounds_toArray,List.set_cons_zero,List.set_cons_succ]
  refine jX [1] ?_;refine gN (fun K hK=>?_) AllReadyH.nil;go_simp;refine(Ab.out _).mono ?_;rintro ex wx ⟨rfl,br⟩
  have aN:(qw w1 n o) wx:=by
   obtain⟨h0,u0,u1,u2,u3,u4,u5,u6,u7⟩:=hHeld;have hk:∀ {i:Nat} {u:Value},_→wx.cell? ⟨n,i,none⟩=some u:=fun {i u} hc=>(br.cell (p:=⟨n,i,none⟩) (aX hc)).trans hc
   exact⟨h0.trans (br.mono h0.size),hk u0,hk u1,hk u2,hk u3,hk u4,hk u5,hk u6,hk u7⟩
  refine hK.out _ _ aN (fun hHeld=>?_);clear hK K;try simp only[Act.put,List.setIfInBounds_toArray,List.set_cons_zero,List.set_cons_succ]
  refine jX [3] ?_;refine gN (fun K hK=>?_) AllReadyH.nil;go_simp;refine(I8.out _).mono ?_;rintro ex wx ⟨rfl,br⟩
  have aN:(qw w1 n o) wx:=by
   obtain⟨h0,u0,u1,u2,u3,u4,u5,u6,u7⟩:=hHeld;have hk:∀ {i:Nat} {u:Value},_→wx.cell? ⟨n,i,none⟩=some u:=fun {i u} hc=>(br.cell (p:=⟨n,i,none⟩) (aX hc)).trans hc
   exact⟨h0.trans (br.mono h0.size),hk u0,hk u1,hk u2,hk u3,hk u4,hk u5,hk u6,hk u7⟩
  refine hK.out _ _ aN (fun hHeld=>?_);clear hK K;try simp only[Act.put,List.setIfInBounds_toArray,List.set_cons_zero,List.set_cons_succ]
  refine wpAnyH_take (i:=6) (oi:=?_) (v:=?_) ?_ (by kernel_rfl) (by kernel_rfl) (by kernel_rfl) ?_ (Or.inl ⟨?_,?_⟩) (by assumption) ?_;rotate_left 2
  ·(simp only[List.getElem?_toArray,List.getElem?_cons_succ,List.getElem?_cons_zero];rfl)
  ·first | exact fun _ _ _ h=>h | exact fun _ _ _ h=>by cases h.1
  ·rfl
  ·((intro wq cd;(try dsimp only at cd);go_simp);(try with_reducible rfl))
  try simp only[Act.put,List.setIfInBounds_toArray,List.set_cons_zero,List.set_cons_succ]
  refine wpAnyH_take (i:=7) (oi:=?_) (v:=?_) ?_ (by kernel_rfl) (by kernel_rfl) (by kernel_rfl) ?_ (Or.inl ⟨?_,?_⟩) (by assumption) ?_;rotate_left 2
  ·(simp only[List.getElem?_toArray,List.getElem?_cons_succ,List.getElem?_cons_zero];rfl)
  ·first | exact fun _ _ _ h=>h | exact fun _ _ _ h=>by cases h.1
  ·rfl
  ·((intro wq cd;(try dsimp only at cd);go_simp);(try with_reducible rfl))
  try simp only[Act.put,List.setIfInBounds_toArray,List.set_cons_zero,List.set_cons_succ]
  refine wpAnyH_take (i:=8) (oi:=?_) (v:=?_) ?_ (by kernel_rfl) (by kernel_rfl) (by kernel_rfl) ?_ (Or.inl ⟨?_,?_⟩) (by assumption) ?_;rotate_left 2
  ·(simp only[List.getElem?_toArray,List.getElem?_cons_succ,List.getElem?_cons_zero];rfl)
  ·first | exact fun _ _ _ h=>h | exact fun _ _ _ h=>by cases h.1
  ·rfl
  ·((intro wq cd;(try dsimp only at cd);go_simp);(try with_reducible rfl))
  try simp only[Act.put,List.setIfInBounds_toArray,List.set_cons_zero,List.set_cons_succ]
  refine bh ?_;clear ct;go_wp2_with fail;go_ret;exact⟨rfl,aO.trans (hHeld.1.mono (by have:=aO.size;omega))⟩
 ·rw[cH h];have hr:=fun W=>aY o ho W
  rw[decide_eq_false h] at hr;clear h ho;unfold af at hr;have HR:=hid hr;clear hr;have hn:=ObX.new w o;have hB:=bt w (.cells (af o) 26);obtain⟨n,aq⟩:∃ n,w.heap.size=n:=⟨_,rfl⟩;rw[aq] at hn hB;have HN:=hid hn;have HB:=hid hB;clear hn hB;rw[aq];unfold af at *;go_enter Tryz.func79,Tryz.ntmps79;go_wp2_with fail;refine(HR.out _).mono ?_;rintro e w1 ⟨rfl,am⟩;have aP:=ObX.kept HN.out am;have aO:=bv HB.out am;obtain⟨d0,d1,d2,d3,d4,d5,d6,d7⟩:=aP.cells;go_wp2_with fail;go_ret;exact⟨rfl,aO⟩
theorem rm (o:Ob) (ho:o.Ok) (h:cG o) (op:Int) (w:World):Calls Tryz.prog 15 #[.agg (af o),.int .i64 op] w fun e w'=>e=.returned (.int .i64 (bI o op))∧Below w.heap.size w w':=by
 have hk:o.k=1:=bo.1 h;have ha:aT o:=.inl h;have hr:=fun W=>aY o ho W
 rw[decide_eq_true ha] at hr;rw[iw op h];have hA:=fun W=>dm (b:=.int .i64 2) (bc o.k W (by rw[hk];rfl)) (by rw[hk];rfl)
 have az:=fun W=>dm (b:=.int .i64 1) (bO o.k W (by rw[hk];rfl)) (by rw[hk];rfl)
 obtain⟨q1,q2,q3,q4⟩:=gb h;have kb1:(o.k==1)=true:=by rw[hk];rfl
 clear h hk ho ha;unfold af at hr;have HR:=hid hr;have HA:=hid hA;have ia:=hid az;clear hr hA az;have hn:=ObX.new w o;have hB:=bt w (.cells (af o) 26);obtain⟨n,aq⟩:∃ n,w.heap.size=n:=⟨_,rfl⟩;rw[aq] at hn hB;have HN:=hid hn;have HB:=hid hB;clear hn hB;rw[aq]
 by_cases hA:op=2
 ·have b1:(op != 2)=false:=by simpa using hA
  have b2:(op==2)=true:=by simpa using hA
  rw[if_pos hA];clear hA;unfold af at *;go_enter Tryz.func15,Tryz.ntmps15;go_wp2_with fail;refine(HR.out _).mono ?_;rintro e w1 ⟨rfl,am⟩;have aP:=ObX.kept HN.out am;have aO:=bv HB.out am;obtain⟨d0,d1,d2,d3,d4,d5,d6,d7⟩:=aP.cells;go_wp2_with fail;refine(HA.out _).mono ?_;rintro e w2 ⟨rfl,bu⟩;have cC:=ObX.kept (aP) bu;have bz:=bv aO bu;clear d0 d1 d2 d3 d4 d5 d6 d7;obtain⟨d0,d1,d2,d3,d4,d5,d6,d7⟩:=cC.cells;go_wp2_with fail;refine(HA.out _).mono ?_;rintro e w3 ⟨rfl,cW⟩;have eK:=ObX.kept (cC) cW;have fI:=bv bz cW;clear d0 d1 d2 d3 d4 d5 d6 d7;obtain⟨d0,d1,d2,d3,d4,d5,d6,d7⟩:=eK.cells;go_wp2_with fail;go_ret;exact⟨rfl,fI⟩
 ·have b1:(op != 2)=true:=by simpa using hA
  have b2:(op==2)=false:=by simpa using hA
  by_cases bz:op=1
  ·have b3:(op != 1)=false:=by simpa using bz
   rw[if_neg hA,if_pos bz];clear hA bz;unfold af at *;go_enter Tryz.func15,Tryz.ntmps15;go_wp2_with fail;refine(HR.out _).mono ?_;rintro e w1 ⟨rfl,am⟩;have aP:=ObX.kept HN.out am;have aO:=bv HB.out am;obtain⟨d0,d1,d2,d3,d4,d5,d6,d7⟩:=aP.cells;go_wp2_with fail;refine(HA.out _).mono ?_;rintro e w2 ⟨rfl,bu⟩;have cC:=ObX.kept (aP) bu;have bz:=bv aO bu;clear d0 d1 d2 d3 d4 d5 d6 d7;obtain⟨d0,d1,d2,d3,d4,d5,d6,d7⟩:=cC.cells;go_wp2_with fail;refine(ia.out _).mono ?_;rintro e w3 ⟨rfl,cW⟩;have eK:=ObX.kept (cC) cW;have fI:=bv bz cW;clear d0 d1 d2 d3 d4 d5 d6 d7;obtain⟨d0,d1,d2,d3,d4,d5,d6,d7⟩:=eK.cells;go_wp2_with fail;refine(HA.out _).mono ?_;rintro e w4 ⟨rfl,gK⟩;have kY:=ObX.kept (eK) gK;have lY:=bv fI gK;clear d0 d1 d2 d3 d4 d5 d6 d7;obtain⟨d0,d1,d2,d3,d4,d5,d6,d7⟩:=kY.cells;go_wp2_with fail;go_ret;exact⟨rfl,lY⟩
  ·have b3:(op != 1)=true:=by simpa using bz
   rw[if_neg hA,if_neg bz];clear hA bz;unfold af at *;go_enter Tryz.func15,Tryz.ntmps15;go_wp2_with fail;refine(HR.out _).mono ?_;rintro e w1 ⟨rfl,am⟩;have aP:=ObX.kept HN.out am;have aO:=bv HB.out am;obtain⟨d0,d1,d2,d3,d4,d5,d6,d7⟩:=aP.cells;go_wp2_with fail;refine(HA.out _).mono ?_;rintro e w2 ⟨rfl,bu⟩;have cC:=ObX.kept (aP) bu;have bz:=bv aO bu;clear d0 d1 d2 d3 d4 d5 d6 d7;obtain⟨d0,d1,d2,d3,d4,d5,d6,d7⟩:=cC.cells;go_wp2_with fail;refine(ia.out _).mono ?_;rintro e w3 ⟨rfl,cW⟩;have eK:=ObX.kept (cC) cW;have fI:=bv bz cW;clear d0 d1 d2 d3 d4 d5 d6 d7;obtain⟨d0,d1,d2,d3,d4,d5,d6,d7⟩:=eK.cells;go_wp2_with fail;go_ret;exact⟨rfl,fI⟩
theorem qD (o:Ob) (ho:o.Ok) (h:cF o) (op:Int) (w:World):Calls Tryz.prog 15 #[.agg (af o),.int .i64 op] w fun e w'=>e=.returned (.int .i64 (bI o op))∧Below w.heap.size w w':=by
 have hk:o.k=2:=bo.2.1 h;have ha:aT o:=.inr (.inl h);have hr:=fun W=>aY o ho W
 rw[decide_eq_true ha] at hr;rw[iz op h];have hA:=fun W=>dm (b:=.int .i64 2) (bc o.k W (by rw[hk];rfl)) (by rw[hk];rfl)
 have az:=fun W=>dm (b:=.int .i64 1) (bO o.k W (by rw[hk];rfl)) (by rw[hk];rfl)
 obtain⟨q1,q2,q3,q4⟩:=f7 h;have kb1:(o.k==1)=false:=by rw[hk];rfl
 have kb2:(o.k==2)=true:=by rw[hk];rfl
 clear h hk ho ha;unfold af at hr;have HR:=hid hr;have HA:=hid hA;have ia:=hid az;clear hr hA az;have hn:=ObX.new w o;have hB:=bt w (.cells (af o) 26);obtain⟨n,aq⟩:∃ n,w.heap.size=n:=⟨_,rfl⟩;rw[aq] at hn hB;have HN:=hid hn;have HB:=hid hB;clear hn hB;rw[aq]
 by_cases hA:op=2
 ·have b1:(op != 2)=false:=by simpa using hA
  have b2:(op==2)=true:=by simpa using hA
  rw[if_pos hA];clear hA;unfold af at *;go_enter Tryz.func15,Tryz.ntmps15;go_wp2_with fail;refine(HR.out _).mono ?_;rintro e w1 ⟨rfl,am⟩;have aP:=ObX.kept HN.out am;have aO:=bv HB.out am;obtain⟨d0,d1,d2,d3,d4,d5,d6,d7⟩:=aP.cells;go_wp2_with fail;refine(HA.out _).mono ?_;rintro e w2 ⟨rfl,bu⟩;have cC:=ObX.kept (aP) bu;have bz:=bv aO bu;clear d0 d1 d2 d3 d4 d5 d6 d7;obtain⟨d0,d1,d2,d3,d4,d5,d6,d7⟩:=cC.cells;go_wp2_with fail;refine(HA.out _).mono ?_;rintro e w3 ⟨rfl,cW⟩;have eK:=ObX.kept (cC) cW;have fI:=bv bz cW;clear d0 d1 d2 d3 d4 d5 d6 d7;obtain⟨d0,d1,d2,d3,d4,d5,d6,d7⟩:=eK.cells;go_wp2_with fail;go_ret;exact⟨rfl,fI⟩
 ·have b1:(op != 2)=true:=by simpa using hA
  have b2:(op==2)=false:=by simpa using hA
  by_cases bz:op=1
  ·have b3:(op != 1)=false:=by simpa using bz
   rw[if_neg hA,if_pos bz];clear hA bz;unfold af at *;go_enter Tryz.func15,Tryz.ntmps15;go_wp2_with fail;refine(HR.out _).mono ?_;rintro e w1 ⟨rfl,am⟩;have aP:=ObX.kept HN.out am;have aO:=bv HB.out am;obtain⟨d0,d1,d2,d3,d4,d5,d6,d7⟩:=aP.cells;go_wp2_with fail;refine(HA.out _).mono ?_;rintro e w2 ⟨rfl,bu⟩;have cC:=ObX.kept (aP) bu;have bz:=bv aO bu;clear d0 d1 d2 d3 d4 d5 d6 d7;obtain⟨d0,d1,d2,d3,d4,d5,d6,d7⟩:=cC.cells;go_wp2_with fail;refine(ia.out _).mono ?_;rintro e w3 ⟨rfl,cW⟩;have eK:=ObX.kept (cC) cW;have fI:=bv bz cW;clear d0 d1 d2 d3 d4 d5 d6 d7;obtain⟨d0,d1,d2,d3,d4,d5,d6,d7⟩:=eK.cells;go_wp2_with fail;refine(HA.out _).mono ?_;rintro e w4 ⟨rfl,gK⟩;have kY:=ObX.kept (eK) gK;have lY:=bv fI gK;clear d0 d1 d2 d3 d4 d5 d6 d7;obtain⟨d0,d1,d2,d3,d4,d5,d6,d7⟩:=kY.cells;go_wp2_with fail;go_ret;exact⟨rfl,lY⟩
  ·have b3:(op != 1)=true:=by simpa using bz
   rw[if_neg hA,if_neg bz];clear hA bz;unfold af at *;go_enter Tryz.func15,Tryz.ntmps15;go_wp2_with fail;refine(HR.out _).mono ?_;rintro e w1 ⟨rfl,am⟩;have aP:=ObX.kept HN.out am;have aO:=bv HB.out am;obtain⟨d0,d1,d2,d3,d4,d5,d6,d7⟩:=aP.cells;go_wp2_with fail;refine(HA.out _).mono ?_;rintro e w2 ⟨rfl,bu⟩;have cC:=ObX.kept (aP) bu;have bz:=bv aO bu;clear d0 d1 d2 d3 d4 d5 d6 d7;obtain⟨d0,d1,d2,d3,d4,d5,d6,d7⟩:=cC.cells;go_wp2_with fail;refine(ia.out _).mono ?_;rintro e w3 ⟨rfl,cW⟩;have eK:=ObX.kept (cC) cW;have fI:=bv bz cW;clear d0 d1 d2 d3 d4 d5 d6 d7;obtain⟨d0,d1,d2,d3,d4,d5,d6,d7⟩:=eK.cells;go_wp2_with fail;go_ret;exact⟨rfl,fI⟩
theorem sh (o:Ob) (ho:o.Ok) (h:dB o) (op:Int) (w:World):Calls Tryz.prog 15 #[.agg (af o),.int .i64 op] w fun e w'=>e=.returned (.int .i64 (bI o op))∧Below w.heap.size w w':=by
 have hk:o.k=3:=bo.2.2.1 h;have ha:aT o:=.inr (.inr (.inl h));have hr:=fun W=>aY o ho W
 rw[decide_eq_true ha] at hr;rw[jD op h];have hA:=fun W=>dm (b:=.int .i64 2) (bc o.k W (by rw[hk];rfl)) (by rw[hk];rfl)
 have az:=fun W=>dm (b:=.int .i64 1) (bO o.k W (by rw[hk];rfl)) (by rw[hk];rfl)
 obtain⟨q1,q2,q3,q4,q5,q6⟩:=gj h;have kb1:(o.k==1)=false:=by rw[hk];rfl
 have kb2:(o.k==2)=false:=by rw[hk];rfl
 have kb3:(o.k==3)=true:=by rw[hk];rfl
 have m:=dH (a:=o.c) (b:=o.wd+2) (by omega) (by omega) (by omega) (by omega);have e1:IntKind.i64.wrap (o.c*(o.wd+2))=o.c*(o.wd+2):=ac (by omega) (by omega);clear h hk ho ha;unfold af at hr;have HR:=hid hr;have HA:=hid hA;have ia:=hid az;clear hr hA az;have hn:=ObX.new w o;have hB:=bt w (.cells (af o) 26);obtain⟨n,aq⟩:∃ n,w.heap.size=n:=⟨_,rfl⟩;rw[aq] at hn hB;have HN:=hid hn;have HB:=hid hB;clear hn hB;rw[aq]
 by_cases hA:op=2
 ·have b1:(op != 2)=false:=by simpa using hA
  have b2:(op==2)=true:=by simpa using hA
  rw[if_pos hA];clear hA;unfold af at *;go_enter Tryz.func15,Tryz.ntmps15;go_wp2_with fail;refine(HR.out _).mono ?_;rintro e w1 ⟨rfl,am⟩;have aP:=ObX.kept HN.out am;have aO:=bv HB.out am;obtain⟨d0,d1,d2,d3,d4,d5,d6,d7⟩:=aP.cells;go_wp2_with fail;refine(HA.out _).mono ?_;rintro e w2 ⟨rfl,bu⟩;have cC:=ObX.kept (aP) bu;have bz:=bv aO bu;clear d0 d1 d2 d3 d4 d5 d6 d7;obtain⟨d0,d1,d2,d3,d4,d5,d6,d7⟩:=cC.cells;go_wp2_with fail;refine(HA.out _).mono ?_;rintro e w3 ⟨rfl,cW⟩;have eK:=ObX.kept (cC) cW;have fI:=bv bz cW;clear d0 d1 d2 d3 d4 d5 d6 d7;obtain⟨d0,d1,d2,d3,d4,d5,d6,d7⟩:=eK.cells;go_wp2_with fail;go_ret;exact⟨rfl,fI⟩
 ·have b1:(op != 2)=true:=by simpa using hA
  have b2:(op==2)=false:=by simpa using hA
  by_cases bz:op=1
  ·have b3:(op != 1)=false:=by simpa using bz
   rw[if_neg hA,if_pos bz];clear hA bz;unfold af at *;go_enter Tryz.func15,Tryz.ntmps15;go_wp2_with fail;refine(HR.out _).mono ?_;rintro e w1 ⟨rfl,am⟩;have aP:=ObX.kept HN.out am;have aO:=bv HB.out am;obtain⟨d0,d1,d2,d3,d4,d5,d6,d7⟩:=aP.cells;go_wp2_with fail;refine(HA.out _).mono ?_;rintro e w2 ⟨rfl,bu⟩;have cC:=ObX.kept (aP) bu;have bz:=bv aO bu;clear d0 d1 d2 d3 d4 d5 d6 d7;obtain⟨d0,d1,d2,d3,d4,d5,d6,d7⟩:=cC.cells;go_wp2_with fail;refine(ia.out _).mono ?_;rintro e w3 ⟨rfl,cW⟩;have eK:=ObX.kept (cC) cW;have fI:=bv bz cW;clear d0 d1 d2 d3 d4 d5 d6 d7;obtain⟨d0,d1,d2,d3,d4,d5,d6,d7⟩:=eK.cells;go_wp2_with fail;refine(HA.out _).mono ?_;rintro e w4 ⟨rfl,gK⟩;have kY:=ObX.kept (eK) gK;have lY:=bv fI gK;clear d0 d1 d2 d3 d4 d5 d6 d7;obtain⟨d0,d1,d2,d3,d4,d5,d6,d7⟩:=kY.cells;go_wp2_with fail;go_ret;exact⟨rfl,lY⟩
  ·have b3:(op != 1)=true:=by simpa using bz
   rw[if_neg hA,if_neg bz];clear hA bz;unfold af at *;go_enter Tryz.func15,Tryz.ntmps15;go_wp2_with fail;refine(HR.out _).mono ?_;rintro e w1 ⟨rfl,am⟩;have aP:=ObX.kept HN.out am;have aO:=bv HB.out am;obtain⟨d0,d1,d2,d3,d4,d5,d6,d7⟩:=aP.cells;go_wp2_with fail;refine(HA.out _).mono ?_;rintro e w2 ⟨rfl,bu⟩;have cC:=ObX.kept (aP) bu;have bz:=bv aO bu;clear d0 d1 d2 d3 d4 d5 d6 d7;obtain⟨d0,d1,d2,d3,d4,d5,d6,d7⟩:=cC.cells;go_wp2_with fail;refine(ia.out _).mono ?_;rintro e w3 ⟨rfl,cW⟩;have eK:=ObX.kept (cC) cW;have fI:=bv bz cW;clear d0 d1 d2 d3 d4 d5 d6 d7;obtain⟨d0,d1,d2,d3,d4,d5,d6,d7⟩:=eK.cells;go_wp2_with fail;go_ret;exact⟨rfl,fI⟩
theorem qV (o:Ob) (ho:o.Ok) (h:bY o) (op:Int) (w:World):Calls Tryz.prog 15 #[.agg (af o),.int .i64 op] w fun e w'=>e=.returned (.int .i64 (bI o op))∧Below w.heap.size w w':=by
 have hk:o.k=4:=bo.2.2.2.1 h;have ha:aT o:=.inr (.inr (.inr (.inl h)));have hr:=fun W=>aY o ho W
 rw[decide_eq_true ha] at hr;rw[iI op h];have hA:=fun W=>dm (b:=.int .i64 2) (bc o.k W (by rw[hk];rfl)) (by rw[hk];rfl)
 have az:=fun W=>dm (b:=.int .i64 1) (bO o.k W (by rw[hk];rfl)) (by rw[hk];rfl)
 obtain⟨q1,q2,q3,q4,q5,q6,q7,q8⟩:=dc h;have kb1:(o.k==1)=false:=by rw[hk];rfl
 have kb2:(o.k==2)=false:=by rw[hk];rfl
 have kb3:(o.k==3)=false:=by rw[hk];rfl
 have kb4:(o.k==4)=true:=by rw[hk];rfl
 have m:=dH (a:=o.c) (b:=o.wd+2) (by omega) (by omega) (by omega) (by omega);have e1:IntKind.i64.wrap (o.c*(o.wd+2))=o.c*(o.wd+2):=ac (by omega) (by omega);clear h hk ho ha;unfold af at hr;have HR:=hid hr;have HA:=hid hA;have ia:=hid az;clear hr hA az;have hn:=ObX.new w o;have hB:=bt w (.cells (af o) 26);obtain⟨n,aq⟩:∃ n,w.heap.size=n:=⟨_,rfl⟩;rw[aq] at hn hB;have HN:=hid hn;have HB:=hid hB;clear hn hB;rw[aq]
 by_cases hA:op=2
 ·have b1:(op != 2)=false:=by simpa using hA
  have b2:(op==2)=true:=by simpa using hA
  rw[if_pos hA];clear hA;unfold af at *;go_enter Tryz.func15,Tryz.ntmps15;go_wp2_with fail;refine(HR.out _).mono ?_;rintro e w1 ⟨rfl,am⟩;have aP:=ObX.kept HN.out am;have aO:=bv HB.out am;obtain⟨d0,d1,d2,d3,d4,d5,d6,d7⟩:=aP.cells;go_wp2_with fail;refine(HA.out _).mono ?_;rintro e w2 ⟨rfl,bu⟩;have cC:=ObX.kept (aP) bu;have bz:=bv aO bu;clear d0 d1 d2 d3 d4 d5 d6 d7;obtain⟨d0,d1,d2,d3,d4,d5,d6,d7⟩:=cC.cells;go_wp2_with fail;refine(HA.out _).mono ?_;rintro e w3 ⟨rfl,cW⟩;have eK:=ObX.kept (cC) cW;have fI:=bv bz cW;clear d0 d1 d2 d3 d4 d5 d6 d7;obtain⟨d0,d1,d2,d3,d4,d5,d6,d7⟩:=eK.cells;go_wp2_with fail;go_ret;exact⟨rfl,fI⟩
 ·have b1:(op != 2)=true:=by simpa using hA
  have b2:(op==2)=false:=by simpa using hA
  by_cases bz:op=1
  ·have b3:(op != 1)=false:=by simpa using bz
   rw[if_neg hA,if_pos bz];clear hA bz;unfold af at *;go_enter Tryz.func15,Tryz.ntmps15;go_wp2_with fail;refine(HR.out _).mono ?_;rintro e w1 ⟨rfl,am⟩;have aP:=ObX.kept HN.out am;have aO:=bv HB.out am;obtain⟨d0,d1,d2,d3,d4,d5,d6,d7⟩:=aP.cells;go_wp2_with fail;refine(HA.out _).mono ?_;rintro e w2 ⟨rfl,bu⟩;have cC:=ObX.kept (aP) bu;have bz:=bv aO bu;clear d0 d1 d2 d3 d4 d5 d6 d7;obtain⟨d0,d1,d2,d3,d4,d5,d6,d7⟩:=cC.cells;go_wp2_with fail;refine(ia.out _).mono ?_;rintro e w3 ⟨rfl,cW⟩;have eK:=ObX.kept (cC) cW;have fI:=bv bz cW;clear d0 d1 d2 d3 d4 d5 d6 d7;obtain⟨d0,d1,d2,d3,d4,d5,d6,d7⟩:=eK.cells;go_wp2_with fail;refine(HA.out _).mono ?_;rintro e w4 ⟨rfl,gK⟩;have kY:=ObX.kept (eK) gK;have lY:=bv fI gK;clear d0 d1 d2 d3 d4 d5 d6 d7;obtain⟨d0,d1,d2,d3,d4,d5,d6,d7⟩:=kY.cells;go_wp2_with fail;go_ret;exact⟨rfl,lY⟩
  ·have b3:(op != 1)=true:=by simpa using bz
   rw[if_neg hA,if_neg bz];clear hA bz;unfold af at *;go_enter Tryz.func15,Tryz.ntmps15;go_wp2_with fail;refine(HR.out _).mono ?_;rintro e w1 ⟨rfl,am⟩;have aP:=ObX.kept HN.out am;have aO:=bv HB.out am;obtain⟨d0,d1,d2,d3,d4,d5,d6,d7⟩:=aP.cells;go_wp2_with fail;refine(HA.out _).mono ?_;rintro e w2 ⟨rfl,bu⟩;have cC:=ObX.kept (aP) bu;have bz:=bv aO bu;clear d0 d1 d2 d3 d4 d5 d6 d7;obtain⟨d0,d1,d2,d3,d4,d5,d6,d7⟩:=cC.cells;go_wp2_with fail;refine(ia.out _).mono ?_;rintro e w3 ⟨rfl,cW⟩;have eK:=ObX.kept (cC) cW;have fI:=bv bz cW;clear d0 d1 d2 d3 d4 d5 d6 d7;obtain⟨d0,d1,d2,d3,d4,d5,d6,d7⟩:=eK.cells;go_wp2_with fail;go_ret;exact⟨rfl,fI⟩
theorem sK (o:Ob) (ho:o.Ok) (h:dK o) (op:Int) (w:World):Calls Tryz.prog 15 #[.agg (af o),.int .i64 op] w fun e w'=>e=.returned (.int .i64 (bI o op))∧Below w.heap.size w w':=by
 have hk:o.k=5:=bo.2.2.2.2.1 h;have ha:aT o:=.inr (.inr (.inr (.inr (.inl h))));have hr:=fun W=>aY o ho W
 rw[decide_eq_true ha] at hr;rw[jy op h];have hA:=fun W=>dm (b:=.int .i64 2) (bc o.k W (by rw[hk];rfl)) (by rw[hk];rfl)
 have az:=fun W=>dm (b:=.int .i64 1) (bO o.k W (by rw[hk];rfl)) (by rw[hk];rfl)
 obtain⟨q1,q2,q3,q4,q5,q6,q7,q8⟩:=eM h;have kb1:(o.k==1)=false:=by rw[hk];rfl
 have kb2:(o.k==2)=false:=by rw[hk];rfl
 have kb3:(o.k==3)=false:=by rw[hk];rfl
 have kb4:(o.k==4)=false:=by rw[hk];rfl
 have kb5:(o.k==5)=true:=by rw[hk];rfl
 clear h hk ho ha;unfold af at hr;have HR:=hid hr;have HA:=hid hA;have ia:=hid az;clear hr hA az;have hn:=ObX.new w o;have hB:=bt w (.cells (af o) 26);obtain⟨n,aq⟩:∃ n,w.heap.size=n:=⟨_,rfl⟩;rw[aq] at hn hB;have HN:=hid hn;have HB:=hid hB;clear hn hB;rw[aq]
 by_cases hA:op=2
 ·have b1:(op != 2)=false:=by simpa using hA
  have b2:(op==2)=true:=by simpa using hA
  rw[if_pos hA];clear hA;unfold af at *;go_enter Tryz.func15,Tryz.ntmps15;go_wp2_with fail;refine(HR.out _).mono ?_;rintro e w1 ⟨rfl,am⟩;have aP:=ObX.kept HN.out am;have aO:=bv HB.out am;obtain⟨d0,d1,d2,d3,d4,d5,d6,d7⟩:=aP.cells;go_wp2_with fail;refine(HA.out _).mono ?_;rintro e w2 ⟨rfl,bu⟩;have cC:=ObX.kept (aP) bu;have bz:=bv aO bu;clear d0 d1 d2 d3 d4 d5 d6 d7;obtain⟨d0,d1,d2,d3,d4,d5,d6,d7⟩:=cC.cells;go_wp2_with fail;refine(HA.out _).mono ?_;rintro e w3 ⟨rfl,cW⟩;have eK:=ObX.kept (cC) cW;have fI:=bv bz cW;clear d0 d1 d2 d3 d4 d5 d6 d7;obtain⟨d0,d1,d2,d3,d4,d5,d6,d7⟩:=eK.cells;go_wp2_with fail;go_ret;exact⟨rfl,fI⟩
 ·have b1:(op != 2)=true:=by simpa using hA
  have b2:(op==2)=false:=by simpa using hA
  by_cases bz:op=1
  ·have b3:(op != 1)=false:=by simpa using bz
   rw[if_neg hA,if_pos bz];clear hA bz;unfold af at *;go_enter Tryz.func15,Tryz.ntmps15;go_wp2_with fail;refine(HR.out _).mono ?_;rintro e w1 ⟨rfl,am⟩;have aP:=ObX.kept HN.out am;have aO:=bv HB.out am;obtain⟨d0,d1,d2,d3,d4,d5,d6,d7⟩:=aP.cells;go_wp2_with fail;refine(HA.out _).mono ?_;rintro e w2 ⟨rfl,bu⟩;have cC:=ObX.kept (aP) bu;have bz:=bv aO bu;clear d0 d1 d2 d3 d4 d5 d6 d7;obtain⟨d0,d1,d2,d3,d4,d5,d6,d7⟩:=cC.cells;go_wp2_with fail;refine(ia.out _).mono ?_;rintro e w3 ⟨rfl,cW⟩;have eK:=ObX.kept (cC) cW;have fI:=bv bz cW;clear d0 d1 d2 d3 d4 d5 d6 d7;obtain⟨d0,d1,d2,d3,d4,d5,d6,d7⟩:=eK.cells;go_wp2_with fail;refine(HA.out _).mono ?_;rintro e w4 ⟨rfl,gK⟩;have kY:=ObX.kept (eK) gK;have lY:=bv fI gK;clear d0 d1 d2 d3 d4 d5 d6 d7;obtain⟨d0,d1,d2,d3,d4,d5,d6,d7⟩:=kY.cells;go_wp2_with fail;go_ret;exact⟨rfl,lY⟩
  ·have b3:(op != 1)=true:=by simpa using bz
   rw[if_neg hA,if_neg bz];clear hA bz;unfold af at *;go_enter Tryz.func15,Tryz.ntmps15;go_wp2_with fail;refine(HR.out _).mono ?_;rintro e w1 ⟨rfl,am⟩;have aP:=ObX.kept HN.out am;have aO:=bv HB.out am;obtain⟨d0,d1,d2,d3,d4,d5,d6,d7⟩:=aP.cells;go_wp2_with fail;refine(HA.out _).mono ?_;rintro e w2 ⟨rfl,bu⟩;have cC:=ObX.kept (aP) bu;have bz:=bv aO bu;clear d0 d1 d2 d3 d4 d5 d6 d7;obtain⟨d0,d1,d2,d3,d4,d5,d6,d7⟩:=cC.cells;go_wp2_with fail;refine(ia.out _).mono ?_;rintro e w3 ⟨rfl,cW⟩;have eK:=ObX.kept (cC) cW;have fI:=bv bz cW;clear d0 d1 d2 d3 d4 d5 d6 d7;obtain⟨d0,d1,d2,d3,d4,d5,d6,d7⟩:=eK.cells;go_wp2_with fail;go_ret;exact⟨rfl,fI⟩
theorem qn (o:Ob) (ho:o.Ok) (h:bS o) (op:Int) (w:World):Calls Tryz.prog 15 #[.agg (af o),.int .i64 op] w fun e w'=>e=.returned (.int .i64 (bI o op))∧Below w.heap.size w w':=by
 have hk:o.k=6:=bo.2.2.2.2.2 h;have ha:aT o:=.inr (.inr (.inr (.inr (.inr h))));have hr:=fun W=>aY o ho W
 rw[decide_eq_true ha] at hr;rw[iy op h];have hA:=fun W=>dm (b:=.int .i64 3) (bc o.k W (by rw[hk];rfl)) (by rw[hk];rfl)
 have az:=fun W=>dm (b:=.int .i64 4) (bO o.k W (by rw[hk];rfl)) (by rw[hk];rfl)
 obtain⟨q1,q2,q3,q4,q5,q6⟩:=ea h;have kb1:(o.k==1)=false:=by rw[hk];rfl
 have kb2:(o.k==2)=false:=by rw[hk];rfl
 have kb3:(o.k==3)=false:=by rw[hk];rfl
 have kb4:(o.k==4)=false:=by rw[hk];rfl
 have kb5:(o.k==5)=false:=by rw[hk];rfl
 clear h hk ho ha;unfold af at hr;have HR:=hid hr;have HA:=hid hA;have ia:=hid az;clear hr hA az;have hn:=ObX.new w o;have hB:=bt w (.cells (af o) 26);obtain⟨n,aq⟩:∃ n,w.heap.size=n:=⟨_,rfl⟩;rw[aq] at hn hB;have HN:=hid hn;have HB:=hid hB;clear hn hB;rw[aq]
 by_cases hA:op=3
 ·have b1:(op != 3)=false:=by simpa using hA
  have b2:(op==3)=true:=by simpa using hA
  rw[if_pos (.inl hA)];clear hA;unfold af at *;go_enter Tryz.func15,Tryz.ntmps15;go_wp2_with fail;refine(HR.out _).mono ?_;rintro e w1 ⟨rfl,am⟩;have aP:=ObX.kept HN.out am;have aO:=bv HB.out am;obtain⟨d0,d1,d2,d3,d4,d5,d6,d7⟩:=aP.cells;go_wp2_with fail;refine(HA.out _).mono ?_;rintro e w2 ⟨rfl,bu⟩;have cC:=ObX.kept (aP) bu;have bz:=bv aO bu;clear d0 d1 d2 d3 d4 d5 d6 d7;obtain⟨d0,d1,d2,d3,d4,d5,d6,d7⟩:=cC.cells;go_wp2_with fail;refine(HA.out _).mono ?_;rintro e w3 ⟨rfl,cW⟩;have eK:=ObX.kept (cC) cW;have fI:=bv bz cW;clear d0 d1 d2 d3 d4 d5 d6 d7;obtain⟨d0,d1,d2,d3,d4,d5,d6,d7⟩:=eK.cells;go_wp2_with fail;go_ret;exact⟨rfl,fI⟩
 ·have b1:(op != 3)=true:=by simpa using hA
  have b2:(op==3)=false:=by simpa using hA
  by_cases bz:op=4
  ·have b3:(op != 4)=false:=by simpa using bz
   rw[if_pos (.inr bz)];clear hA bz;unfold af at *;go_enter Tryz.func15,Tryz.ntmps15;go_wp2_with fail;refine(HR.out _).mono ?_;rintro e w1 ⟨rfl,am⟩;have aP:=ObX.kept HN.out am;have aO:=bv HB.out am;obtain⟨d0,d1,d2,d3,d4,d5,d6,d7⟩:=aP.cells;go_wp2_with fail;refine(HA.out _).mono ?_;rintro e w2 ⟨rfl,bu⟩;have cC:=ObX.kept (aP) bu;have bz:=bv aO bu;clear d0 d1 d2 d3 d4 d5 d6 d7;obtain⟨d0,d1,d2,d3,d4,d5,d6,d7⟩:=cC.cells;go_wp2_with fail;refine(ia.out _).mono ?_;rintro e w3 ⟨rfl,cW⟩;have eK:=ObX.kept (cC) cW;have fI:=bv bz cW;clear d0 d1 d2 d3 d4 d5 d6 d7;obtain⟨d0,d1,d2,d3,d4,d5,d6,d7⟩:=eK.cells;go_wp2_with fail;refine(HA.out _).mono ?_;rintro e w4 ⟨rfl,gK⟩;have kY:=ObX.kept (eK) gK;have lY:=bv fI gK;clear d0 d1 d2 d3 d4 d5 d6 d7;obtain⟨d0,d1,d2,d3,d4,d5,d6,d7⟩:=kY.cells;go_wp2_with fail;go_ret;exact⟨rfl,lY⟩
  ·have b3:(op != 4)=true:=by simpa using bz
   rw[if_neg (by omega)];clear hA bz;unfold af at *;go_enter Tryz.func15,Tryz.ntmps15;go_wp2_with fail;refine(HR.out _).mono ?_;rintro e w1 ⟨rfl,am⟩;have aP:=ObX.kept HN.out am;have aO:=bv HB.out am;obtain⟨d0,d1,d2,d3,d4,d5,d6,d7⟩:=aP.cells;go_wp2_with fail;refine(HA.out _).mono ?_;rintro e w2 ⟨rfl,bu⟩;have cC:=ObX.kept (aP) bu;have bz:=bv aO bu;clear d0 d1 d2 d3 d4 d5 d6 d7;obtain⟨d0,d1,d2,d3,d4,d5,d6,d7⟩:=cC.cells;go_wp2_with fail;refine(ia.out _).mono ?_;rintro e w3 ⟨rfl,cW⟩;have eK:=ObX.kept (cC) cW;have fI:=bv bz cW;clear d0 d1 d2 d3 d4 d5 d6 d7;obtain⟨d0,d1,d2,d3,d4,d5,d6,d7⟩:=eK.cells;go_wp2_with fail;go_ret;exact⟨rfl,fI⟩
theorem yo (o:Ob) (ho:o.Ok) (op:Int) (w:World):Calls Tryz.prog 15 #[.agg (af o),.int .i64 op] w fun e w'=>e=.returned (.int .i64 (bI o op))∧Below w.heap.size w w':=by
 by_cases h:aT o
 ·rcases h with h | h | h | h | h | h
  ·exact rm o ho h op w
  ·exact qD o ho h op w
  ·exact sh o ho h op w
  ·exact qV o ho h op w
  ·exact sK o ho h op w
  ·exact qn o ho h op w
 ·rw[eT op h];have hr:=fun W=>aY o ho W
  rw[decide_eq_false h] at hr;clear h ho;unfold af at hr;have HR:=hid hr;clear hr;have hn:=ObX.new w o;have hB:=bt w (.cells (af o) 26);obtain⟨n,aq⟩:∃ n,w.heap.size=n:=⟨_,rfl⟩;rw[aq] at hn hB;have HN:=hid hn;have HB:=hid hB;clear hn hB;rw[aq];unfold af at *;go_enter Tryz.func15,Tryz.ntmps15;go_wp2_with fail;refine(HR.out _).mono ?_;rintro e w1 ⟨rfl,am⟩;have aP:=ObX.kept HN.out am;have aO:=bv HB.out am;obtain⟨d0,d1,d2,d3,d4,d5,d6,d7⟩:=aP.cells;go_wp2_with fail;go_ret;exact⟨rfl,aO⟩
end Go.Proofs.YtolmpehgeinlkaaGreatDoor
