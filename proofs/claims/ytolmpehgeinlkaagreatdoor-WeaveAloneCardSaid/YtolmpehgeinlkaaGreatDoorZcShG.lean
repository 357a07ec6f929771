/- The reference: how many words, how many steps. -/
import Derived.Test.YtolmpehgeinlkaaGreatDoorZcShE
import Derived.Test.YtolmpehgeinlkaaGreatDoorZcShF
namespace Go.Proofs.YtolmpehgeinlkaaGreatDoor
open Go.RowKit
open Go.Lib (hid)
attribute [local go_sem] Oper.semAt_some
set_option maxHeartbeats 1000000
set_option maxRecDepth 100000
abbrev QShG0 (a0:World) (a1:Nat) (a2:Ob) (w':World):Prop:=Below a0.heap.size a0 w'∧w'.cell? ⟨a1,0,none⟩=some (.int .i64 a2.k)∧w'.cell? ⟨a1,1,none⟩=some (.int .i64 a2.wd)∧w'.cell? ⟨a1,2,none⟩=some (.int .i64 a2.s)∧w'.cell? ⟨a1,3,none⟩=some (.int .i64 a2.c)∧w'.cell? ⟨a1,4,none⟩=some (.int .u32 a2.st)∧w'.cell? ⟨a1,5,none⟩=some (.slice a2.I a2.ni a2.ci)∧w'.cell? ⟨a1,6,none⟩=some (.int .i64 a2.wr)∧w'.cell? ⟨a1,7,none⟩=some (.slice a2.R a2.nr a2.cr)
theorem head_o (o:Ob) (h:o.nr≤4) (w:World):Calls Tryz.prog 80 #[.agg (obA o)] w fun e w'=>e=.returned (.int .i64 (headZ o))∧Below w.heap.size w w':=by
 have q5:(o.nr:Int)≤4:=by omega
 obtain⟨Z,hZ⟩:∃ Z,headZ o=Z:=⟨_,rfl⟩;rw[hZ];have hn:=ObX.new w o;have hB:=(Below.refl w.heap.size w).alloc (Nat.le_refl _) (.cells (obA o) 26);obtain⟨n,hn0⟩:∃ n,w.heap.size=n:=⟨_,rfl⟩;rw[hn0] at hn hB;have HN:=hid hn;have HB:=hid hB;clear hn hB;rw[hn0]
 by_cases hk1:o.k=1
 ·have kb1:(o.k==1)=true:=by simpa using hk1
  unfold headZ at hZ;simp[hk1] at hZ;subst hZ;clear hk1;unfold obA at *;go_enter Tryz.func80,Tryz.ntmps80;go_wp2_with fail;go_ret;exact⟨rfl,HB.out⟩
 ·have kb1:(o.k==1)=false:=by simpa using hk1
  by_cases hk2:o.k=2
  ·have kb2:(o.k==2)=true:=by simpa using hk2
   unfold headZ at hZ;simp[hk2] at hZ;subst hZ;clear hk1;clear hk2;unfold obA at *;go_enter Tryz.func80,Tryz.ntmps80;go_wp2_with fail;go_ret;exact⟨rfl,HB.out⟩
  ·have kb2:(o.k==2)=false:=by simpa using hk2
   by_cases hk5:o.k=5
   ·have kb5:(o.k==5)=true:=by simpa using hk5
    unfold headZ at hZ;simp[hk5] at hZ;subst hZ;clear hk1;clear hk2;clear hk5;unfold obA at *;go_enter Tryz.func80,Tryz.ntmps80;go_wp2_with fail;go_ret;exact⟨rfl,HB.out⟩
   ·have kb5:(o.k==5)=false:=by simpa using hk5
    by_cases hk6:o.k=6
    ·have kb6:(o.k==6)=true:=by simpa using hk6
     unfold headZ at hZ;simp[hk6] at hZ;subst hZ;clear hk1;clear hk2;clear hk5;clear hk6;unfold obA at *;go_enter Tryz.func80,Tryz.ntmps80;go_wp2_with fail;go_ret;exact⟨rfl,HB.out⟩
    ·have kb6:(o.k==6)=false:=by simpa using hk6
     unfold headZ at hZ;simp[hk1,hk2,hk5,hk6] at hZ;subst hZ;clear hk1;clear hk2;clear hk5;clear hk6;unfold obA at *;go_enter Tryz.func80,Tryz.ntmps80;go_wp2_with fail;go_ret;exact⟨rfl,HB.out⟩
theorem records_o (o:Ob) (h:o.nr≤4) (w:World):Calls Tryz.prog 123 #[.agg (obA o)] w fun e w'=>e=.returned (.int .i64 (recZ o))∧Below w.heap.size w w':=by
 have q5:(o.nr:Int)≤4:=by omega
 obtain⟨Z,hZ⟩:∃ Z,recZ o=Z:=⟨_,rfl⟩;rw[hZ];have hn:=ObX.new w o;have hB:=(Below.refl w.heap.size w).alloc (Nat.le_refl _) (.cells (obA o) 26);obtain⟨n,hn0⟩:∃ n,w.heap.size=n:=⟨_,rfl⟩;rw[hn0] at hn hB;have HN:=hid hn;have HB:=hid hB;clear hn hB;rw[hn0]
 by_cases hk1:o.k=1
 ·have kb1:(o.k==1)=true:=by simpa using hk1
  unfold recZ at hZ;simp[hk1] at hZ;subst hZ;clear hk1;unfold obA at *;go_enter Tryz.func123,Tryz.ntmps123;go_wp2_with fail;go_ret;exact⟨rfl,HB.out⟩
 ·have kb1:(o.k==1)=false:=by simpa using hk1
  by_cases hk2:o.k=2
  ·have kb2:(o.k==2)=true:=by simpa using hk2
   unfold recZ at hZ;simp[hk2] at hZ;subst hZ;clear hk1;clear hk2;unfold obA at *;go_enter Tryz.func123,Tryz.ntmps123;go_wp2_with fail;go_ret;exact⟨rfl,HB.out⟩
  ·have kb2:(o.k==2)=false:=by simpa using hk2
   by_cases hk3:o.k=3
   ·have kb3:(o.k==3)=true:=by simpa using hk3
    unfold recZ at hZ;simp[hk3] at hZ;subst hZ;clear hk1;clear hk2;clear hk3;unfold obA at *;go_enter Tryz.func123,Tryz.ntmps123;go_wp2_with fail;go_ret;exact⟨rfl,HB.out⟩
   ·have kb3:(o.k==3)=false:=by simpa using hk3
    unfold recZ at hZ;simp[hk1,hk2,hk3] at hZ;subst hZ;clear hk1;clear hk2;clear hk3;unfold obA at *;go_enter Tryz.func123,Tryz.ntmps123;go_wp2_with fail;go_ret;exact⟨rfl,HB.out⟩
theorem rsize_o (o:Ob) (ho:o.Ok) (w:World):Calls Tryz.prog 79 #[.agg (obA o)] w fun e w'=>e=.returned (.int .i64 (sizeZ o))∧Below w.heap.size w w':=by
 by_cases h:anyR o
 ·obtain⟨⟨q1,q2⟩,⟨q3,q4⟩,⟨q5,q6⟩,⟨q7,q8⟩,q9⟩:=any_bd h;rw[q9];have hr:=fun W=>r14Right_o o ho W
  rw[decide_eq_true h] at hr;have hc0:=fun W=>head_o o q4 W
  have hc1:=fun W=>records_o o q4 W
  unfold obA at hr hc0 hc1;clear h ho q9;obtain⟨H,hH⟩:∃ H,headZ o=H:=⟨_,rfl⟩;obtain⟨C,hC⟩:∃ C,recZ o=C:=⟨_,rfl⟩;rw[hH] at hc0 q5 q6;rw[hC] at hc1 q7 q8;rw[hH,hC];clear hH hC;have m:=mul_bd (a:=C) (b:=o.wd) (by omega) (by omega) (by omega) (by omega);have e1:IntKind.i64.wrap (C*o.wd)=C*o.wd:=sh_wrap (by omega) (by omega);have e2:IntKind.i64.wrap (H+C*o.wd)=H+C*o.wd:=sh_wrap (by omega) (by omega);have HR:=hid hr;have HC0:=hid hc0;have HC1:=hid hc1;clear hr hc0 hc1;have hn:=ObX.new w o;have hB:=(Below.refl w.heap.size w).alloc (Nat.le_refl _) (.cells (obA o) 26);obtain⟨n,hn0⟩:∃ n,w.heap.size=n:=⟨_,rfl⟩;rw[hn0] at hn hB;have HN:=hid hn;have HB:=hid hB;clear hn hB;rw[hn0];unfold obA at *;go_enter Tryz.func79,Tryz.ntmps79;go_wp2_with fail;refine(HR.out _).mono ?_;rintro e w1 ⟨rfl,hb1⟩;have ho1:=ObX.kept (HN.out) hb1;have hB1:=(HB.out).trans (hb1.mono (by have:=(HB.out).size;omega));obtain⟨d0,d1,d2,d3,d4,d5,d6,d7⟩:=ho1.cells;go_wp2_with fail;clear d0 d1 d2 d3 d4 d5 d6 d7;have hSd:(QShG0 w1 n o) w1.drew:=⟨(Below.refl _ w1).drew,(ObX.kept ho1 (Below.refl _ w1).drew).cells⟩;refine wp_region_held_drew (S:=(QShG0 w1 n o)) (by kernel_rfl) hSd (fun hHeld=>?_);generalize w1.drew=wd at hHeld ⊢;have hHeld:(QShG0 w1 n o) wd:=hHeld;refine wpAnyH_take (i:=0) (oi:=?_) (v:=?_) ?_ (by kernel_rfl) (by kernel_rfl) (by kernel_rfl) ?_ (Or.inl ⟨?_,?_⟩) (by assumption) ?_;rotate_left 2
  ·(simp only[List.getElem?_toArray,List.getElem?_cons_zero];rfl)
  ·first | exact fun _ _ _ h=>h | exact fun _ _ _ h=>by cases h.1
  ·rfl
  ·((intro wq hSq;(try dsimp only at hSq);go_simp);(try with_reducible rfl))
  try simp only[Act.put,List.setIfInBounds_toArray,List.set_cons_zero,List.set_cons_succ]
  refine wpAnyH_take (i:=2) (oi:=?_) (v:=?_) ?_ (by kernel_rfl) (by kernel_rfl) (by kernel_rfl) ?_ (Or.inl ⟨?_,?_⟩) (by assumption) ?_;rotate_left 2
  ·(simp only[List.getElem?_toArray,List.getElem?_cons_succ,List.getElem?_cons_zero];rfl)
  ·first | exact fun _ _ _ h=>h | exact fun _ _ _ h=>by cases h.1
  ·rfl
  ·((intro wq hSq;(try dsimp only at hSq);go_simp);(try with_reducible rfl))
  try simp only[Act.put,List.setIfInBounds_toArray,List.set_cons_zero,List.set_cons_succ]
  refine wpAnyH_take (i:=4) (oi:=?_) (v:=?_) ?_ (by kernel_rfl) (by kernel_rfl) (by kernel_rfl) ?_ (Or.inl ⟨?_,?_⟩) (by assumption) ?_;rotate_left 2
  ·(simp only[List.getElem?_toArray,List.getElem?_cons_succ,List.getElem?_cons_zero];rfl)
  ·first | exact fun _ _ _ h=>h | exact fun _ _ _ h=>by cases h.1
  ·rfl
  ·((intro wq hSq;(try dsimp only at hSq);go_simp);(try with_reducible rfl))
  try simp only[Act.put,List.setIfInBounds_toArray,List.set_cons_zero,List.set_cons_succ]
  refine wpAnyH_take (i:=5) (oi:=?_) (v:=?_) ?_ (by kernel_rfl) (by kernel_rfl) (by kernel_rfl) ?_ (Or.inl ⟨?_,?_⟩) (by assumption) ?_;rotate_left 2
  ·(simp only[List.getElem?_toArray,List.getElem?_cons_succ,List.getElem?_cons_zero];rfl)
  ·first | exact fun _ _ _ h=>h | exact fun _ _ _ h=>by cases h.1
  ·rfl
  ·((intro wq hSq;(try dsimp only at hSq);go_simp);(try with_reducible rfl))
  try simp only[Act.put,List.setIfInBounds_toArray,List.set_cons_zero,List.set_cons_succ]
  refine rdH [1] ?_;refine cnH (fun K hK=>?_) AllReadyH.nil;go_simp;refine(HC0.out _).mono ?_;rintro ex wx ⟨rfl,hbx⟩
  have hSx:(QShG0 w1 n o) wx:=by
   obtain⟨h0,u0,u1,u2,u3,u4,u5,u6,u7⟩:=hHeld;have hk:∀ {i:Nat} {u:Value},_→wx.cell? ⟨n,i,none⟩=some u:=fun {i u} hc=>(hbx.cell (p:=⟨n,i,none⟩) (cell_lt hc)).trans hc
   exact⟨h0.trans (hbx.mono h0.size),hk u0,hk u1,hk u2,hk u3,hk u4,hk u5,hk u6,hk u7⟩
  refine hK.out _ _ hSx (fun hHeld=>?_);clear hK K;try simp only[Act.put,List.setIfInBounds_toArray,List.set_cons_zero,List.set_cons_succ]
  refine rdH [3] ?_;refine cnH (fun K hK=>?_) AllReadyH.nil;go_simp;refine(HC1.out _).mono ?_;rintro ex wx ⟨rfl,hbx⟩
  have hSx:(QShG0 w1 n o) wx:=by
   obtain⟨h0,u0,u1,u2,u3,u4,u5,u6,u7⟩:=hHeld;have hk:∀ {i:Nat} {u:Value},_→wx.cell? ⟨n,i,none⟩=some u:=fun {i u} hc=>(hbx.cell (p:=⟨n,i,none⟩) (cell_lt hc)).trans hc
   exact⟨h0.trans (hbx.mono h0.size),hk u0,hk u1,hk u2,hk u3,hk u4,hk u5,hk u6,hk u7⟩
  refine hK.out _ _ hSx (fun hHeld=>?_);clear hK K;try simp only[Act.put,List.setIfInBounds_toArray,List.set_cons_zero,List.set_cons_succ]
  refine wpAnyH_take (i:=6) (oi:=?_) (v:=?_) ?_ (by kernel_rfl) (by kernel_rfl) (by kernel_rfl) ?_ (Or.inl ⟨?_,?_⟩) (by assumption) ?_;rotate_left 2
  ·(simp only[List.getElem?_toArray,List.getElem?_cons_succ,List.getElem?_cons_zero];rfl)
  ·first | exact fun _ _ _ h=>h | exact fun _ _ _ h=>by cases h.1
  ·rfl
  ·((intro wq hSq;(try dsimp only at hSq);go_simp);(try with_reducible rfl))
  try simp only[Act.put,List.setIfInBounds_toArray,List.set_cons_zero,List.set_cons_succ]
  refine wpAnyH_take (i:=7) (oi:=?_) (v:=?_) ?_ (by kernel_rfl) (by kernel_rfl) (by kernel_rfl) ?_ (Or.inl ⟨?_,?_⟩) (by assumption) ?_;rotate_left 2
  ·(simp only[List.getElem?_toArray,List.getElem?_cons_succ,List.getElem?_cons_zero];rfl)
  ·first | exact fun _ _ _ h=>h | exact fun _ _ _ h=>by cases h.1
  ·rfl
  ·((intro wq hSq;(try dsimp only at hSq);go_simp);(try with_reducible rfl))
  try simp only[Act.put,List.setIfInBounds_toArray,List.set_cons_zero,List.set_cons_succ]
  refine wpAnyH_take (i:=8) (oi:=?_) (v:=?_) ?_ (by kernel_rfl) (by kernel_rfl) (by kernel_rfl) ?_ (Or.inl ⟨?_,?_⟩) (by assumption) ?_;rotate_left 2
  ·(simp only[List.getElem?_toArray,List.getElem?_cons_succ,List.getElem?_cons_zero];rfl)
  ·first | exact fun _ _ _ h=>h | exact fun _ _ _ h=>by cases h.1
  ·rfl
  ·((intro wq hSq;(try dsimp only at hSq);go_simp);(try with_reducible rfl))
  try simp only[Act.put,List.setIfInBounds_toArray,List.set_cons_zero,List.set_cons_succ]
  refine dnH ?_;clear hSd;go_wp2_with fail;go_ret;exact⟨rfl,hB1.trans (hHeld.1.mono (by have:=hB1.size;omega))⟩
 ·rw[sizeZ_no h];have hr:=fun W=>r14Right_o o ho W
  rw[decide_eq_false h] at hr;clear h ho;unfold obA at hr;have HR:=hid hr;clear hr;have hn:=ObX.new w o;have hB:=(Below.refl w.heap.size w).alloc (Nat.le_refl _) (.cells (obA o) 26);obtain⟨n,hn0⟩:∃ n,w.heap.size=n:=⟨_,rfl⟩;rw[hn0] at hn hB;have HN:=hid hn;have HB:=hid hB;clear hn hB;rw[hn0];unfold obA at *;go_enter Tryz.func79,Tryz.ntmps79;go_wp2_with fail;refine(HR.out _).mono ?_;rintro e w1 ⟨rfl,hb1⟩;have ho1:=ObX.kept (HN.out) hb1;have hB1:=(HB.out).trans (hb1.mono (by have:=(HB.out).size;omega));obtain⟨d0,d1,d2,d3,d4,d5,d6,d7⟩:=ho1.cells;go_wp2_with fail;go_ret;exact⟨rfl,hB1⟩
end Go.Proofs.YtolmpehgeinlkaaGreatDoor
