/- Which objects may be: ring.Right, fifo.Right, object.Shaped. -/
import Derived.Test.YtolmpehgeinlkaaGreatDoorZcShB
import Derived.Test.YtolmpehgeinlkaaGreatDoorZcA
namespace Go.Proofs.YtolmpehgeinlkaaGreatDoor
open Go.RowKit
open Go.Lib (hid)
attribute [local go_sem] Oper.semAt_some
set_option maxHeartbeats 1000000
set_option maxRecDepth 100000
abbrev QShC0 (a0:World) (a1:Nat) (a2:Ob) (w':World):Prop:=Below a0.heap.size a0 w'∧w'.cell? ⟨a1,0,none⟩=some (.int .i64 a2.k)∧w'.cell? ⟨a1,1,none⟩=some (.int .i64 a2.wd)∧w'.cell? ⟨a1,2,none⟩=some (.int .i64 a2.s)∧w'.cell? ⟨a1,3,none⟩=some (.int .i64 a2.c)∧w'.cell? ⟨a1,4,none⟩=some (.int .u32 a2.st)∧w'.cell? ⟨a1,5,none⟩=some (.slice a2.I a2.ni a2.ci)∧w'.cell? ⟨a1,6,none⟩=some (.int .i64 a2.wr)∧w'.cell? ⟨a1,7,none⟩=some (.slice a2.R a2.nr a2.cr)
theorem ringMod_o (o:Ob) (h1:2≤o.s) (h2:o.s≤16) (w:World):Calls Tryz.prog 77 #[.agg (obA o)] w fun e w'=>e=.returned (.int .u32 (o.s*1048576))∧Below w.heap.size w w':=by
 have e1:IntKind.u32.wrap o.s=o.s:=sh_wrap32 (by omega) (by omega);have e2:IntKind.u32.wrap (o.s*1048576)=o.s*1048576:=sh_wrap32 (by omega) (by omega);have hn:=ObX.new w o;have hB:=(Below.refl w.heap.size w).alloc (Nat.le_refl _) (.cells (obA o) 26);obtain⟨n,hn0⟩:∃ n,w.heap.size=n:=⟨_,rfl⟩;rw[hn0] at hn hB;have HN:=hid hn;have HB:=hid hB;clear hn hB;rw[hn0];unfold obA at *;go_enter Tryz.func77,Tryz.ntmps77;go_wp2_with fail;go_ret;exact⟨rfl,HB.out⟩
theorem fifoMod_o (o:Ob) (h1:1≤o.s) (h2:o.s≤16) (w:World):Calls Tryz.prog 78 #[.agg (obA o)] w fun e w'=>e=.returned (.int .u32 (2*o.s))∧Below w.heap.size w w':=by
 have e1:IntKind.u32.wrap o.s=o.s:=sh_wrap32 (by omega) (by omega);have e2:IntKind.u32.wrap (2*o.s)=2*o.s:=sh_wrap32 (by omega) (by omega);have hn:=ObX.new w o;have hB:=(Below.refl w.heap.size w).alloc (Nat.le_refl _) (.cells (obA o) 26);obtain⟨n,hn0⟩:∃ n,w.heap.size=n:=⟨_,rfl⟩;rw[hn0] at hn hB;have HN:=hid hn;have HB:=hid hB;clear hn hB;rw[hn0];unfold obA at *;go_enter Tryz.func78,Tryz.ntmps78;go_wp2_with fail;go_ret;exact⟨rfl,HB.out⟩
theorem ringRight_o (o:Ob) (w:World):Calls Tryz.prog 43 #[.agg (obA o)] w fun e w'=>e=.returned (.bool (decide (ringR o)))∧Below w.heap.size w w':=by
 obtain⟨W0,hW0⟩:∃ W0,w.alloc (.cells #[.int .i64 o.k,.int .i64 o.wd,.int .i64 o.s,.int .i64 o.c,.int .u32 o.st,.slice o.I o.ni o.ci,.int .i64 o.wr,.slice o.R o.nr o.cr] 26)=W0:=⟨_,rfl⟩;have hn:=ObX.new w o;have hB:=(Below.refl w.heap.size w).alloc (Nat.le_refl _) (.cells (obA o) 26);unfold obA at hn hB;rw[hW0] at hn hB;obtain⟨n,hn0⟩:∃ n,w.heap.size=n:=⟨_,rfl⟩;rw[hn0] at hn hB;have hSd:(QShC0 W0 n o) W0.drew:=⟨(Below.refl W0.heap.size W0).drew,(ObX.kept hn (Below.refl W0.heap.size W0).drew).cells⟩;have HN:=hid hn;have HB:=hid hB;clear hn hB;rw[hn0]
 rcases h0:(decide (wordsR o 4 o.wd)) with _ | _
 ·have hw:=fun W=>words_o o 4 o.wd W
  simp only[h0] at hw;unfold obA at hw;have HW:=hid hw;clear hw;unfold obA;go_enter Tryz.func43,Tryz.ntmps43;go_wp2_with fail;refine wp_region_held_drew (S:=(QShC0 W0 n o)) (by kernel_rfl) hSd (fun hHeld=>?_);generalize W0.drew=wd at hHeld ⊢;have hHeld:(QShC0 W0 n o) wd:=hHeld;refine tk2 0 1 ?_;refine tkH 2 ?_;refine clH 3 (fun K hK=>?_);go_simp;refine(HW.out _).mono ?_;rintro ex wx ⟨rfl,hbx⟩
  have hSx:(QShC0 W0 n o) wx:=by
   obtain⟨h0,u0,u1,u2,u3,u4,u5,u6,u7⟩:=hHeld;have hk:∀ {i:Nat} {u:Value},_→wx.cell? ⟨n,i,none⟩=some u:=fun {i u} hc=>(hbx.cell (p:=⟨n,i,none⟩) (cell_lt hc)).trans hc
   exact⟨h0.trans (hbx.mono h0.size),hk u0,hk u1,hk u2,hk u3,hk u4,hk u5,hk u6,hk u7⟩
  refine kH hK hSx fun hHeld=>?_
  clear hK K;refine tkH 4 ?_;refine sk2 5 6 ?_;refine skH 7 ?_;refine tk2 8 9 ?_;refine sk2 10 11 ?_;refine skH 12 ?_;refine tk2 13 14 ?_;refine sk2 15 16 ?_;refine tk2 17 18 ?_;refine sk4 19 20 21 22 ?_;refine skH 23 ?_;refine tk2 24 25 ?_;refine dnH ?_;clear hSd;go_wp2_with fail;go_ret;exact⟨ret_bool (by have p0:¬ (wordsR o 4 o.wd):=(by first | exact of_decide_eq_true h0 | exact of_decide_eq_false h0 | simpa using h0 | (have hh:=h0;simp at hh;omega));have q:decide (ringR o)=false:=(by rw[decide_eq_false_iff_not];unfold ringR;first | omega | simp[p0]);rw[q];(try assumption)),HB.out.trans (hHeld.1.mono (by have:=HB.out.size;omega))⟩
 ·rcases h1:(decide (2≤o.s)) with _ | _
  ·have hw:=fun W=>words_o o 4 o.wd W
   simp only[h0] at hw;unfold obA at hw;have HW:=hid hw;clear hw;unfold obA;go_enter Tryz.func43,Tryz.ntmps43;go_wp2_with fail;refine wp_region_held_drew (S:=(QShC0 W0 n o)) (by kernel_rfl) hSd (fun hHeld=>?_);generalize W0.drew=wd at hHeld ⊢;have hHeld:(QShC0 W0 n o) wd:=hHeld;refine tk2 0 1 ?_;refine tkH 2 ?_;refine clH 3 (fun K hK=>?_);go_simp;refine(HW.out _).mono ?_;rintro ex wx ⟨rfl,hbx⟩
   have hSx:(QShC0 W0 n o) wx:=by
    obtain⟨h0,u0,u1,u2,u3,u4,u5,u6,u7⟩:=hHeld;have hk:∀ {i:Nat} {u:Value},_→wx.cell? ⟨n,i,none⟩=some u:=fun {i u} hc=>(hbx.cell (p:=⟨n,i,none⟩) (cell_lt hc)).trans hc
    exact⟨h0.trans (hbx.mono h0.size),hk u0,hk u1,hk u2,hk u3,hk u4,hk u5,hk u6,hk u7⟩
   refine kH hK hSx fun hHeld=>?_
   clear hK K;refine tk4 4 5 6 7 ?_;refine tk2 8 9 ?_;refine sk2 10 11 ?_;refine skH 12 ?_;refine tk2 13 14 ?_;refine sk2 15 16 ?_;refine tk2 17 18 ?_;refine sk4 19 20 21 22 ?_;refine skH 23 ?_;refine tk2 24 25 ?_;refine dnH ?_;clear hSd;go_wp2_with fail;go_ret;exact⟨ret_bool (by have p0:wordsR o 4 o.wd:=(by first | exact of_decide_eq_true h0 | exact of_decide_eq_false h0 | simpa using h0 | (have hh:=h0;simp at hh;omega));have p1:¬ (2≤o.s):=(by first | exact of_decide_eq_true h1 | exact of_decide_eq_false h1 | simpa using h1 | (have hh:=h1;simp at hh;omega));have q:decide (ringR o)=false:=(by rw[decide_eq_false_iff_not];unfold ringR;first | omega | simp[p0,p1]);rw[q];(try assumption)),HB.out.trans (hHeld.1.mono (by have:=HB.out.size;omega))⟩
  ·rcases h2:(decide (o.s≤16)) with _ | _
   ·have hw:=fun W=>words_o o 4 o.wd W
    simp only[h0] at hw;unfold obA at hw;have HW:=hid hw;clear hw;unfold obA;go_enter Tryz.func43,Tryz.ntmps43;go_wp2_with fail;refine wp_region_held_drew (S:=(QShC0 W0 n o)) (by kernel_rfl) hSd (fun hHeld=>?_);generalize W0.drew=wd at hHeld ⊢;have hHeld:(QShC0 W0 n o) wd:=hHeld;refine tk2 0 1 ?_;refine tkH 2 ?_;refine clH 3 (fun K hK=>?_);go_simp;refine(HW.out _).mono ?_;rintro ex wx ⟨rfl,hbx⟩
    have hSx:(QShC0 W0 n o) wx:=by
     obtain⟨h0,u0,u1,u2,u3,u4,u5,u6,u7⟩:=hHeld;have hk:∀ {i:Nat} {u:Value},_→wx.cell? ⟨n,i,none⟩=some u:=fun {i u} hc=>(hbx.cell (p:=⟨n,i,none⟩) (cell_lt hc)).trans hc
     exact⟨h0.trans (hbx.mono h0.size),hk u0,hk u1,hk u2,hk u3,hk u4,hk u5,hk u6,hk u7⟩
    refine kH hK hSx fun hHeld=>?_
    clear hK K;refine tk4 4 5 6 7 ?_;refine tk4 8 9 10 11 ?_;refine tk2 12 13 ?_;refine tkH 14 ?_;refine sk2 15 16 ?_;refine tk2 17 18 ?_;refine sk4 19 20 21 22 ?_;refine skH 23 ?_;refine tk2 24 25 ?_;refine dnH ?_;clear hSd;go_wp2_with fail;go_ret;exact⟨ret_bool (by have p0:wordsR o 4 o.wd:=(by first | exact of_decide_eq_true h0 | exact of_decide_eq_false h0 | simpa using h0 | (have hh:=h0;simp at hh;omega));have p1:2≤o.s:=(by first | exact of_decide_eq_true h1 | exact of_decide_eq_false h1 | simpa using h1 | (have hh:=h1;simp at hh;omega));have p2:¬ (o.s≤16):=(by first | exact of_decide_eq_true h2 | exact of_decide_eq_false h2 | simpa using h2 | (have hh:=h2;simp at hh;omega));have q:decide (ringR o)=false:=(by rw[decide_eq_false_iff_not];unfold ringR;first | omega | simp[p0,p1,p2]);rw[q];(try assumption)),HB.out.trans (hHeld.1.mono (by have:=HB.out.size;omega))⟩
   ·rcases h3:(decide (capsR o)) with _ | _
    ·have hw:=fun W=>words_o o 4 o.wd W
     simp only[h0] at hw;unfold obA at hw;have HW:=hid hw;clear hw;have hc:=fun W=>caps_o o W
     simp only[h3] at hc;unfold obA at hc;have HC:=hid hc;clear hc;unfold obA;go_enter Tryz.func43,Tryz.ntmps43;go_wp2_with fail;refine wp_region_held_drew (S:=(QShC0 W0 n o)) (by kernel_rfl) hSd (fun hHeld=>?_);generalize W0.drew=wd at hHeld ⊢;have hHeld:(QShC0 W0 n o) wd:=hHeld;refine tk2 0 1 ?_;refine tkH 2 ?_;refine clH 3 (fun K hK=>?_);go_simp;refine(HW.out _).mono ?_;rintro ex wx ⟨rfl,hbx⟩
     have hSx:(QShC0 W0 n o) wx:=by
      obtain⟨h0,u0,u1,u2,u3,u4,u5,u6,u7⟩:=hHeld;have hk:∀ {i:Nat} {u:Value},_→wx.cell? ⟨n,i,none⟩=some u:=fun {i u} hc=>(hbx.cell (p:=⟨n,i,none⟩) (cell_lt hc)).trans hc
      exact⟨h0.trans (hbx.mono h0.size),hk u0,hk u1,hk u2,hk u3,hk u4,hk u5,hk u6,hk u7⟩
     refine kH hK hSx fun hHeld=>?_
     clear hK K;refine tk4 4 5 6 7 ?_;refine tk4 8 9 10 11 ?_;refine tk4 12 13 14 15 ?_;refine clH 16 (fun K hK=>?_);go_simp;refine(HC.out _).mono ?_;rintro ex wx ⟨rfl,hbx⟩
     have hSx:(QShC0 W0 n o) wx:=by
      obtain⟨h0,u0,u1,u2,u3,u4,u5,u6,u7⟩:=hHeld;have hk:∀ {i:Nat} {u:Value},_→wx.cell? ⟨n,i,none⟩=some u:=fun {i u} hc=>(hbx.cell (p:=⟨n,i,none⟩) (cell_lt hc)).trans hc
      exact⟨h0.trans (hbx.mono h0.size),hk u0,hk u1,hk u2,hk u3,hk u4,hk u5,hk u6,hk u7⟩
     refine kH hK hSx fun hHeld=>?_
     clear hK K;refine tk2 17 18 ?_;refine sk4 19 20 21 22 ?_;refine skH 23 ?_;refine tk2 24 25 ?_;refine dnH ?_;clear hSd;go_wp2_with fail;go_ret;exact⟨ret_bool (by have p0:wordsR o 4 o.wd:=(by first | exact of_decide_eq_true h0 | exact of_decide_eq_false h0 | simpa using h0 | (have hh:=h0;simp at hh;omega));have p1:2≤o.s:=(by first | exact of_decide_eq_true h1 | exact of_decide_eq_false h1 | simpa using h1 | (have hh:=h1;simp at hh;omega));have p2:o.s≤16:=(by first | exact of_decide_eq_true h2 | exact of_decide_eq_false h2 | simpa using h2 | (have hh:=h2;simp at hh;omega));have p3:¬ (capsR o):=(by first | exact of_decide_eq_true h3 | exact of_decide_eq_false h3 | simpa using h3 | (have hh:=h3;simp at hh;omega));have q:decide (ringR o)=false:=(by rw[decide_eq_false_iff_not];unfold ringR;first | omega | simp[p0,p1,p2,p3]);rw[q];(try assumption)),HB.out.trans (hHeld.1.mono (by have:=HB.out.size;omega))⟩
    ·rcases h4:(decide (o.st<o.s*1048576)) with _ | _
     ·have hw:=fun W=>words_o o 4 o.wd W
      simp only[h0] at hw;unfold obA at hw;have HW:=hid hw;clear hw;have hc:=fun W=>caps_o o W
      simp only[h3] at hc;unfold obA at hc;have HC:=hid hc;clear hc;have hm:=fun W=>ringMod_o o (of_decide_eq_true h1) (of_decide_eq_true h2) W
      unfold obA at hm;have HM:=hid hm;clear hm;unfold obA;go_enter Tryz.func43,Tryz.ntmps43;go_wp2_with fail;refine wp_region_held_drew (S:=(QShC0 W0 n o)) (by kernel_rfl) hSd (fun hHeld=>?_);generalize W0.drew=wd at hHeld ⊢;have hHeld:(QShC0 W0 n o) wd:=hHeld;refine tk2 0 1 ?_;refine tkH 2 ?_;refine clH 3 (fun K hK=>?_);go_simp;refine(HW.out _).mono ?_;rintro ex wx ⟨rfl,hbx⟩
      have hSx:(QShC0 W0 n o) wx:=by
       obtain⟨h0,u0,u1,u2,u3,u4,u5,u6,u7⟩:=hHeld;have hk:∀ {i:Nat} {u:Value},_→wx.cell? ⟨n,i,none⟩=some u:=fun {i u} hc=>(hbx.cell (p:=⟨n,i,none⟩) (cell_lt hc)).trans hc
       exact⟨h0.trans (hbx.mono h0.size),hk u0,hk u1,hk u2,hk u3,hk u4,hk u5,hk u6,hk u7⟩
      refine kH hK hSx fun hHeld=>?_
      clear hK K;refine tk4 4 5 6 7 ?_;refine tk4 8 9 10 11 ?_;refine tk4 12 13 14 15 ?_;refine clH 16 (fun K hK=>?_);go_simp;refine(HC.out _).mono ?_;rintro ex wx ⟨rfl,hbx⟩
      have hSx:(QShC0 W0 n o) wx:=by
       obtain⟨h0,u0,u1,u2,u3,u4,u5,u6,u7⟩:=hHeld;have hk:∀ {i:Nat} {u:Value},_→wx.cell? ⟨n,i,none⟩=some u:=fun {i u} hc=>(hbx.cell (p:=⟨n,i,none⟩) (cell_lt hc)).trans hc
       exact⟨h0.trans (hbx.mono h0.size),hk u0,hk u1,hk u2,hk u3,hk u4,hk u5,hk u6,hk u7⟩
      refine kH hK hSx fun hHeld=>?_
      clear hK K;refine tk4 17 18 19 20 ?_;refine tkH 21 ?_;refine clH 22 (fun K hK=>?_);go_simp;refine(HM.out _).mono ?_;rintro ex wx ⟨rfl,hbx⟩
      have hSx:(QShC0 W0 n o) wx:=by
       obtain⟨h0,u0,u1,u2,u3,u4,u5,u6,u7⟩:=hHeld;have hk:∀ {i:Nat} {u:Value},_→wx.cell? ⟨n,i,none⟩=some u:=fun {i u} hc=>(hbx.cell (p:=⟨n,i,none⟩) (cell_lt hc)).trans hc
       exact⟨h0.trans (hbx.mono h0.size),hk u0,hk u1,hk u2,hk u3,hk u4,hk u5,hk u6,hk u7⟩
      refine kH hK hSx fun hHeld=>?_
      clear hK K;refine tk2 23 24 ?_;refine tkH 25 ?_;refine dnH ?_;clear hSd;go_wp2_with fail;go_ret;exact⟨ret_bool (by have p0:wordsR o 4 o.wd:=(by first | exact of_decide_eq_true h0 | exact of_decide_eq_false h0 | simpa using h0 | (have hh:=h0;simp at hh;omega));have p1:2≤o.s:=(by first | exact of_decide_eq_true h1 | exact of_decide_eq_false h1 | simpa using h1 | (have hh:=h1;simp at hh;omega));have p2:o.s≤16:=(by first | exact of_decide_eq_true h2 | exact of_decide_eq_false h2 | simpa using h2 | (have hh:=h2;simp at hh;omega));have p3:capsR o:=(by first | exact of_decide_eq_true h3 | exact of_decide_eq_false h3 | simpa using h3 | (have hh:=h3;simp at hh;omega));have p4:¬ (o.st<o.s*1048576):=(by first | exact of_decide_eq_true h4 | exact of_decide_eq_false h4 | simpa using h4 | (have hh:=h4;simp at hh;omega));have q:decide (ringR o)=false:=(by rw[decide_eq_false_iff_not];unfold ringR;first | omega | simp[p0,p1,p2,p3,p4]);rw[q];(try assumption)),HB.out.trans (hHeld.1.mono (by have:=HB.out.size;omega))⟩
     ·have hw:=fun W=>words_o o 4 o.wd W
      simp only[h0] at hw;unfold obA at hw;have HW:=hid hw;clear hw;have hc:=fun W=>caps_o o W
      simp only[h3] at hc;unfold obA at hc;have HC:=hid hc;clear hc;have hm:=fun W=>ringMod_o o (of_decide_eq_true h1) (of_decide_eq_true h2) W
      unfold obA at hm;have HM:=hid hm;clear hm;unfold obA;go_enter Tryz.func43,Tryz.ntmps43;go_wp2_with fail;refine wp_region_held_drew (S:=(QShC0 W0 n o)) (by kernel_rfl) hSd (fun hHeld=>?_);generalize W0.drew=wd at hHeld ⊢;have hHeld:(QShC0 W0 n o) wd:=hHeld;refine tk2 0 1 ?_;refine tkH 2 ?_;refine clH 3 (fun K hK=>?_);go_simp;refine(HW.out _).mono ?_;rintro ex wx ⟨rfl,hbx⟩
      have hSx:(QShC0 W0 n o) wx:=by
       obtain⟨h0,u0,u1,u2,u3,u4,u5,u6,u7⟩:=hHeld;have hk:∀ {i:Nat} {u:Value},_→wx.cell? ⟨n,i,none⟩=some u:=fun {i u} hc=>(hbx.cell (p:=⟨n,i,none⟩) (cell_lt hc)).trans hc
       exact⟨h0.trans (hbx.mono h0.size),hk u0,hk u1,hk u2,hk u3,hk u4,hk u5,hk u6,hk u7⟩
      refine kH hK hSx fun hHeld=>?_
      clear hK K;refine tk4 4 5 6 7 ?_;refine tk4 8 9 10 11 ?_;refine tk4 12 13 14 15 ?_;refine clH 16 (fun K hK=>?_);go_simp;refine(HC.out _).mono ?_;rintro ex wx ⟨rfl,hbx⟩
      have hSx:(QShC0 W0 n o) wx:=by
       obtain⟨h0,u0,u1,u2,u3,u4,u5,u6,u7⟩:=hHeld;have hk:∀ {i:Nat} {u:Value},_→wx.cell? ⟨n,i,none⟩=some u:=fun {i u} hc=>(hbx.cell (p:=⟨n,i,none⟩) (cell_lt hc)).trans hc
       exact⟨h0.trans (hbx.mono h0.size),hk u0,hk u1,hk u2,hk u3,hk u4,hk u5,hk u6,hk u7⟩
      refine kH hK hSx fun hHeld=>?_
      clear hK K;refine tk4 17 18 19 20 ?_;refine tkH 21 ?_;refine clH 22 (fun K hK=>?_);go_simp;refine(HM.out _).mono ?_;rintro ex wx ⟨rfl,hbx⟩
      have hSx:(QShC0 W0 n o) wx:=by
       obtain⟨h0,u0,u1,u2,u3,u4,u5,u6,u7⟩:=hHeld;have hk:∀ {i:Nat} {u:Value},_→wx.cell? ⟨n,i,none⟩=some u:=fun {i u} hc=>(hbx.cell (p:=⟨n,i,none⟩) (cell_lt hc)).trans hc
       exact⟨h0.trans (hbx.mono h0.size),hk u0,hk u1,hk u2,hk u3,hk u4,hk u5,hk u6,hk u7⟩
      refine kH hK hSx fun hHeld=>?_
      clear hK K;refine tk2 23 24 ?_;refine tkH 25 ?_;refine dnH ?_;clear hSd;go_wp2_with fail;go_ret;exact⟨ret_bool (by have p0:wordsR o 4 o.wd:=(by first | exact of_decide_eq_true h0 | exact of_decide_eq_false h0 | simpa using h0 | (have hh:=h0;simp at hh;omega));have p1:2≤o.s:=(by first | exact of_decide_eq_true h1 | exact of_decide_eq_false h1 | simpa using h1 | (have hh:=h1;simp at hh;omega));have p2:o.s≤16:=(by first | exact of_decide_eq_true h2 | exact of_decide_eq_false h2 | simpa using h2 | (have hh:=h2;simp at hh;omega));have p3:capsR o:=(by first | exact of_decide_eq_true h3 | exact of_decide_eq_false h3 | simpa using h3 | (have hh:=h3;simp at hh;omega));have p4:o.st<o.s*1048576:=(by first | exact of_decide_eq_true h4 | exact of_decide_eq_false h4 | simpa using h4 | (have hh:=h4;simp at hh;omega));have q:decide (ringR o)=true:=(by rw[decide_eq_true_iff];unfold ringR;first | omega | simp[p0,p1,p2,p3,p4]);rw[q];(try assumption)),HB.out.trans (hHeld.1.mono (by have:=HB.out.size;omega))⟩
theorem fifoRight_o (o:Ob) (w:World):Calls Tryz.prog 45 #[.agg (obA o)] w fun e w'=>e=.returned (.bool (decide (fifoR o)))∧Below w.heap.size w w':=by
 obtain⟨W0,hW0⟩:∃ W0,w.alloc (.cells #[.int .i64 o.k,.int .i64 o.wd,.int .i64 o.s,.int .i64 o.c,.int .u32 o.st,.slice o.I o.ni o.ci,.int .i64 o.wr,.slice o.R o.nr o.cr] 26)=W0:=⟨_,rfl⟩;have hn:=ObX.new w o;have hB:=(Below.refl w.heap.size w).alloc (Nat.le_refl _) (.cells (obA o) 26);unfold obA at hn hB;rw[hW0] at hn hB;obtain⟨n,hn0⟩:∃ n,w.heap.size=n:=⟨_,rfl⟩;rw[hn0] at hn hB;have hSd:(QShC0 W0 n o) W0.drew:=⟨(Below.refl W0.heap.size W0).drew,(ObX.kept hn (Below.refl W0.heap.size W0).drew).cells⟩;have HN:=hid hn;have HB:=hid hB;clear hn hB;rw[hn0]
 rcases h0:(decide (wordsR o 6 0)) with _ | _
 ·have hw:=fun W=>words_o o 6 0 W
  simp only[h0] at hw;unfold obA at hw;have HW:=hid hw;clear hw;unfold obA;go_enter Tryz.func45,Tryz.ntmps45;go_wp2_with fail;refine wp_region_held_drew (S:=(QShC0 W0 n o)) (by kernel_rfl) hSd (fun hHeld=>?_);generalize W0.drew=wd at hHeld ⊢;have hHeld:(QShC0 W0 n o) wd:=hHeld;refine tkH 0 ?_;refine clH 1 (fun K hK=>?_);go_simp;refine(HW.out _).mono ?_;rintro ex wx ⟨rfl,hbx⟩
  have hSx:(QShC0 W0 n o) wx:=by
   obtain⟨h0,u0,u1,u2,u3,u4,u5,u6,u7⟩:=hHeld;have hk:∀ {i:Nat} {u:Value},_→wx.cell? ⟨n,i,none⟩=some u:=fun {i u} hc=>(hbx.cell (p:=⟨n,i,none⟩) (cell_lt hc)).trans hc
   exact⟨h0.trans (hbx.mono h0.size),hk u0,hk u1,hk u2,hk u3,hk u4,hk u5,hk u6,hk u7⟩
  refine kH hK hSx fun hHeld=>?_
  clear hK K;refine tkH 2 ?_;refine sk2 3 4 ?_;refine skH 5 ?_;refine tk2 6 7 ?_;refine sk2 8 9 ?_;refine skH 10 ?_;refine tk2 11 12 ?_;refine sk2 13 14 ?_;refine skH 15 ?_;refine tk2 16 17 ?_;refine sk4 18 19 20 21 ?_;refine skH 22 ?_;refine tk2 23 24 ?_;refine sk4 25 26 27 28 ?_;refine tk2 29 30 ?_;refine dnH ?_;clear hSd;go_wp2_with fail;go_ret;exact⟨ret_bool (by have p0:¬ (wordsR o 6 0):=(by first | exact of_decide_eq_true h0 | exact of_decide_eq_false h0 | simpa using h0 | (have hh:=h0;simp at hh;omega));have q:decide (fifoR o)=false:=(by rw[decide_eq_false_iff_not];unfold fifoR;first | omega | simp[p0]);rw[q];(try assumption)),HB.out.trans (hHeld.1.mono (by have:=HB.out.size;omega))⟩
 ·rcases h1:(decide (1≤o.s)) with _ | _
  ·have hw:=fun W=>words_o o 6 0 W
   simp only[h0] at hw;unfold obA at hw;have HW:=hid hw;clear hw;unfold obA;go_enter Tryz.func45,Tryz.ntmps45;go_wp2_with fail;refine wp_region_held_drew (S:=(QShC0 W0 n o)) (by kernel_rfl) hSd (fun hHeld=>?_);generalize W0.drew=wd at hHeld ⊢;have hHeld:(QShC0 W0 n o) wd:=hHeld;refine tkH 0 ?_;refine clH 1 (fun K hK=>?_);go_simp;refine(HW.out _).mono ?_;rintro ex wx ⟨rfl,hbx⟩
   have hSx:(QShC0 W0 n o) wx:=by
    obtain⟨h0,u0,u1,u2,u3,u4,u5,u6,u7⟩:=hHeld;have hk:∀ {i:Nat} {u:Value},_→wx.cell? ⟨n,i,none⟩=some u:=fun {i u} hc=>(hbx.cell (p:=⟨n,i,none⟩) (cell_lt hc)).trans hc
    exact⟨h0.trans (hbx.mono h0.size),hk u0,hk u1,hk u2,hk u3,hk u4,hk u5,hk u6,hk u7⟩
   refine kH hK hSx fun hHeld=>?_
   clear hK K;refine tk4 2 3 4 5 ?_;refine tk2 6 7 ?_;refine sk2 8 9 ?_;refine skH 10 ?_;refine tk2 11 12 ?_;refine sk2 13 14 ?_;refine skH 15 ?_;refine tk2 16 17 ?_;refine sk4 18 19 20 21 ?_;refine skH 22 ?_;refine tk2 23 24 ?_;refine sk4 25 26 27 28 ?_;refine tk2 29 30 ?_;refine dnH ?_;clear hSd;go_wp2_with fail;go_ret;exact⟨ret_bool (by have p0:wordsR o 6 0:=(by first | exact of_decide_eq_true h0 | exact of_decide_eq_false h0 | simpa using h0 | (have hh:=h0;simp at hh;omega));have p1:¬ (1≤o.s):=(by first | exact of_decide_eq_true h1 | exact of_decide_eq_false h1 | simpa using h1 | (have hh:=h1;simp at hh;omega));have q:decide (fifoR o)=false:=(by rw[decide_eq_false_iff_not];unfold fifoR;first | omega | simp[p0,p1]);rw[q];(try assumption)),HB.out.trans (hHeld.1.mono (by have:=HB.out.size;omega))⟩
  ·rcases h2:(decide (o.s≤16)) with _ | _
   ·have hw:=fun W=>words_o o 6 0 W
    simp only[h0] at hw;unfold obA at hw;have HW:=hid hw;clear hw;unfold obA;go_enter Tryz.func45,Tryz.ntmps45;go_wp2_with fail;refine wp_region_held_drew (S:=(QShC0 W0 n o)) (by kernel_rfl) hSd (fun hHeld=>?_);generalize W0.drew=wd at hHeld ⊢;have hHeld:(QShC0 W0 n o) wd:=hHeld;refine tkH 0 ?_;refine clH 1 (fun K hK=>?_);go_simp;refine(HW.out _).mono ?_;rintro ex wx ⟨rfl,hbx⟩
    have hSx:(QShC0 W0 n o) wx:=by
     obtain⟨h0,u0,u1,u2,u3,u4,u5,u6,u7⟩:=hHeld;have hk:∀ {i:Nat} {u:Value},_→wx.cell? ⟨n,i,none⟩=some u:=fun {i u} hc=>(hbx.cell (p:=⟨n,i,none⟩) (cell_lt hc)).trans hc
     exact⟨h0.trans (hbx.mono h0.size),hk u0,hk u1,hk u2,hk u3,hk u4,hk u5,hk u6,hk u7⟩
    refine kH hK hSx fun hHeld=>?_
    clear hK K;refine tk4 2 3 4 5 ?_;refine tk4 6 7 8 9 ?_;refine tk2 10 11 ?_;refine tkH 12 ?_;refine sk2 13 14 ?_;refine skH 15 ?_;refine tk2 16 17 ?_;refine sk4 18 19 20 21 ?_;refine skH 22 ?_;refine tk2 23 24 ?_;refine sk4 25 26 27 28 ?_;refine tk2 29 30 ?_;refine dnH ?_;clear hSd;go_wp2_with fail;go_ret;exact⟨ret_bool (by have p0:wordsR o 6 0:=(by first | exact of_decide_eq_true h0 | exact of_decide_eq_false h0 | simpa using h0 | (have hh:=h0;simp at hh;omega));have p1:1≤o.s:=(by first | exact of_decide_eq_true h1 | exact of_decide_eq_false h1 | simpa using h1 | (have hh:=h1;simp at hh;omega));have p2:¬ (o.s≤16):=(by first | exact of_decide_eq_true h2 | exact of_decide_eq_false h2 | simpa using h2 | (have hh:=h2;simp at hh;omega));have q:decide (fifoR o)=false:=(by rw[decide_eq_false_iff_not];unfold fifoR;first | omega | simp[p0,p1,p2]);rw[q];(try assumption)),HB.out.trans (hHeld.1.mono (by have:=HB.out.size;omega))⟩
   ·rcases h3:(o.c==0) with _ | _
    ·have hw:=fun W=>words_o o 6 0 W
     simp only[h0] at hw;unfold obA at hw;have HW:=hid hw;clear hw;unfold obA;go_enter Tryz.func45,Tryz.ntmps45;go_wp2_with fail;refine wp_region_held_drew (S:=(QShC0 W0 n o)) (by kernel_rfl) hSd (fun hHeld=>?_);generalize W0.drew=wd at hHeld ⊢;have hHeld:(QShC0 W0 n o) wd:=hHeld;refine tkH 0 ?_;refine clH 1 (fun K hK=>?_);go_simp;refine(HW.out _).mono ?_;rintro ex wx ⟨rfl,hbx⟩
     have hSx:(QShC0 W0 n o) wx:=by
      obtain⟨h0,u0,u1,u2,u3,u4,u5,u6,u7⟩:=hHeld;have hk:∀ {i:Nat} {u:Value},_→wx.cell? ⟨n,i,none⟩=some u:=fun {i u} hc=>(hbx.cell (p:=⟨n,i,none⟩) (cell_lt hc)).trans hc
      exact⟨h0.trans (hbx.mono h0.size),hk u0,hk u1,hk u2,hk u3,hk u4,hk u5,hk u6,hk u7⟩
     refine kH hK hSx fun hHeld=>?_
     clear hK K;refine tk4 2 3 4 5 ?_;refine tk4 6 7 8 9 ?_;refine tk4 10 11 12 13 ?_;refine tk4 14 15 16 17 ?_;refine sk4 18 19 20 21 ?_;refine skH 22 ?_;refine tk2 23 24 ?_;refine sk4 25 26 27 28 ?_;refine tk2 29 30 ?_;refine dnH ?_;clear hSd;go_wp2_with fail;go_ret;exact⟨ret_bool (by have p0:wordsR o 6 0:=(by first | exact of_decide_eq_true h0 | exact of_decide_eq_false h0 | simpa using h0 | (have hh:=h0;simp at hh;omega));have p1:1≤o.s:=(by first | exact of_decide_eq_true h1 | exact of_decide_eq_false h1 | simpa using h1 | (have hh:=h1;simp at hh;omega));have p2:o.s≤16:=(by first | exact of_decide_eq_true h2 | exact of_decide_eq_false h2 | simpa using h2 | (have hh:=h2;simp at hh;omega));have p3:¬ (o.c=0):=(by first | exact of_decide_eq_true h3 | exact of_decide_eq_false h3 | simpa using h3 | (have hh:=h3;simp at hh;omega));have q:decide (fifoR o)=false:=(by rw[decide_eq_false_iff_not];unfold fifoR;first | omega | simp[p0,p1,p2,p3]);rw[q];(try assumption)),HB.out.trans (hHeld.1.mono (by have:=HB.out.size;omega))⟩
    ·rcases h4:(decide (o.st<2*o.s)) with _ | _
     ·have hw:=fun W=>words_o o 6 0 W
      simp only[h0] at hw;unfold obA at hw;have HW:=hid hw;clear hw;have hm:=fun W=>fifoMod_o o (of_decide_eq_true h1) (of_decide_eq_true h2) W
      unfold obA at hm;have HM:=hid hm;clear hm;unfold obA;go_enter Tryz.func45,Tryz.ntmps45;go_wp2_with fail;refine wp_region_held_drew (S:=(QShC0 W0 n o)) (by kernel_rfl) hSd (fun hHeld=>?_);generalize W0.drew=wd at hHeld ⊢;have hHeld:(QShC0 W0 n o) wd:=hHeld;refine tkH 0 ?_;refine clH 1 (fun K hK=>?_);go_simp;refine(HW.out _).mono ?_;rintro ex wx ⟨rfl,hbx⟩
      have hSx:(QShC0 W0 n o) wx:=by
       obtain⟨h0,u0,u1,u2,u3,u4,u5,u6,u7⟩:=hHeld;have hk:∀ {i:Nat} {u:Value},_→wx.cell? ⟨n,i,none⟩=some u:=fun {i u} hc=>(hbx.cell (p:=⟨n,i,none⟩) (cell_lt hc)).trans hc
       exact⟨h0.trans (hbx.mono h0.size),hk u0,hk u1,hk u2,hk u3,hk u4,hk u5,hk u6,hk u7⟩
      refine kH hK hSx fun hHeld=>?_
      clear hK K;refine tk4 2 3 4 5 ?_;refine tk4 6 7 8 9 ?_;refine tk4 10 11 12 13 ?_;refine tk4 14 15 16 17 ?_;refine tk2 18 19 ?_;refine tkH 20 ?_;refine clH 21 (fun K hK=>?_);go_simp;refine(HM.out _).mono ?_;rintro ex wx ⟨rfl,hbx⟩
      have hSx:(QShC0 W0 n o) wx:=by
       obtain⟨h0,u0,u1,u2,u3,u4,u5,u6,u7⟩:=hHeld;have hk:∀ {i:Nat} {u:Value},_→wx.cell? ⟨n,i,none⟩=some u:=fun {i u} hc=>(hbx.cell (p:=⟨n,i,none⟩) (cell_lt hc)).trans hc
       exact⟨h0.trans (hbx.mono h0.size),hk u0,hk u1,hk u2,hk u3,hk u4,hk u5,hk u6,hk u7⟩
      refine kH hK hSx fun hHeld=>?_
      clear hK K;refine tk2 22 23 ?_;refine tkH 24 ?_;refine sk4 25 26 27 28 ?_;refine tk2 29 30 ?_;refine dnH ?_;clear hSd;go_wp2_with fail;go_ret;exact⟨ret_bool (by have p0:wordsR o 6 0:=(by first | exact of_decide_eq_true h0 | exact of_decide_eq_false h0 | simpa using h0 | (have hh:=h0;simp at hh;omega));have p1:1≤o.s:=(by first | exact of_decide_eq_true h1 | exact of_decide_eq_false h1 | simpa using h1 | (have hh:=h1;simp at hh;omega));have p2:o.s≤16:=(by first | exact of_decide_eq_true h2 | exact of_decide_eq_false h2 | simpa using h2 | (have hh:=h2;simp at hh;omega));have p3:o.c=0:=(by first | exact of_decide_eq_true h3 | exact of_decide_eq_false h3 | simpa using h3 | (have hh:=h3;simp at hh;omega));have p4:¬ (o.st<2*o.s):=(by first | exact of_decide_eq_true h4 | exact of_decide_eq_false h4 | simpa using h4 | (have hh:=h4;simp at hh;omega));have q:decide (fifoR o)=false:=(by rw[decide_eq_false_iff_not];unfold fifoR;first | omega | simp[p0,p1,p2,p3,p4]);rw[q];(try assumption)),HB.out.trans (hHeld.1.mono (by have:=HB.out.size;omega))⟩
     ·rcases h5:(((o.nr:Int)==1)) with _ | _
      ·have hw:=fun W=>words_o o 6 0 W
       simp only[h0] at hw;unfold obA at hw;have HW:=hid hw;clear hw;have hm:=fun W=>fifoMod_o o (of_decide_eq_true h1) (of_decide_eq_true h2) W
       unfold obA at hm;have HM:=hid hm;clear hm;unfold obA;go_enter Tryz.func45,Tryz.ntmps45;go_wp2_with fail;refine wp_region_held_drew (S:=(QShC0 W0 n o)) (by kernel_rfl) hSd (fun hHeld=>?_);generalize W0.drew=wd at hHeld ⊢;have hHeld:(QShC0 W0 n o) wd:=hHeld;refine tkH 0 ?_;refine clH 1 (fun K hK=>?_);go_simp;refine(HW.out _).mono ?_;rintro ex wx ⟨rfl,hbx⟩
       have hSx:(QShC0 W0 n o) wx:=by
        obtain⟨h0,u0,u1,u2,u3,u4,u5,u6,u7⟩:=hHeld;have hk:∀ {i:Nat} {u:Value},_→wx.cell? ⟨n,i,none⟩=some u:=fun {i u} hc=>(hbx.cell (p:=⟨n,i,none⟩) (cell_lt hc)).trans hc
        exact⟨h0.trans (hbx.mono h0.size),hk u0,hk u1,hk u2,hk u3,hk u4,hk u5,hk u6,hk u7⟩
       refine kH hK hSx fun hHeld=>?_
       clear hK K;refine tk4 2 3 4 5 ?_;refine tk4 6 7 8 9 ?_;refine tk4 10 11 12 13 ?_;refine tk4 14 15 16 17 ?_;refine tk2 18 19 ?_;refine tkH 20 ?_;refine clH 21 (fun K hK=>?_);go_simp;refine(HM.out _).mono ?_;rintro ex wx ⟨rfl,hbx⟩
       have hSx:(QShC0 W0 n o) wx:=by
        obtain⟨h0,u0,u1,u2,u3,u4,u5,u6,u7⟩:=hHeld;have hk:∀ {i:Nat} {u:Value},_→wx.cell? ⟨n,i,none⟩=some u:=fun {i u} hc=>(hbx.cell (p:=⟨n,i,none⟩) (cell_lt hc)).trans hc
        exact⟨h0.trans (hbx.mono h0.size),hk u0,hk u1,hk u2,hk u3,hk u4,hk u5,hk u6,hk u7⟩
       refine kH hK hSx fun hHeld=>?_
       clear hK K;refine tk4 22 23 24 25 ?_;refine tk4 26 27 28 29 ?_;refine tkH 30 ?_;refine dnH ?_;clear hSd;go_wp2_with fail;go_ret;exact⟨ret_bool (by have p0:wordsR o 6 0:=(by first | exact of_decide_eq_true h0 | exact of_decide_eq_false h0 | simpa using h0 | (have hh:=h0;simp at hh;omega));have p1:1≤o.s:=(by first | exact of_decide_eq_true h1 | exact of_decide_eq_false h1 | simpa using h1 | (have hh:=h1;simp at hh;omega));have p2:o.s≤16:=(by first | exact of_decide_eq_true h2 | exact of_decide_eq_false h2 | simpa using h2 | (have hh:=h2;simp at hh;omega));have p3:o.c=0:=(by first | exact of_decide_eq_true h3 | exact of_decide_eq_false h3 | simpa using h3 | (have hh:=h3;simp at hh;omega));have p4:o.st<2*o.s:=(by first | exact of_decide_eq_true h4 | exact of_decide_eq_false h4 | simpa using h4 | (have hh:=h4;simp at hh;omega));have p5:¬ (o.nr=1):=(by first | exact of_decide_eq_true h5 | exact of_decide_eq_false h5 | simpa using h5 | (have hh:=h5;simp at hh;omega));have q:decide (fifoR o)=false:=(by rw[decide_eq_false_iff_not];unfold fifoR;first | omega | simp[p0,p1,p2,p3,p4,p5]);rw[q];(try assumption)),HB.out.trans (hHeld.1.mono (by have:=HB.out.size;omega))⟩
      ·have hw:=fun W=>words_o o 6 0 W
       simp only[h0] at hw;unfold obA at hw;have HW:=hid hw;clear hw;have hm:=fun W=>fifoMod_o o (of_decide_eq_true h1) (of_decide_eq_true h2) W
       unfold obA at hm;have HM:=hid hm;clear hm;unfold obA;go_enter Tryz.func45,Tryz.ntmps45;go_wp2_with fail;refine wp_region_held_drew (S:=(QShC0 W0 n o)) (by kernel_rfl) hSd (fun hHeld=>?_);generalize W0.drew=wd at hHeld ⊢;have hHeld:(QShC0 W0 n o) wd:=hHeld;refine tkH 0 ?_;refine clH 1 (fun K hK=>?_);go_simp;refine(HW.out _).mono ?_;rintro ex wx ⟨rfl,hbx⟩
       have hSx:(QShC0 W0 n o) wx:=by
        obtain⟨h0,u0,u1,u2,u3,u4,u5,u6,u7⟩:=hHeld;have hk:∀ {i:Nat} {u:Value},_→wx.cell? ⟨n,i,none⟩=some u:=fun {i u} hc=>(hbx.cell (p:=⟨n,i,none⟩) (cell_lt hc)).trans hc
        exact⟨h0.trans (hbx.mono h0.size),hk u0,hk u1,hk u2,hk u3,hk u4,hk u5,hk u6,hk u7⟩
       refine kH hK hSx fun hHeld=>?_
       clear hK K;refine tk4 2 3 4 5 ?_;refine tk4 6 7 8 9 ?_;refine tk4 10 11 12 13 ?_;refine tk4 14 15 16 17 ?_;refine tk2 18 19 ?_;refine tkH 20 ?_;refine clH 21 (fun K hK=>?_);go_simp;refine(HM.out _).mono ?_;rintro ex wx ⟨rfl,hbx⟩
       have hSx:(QShC0 W0 n o) wx:=by
        obtain⟨h0,u0,u1,u2,u3,u4,u5,u6,u7⟩:=hHeld;have hk:∀ {i:Nat} {u:Value},_→wx.cell? ⟨n,i,none⟩=some u:=fun {i u} hc=>(hbx.cell (p:=⟨n,i,none⟩) (cell_lt hc)).trans hc
        exact⟨h0.trans (hbx.mono h0.size),hk u0,hk u1,hk u2,hk u3,hk u4,hk u5,hk u6,hk u7⟩
       refine kH hK hSx fun hHeld=>?_
       clear hK K;refine tk4 22 23 24 25 ?_;refine tk4 26 27 28 29 ?_;refine tkH 30 ?_;refine dnH ?_;clear hSd;go_wp2_with fail;go_ret;exact⟨ret_bool (by have p0:wordsR o 6 0:=(by first | exact of_decide_eq_true h0 | exact of_decide_eq_false h0 | simpa using h0 | (have hh:=h0;simp at hh;omega));have p1:1≤o.s:=(by first | exact of_decide_eq_true h1 | exact of_decide_eq_false h1 | simpa using h1 | (have hh:=h1;simp at hh;omega));have p2:o.s≤16:=(by first | exact of_decide_eq_true h2 | exact of_decide_eq_false h2 | simpa using h2 | (have hh:=h2;simp at hh;omega));have p3:o.c=0:=(by first | exact of_decide_eq_true h3 | exact of_decide_eq_false h3 | simpa using h3 | (have hh:=h3;simp at hh;omega));have p4:o.st<2*o.s:=(by first | exact of_decide_eq_true h4 | exact of_decide_eq_false h4 | simpa using h4 | (have hh:=h4;simp at hh;omega));have p5:o.nr=1:=(by first | exact of_decide_eq_true h5 | exact of_decide_eq_false h5 | simpa using h5 | (have hh:=h5;simp at hh;omega));have q:decide (fifoR o)=true:=(by rw[decide_eq_true_iff];unfold fifoR;first | omega | simp[p0,p1,p2,p3,p4,p5]);rw[q];(try assumption)),HB.out.trans (hHeld.1.mono (by have:=HB.out.size;omega))⟩
end Go.Proofs.YtolmpehgeinlkaaGreatDoor
