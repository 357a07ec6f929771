/- Which objects may be: ring.Right, fifo.Right, object.Shaped. -/
import Derived.Test.YtabfcjohdgjkoaaGreatDoorZcShB
namespace Go.Proofs.YtabfcjohdgjkoaaGreatDoor
open Go.RowKit
open Go.Lib (hid)
attribute [local go_sem] Oper.semAt_some
set_option maxHeartbeats 1000000
set_option maxRecDepth 100000
abbrev bs (a0:World) (a1:Nat) (a2:Ob) (w':World):Prop:=Below a0.heap.size a0 w'∧w'.cell? ⟨a1,0,none⟩=some (.int .i64 a2.k)∧w'.cell? ⟨a1,1,none⟩=some (.int .i64 a2.wd)∧w'.cell? ⟨a1,2,none⟩=some (.int .i64 a2.s)∧w'.cell? ⟨a1,3,none⟩=some (.int .i64 a2.c)∧w'.cell? ⟨a1,4,none⟩=some (.int .u32 a2.st)∧w'.cell? ⟨a1,5,none⟩=some (.slice a2.I a2.ni a2.ci)∧w'.cell? ⟨a1,6,none⟩=some (.int .i64 a2.wr)∧w'.cell? ⟨a1,7,none⟩=some (.slice a2.R a2.nr a2.cr)
theorem eR (o:Ob) (h1:2≤o.s) (h2:o.s≤16) (w:World):Calls Tryz.prog 195 #[.agg (af o)] w fun e w'=>e=.returned (.int .u32 (o.s*1048576))∧Below w.heap.size w w':=by
 have e1:IntKind.u32.wrap o.s=o.s:=aK (by omega) (by omega);have e2:IntKind.u32.wrap (o.s*1048576)=o.s*1048576:=aK (by omega) (by omega);have hn:=ObX.new w o;have hB:=bK w (.cells (af o) 26);obtain⟨n,aI⟩:∃ n,w.heap.size=n:=⟨_,rfl⟩;rw[aI] at hn hB;have HN:=hid hn;have HB:=hid hB;clear hn hB;rw[aI];unfold af at *;go_enter Tryz.func195,Tryz.ntmps195;go_wp2_with fail;go_ret;exact⟨rfl,HB.out⟩
theorem dq (o:Ob) (h1:1≤o.s) (h2:o.s≤16) (w:World):Calls Tryz.prog 196 #[.agg (af o)] w fun e w'=>e=.returned (.int .u32 (2*o.s))∧Below w.heap.size w w':=by
 have e1:IntKind.u32.wrap o.s=o.s:=aK (by omega) (by omega);have e2:IntKind.u32.wrap (2*o.s)=2*o.s:=aK (by omega) (by omega);have hn:=ObX.new w o;have hB:=bK w (.cells (af o) 26);obtain⟨n,aI⟩:∃ n,w.heap.size=n:=⟨_,rfl⟩;rw[aI] at hn hB;have HN:=hid hn;have HB:=hid hB;clear hn hB;rw[aI];unfold af at *;go_enter Tryz.func196,Tryz.ntmps196;go_wp2_with fail;go_ret;exact⟨rfl,HB.out⟩
theorem jA (o:Ob) (w:World):Calls Tryz.prog 138 #[.agg (af o)] w fun e w'=>e=.returned (.bool (decide (ce o)))∧Below w.heap.size w w':=by
 obtain⟨W0,DX⟩:∃ W0,w.alloc (.cells #[.int .i64 o.k,.int .i64 o.wd,.int .i64 o.s,.int .i64 o.c,.int .u32 o.st,.slice o.I o.ni o.ci,.int .i64 o.wr,.slice o.R o.nr o.cr] 26)=W0:=⟨_,rfl⟩;have hn:=ObX.new w o;have hB:=bK w (.cells (af o) 26);unfold af at hn hB;rw[DX] at hn hB;obtain⟨n,aI⟩:∃ n,w.heap.size=n:=⟨_,rfl⟩;rw[aI] at hn hB;have dc:(bs W0 n o) W0.drew:=⟨(Below.refl W0.heap.size W0).drew,(ObX.kept hn (Below.refl W0.heap.size W0).drew).cells⟩;have HN:=hid hn;have HB:=hid hB;clear hn hB;rw[aI]
 rcases h0:(decide (ax o 4 o.wd)) with _ | _
 ·have hw:=fun W=>cB o 4 o.wd W
  simp only[h0] at hw;unfold af at hw;have HW:=hid hw;clear hw;unfold af;go_enter Tryz.func138,Tryz.ntmps138;go_wp2_with fail;refine wp_region_held_drew (S:=(bs W0 n o)) (by kernel_rfl) dc (fun hHeld=>?_);generalize W0.drew=wd at hHeld ⊢;have hHeld:(bs W0 n o) wd:=hHeld;refine bv 0 1 ?_;refine aX 2 ?_;refine aV 3 (fun K hK=>?_);go_simp;refine(HW.out _).mono ?_;rintro ex wx ⟨rfl,ar⟩
  have aw:(bs W0 n o) wx:=by
   obtain⟨h0,u0,u1,u2,u3,u4,u5,u6,u7⟩:=hHeld;have hk:∀ {i:Nat} {u:Value},_→wx.cell? ⟨n,i,none⟩=some u:=fun {i u} hc=>(ar.cell (p:=⟨n,i,none⟩) (aM hc)).trans hc
   exact⟨h0.trans (ar.mono h0.size),hk u0,hk u1,hk u2,hk u3,hk u4,hk u5,hk u6,hk u7⟩
  refine kH hK aw fun hHeld=>?_
  clear hK K;refine aX 4 ?_;refine tD 5 6 ?_;refine mQ 7 ?_;refine bv 8 9 ?_;refine tD 10 11 ?_;refine mQ 12 ?_;refine bv 13 14 ?_;refine tD 15 16 ?_;refine bv 17 18 ?_;refine jZ 19 20 21 22 ?_;refine mQ 23 ?_;refine bv 24 25 ?_;refine aY ?_;clear dc;go_wp2_with fail;go_ret;exact⟨az (by have p0:¬ (ax o 4 o.wd):=(by first | exact of_decide_eq_true h0 | exact of_decide_eq_false h0 | simpa using h0 | (have hh:=h0;simp at hh;omega));have q:decide (ce o)=false:=(by rw[decide_eq_false_iff_not];unfold ce;first | omega | simp[p0]);rw[q];(try assumption)),HB.out.trans (hHeld.1.mono (by have:=HB.out.size;omega))⟩
 ·rcases h1:(decide (2≤o.s)) with _ | _
  ·have hw:=fun W=>cB o 4 o.wd W
   simp only[h0] at hw;unfold af at hw;have HW:=hid hw;clear hw;unfold af;go_enter Tryz.func138,Tryz.ntmps138;go_wp2_with fail;refine wp_region_held_drew (S:=(bs W0 n o)) (by kernel_rfl) dc (fun hHeld=>?_);generalize W0.drew=wd at hHeld ⊢;have hHeld:(bs W0 n o) wd:=hHeld;refine bv 0 1 ?_;refine aX 2 ?_;refine aV 3 (fun K hK=>?_);go_simp;refine(HW.out _).mono ?_;rintro ex wx ⟨rfl,ar⟩
   have aw:(bs W0 n o) wx:=by
    obtain⟨h0,u0,u1,u2,u3,u4,u5,u6,u7⟩:=hHeld;have hk:∀ {i:Nat} {u:Value},_→wx.cell? ⟨n,i,none⟩=some u:=fun {i u} hc=>(ar.cell (p:=⟨n,i,none⟩) (aM hc)).trans hc
    exact⟨h0.trans (ar.mono h0.size),hk u0,hk u1,hk u2,hk u3,hk u4,hk u5,hk u6,hk u7⟩
   refine kH hK aw fun hHeld=>?_
   clear hK K;refine ai 4 5 6 7 ?_;refine bv 8 9 ?_;refine tD 10 11 ?_;refine mQ 12 ?_;refine bv 13 14 ?_;refine tD 15 16 ?_;refine bv 17 18 ?_;refine jZ 19 20 21 22 ?_;refine mQ 23 ?_;refine bv 24 25 ?_;refine aY ?_;clear dc;go_wp2_with fail;go_ret;exact⟨az (by have p0:ax o 4 o.wd:=(by first | exact of_decide_eq_true h0 | exact of_decide_eq_false h0 | simpa using h0 | (have hh:=h0;simp at hh;omega));have p1:¬ (2≤o.s):=(by first | exact of_decide_eq_true h1 | exact of_decide_eq_false h1 | simpa using h1 | (have hh:=h1;simp at hh;omega));have q:decide (ce o)=false:=(by rw[decide_eq_false_iff_not];unfold ce;first | omega | simp[p0,p1]);rw[q];(try assumption)),HB.out.trans (hHeld.1.mono (by have:=HB.out.size;omega))⟩
  ·rcases h2:(decide (o.s≤16)) with _ | _
   ·have hw:=fun W=>cB o 4 o.wd W
    simp only[h0] at hw;unfold af at hw;have HW:=hid hw;clear hw;unfold af;go_enter Tryz.func138,Tryz.ntmps138;go_wp2_with fail;refine wp_region_held_drew (S:=(bs W0 n o)) (by kernel_rfl) dc (fun hHeld=>?_);generalize W0.drew=wd at hHeld ⊢;have hHeld:(bs W0 n o) wd:=hHeld;refine bv 0 1 ?_;refine aX 2 ?_;refine aV 3 (fun K hK=>?_);go_simp;refine(HW.out _).mono ?_;rintro ex wx ⟨rfl,ar⟩
    have aw:(bs W0 n o) wx:=by
     obtain⟨h0,u0,u1,u2,u3,u4,u5,u6,u7⟩:=hHeld;have hk:∀ {i:Nat} {u:Value},_→wx.cell? ⟨n,i,none⟩=some u:=fun {i u} hc=>(ar.cell (p:=⟨n,i,none⟩) (aM hc)).trans hc
     exact⟨h0.trans (ar.mono h0.size),hk u0,hk u1,hk u2,hk u3,hk u4,hk u5,hk u6,hk u7⟩
    refine kH hK aw fun hHeld=>?_
    clear hK K;refine ai 4 5 6 7 ?_;refine ai 8 9 10 11 ?_;refine bv 12 13 ?_;refine aX 14 ?_;refine tD 15 16 ?_;refine bv 17 18 ?_;refine jZ 19 20 21 22 ?_;refine mQ 23 ?_;refine bv 24 25 ?_;refine aY ?_;clear dc;go_wp2_with fail;go_ret;exact⟨az (by have p0:ax o 4 o.wd:=(by first | exact of_decide_eq_true h0 | exact of_decide_eq_false h0 | simpa using h0 | (have hh:=h0;simp at hh;omega));have p1:2≤o.s:=(by first | exact of_decide_eq_true h1 | exact of_decide_eq_false h1 | simpa using h1 | (have hh:=h1;simp at hh;omega));have p2:¬ (o.s≤16):=(by first | exact of_decide_eq_true h2 | exact of_decide_eq_false h2 | simpa using h2 | (have hh:=h2;simp at hh;omega));have q:decide (ce o)=false:=(by rw[decide_eq_false_iff_not];unfold ce;first | omega | simp[p0,p1,p2]);rw[q];(try assumption)),HB.out.trans (hHeld.1.mono (by have:=HB.out.size;omega))⟩
   ·rcases h3:(decide (dB o)) with _ | _
    ·have hw:=fun W=>cB o 4 o.wd W
     simp only[h0] at hw;unfold af at hw;have HW:=hid hw;clear hw;have hc:=fun W=>nJ o W
     simp only[h3] at hc;unfold af at hc;have HC:=hid hc;clear hc;unfold af;go_enter Tryz.func138,Tryz.ntmps138;go_wp2_with fail;refine wp_region_held_drew (S:=(bs W0 n o)) (by kernel_rfl) dc (fun hHeld=>?_);generalize W0.drew=wd at hHeld ⊢;have hHeld:(bs W0 n o) wd:=hHeld;refine bv 0 1 ?_;refine aX 2 ?_;refine aV 3 (fun K hK=>?_);go_simp;refine(HW.out _).mono ?_;rintro ex wx ⟨rfl,ar⟩
     have aw:(bs W0 n o) wx:=by
      obtain⟨h0,u0,u1,u2,u3,u4,u5,u6,u7⟩:=hHeld;have hk:∀ {i:Nat} {u:Value},_→wx.cell? ⟨n,i,none⟩=some u:=fun {i u} hc=>(ar.cell (p:=⟨n,i,none⟩) (aM hc)).trans hc
      exact⟨h0.trans (ar.mono h0.size),hk u0,hk u1,hk u2,hk u3,hk u4,hk u5,hk u6,hk u7⟩
     refine kH hK aw fun hHeld=>?_
     clear hK K;refine ai 4 5 6 7 ?_;refine ai 8 9 10 11 ?_;refine ai 12 13 14 15 ?_;refine aV 16 (fun K hK=>?_);go_simp;refine(HC.out _).mono ?_;rintro ex wx ⟨rfl,ar⟩
     have aw:(bs W0 n o) wx:=by
      obtain⟨h0,u0,u1,u2,u3,u4,u5,u6,u7⟩:=hHeld;have hk:∀ {i:Nat} {u:Value},_→wx.cell? ⟨n,i,none⟩=some u:=fun {i u} hc=>(ar.cell (p:=⟨n,i,none⟩) (aM hc)).trans hc
      exact⟨h0.trans (ar.mono h0.size),hk u0,hk u1,hk u2,hk u3,hk u4,hk u5,hk u6,hk u7⟩
     refine kH hK aw fun hHeld=>?_
     clear hK K;refine bv 17 18 ?_;refine jZ 19 20 21 22 ?_;refine mQ 23 ?_;refine bv 24 25 ?_;refine aY ?_;clear dc;go_wp2_with fail;go_ret;exact⟨az (by have p0:ax o 4 o.wd:=(by first | exact of_decide_eq_true h0 | exact of_decide_eq_false h0 | simpa using h0 | (have hh:=h0;simp at hh;omega));have p1:2≤o.s:=(by first | exact of_decide_eq_true h1 | exact of_decide_eq_false h1 | simpa using h1 | (have hh:=h1;simp at hh;omega));have p2:o.s≤16:=(by first | exact of_decide_eq_true h2 | exact of_decide_eq_false h2 | simpa using h2 | (have hh:=h2;simp at hh;omega));have p3:¬ (dB o):=(by first | exact of_decide_eq_true h3 | exact of_decide_eq_false h3 | simpa using h3 | (have hh:=h3;simp at hh;omega));have q:decide (ce o)=false:=(by rw[decide_eq_false_iff_not];unfold ce;first | omega | simp[p0,p1,p2,p3]);rw[q];(try assumption)),HB.out.trans (hHeld.1.mono (by have:=HB.out.size;omega))⟩
    ·rcases h4:(decide (o.st<o.s*1048576)) with _ | _
     ·have hw:=fun W=>cB o 4 o.wd W
      simp only[h0] at hw;unfold af at hw;have HW:=hid hw;clear hw;have hc:=fun W=>nJ o W
      simp only[h3] at hc;unfold af at hc;have HC:=hid hc;clear hc;have hm:=fun W=>eR o (of_decide_eq_true h1) (of_decide_eq_true h2) W
      unfold af at hm;have HM:=hid hm;clear hm;unfold af;go_enter Tryz.func138,Tryz.ntmps138;go_wp2_with fail;refine wp_region_held_drew (S:=(bs W0 n o)) (by kernel_rfl) dc (fun hHeld=>?_);generalize W0.drew=wd at hHeld ⊢;have hHeld:(bs W0 n o) wd:=hHeld;refine bv 0 1 ?_;refine aX 2 ?_;refine aV 3 (fun K hK=>?_);go_simp;refine(HW.out _).mono ?_;rintro ex wx ⟨rfl,ar⟩
      have aw:(bs W0 n o) wx:=by
       obtain⟨h0,u0,u1,u2,u3,u4,u5,u6,u7⟩:=hHeld;have hk:∀ {i:Nat} {u:Value},_→wx.cell? ⟨n,i,none⟩=some u:=fun {i u} hc=>(ar.cell (p:=⟨n,i,none⟩) (aM hc)).trans hc
       exact⟨h0.trans (ar.mono h0.size),hk u0,hk u1,hk u2,hk u3,hk u4,hk u5,hk u6,hk u7⟩
      refine kH hK aw fun hHeld=>?_
      clear hK K;refine ai 4 5 6 7 ?_;refine ai 8 9 10 11 ?_;refine ai 12 13 14 15 ?_;refine aV 16 (fun K hK=>?_);go_simp;refine(HC.out _).mono ?_;rintro ex wx ⟨rfl,ar⟩
      have aw:(bs W0 n o) wx:=by
       obtain⟨h0,u0,u1,u2,u3,u4,u5,u6,u7⟩:=hHeld;have hk:∀ {i:Nat} {u:Value},_→wx.cell? ⟨n,i,none⟩=some u:=fun {i u} hc=>(ar.cell (p:=⟨n,i,none⟩) (aM hc)).trans hc
       exact⟨h0.trans (ar.mono h0.size),hk u0,hk u1,hk u2,hk u3,hk u4,hk u5,hk u6,hk u7⟩
      refine kH hK aw fun hHeld=>?_
      clear hK K;refine ai 17 18 19 20 ?_;refine aX 21 ?_;refine aV 22 (fun K hK=>?_);go_simp;refine(HM.out _).mono ?_;rintro ex wx ⟨rfl,ar⟩
      have aw:(bs W0 n o) wx:=by
       obtain⟨h0,u0,u1,u2,u3,u4,u5,u6,u7⟩:=hHeld;have hk:∀ {i:Nat} {u:Value},_→wx.cell? ⟨n,i,none⟩=some u:=fun {i u} hc=>(ar.cell (p:=⟨n,i,none⟩) (aM hc)).trans hc
       exact⟨h0.trans (ar.mono h0.size),hk u0,hk u1,hk u2,hk u3,hk u4,hk u5,hk u6,hk u7⟩
      refine kH hK aw fun hHeld=>?_
      clear hK K;refine bv 23 24 ?_;refine aX 25 ?_;refine aY ?_;clear dc;go_wp2_with fail;go_ret;exact⟨az (by have p0:ax o 4 o.wd:=(by first | exact of_decide_eq_true h0 | exact of_decide_eq_false h0 | simpa using h0 | (have hh:=h0;simp at hh;omega));have p1:2≤o.s:=(by first | exact of_decide_eq_true h1 | exact of_decide_eq_false h1 | simpa using h1 | (have hh:=h1;simp at hh;omega));have p2:o.s≤16:=(by first | exact of_decide_eq_true h2 | exact of_decide_eq_false h2 | simpa using h2 | (have hh:=h2;simp at hh;omega));have p3:dB o:=(by first | exact of_decide_eq_true h3 | exact of_decide_eq_false h3 | simpa using h3 | (have hh:=h3;simp at hh;omega));have p4:¬ (o.st<o.s*1048576):=(by first | exact of_decide_eq_true h4 | exact of_decide_eq_false h4 | simpa using h4 | (have hh:=h4;simp at hh;omega));have q:decide (ce o)=false:=(by rw[decide_eq_false_iff_not];unfold ce;first | omega | simp[p0,p1,p2,p3,p4]);rw[q];(try assumption)),HB.out.trans (hHeld.1.mono (by have:=HB.out.size;omega))⟩
     ·have hw:=fun W=>cB o 4 o.wd W
      simp only[h0] at hw;unfold af at hw;have HW:=hid hw;clear hw;have hc:=fun W=>nJ o W
      simp only[h3] at hc;unfold af at hc;have HC:=hid hc;clear hc;have hm:=fun W=>eR o (of_decide_eq_true h1) (of_decide_eq_true h2) W
      unfold af at hm;have HM:=hid hm;clear hm;unfold af;go_enter Tryz.func138,Tryz.ntmps138;go_wp2_with fail;refine wp_region_held_drew (S:=(bs W0 n o)) (by kernel_rfl) dc (fun hHeld=>?_);generalize W0.drew=wd at hHeld ⊢;have hHeld:(bs W0 n o) wd:=hHeld;refine bv 0 1 ?_;refine aX 2 ?_;refine aV 3 (fun K hK=>?_);go_simp;refine(HW.out _).mono ?_;rintro ex wx ⟨rfl,ar⟩
      have aw:(bs W0 n o) wx:=by
       obtain⟨h0,u0,u1,u2,u3,u4,u5,u6,u7⟩:=hHeld;have hk:∀ {i:Nat} {u:Value},_→wx.cell? ⟨n,i,none⟩=some u:=fun {i u} hc=>(ar.cell (p:=⟨n,i,none⟩) (aM hc)).trans hc
       exact⟨h0.trans (ar.mono h0.size),hk u0,hk u1,hk u2,hk u3,hk u4,hk u5,hk u6,hk u7⟩
      refine kH hK aw fun hHeld=>?_
      clear hK K;refine ai 4 5 6 7 ?_;refine ai 8 9 10 11 ?_;refine ai 12 13 14 15 ?_;refine aV 16 (fun K hK=>?_);go_simp;refine(HC.out _).mono ?_;rintro ex wx ⟨rfl,ar⟩
      have aw:(bs W0 n o) wx:=by
       obtain⟨h0,u0,u1,u2,u3,u4,u5,u6,u7⟩:=hHeld;have hk:∀ {i:Nat} {u:Value},_→wx.cell? ⟨n,i,none⟩=some u:=fun {i u} hc=>(ar.cell (p:=⟨n,i,none⟩) (aM hc)).trans hc
       exact⟨h0.trans (ar.mono h0.size),hk u0,hk u1,hk u2,hk u3,hk u4,hk u5,hk u6,hk u7⟩
      refine kH hK aw fun hHeld=>?_
      clear hK K;refine ai 17 18 19 20 ?_;refine aX 21 ?_;refine aV 22 (fun K hK=>?_);go_simp;refine(HM.out _).mono ?_;rintro ex wx ⟨rfl,ar⟩
      have aw:(bs W0 n o) wx:=by
       obtain⟨h0,u0,u1,u2,u3,u4,u5,u6,u7⟩:=hHeld;have hk:∀ {i:Nat} {u:Value},_→wx.cell? ⟨n,i,none⟩=some u:=fun {i u} hc=>(ar.cell (p:=⟨n,i,none⟩) (aM hc)).trans hc
       exact⟨h0.trans (ar.mono h0.size),hk u0,hk u1,hk u2,hk u3,hk u4,hk u5,hk u6,hk u7⟩
      refine kH hK aw fun hHeld=>?_
      clear hK K;refine bv 23 24 ?_;refine aX 25 ?_;refine aY ?_;clear dc;go_wp2_with fail;go_ret;exact⟨az (by have p0:ax o 4 o.wd:=(by first | exact of_decide_eq_true h0 | exact of_decide_eq_false h0 | simpa using h0 | (have hh:=h0;simp at hh;omega));have p1:2≤o.s:=(by first | exact of_decide_eq_true h1 | exact of_decide_eq_false h1 | simpa using h1 | (have hh:=h1;simp at hh;omega));have p2:o.s≤16:=(by first | exact of_decide_eq_true h2 | exact of_decide_eq_false h2 | simpa using h2 | (have hh:=h2;simp at hh;omega));have p3:dB o:=(by first | exact of_decide_eq_true h3 | exact of_decide_eq_false h3 | simpa using h3 | (have hh:=h3;simp at hh;omega));have p4:o.st<o.s*1048576:=(by first | exact of_decide_eq_true h4 | exact of_decide_eq_false h4 | simpa using h4 | (have hh:=h4;simp at hh;omega));have q:decide (ce o)=true:=(by rw[decide_eq_true_iff];unfold ce;first | omega | simp[p0,p1,p2,p3,p4]);rw[q];(try assumption)),HB.out.trans (hHeld.1.mono (by have:=HB.out.size;omega))⟩
theorem jh (o:Ob) (w:World):Calls Tryz.prog 140 #[.agg (af o)] w fun e w'=>e=.returned (.bool (decide (bL o)))∧Below w.heap.size w w':=by
 obtain⟨W0,DX⟩:∃ W0,w.alloc (.cells #[.int .i64 o.k,.int .i64 o.wd,.int .i64 o.s,.int .i64 o.c,.int .u32 o.st,.slice o.I o.ni o.ci,.int .i64 o.wr,.slice o.R o.nr o.cr] 26)=W0:=⟨_,rfl⟩;have hn:=ObX.new w o;have hB:=bK w (.cells (af o) 26);unfold af at hn hB;rw[DX] at hn hB;obtain⟨n,aI⟩:∃ n,w.heap.size=n:=⟨_,rfl⟩;rw[aI] at hn hB;have dc:(bs W0 n o) W0.drew:=⟨(Below.refl W0.heap.size W0).drew,(ObX.kept hn (Below.refl W0.heap.size W0).drew).cells⟩;have HN:=hid hn;have HB:=hid hB;clear hn hB;rw[aI]
 rcases h0:(decide (ax o 6 0)) with _ | _
 ·have hw:=fun W=>cB o 6 0 W
  simp only[h0] at hw;unfold af at hw;have HW:=hid hw;clear hw;unfold af;go_enter Tryz.func140,Tryz.ntmps140;go_wp2_with fail;refine wp_region_held_drew (S:=(bs W0 n o)) (by kernel_rfl) dc (fun hHeld=>?_);generalize W0.drew=wd at hHeld ⊢;have hHeld:(bs W0 n o) wd:=hHeld;refine aX 0 ?_;refine aV 1 (fun K hK=>?_);go_simp;refine(HW.out _).mono ?_;rintro ex wx ⟨rfl,ar⟩
  have aw:(bs W0 n o) wx:=by
   obtain⟨h0,u0,u1,u2,u3,u4,u5,u6,u7⟩:=hHeld;have hk:∀ {i:Nat} {u:Value},_→wx.cell? ⟨n,i,none⟩=some u:=fun {i u} hc=>(ar.cell (p:=⟨n,i,none⟩) (aM hc)).trans hc
   exact⟨h0.trans (ar.mono h0.size),hk u0,hk u1,hk u2,hk u3,hk u4,hk u5,hk u6,hk u7⟩
  refine kH hK aw fun hHeld=>?_
  clear hK K;refine aX 2 ?_;refine tD 3 4 ?_;refine mQ 5 ?_;refine bv 6 7 ?_;refine tD 8 9 ?_;refine mQ 10 ?_;refine bv 11 12 ?_;refine tD 13 14 ?_;refine mQ 15 ?_;refine bv 16 17 ?_;refine jZ 18 19 20 21 ?_;refine mQ 22 ?_;refine bv 23 24 ?_;refine jZ 25 26 27 28 ?_;refine bv 29 30 ?_;refine aY ?_;clear dc;go_wp2_with fail;go_ret;exact⟨az (by have p0:¬ (ax o 6 0):=(by first | exact of_decide_eq_true h0 | exact of_decide_eq_false h0 | simpa using h0 | (have hh:=h0;simp at hh;omega));have q:decide (bL o)=false:=(by rw[decide_eq_false_iff_not];unfold bL;first | omega | simp[p0]);rw[q];(try assumption)),HB.out.trans (hHeld.1.mono (by have:=HB.out.size;omega))⟩
 ·rcases h1:(decide (1≤o.s)) with _ | _
  ·have hw:=fun W=>cB o 6 0 W
   simp only[h0] at hw;unfold af at hw;have HW:=hid hw;clear hw;unfold af;go_enter Tryz.func140,Tryz.ntmps140;go_wp2_with fail;refine wp_region_held_drew (S:=(bs W0 n o)) (by kernel_rfl) dc (fun hHeld=>?_);generalize W0.drew=wd at hHeld ⊢;have hHeld:(bs W0 n o) wd:=hHeld;refine aX 0 ?_;refine aV 1 (fun K hK=>?_);go_simp;refine(HW.out _).mono ?_;rintro ex wx ⟨rfl,ar⟩
   have aw:(bs W0 n o) wx:=by
    obtain⟨h0,u0,u1,u2,u3,u4,u5,u6,u7⟩:=hHeld;have hk:∀ {i:Nat} {u:Value},_→wx.cell? ⟨n,i,none⟩=some u:=fun {i u} hc=>(ar.cell (p:=⟨n,i,none⟩) (aM hc)).trans hc
    exact⟨h0.trans (ar.mono h0.size),hk u0,hk u1,hk u2,hk u3,hk u4,hk u5,hk u6,hk u7⟩
   refine kH hK aw fun hHeld=>?_
   clear hK K;refine ai 2 3 4 5 ?_;refine bv 6 7 ?_;refine tD 8 9 ?_;refine mQ 10 ?_;refine bv 11 12 ?_;refine tD 13 14 ?_;refine mQ 15 ?_;refine bv 16 17 ?_;refine jZ 18 19 20 21 ?_;refine mQ 22 ?_;refine bv 23 24 ?_;refine jZ 25 26 27 28 ?_;refine bv 29 30 ?_;refine aY ?_;clear dc;go_wp2_with fail;go_ret;exact⟨az (by have p0:ax o 6 0:=(by first | exact of_decide_eq_true h0 | exact of_decide_eq_false h0 | simpa using h0 | (have hh:=h0;simp at hh;omega));have p1:¬ (1≤o.s):=(by first | exact of_decide_eq_true h1 | exact of_decide_eq_false h1 | simpa using h1 | (have hh:=h1;simp at hh;omega));have q:decide (bL o)=false:=(by rw[decide_eq_false_iff_not];unfold bL;first | omega | simp[p0,p1]);rw[q];(try assumption)),HB.out.trans (hHeld.1.mono (by have:=HB.out.size;omega))⟩
  ·rcases h2:(decide (o.s≤16)) with _ | _
   ·have hw:=fun W=>cB o 6 0 W
    simp only[h0] at hw;unfold af at hw;have HW:=hid hw;clear hw;unfold af;go_enter Tryz.func140,Tryz.ntmps140;go_wp2_with fail;refine wp_region_held_drew (S:=(bs W0 n o)) (by kernel_rfl) dc (fun hHeld=>?_);generalize W0.drew=wd at hHeld ⊢;have hHeld:(bs W0 n o) wd:=hHeld;refine aX 0 ?_;refine aV 1 (fun K hK=>?_);go_simp;refine(HW.out _).mono ?_;rintro ex wx ⟨rfl,ar⟩
    have aw:(bs W0 n o) wx:=by
     obtain⟨h0,u0,u1,u2,u3,u4,u5,u6,u7⟩:=hHeld;have hk:∀ {i:Nat} {u:Value},_→wx.cell? ⟨n,i,none⟩=some u:=fun {i u} hc=>(ar.cell (p:=⟨n,i,none⟩) (aM hc)).trans hc
     exact⟨h0.trans (ar.mono h0.size),hk u0,hk u1,hk u2,hk u3,hk u4,hk u5,hk u6,hk u7⟩
    refine kH hK aw fun hHeld=>?_
    clear hK K;refine ai 2 3 4 5 ?_;refine ai 6 7 8 9 ?_;refine bv 10 11 ?_;refine aX 12 ?_;refine tD 13 14 ?_;refine mQ 15 ?_;refine bv 16 17 ?_;refine jZ 18 19 20 21 ?_;refine mQ 22 ?_;refine bv 23 24 ?_;refine jZ 25 26 27 28 ?_;refine bv 29 30 ?_;refine aY ?_;clear dc;go_wp2_with fail;go_ret;exact⟨az (by have p0:ax o 6 0:=(by first | exact of_decide_eq_true h0 | exact of_decide_eq_false h0 | simpa using h0 | (have hh:=h0;simp at hh;omega));have p1:1≤o.s:=(by first | exact of_decide_eq_true h1 | exact of_decide_eq_false h1 | simpa using h1 | (have hh:=h1;simp at hh;omega));have p2:¬ (o.s≤16):=(by first | exact of_decide_eq_true h2 | exact of_decide_eq_false h2 | simpa using h2 | (have hh:=h2;simp at hh;omega));have q:decide (bL o)=false:=(by rw[decide_eq_false_iff_not];unfold bL;first | omega | simp[p0,p1,p2]);rw[q];(try assumption)),HB.out.trans (hHeld.1.mono (by have:=HB.out.size;omega))⟩
   ·rcases h3:(o.c==0) with _ | _
    ·have hw:=fun W=>cB o 6 0 W
     simp only[h0] at hw;unfold af at hw;have HW:=hid hw;clear hw;unfold af;go_enter Tryz.func140,Tryz.ntmps140;go_wp2_with fail;refine wp_region_held_drew (S:=(bs W0 n o)) (by kernel_rfl) dc (fun hHeld=>?_);generalize W0.drew=wd at hHeld ⊢;have hHeld:(bs W0 n o) wd:=hHeld;refine aX 0 ?_;refine aV 1 (fun K hK=>?_);go_simp;refine(HW.out _).mono ?_;rintro ex wx ⟨rfl,ar⟩
     have aw:(bs W0 n o) wx:=by
      obtain⟨h0,u0,u1,u2,u3,u4,u5,u6,u7⟩:=hHeld;have hk:∀ {i:Nat} {u:Value},_→wx.cell? ⟨n,i,none⟩=some u:=fun {i u} hc=>(ar.cell (p:=⟨n,i,none⟩) (aM hc)).trans hc
      exact⟨h0.trans (ar.mono h0.size),hk u0,hk u1,hk u2,hk u3,hk u4,hk u5,hk u6,hk u7⟩
     refine kH hK aw fun hHeld=>?_
     clear hK K;refine ai 2 3 4 5 ?_;refine ai 6 7 8 9 ?_;refine ai 10 11 12 13 ?_;refine ai 14 15 16 17 ?_;refine jZ 18 19 20 21 ?_;refine mQ 22 ?_;refine bv 23 24 ?_;refine jZ 25 26 27 28 ?_;refine bv 29 30 ?_;refine aY ?_;clear dc;go_wp2_with fail;go_ret;exact⟨az (by have p0:ax o 6 0:=(by first | exact of_decide_eq_true h0 | exact of_decide_eq_false h0 | simpa using h0 | (have hh:=h0;simp at hh;omega));have p1:1≤o.s:=(by first | exact of_decide_eq_true h1 | exact of_decide_eq_false h1 | simpa using h1 | (have hh:=h1;simp at hh;omega));have p2:o.s≤16:=(by first | exact of_decide_eq_true h2 | exact of_decide_eq_false h2 | simpa using h2 | (have hh:=h2;simp at hh;omega));have p3:¬ (o.c=0):=(by first | exact of_decide_eq_true h3 | exact of_decide_eq_false h3 | simpa using h3 | (have hh:=h3;simp at hh;omega));have q:decide (bL o)=false:=(by rw[decide_eq_false_iff_not];unfold bL;first | omega | simp[p0,p1,p2,p3]);rw[q];(try assumption)),HB.out.trans (hHeld.1.mono (by have:=HB.out.size;omega))⟩
    ·rcases h4:(decide (o.st<2*o.s)) with _ | _
     ·have hw:=fun W=>cB o 6 0 W
      simp only[h0] at hw;unfold af at hw;have HW:=hid hw;clear hw;have hm:=fun W=>dq o (of_decide_eq_true h1) (of_decide_eq_true h2) W
      unfold af at hm;have HM:=hid hm;clear hm;unfold af;go_enter Tryz.func140,Tryz.ntmps140;go_wp2_with fail;refine wp_region_held_drew (S:=(bs W0 n o)) (by kernel_rfl) dc (fun hHeld=>?_);generalize W0.drew=wd at hHeld ⊢;have hHeld:(bs W0 n o) wd:=hHeld;refine aX 0 ?_;refine aV 1 (fun K hK=>?_);go_simp;refine(HW.out _).mono ?_;rintro ex wx ⟨rfl,ar⟩
      have aw:(bs W0 n o) wx:=by
       obtain⟨h0,u0,u1,u2,u3,u4,u5,u6,u7⟩:=hHeld;have hk:∀ {i:Nat} {u:Value},_→wx.cell? ⟨n,i,none⟩=some u:=fun {i u} hc=>(ar.cell (p:=⟨n,i,none⟩) (aM hc)).trans hc
       exact⟨h0.trans (ar.mono h0.size),hk u0,hk u1,hk u2,hk u3,hk u4,hk u5,hk u6,hk u7⟩
      refine kH hK aw fun hHeld=>?_
      clear hK K;refine ai 2 3 4 5 ?_;refine ai 6 7 8 9 ?_;refine ai 10 11 12 13 ?_;refine ai 14 15 16 17 ?_;refine bv 18 19 ?_;refine aX 20 ?_;refine aV 21 (fun K hK=>?_);go_simp;refine(HM.out _).mono ?_;rintro ex wx ⟨rfl,ar⟩
      have aw:(bs W0 n o) wx:=by
       obtain⟨h0,u0,u1,u2,u3,u4,u5,u6,u7⟩:=hHeld;have hk:∀ {i:Nat} {u:Value},_→wx.cell? ⟨n,i,none⟩=some u:=fun {i u} hc=>(ar.cell (p:=⟨n,i,none⟩) (aM hc)).trans hc
       exact⟨h0.trans (ar.mono h0.size),hk u0,hk u1,hk u2,hk u3,hk u4,hk u5,hk u6,hk u7⟩
      refine kH hK aw fun hHeld=>?_
      clear hK K;refine bv 22 23 ?_;refine aX 24 ?_;refine jZ 25 26 27 28 ?_;refine bv 29 30 ?_;refine aY ?_;clear dc;go_wp2_with fail;go_ret;exact⟨az (by have p0:ax o 6 0:=(by first | exact of_decide_eq_true h0 | exact of_decide_eq_false h0 | simpa using h0 | (have hh:=h0;simp at hh;omega));have p1:1≤o.s:=(by first | exact of_decide_eq_true h1 | exact of_decide_eq_false h1 | simpa using h1 | (have hh:=h1;simp at hh;omega));have p2:o.s≤16:=(by first | exact of_decide_eq_true h2 | exact of_decide_eq_false h2 | simpa using h2 | (have hh:=h2;simp at hh;omega));have p3:o.c=0:=(by first | exact of_decide_eq_true h3 | exact of_decide_eq_false h3 | simpa using h3 | (have hh:=h3;simp at hh;omega));have p4:¬ (o.st<2*o.s):=(by first | exact of_decide_eq_true h4 | exact of_decide_eq_false h4 | simpa using h4 | (have hh:=h4;simp at hh;omega));have q:decide (bL o)=false:=(by rw[decide_eq_false_iff_not];unfold bL;first | omega | simp[p0,p1,p2,p3,p4]);rw[q];(try assumption)),HB.out.trans (hHeld.1.mono (by have:=HB.out.size;omega))⟩
     ·rcases h5:(((o.nr:Int)==1)) with _ | _
      ·have hw:=fun W=>cB o 6 0 W
       simp only[h0] at hw;unfold af at hw;have HW:=hid hw;clear hw;have hm:=fun W=>dq o (of_decide_eq_true h1) (of_decide_eq_true h2) W
       unfold af at hm;have HM:=hid hm;clear hm;unfold af;go_enter Tryz.func140,Tryz.ntmps140;go_wp2_with fail;refine wp_region_held_drew (S:=(bs W0 n o)) (by kernel_rfl) dc (fun hHeld=>?_);generalize W0.drew=wd at hHeld ⊢;have hHeld:(bs W0 n o) wd:=hHeld;refine aX 0 ?_;refine aV 1 (fun K hK=>?_);go_simp;refine(HW.out _).mono ?_;rintro ex wx ⟨rfl,ar⟩
       have aw:(bs W0 n o) wx:=by
        obtain⟨h0,u0,u1,u2,u3,u4,u5,u6,u7⟩:=hHeld;have hk:∀ {i:Nat} {u:Value},_→wx.cell? ⟨n,i,none⟩=some u:=fun {i u} hc=>(ar.cell (p:=⟨n,i,none⟩) (aM hc)).trans hc
        exact⟨h0.trans (ar.mono h0.size),hk u0,hk u1,hk u2,hk u3,hk u4,hk u5,hk u6,hk u7⟩
       refine kH hK aw fun hHeld=>?_
       clear hK K;refine ai 2 3 4 5 ?_;refine ai 6 7 8 9 ?_;refine ai 10 11 12 13 ?_;refine ai 14 15 16 17 ?_;refine bv 18 19 ?_;refine aX 20 ?_;refine aV 21 (fun K hK=>?_);go_simp;refine(HM.out _).mono ?_;rintro ex wx ⟨rfl,ar⟩
       have aw:(bs W0 n o) wx:=by
        obtain⟨h0,u0,u1,u2,u3,u4,u5,u6,u7⟩:=hHeld;have hk:∀ {i:Nat} {u:Value},_→wx.cell? ⟨n,i,none⟩=some u:=fun {i u} hc=>(ar.cell (p:=⟨n,i,none⟩) (aM hc)).trans hc
        exact⟨h0.trans (ar.mono h0.size),hk u0,hk u1,hk u2,hk u3,hk u4,hk u5,hk u6,hk u7⟩
       refine kH hK aw fun hHeld=>?_
       clear hK K;refine ai 22 23 24 25 ?_;refine ai 26 27 28 29 ?_;refine aX 30 ?_;refine aY ?_;clear dc;go_wp2_with fail;go_ret;exact⟨az (by have p0:ax o 6 0:=(by first | exact of_decide_eq_true h0 | exact of_decide_eq_false h0 | simpa using h0 | (have hh:=h0;simp at hh;omega));have p1:1≤o.s:=(by first | exact of_decide_eq_true h1 | exact of_decide_eq_false h1 | simpa using h1 | (have hh:=h1;simp at hh;omega));have p2:o.s≤16:=(by first | exact of_decide_eq_true h2 | exact of_decide_eq_false h2 | simpa using h2 | (have hh:=h2;simp at hh;omega));have p3:o.c=0:=(by first | exact of_decide_eq_true h3 | exact of_decide_eq_false h3 | simpa using h3 | (have hh:=h3;simp at hh;omega));have p4:o.st<2*o.s:=(by first | exact of_decide_eq_true h4 | exact of_decide_eq_false h4 | simpa using h4 | (have hh:=h4;simp at hh;omega));have p5:¬ (o.nr=1):=(by first | exact of_decide_eq_true h5 | exact of_decide_eq_false h5 | simpa using h5 | (have hh:=h5;simp at hh;omega));have q:decide (bL o)=false:=(by rw[decide_eq_false_iff_not];unfold bL;first | omega | simp[p0,p1,p2,p3,p4,p5]);rw[q];(try assumption)),HB.out.trans (hHeld.1.mono (by have:=HB.out.size;omega))⟩
      ·have hw:=fun W=>cB o 6 0 W
       simp only[h0] at hw;unfold af at hw;have HW:=hid hw;clear hw;have hm:=fun W=>dq o (of_decide_eq_true h1) (of_decide_eq_true h2) W
       unfold af at hm;have HM:=hid hm;clear hm;unfold af;go_enter Tryz.func140,Tryz.ntmps140;go_wp2_with fail;refine wp_region_held_drew (S:=(bs W0 n o)) (by kernel_rfl) dc (fun hHeld=>?_);generalize W0.drew=wd at hHeld ⊢;have hHeld:(bs W0 n o) wd:=hHeld;refine aX 0 ?_;refine aV 1 (fun K hK=>?_);go_simp;refine(HW.out _).mono ?_;rintro ex wx ⟨rfl,ar⟩
       have aw:(bs W0 n o) wx:=by
        obtain⟨h0,u0,u1,u2,u3,u4,u5,u6,u7⟩:=hHeld;have hk:∀ {i:Nat} {u:Value},_→wx.cell? ⟨n,i,none⟩=some u:=fun {i u} hc=>(ar.cell (p:=⟨n,i,none⟩) (aM hc)).trans hc
        exact⟨h0.trans (ar.mono h0.size),hk u0,hk u1,hk u2,hk u3,hk u4,hk u5,hk u6,hk u7⟩
       refine kH hK aw fun hHeld=>?_
       clear hK K;refine ai 2 3 4 5 ?_;refine ai 6 7 8 9 ?_;refine ai 10 11 12 13 ?_;refine ai 14 15 16 17 ?_;refine bv 18 19 ?_;refine aX 20 ?_;refine aV 21 (fun K hK=>?_);go_simp;refine(HM.out _).mono ?_;rintro ex wx ⟨rfl,ar⟩
       have aw:(bs W0 n o) wx:=by
        obtain⟨h0,u0,u1,u2,u3,u4,u5,u6,u7⟩:=hHeld;have hk:∀ {i:Nat} {u:Value},_→wx.cell? ⟨n,i,none⟩=some u:=fun {i u} hc=>(ar.cell (p:=⟨n,i,none⟩) (aM hc)).trans hc
        exact⟨h0.trans (ar.mono h0.size),hk u0,hk u1,hk u2,hk u3,hk u4,hk u5,hk u6,hk u7⟩
       refine kH hK aw fun hHeld=>?_
       clear hK K;refine ai 22 23 24 25 ?_;refine ai 26 27 28 29 ?_;refine aX 30 ?_;refine aY ?_;clear dc;go_wp2_with fail;go_ret;exact⟨az (by have p0:ax o 6 0:=(by first | exact of_decide_eq_true h0 | exact of_decide_eq_false h0 | simpa using h0 | (have hh:=h0;simp at hh;omega));have p1:1≤o.s:=(by first | exact of_decide_eq_true h1 | exact of_decide_eq_false h1 | simpa using h1 | (have hh:=h1;simp at hh;omega));have p2:o.s≤16:=(by first | exact of_decide_eq_true h2 | exact of_decide_eq_false h2 | simpa using h2 | (have hh:=h2;simp at hh;omega));have p3:o.c=0:=(by first | exact of_decide_eq_true h3 | exact of_decide_eq_false h3 | simpa using h3 | (have hh:=h3;simp at hh;omega));have p4:o.st<2*o.s:=(by first | exact of_decide_eq_true h4 | exact of_decide_eq_false h4 | simpa using h4 | (have hh:=h4;simp at hh;omega));have p5:o.nr=1:=(by first | exact of_decide_eq_true h5 | exact of_decide_eq_false h5 | simpa using h5 | (have hh:=h5;simp at hh;omega));have q:decide (bL o)=true:=(by rw[decide_eq_true_iff];unfold bL;first | omega | simp[p0,p1,p2,p3,p4,p5]);rw[q];(try assumption)),HB.out.trans (hHeld.1.mono (by have:=HB.out.size;omega))⟩
end Go.Proofs.YtabfcjohdgjkoaaGreatDoor
