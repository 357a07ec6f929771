/- Which objects may be: ring.Right, fifo.Right, object.Shaped. -/
import Derived.Test.YtolmpehgeinlkaaGreatDoorZcShB
namespace Go.Proofs.YtolmpehgeinlkaaGreatDoor
open Go.RowKit
open Go.Lib (hid)
attribute [local go_sem] Oper.semAt_some
set_option maxHeartbeats 1000000
set_option maxRecDepth 100000
abbrev bE (a0:World) (a1:Nat) (a2:Ob) (w':World):Prop:=Below a0.heap.size a0 w'∧w'.cell? ⟨a1,0,none⟩=some (.int .i64 a2.k)∧w'.cell? ⟨a1,1,none⟩=some (.int .i64 a2.wd)∧w'.cell? ⟨a1,2,none⟩=some (.int .i64 a2.s)∧w'.cell? ⟨a1,3,none⟩=some (.int .i64 a2.c)∧w'.cell? ⟨a1,4,none⟩=some (.int .u32 a2.st)∧w'.cell? ⟨a1,5,none⟩=some (.slice a2.I a2.ni a2.ci)∧w'.cell? ⟨a1,6,none⟩=some (.int .i64 a2.wr)∧w'.cell? ⟨a1,7,none⟩=some (.slice a2.R a2.nr a2.cr)
theorem et (o:Ob) (h1:2≤o.s) (h2:o.s≤16) (w:World):Calls Tryz.prog 77 #[.agg (af o)] w fun e w'=>e=.returned (.int .u32 (o.s*1048576))∧Below w.heap.size w w':=by
 have e1:IntKind.u32.wrap o.s=o.s:=aa (by omega) (by omega);have e2:IntKind.u32.wrap (o.s*1048576)=o.s*1048576:=aa (by omega) (by omega);have hn:=ObX.new w o;have hB:=bt w (.cells (af o) 26);obtain⟨n,aq⟩:∃ n,w.heap.size=n:=⟨_,rfl⟩;rw[aq] at hn hB;have HN:=hid hn;have HB:=hid hB;clear hn hB;rw[aq];unfold af at *;go_enter Tryz.func77,Tryz.ntmps77;go_wp2_with fail;go_ret;exact⟨rfl,HB.out⟩
theorem de (o:Ob) (h1:1≤o.s) (h2:o.s≤16) (w:World):Calls Tryz.prog 78 #[.agg (af o)] w fun e w'=>e=.returned (.int .u32 (2*o.s))∧Below w.heap.size w w':=by
 have e1:IntKind.u32.wrap o.s=o.s:=aa (by omega) (by omega);have e2:IntKind.u32.wrap (2*o.s)=2*o.s:=aa (by omega) (by omega);have hn:=ObX.new w o;have hB:=bt w (.cells (af o) 26);obtain⟨n,aq⟩:∃ n,w.heap.size=n:=⟨_,rfl⟩;rw[aq] at hn hB;have HN:=hid hn;have HB:=hid hB;clear hn hB;rw[aq];unfold af at *;go_enter Tryz.func78,Tryz.ntmps78;go_wp2_with fail;go_ret;exact⟨rfl,HB.out⟩
theorem fh (o:Ob) (w:World):Calls Tryz.prog 43 #[.agg (af o)] w fun e w'=>e=.returned (.bool (decide (bY o)))∧Below w.heap.size w w':=by
 obtain⟨W0,BW⟩:∃ W0,w.alloc (.cells #[.int .i64 o.k,.int .i64 o.wd,.int .i64 o.s,.int .i64 o.c,.int .u32 o.st,.slice o.I o.ni o.ci,.int .i64 o.wr,.slice o.R o.nr o.cr] 26)=W0:=⟨_,rfl⟩;have hn:=ObX.new w o;have hB:=bt w (.cells (af o) 26);unfold af at hn hB;rw[BW] at hn hB;obtain⟨n,aq⟩:∃ n,w.heap.size=n:=⟨_,rfl⟩;rw[aq] at hn hB;have ct:(bE W0 n o) W0.drew:=⟨(Below.refl W0.heap.size W0).drew,(ObX.kept hn (Below.refl W0.heap.size W0).drew).cells⟩;have HN:=hid hn;have HB:=hid hB;clear hn hB;rw[aq]
 rcases h0:(decide (aH o 4 o.wd)) with _ | _
 ·have hw:=fun W=>cL o 4 o.wd W
  simp only[h0] at hw;unfold af at hw;have HW:=hid hw;clear hw;unfold af;go_enter Tryz.func43,Tryz.ntmps43;go_wp2_with fail;refine wp_region_held_drew (S:=(bE W0 n o)) (by kernel_rfl) ct (fun hHeld=>?_);generalize W0.drew=wd at hHeld ⊢;have hHeld:(bE W0 n o) wd:=hHeld;refine bw 0 1 ?_;refine aF 2 ?_;refine aJ 3 (fun K hK=>?_);go_simp;refine(HW.out _).mono ?_;rintro ex wx ⟨rfl,br⟩
  have aN:(bE W0 n o) wx:=by
   obtain⟨h0,u0,u1,u2,u3,u4,u5,u6,u7⟩:=hHeld;have hk:∀ {i:Nat} {u:Value},_→wx.cell? ⟨n,i,none⟩=some u:=fun {i u} hc=>(br.cell (p:=⟨n,i,none⟩) (aX hc)).trans hc
   exact⟨h0.trans (br.mono h0.size),hk u0,hk u1,hk u2,hk u3,hk u4,hk u5,hk u6,hk u7⟩
  refine kH hK aN fun hHeld=>?_
  clear hK K;refine aF 4 ?_;refine qI 5 6 ?_;refine lG 7 ?_;refine bw 8 9 ?_;refine qI 10 11 ?_;refine lG 12 ?_;refine bw 13 14 ?_;refine qI 15 16 ?_;refine bw 17 18 ?_;refine nZ 19 20 21 22 ?_;refine lG 23 ?_;refine bw 24 25 ?_;refine bh ?_;clear ct;go_wp2_with fail;go_ret;exact⟨bq (by have p0:¬ (aH o 4 o.wd):=(by first | exact of_decide_eq_true h0 | exact of_decide_eq_false h0 | simpa using h0 | (have hh:=h0;simp at hh;omega));have q:decide (bY o)=false:=(by rw[decide_eq_false_iff_not];unfold bY;first | omega | simp[p0]);rw[q];(try assumption)),HB.out.trans (hHeld.1.mono (by have:=HB.out.size;omega))⟩
 ·rcases h1:(decide (2≤o.s)) with _ | _
  ·have hw:=fun W=>cL o 4 o.wd W
   simp only[h0] at hw;unfold af at hw;have HW:=hid hw;clear hw;unfold af;go_enter Tryz.func43,Tryz.ntmps43;go_wp2_with fail;refine wp_region_held_drew (S:=(bE W0 n o)) (by kernel_rfl) ct (fun hHeld=>?_);generalize W0.drew=wd at hHeld ⊢;have hHeld:(bE W0 n o) wd:=hHeld;refine bw 0 1 ?_;refine aF 2 ?_;refine aJ 3 (fun K hK=>?_);go_simp;refine(HW.out _).mono ?_;rintro ex wx ⟨rfl,br⟩
   have aN:(bE W0 n o) wx:=by
    obtain⟨h0,u0,u1,u2,u3,u4,u5,u6,u7⟩:=hHeld;have hk:∀ {i:Nat} {u:Value},_→wx.cell? ⟨n,i,none⟩=some u:=fun {i u} hc=>(br.cell (p:=⟨n,i,none⟩) (aX hc)).trans hc
    exact⟨h0.trans (br.mono h0.size),hk u0,hk u1,hk u2,hk u3,hk u4,hk u5,hk u6,hk u7⟩
   refine kH hK aN fun hHeld=>?_
   clear hK K;refine ap 4 5 6 7 ?_;refine bw 8 9 ?_;refine qI 10 11 ?_;refine lG 12 ?_;refine bw 13 14 ?_;refine qI 15 16 ?_;refine bw 17 18 ?_;refine nZ 19 20 21 22 ?_;refine lG 23 ?_;refine bw 24 25 ?_;refine bh ?_;clear ct;go_wp2_with fail;go_ret;exact⟨bq (by have p0:aH o 4 o.wd:=(by first | exact of_decide_eq_true h0 | exact of_decide_eq_false h0 | simpa using h0 | (have hh:=h0;simp at hh;omega));have p1:¬ (2≤o.s):=(by first | exact of_decide_eq_true h1 | exact of_decide_eq_false h1 | simpa using h1 | (have hh:=h1;simp at hh;omega));have q:decide (bY o)=false:=(by rw[decide_eq_false_iff_not];unfold bY;first | omega | simp[p0,p1]);rw[q];(try assumption)),HB.out.trans (hHeld.1.mono (by have:=HB.out.size;omega))⟩
  ·rcases h2:(decide (o.s≤16)) with _ | _
   ·have hw:=fun W=>cL o 4 o.wd W
    simp only[h0] at hw;unfold af at hw;have HW:=hid hw;clear hw;unfold af;go_enter Tryz.func43,Tryz.ntmps43;go_wp2_with fail;refine wp_region_held_drew (S:=(bE W0 n o)) (by kernel_rfl) ct (fun hHeld=>?_);generalize W0.drew=wd at hHeld ⊢;have hHeld:(bE W0 n o) wd:=hHeld;refine bw 0 1 ?_;refine aF 2 ?_;refine aJ 3 (fun K hK=>?_);go_simp;refine(HW.out _).mono ?_;rintro ex wx ⟨rfl,br⟩
    have aN:(bE W0 n o) wx:=by
     obtain⟨h0,u0,u1,u2,u3,u4,u5,u6,u7⟩:=hHeld;have hk:∀ {i:Nat} {u:Value},_→wx.cell? ⟨n,i,none⟩=some u:=fun {i u} hc=>(br.cell (p:=⟨n,i,none⟩) (aX hc)).trans hc
     exact⟨h0.trans (br.mono h0.size),hk u0,hk u1,hk u2,hk u3,hk u4,hk u5,hk u6,hk u7⟩
    refine kH hK aN fun hHeld=>?_
    clear hK K;refine ap 4 5 6 7 ?_;refine ap 8 9 10 11 ?_;refine bw 12 13 ?_;refine aF 14 ?_;refine qI 15 16 ?_;refine bw 17 18 ?_;refine nZ 19 20 21 22 ?_;refine lG 23 ?_;refine bw 24 25 ?_;refine bh ?_;clear ct;go_wp2_with fail;go_ret;exact⟨bq (by have p0:aH o 4 o.wd:=(by first | exact of_decide_eq_true h0 | exact of_decide_eq_false h0 | simpa using h0 | (have hh:=h0;simp at hh;omega));have p1:2≤o.s:=(by first | exact of_decide_eq_true h1 | exact of_decide_eq_false h1 | simpa using h1 | (have hh:=h1;simp at hh;omega));have p2:¬ (o.s≤16):=(by first | exact of_decide_eq_true h2 | exact of_decide_eq_false h2 | simpa using h2 | (have hh:=h2;simp at hh;omega));have q:decide (bY o)=false:=(by rw[decide_eq_false_iff_not];unfold bY;first | omega | simp[p0,p1,p2]);rw[q];(try assumption)),HB.out.trans (hHeld.1.mono (by have:=HB.out.size;omega))⟩
   ·rcases h3:(decide (di o)) with _ | _
    ·have hw:=fun W=>cL o 4 o.wd W
     simp only[h0] at hw;unfold af at hw;have HW:=hid hw;clear hw;have hc:=fun W=>mX o W
     simp only[h3] at hc;unfold af at hc;have HC:=hid hc;clear hc;unfold af;go_enter Tryz.func43,Tryz.ntmps43;go_wp2_with fail;refine wp_region_held_drew (S:=(bE W0 n o)) (by kernel_rfl) ct (fun hHeld=>?_);generalize W0.drew=wd at hHeld ⊢;have hHeld:(bE W0 n o) wd:=hHeld;refine bw 0 1 ?_;refine aF 2 ?_;refine aJ 3 (fun K hK=>?_);go_simp;refine(HW.out _).mono ?_;rintro ex wx ⟨rfl,br⟩
     have aN:(bE W0 n o) wx:=by
      obtain⟨h0,u0,u1,u2,u3,u4,u5,u6,u7⟩:=hHeld;have hk:∀ {i:Nat} {u:Value},_→wx.cell? ⟨n,i,none⟩=some u:=fun {i u} hc=>(br.cell (p:=⟨n,i,none⟩) (aX hc)).trans hc
      exact⟨h0.trans (br.mono h0.size),hk u0,hk u1,hk u2,hk u3,hk u4,hk u5,hk u6,hk u7⟩
     refine kH hK aN fun hHeld=>?_
     clear hK K;refine ap 4 5 6 7 ?_;refine ap 8 9 10 11 ?_;refine ap 12 13 14 15 ?_;refine aJ 16 (fun K hK=>?_);go_simp;refine(HC.out _).mono ?_;rintro ex wx ⟨rfl,br⟩
     have aN:(bE W0 n o) wx:=by
      obtain⟨h0,u0,u1,u2,u3,u4,u5,u6,u7⟩:=hHeld;have hk:∀ {i:Nat} {u:Value},_→wx.cell? ⟨n,i,none⟩=some u:=fun {i u} hc=>(br.cell (p:=⟨n,i,none⟩) (aX hc)).trans hc
      exact⟨h0.trans (br.mono h0.size),hk u0,hk u1,hk u2,hk u3,hk u4,hk u5,hk u6,hk u7⟩
     refine kH hK aN fun hHeld=>?_
     clear hK K;refine bw 17 18 ?_;refine nZ 19 20 21 22 ?_;refine lG 23 ?_;refine bw 24 25 ?_;refine bh ?_;clear ct;go_wp2_with fail;go_ret;exact⟨bq (by have p0:aH o 4 o.wd:=(by first | exact of_decide_eq_true h0 | exact of_decide_eq_false h0 | simpa using h0 | (have hh:=h0;simp at hh;omega));have p1:2≤o.s:=(by first | exact of_decide_eq_true h1 | exact of_decide_eq_false h1 | simpa using h1 | (have hh:=h1;simp at hh;omega));have p2:o.s≤16:=(by first | exact of_decide_eq_true h2 | exact of_decide_eq_false h2 | simpa using h2 | (have hh:=h2;simp at hh;omega));have p3:¬ (di o):=(by first | exact of_decide_eq_true h3 | exact of_decide_eq_false h3 | simpa using h3 | (have hh:=h3;simp at hh;omega));have q:decide (bY o)=false:=(by rw[decide_eq_false_iff_not];unfold bY;first | omega | simp[p0,p1,p2,p3]);rw[q];(try assumption)),HB.out.trans (hHeld.1.mono (by have:=HB.out.size;omega))⟩
    ·rcases h4:(decide (o.st<o.s*1048576)) with _ | _
     ·have hw:=fun W=>cL o 4 o.wd W
      simp only[h0] at hw;unfold af at hw;have HW:=hid hw;clear hw;have hc:=fun W=>mX o W
      simp only[h3] at hc;unfold af at hc;have HC:=hid hc;clear hc;have hm:=fun W=>et o (of_decide_eq_true h1) (of_decide_eq_true h2) W
      unfold af at hm;have HM:=hid hm;clear hm;unfold af;go_enter Tryz.func43,Tryz.ntmps43;go_wp2_with fail;refine wp_region_held_drew (S:=(bE W0 n o)) (by kernel_rfl) ct (fun hHeld=>?_);generalize W0.drew=wd at hHeld ⊢;have hHeld:(bE W0 n o) wd:=hHeld;refine bw 0 1 ?_;refine aF 2 ?_;refine aJ 3 (fun K hK=>?_);go_simp;refine(HW.out _).mono ?_;rintro ex wx ⟨rfl,br⟩
      have aN:(bE W0 n o) wx:=by
       obtain⟨h0,u0,u1,u2,u3,u4,u5,u6,u7⟩:=hHeld;have hk:∀ {i:Nat} {u:Value},_→wx.cell? ⟨n,i,none⟩=some u:=fun {i u} hc=>(br.cell (p:=⟨n,i,none⟩) (aX hc)).trans hc
       exact⟨h0.trans (br.mono h0.size),hk u0,hk u1,hk u2,hk u3,hk u4,hk u5,hk u6,hk u7⟩
      refine kH hK aN fun hHeld=>?_
      clear hK K;refine ap 4 5 6 7 ?_;refine ap 8 9 10 11 ?_;refine ap 12 13 14 15 ?_;refine aJ 16 (fun K hK=>?_);go_simp;refine(HC.out _).mono ?_;rintro ex wx ⟨rfl,br⟩
      have aN:(bE W0 n o) wx:=by
       obtain⟨h0,u0,u1,u2,u3,u4,u5,u6,u7⟩:=hHeld;have hk:∀ {i:Nat} {u:Value},_→wx.cell? ⟨n,i,none⟩=some u:=fun {i u} hc=>(br.cell (p:=⟨n,i,none⟩) (aX hc)).trans hc
       exact⟨h0.trans (br.mono h0.size),hk u0,hk u1,hk u2,hk u3,hk u4,hk u5,hk u6,hk u7⟩
      refine kH hK aN fun hHeld=>?_
      clear hK K;refine ap 17 18 19 20 ?_;refine aF 21 ?_;refine aJ 22 (fun K hK=>?_);go_simp;refine(HM.out _).mono ?_;rintro ex wx ⟨rfl,br⟩
      have aN:(bE W0 n o) wx:=by
       obtain⟨h0,u0,u1,u2,u3,u4,u5,u6,u7⟩:=hHeld;have hk:∀ {i:Nat} {u:Value},_→wx.cell? ⟨n,i,none⟩=some u:=fun {i u} hc=>(br.cell (p:=⟨n,i,none⟩) (aX hc)).trans hc
       exact⟨h0.trans (br.mono h0.size),hk u0,hk u1,hk u2,hk u3,hk u4,hk u5,hk u6,hk u7⟩
      refine kH hK aN fun hHeld=>?_
      clear hK K;refine bw 23 24 ?_;refine aF 25 ?_;refine bh ?_;clear ct;go_wp2_with fail;go_ret;exact⟨bq (by have p0:aH o 4 o.wd:=(by first | exact of_decide_eq_true h0 | exact of_decide_eq_false h0 | simpa using h0 | (have hh:=h0;simp at hh;omega));have p1:2≤o.s:=(by first | exact of_decide_eq_true h1 | exact of_decide_eq_false h1 | simpa using h1 | (have hh:=h1;simp at hh;omega));have p2:o.s≤16:=(by first | exact of_decide_eq_true h2 | exact of_decide_eq_false h2 | simpa using h2 | (have hh:=h2;simp at hh;omega));have p3:di o:=(by first | exact of_decide_eq_true h3 | exact of_decide_eq_false h3 | simpa using h3 | (have hh:=h3;simp at hh;omega));have p4:¬ (o.st<o.s*1048576):=(by first | exact of_decide_eq_true h4 | exact of_decide_eq_false h4 | simpa using h4 | (have hh:=h4;simp at hh;omega));have q:decide (bY o)=false:=(by rw[decide_eq_false_iff_not];unfold bY;first | omega | simp[p0,p1,p2,p3,p4]);rw[q];(try assumption)),HB.out.trans (hHeld.1.mono (by have:=HB.out.size;omega))⟩
     ·have hw:=fun W=>cL o 4 o.wd W
      simp only[h0] at hw;unfold af at hw;have HW:=hid hw;clear hw;have hc:=fun W=>mX o W
      simp only[h3] at hc;unfold af at hc;have HC:=hid hc;clear hc;have hm:=fun W=>et o (of_decide_eq_true h1) (of_decide_eq_true h2) W
      unfold af at hm;have HM:=hid hm;clear hm;unfold af;go_enter Tryz.func43,Tryz.ntmps43;go_wp2_with fail;refine wp_region_held_drew (S:=(bE W0 n o)) (by kernel_rfl) ct (fun hHeld=>?_);generalize W0.drew=wd at hHeld ⊢;have hHeld:(bE W0 n o) wd:=hHeld;refine bw 0 1 ?_;refine aF 2 ?_;refine aJ 3 (fun K hK=>?_);go_simp;refine(HW.out _).mono ?_;rintro ex wx ⟨rfl,br⟩
      have aN:(bE W0 n o) wx:=by
       obtain⟨h0,u0,u1,u2,u3,u4,u5,u6,u7⟩:=hHeld;have hk:∀ {i:Nat} {u:Value},_→wx.cell? ⟨n,i,none⟩=some u:=fun {i u} hc=>(br.cell (p:=⟨n,i,none⟩) (aX hc)).trans hc
       exact⟨h0.trans (br.mono h0.size),hk u0,hk u1,hk u2,hk u3,hk u4,hk u5,hk u6,hk u7⟩
      refine kH hK aN fun hHeld=>?_
      clear hK K;refine ap 4 5 6 7 ?_;refine ap 8 9 10 11 ?_;refine ap 12 13 14 15 ?_;refine aJ 16 (fun K hK=>?_);go_simp;refine(HC.out _).mono ?_;rintro ex wx ⟨rfl,br⟩
      have aN:(bE W0 n o) wx:=by
       obtain⟨h0,u0,u1,u2,u3,u4,u5,u6,u7⟩:=hHeld;have hk:∀ {i:Nat} {u:Value},_→wx.cell? ⟨n,i,none⟩=some u:=fun {i u} hc=>(br.cell (p:=⟨n,i,none⟩) (aX hc)).trans hc
       exact⟨h0.trans (br.mono h0.size),hk u0,hk u1,hk u2,hk u3,hk u4,hk u5,hk u6,hk u7⟩
      refine kH hK aN fun hHeld=>?_
      clear hK K;refine ap 17 18 19 20 ?_;refine aF 21 ?_;refine aJ 22 (fun K hK=>?_);go_simp;refine(HM.out _).mono ?_;rintro ex wx ⟨rfl,br⟩
      have aN:(bE W0 n o) wx:=by
       obtain⟨h0,u0,u1,u2,u3,u4,u5,u6,u7⟩:=hHeld;have hk:∀ {i:Nat} {u:Value},_→wx.cell? ⟨n,i,none⟩=some u:=fun {i u} hc=>(br.cell (p:=⟨n,i,none⟩) (aX hc)).trans hc
       exact⟨h0.trans (br.mono h0.size),hk u0,hk u1,hk u2,hk u3,hk u4,hk u5,hk u6,hk u7⟩
      refine kH hK aN fun hHeld=>?_
      clear hK K;refine bw 23 24 ?_;refine aF 25 ?_;refine bh ?_;clear ct;go_wp2_with fail;go_ret;exact⟨bq (by have p0:aH o 4 o.wd:=(by first | exact of_decide_eq_true h0 | exact of_decide_eq_false h0 | simpa using h0 | (have hh:=h0;simp at hh;omega));have p1:2≤o.s:=(by first | exact of_decide_eq_true h1 | exact of_decide_eq_false h1 | simpa using h1 | (have hh:=h1;simp at hh;omega));have p2:o.s≤16:=(by first | exact of_decide_eq_true h2 | exact of_decide_eq_false h2 | simpa using h2 | (have hh:=h2;simp at hh;omega));have p3:di o:=(by first | exact of_decide_eq_true h3 | exact of_decide_eq_false h3 | simpa using h3 | (have hh:=h3;simp at hh;omega));have p4:o.st<o.s*1048576:=(by first | exact of_decide_eq_true h4 | exact of_decide_eq_false h4 | simpa using h4 | (have hh:=h4;simp at hh;omega));have q:decide (bY o)=true:=(by rw[decide_eq_true_iff];unfold bY;first | omega | simp[p0,p1,p2,p3,p4]);rw[q];(try assumption)),HB.out.trans (hHeld.1.mono (by have:=HB.out.size;omega))⟩
theorem fb (o:Ob) (w:World):Calls Tryz.prog 45 #[.agg (af o)] w fun e w'=>e=.returned (.bool (decide (bS o)))∧Below w.heap.size w w':=by
 obtain⟨W0,BW⟩:∃ W0,w.alloc (.cells #[.int .i64 o.k,.int .i64 o.wd,.int .i64 o.s,.int .i64 o.c,.int .u32 o.st,.slice o.I o.ni o.ci,.int .i64 o.wr,.slice o.R o.nr o.cr] 26)=W0:=⟨_,rfl⟩;have hn:=ObX.new w o;have hB:=bt w (.cells (af o) 26);unfold af at hn hB;rw[BW] at hn hB;obtain⟨n,aq⟩:∃ n,w.heap.size=n:=⟨_,rfl⟩;rw[aq] at hn hB;have ct:(bE W0 n o) W0.drew:=⟨(Below.refl W0.heap.size W0).drew,(ObX.kept hn (Below.refl W0.heap.size W0).drew).cells⟩;have HN:=hid hn;have HB:=hid hB;clear hn hB;rw[aq]
 rcases h0:(decide (aH o 6 0)) with _ | _
 ·have hw:=fun W=>cL o 6 0 W
  simp only[h0] at hw;unfold af at hw;have HW:=hid hw;clear hw;unfold af;go_enter Tryz.func45,Tryz.ntmps45;go_wp2_with fail;refine wp_region_held_drew (S:=(bE W0 n o)) (by kernel_rfl) ct (fun hHeld=>?_);generalize W0.drew=wd at hHeld ⊢;have hHeld:(bE W0 n o) wd:=hHeld;refine aF 0 ?_;refine aJ 1 (fun K hK=>?_);go_simp;refine(HW.out _).mono ?_;rintro ex wx ⟨rfl,br⟩
  have aN:(bE W0 n o) wx:=by
   obtain⟨h0,u0,u1,u2,u3,u4,u5,u6,u7⟩:=hHeld;have hk:∀ {i:Nat} {u:Value},_→wx.cell? ⟨n,i,none⟩=some u:=fun {i u} hc=>(br.cell (p:=⟨n,i,none⟩) (aX hc)).trans hc
   exact⟨h0.trans (br.mono h0.size),hk u0,hk u1,hk u2,hk u3,hk u4,hk u5,hk u6,hk u7⟩
  refine kH hK aN fun hHeld=>?_
  clear hK K;refine aF 2 ?_;refine qI 3 4 ?_;refine lG 5 ?_;refine bw 6 7 ?_;refine qI 8 9 ?_;refine lG 10 ?_;refine bw 11 12 ?_;refine qI 13 14 ?_;refine lG 15 ?_;refine bw 16 17 ?_;refine nZ 18 19 20 21 ?_;refine lG 22 ?_;refine bw 23 24 ?_;refine nZ 25 26 27 28 ?_;refine bw 29 30 ?_;refine bh ?_;clear ct;go_wp2_with fail;go_ret;exact⟨bq (by have p0:¬ (aH o 6 0):=(by first | exact of_decide_eq_true h0 | exact of_decide_eq_false h0 | simpa using h0 | (have hh:=h0;simp at hh;omega));have q:decide (bS o)=false:=(by rw[decide_eq_false_iff_not];unfold bS;first | omega | simp[p0]);rw[q];(try assumption)),HB.out.trans (hHeld.1.mono (by have:=HB.out.size;omega))⟩
 ·rcases h1:(decide (1≤o.s)) with _ | _
  ·have hw:=fun W=>cL o 6 0 W
   simp only[h0] at hw;unfold af at hw;have HW:=hid hw;clear hw;unfold af;go_enter Tryz.func45,Tryz.ntmps45;go_wp2_with fail;refine wp_region_held_drew (S:=(bE W0 n o)) (by kernel_rfl) ct (fun hHeld=>?_);generalize W0.drew=wd at hHeld ⊢;have hHeld:(bE W0 n o) wd:=hHeld;refine aF 0 ?_;refine aJ 1 (fun K hK=>?_);go_simp;refine(HW.out _).mono ?_;rintro ex wx ⟨rfl,br⟩
   have aN:(bE W0 n o) wx:=by
    obtain⟨h0,u0,u1,u2,u3,u4,u5,u6,u7⟩:=hHeld;have hk:∀ {i:Nat} {u:Value},_→wx.cell? ⟨n,i,none⟩=some u:=fun {i u} hc=>(br.cell (p:=⟨n,i,none⟩) (aX hc)).trans hc
    exact⟨h0.trans (br.mono h0.size),hk u0,hk u1,hk u2,hk u3,hk u4,hk u5,hk u6,hk u7⟩
   refine kH hK aN fun hHeld=>?_
   clear hK K;refine ap 2 3 4 5 ?_;refine bw 6 7 ?_;refine qI 8 9 ?_;refine lG 10 ?_;refine bw 11 12 ?_;refine qI 13 14 ?_;refine lG 15 ?_;refine bw 16 17 ?_;refine nZ 18 19 20 21 ?_;refine lG 22 ?_;refine bw 23 24 ?_;refine nZ 25 26 27 28 ?_;refine bw 29 30 ?_;refine bh ?_;clear ct;go_wp2_with fail;go_ret;exact⟨bq (by have p0:aH o 6 0:=(by first | exact of_decide_eq_true h0 | exact of_decide_eq_false h0 | simpa using h0 | (have hh:=h0;simp at hh;omega));have p1:¬ (1≤o.s):=(by first | exact of_decide_eq_true h1 | exact of_decide_eq_false h1 | simpa using h1 | (have hh:=h1;simp at hh;omega));have q:decide (bS o)=false:=(by rw[decide_eq_false_iff_not];unfold bS;first | omega | simp[p0,p1]);rw[q];(try assumption)),HB.out.trans (hHeld.1.mono (by have:=HB.out.size;omega))⟩
  ·rcases h2:(decide (o.s≤16)) with _ | _
   ·have hw:=fun W=>cL o 6 0 W
    simp only[h0] at hw;unfold af at hw;have HW:=hid hw;clear hw;unfold af;go_enter Tryz.func45,Tryz.ntmps45;go_wp2_with fail;refine wp_region_held_drew (S:=(bE W0 n o)) (by kernel_rfl) ct (fun hHeld=>?_);generalize W0.drew=wd at hHeld ⊢;have hHeld:(bE W0 n o) wd:=hHeld;refine aF 0 ?_;refine aJ 1 (fun K hK=>?_);go_simp;refine(HW.out _).mono ?_;rintro ex wx ⟨rfl,br⟩
    have aN:(bE W0 n o) wx:=by
     obtain⟨h0,u0,u1,u2,u3,u4,u5,u6,u7⟩:=hHeld;have hk:∀ {i:Nat} {u:Value},_→wx.cell? ⟨n,i,none⟩=some u:=fun {i u} hc=>(br.cell (p:=⟨n,i,none⟩) (aX hc)).trans hc
     exact⟨h0.trans (br.mono h0.size),hk u0,hk u1,hk u2,hk u3,hk u4,hk u5,hk u6,hk u7⟩
    refine kH hK aN fun hHeld=>?_
    clear hK K;refine ap 2 3 4 5 ?_;refine ap 6 7 8 9 ?_;refine bw 10 11 ?_;refine aF 12 ?_;refine qI 13 14 ?_;refine lG 15 ?_;refine bw 16 17 ?_;refine nZ 18 19 20 21 ?_;refine lG 22 ?_;refine bw 23 24 ?_;refine nZ 25 26 27 28 ?_;refine bw 29 30 ?_;refine bh ?_;clear ct;go_wp2_with fail;go_ret;exact⟨bq (by have p0:aH o 6 0:=(by first | exact of_decide_eq_true h0 | exact of_decide_eq_false h0 | simpa using h0 | (have hh:=h0;simp at hh;omega));have p1:1≤o.s:=(by first | exact of_decide_eq_true h1 | exact of_decide_eq_false h1 | simpa using h1 | (have hh:=h1;simp at hh;omega));have p2:¬ (o.s≤16):=(by first | exact of_decide_eq_true h2 | exact of_decide_eq_false h2 | simpa using h2 | (have hh:=h2;simp at hh;omega));have q:decide (bS o)=false:=(by rw[decide_eq_false_iff_not];unfold bS;first | omega | simp[p0,p1,p2]);rw[q];(try assumption)),HB.out.trans (hHeld.1.mono (by have:=HB.out.size;omega))⟩
   ·rcases h3:(o.c==0) with _ | _
    ·have hw:=fun W=>cL o 6 0 W
     simp only[h0] at hw;unfold af at hw;have HW:=hid hw;clear hw;unfold af;go_enter Tryz.func45,Tryz.ntmps45;go_wp2_with fail;refine wp_region_held_drew (S:=(bE W0 n o)) (by kernel_rfl) ct (fun hHeld=>?_);generalize W0.drew=wd at hHeld ⊢;have hHeld:(bE W0 n o) wd:=hHeld;refine aF 0 ?_;refine aJ 1 (fun K hK=>?_);go_simp;refine(HW.out _).mono ?_;rintro ex wx ⟨rfl,br⟩
     have aN:(bE W0 n o) wx:=by
      obtain⟨h0,u0,u1,u2,u3,u4,u5,u6,u7⟩:=hHeld;have hk:∀ {i:Nat} {u:Value},_→wx.cell? ⟨n,i,none⟩=some u:=fun {i u} hc=>(br.cell (p:=⟨n,i,none⟩) (aX hc)).trans hc
      exact⟨h0.trans (br.mono h0.size),hk u0,hk u1,hk u2,hk u3,hk u4,hk u5,hk u6,hk u7⟩
     refine kH hK aN fun hHeld=>?_
     clear hK K;refine ap 2 3 4 5 ?_;refine ap 6 7 8 9 ?_;refine ap 10 11 12 13 ?_;refine ap 14 15 16 17 ?_;refine nZ 18 19 20 21 ?_;refine lG 22 ?_;refine bw 23 24 ?_;refine nZ 25 26 27 28 ?_;refine bw 29 30 ?_;refine bh ?_;clear ct;go_wp2_with fail;go_ret;exact⟨bq (by have p0:aH o 6 0:=(by first | exact of_decide_eq_true h0 | exact of_decide_eq_false h0 | simpa using h0 | (have hh:=h0;simp at hh;omega));have p1:1≤o.s:=(by first | exact of_decide_eq_true h1 | exact of_decide_eq_false h1 | simpa using h1 | (have hh:=h1;simp at hh;omega));have p2:o.s≤16:=(by first | exact of_decide_eq_true h2 | exact of_decide_eq_false h2 | simpa using h2 | (have hh:=h2;simp at hh;omega));have p3:¬ (o.c=0):=(by first | exact of_decide_eq_true h3 | exact of_decide_eq_false h3 | simpa using h3 | (have hh:=h3;simp at hh;omega));have q:decide (bS o)=false:=(by rw[decide_eq_false_iff_not];unfold bS;first | omega | simp[p0,p1,p2,p3]);rw[q];(try assumption)),HB.out.trans (hHeld.1.mono (by have:=HB.out.size;omega))⟩
    ·rcases h4:(decide (o.st<2*o.s)) with _ | _
     ·have hw:=fun W=>cL o 6 0 W
      simp only[h0] at hw;unfold af at hw;have HW:=hid hw;clear hw;have hm:=fun W=>de o (of_decide_eq_true h1) (of_decide_eq_true h2) W
      unfold af at hm;have HM:=hid hm;clear hm;unfold af;go_enter Tryz.func45,Tryz.ntmps45;go_wp2_with fail;refine wp_region_held_drew (S:=(bE W0 n o)) (by kernel_rfl) ct (fun hHeld=>?_);generalize W0.drew=wd at hHeld ⊢;have hHeld:(bE W0 n o) wd:=hHeld;refine aF 0 ?_;refine aJ 1 (fun K hK=>?_);go_simp;refine(HW.out _).mono ?_;rintro ex wx ⟨rfl,br⟩
      have aN:(bE W0 n o) wx:=by
       obtain⟨h0,u0,u1,u2,u3,u4,u5,u6,u7⟩:=hHeld;have hk:∀ {i:Nat} {u:Value},_→wx.cell? ⟨n,i,none⟩=some u:=fun {i u} hc=>(br.cell (p:=⟨n,i,none⟩) (aX hc)).trans hc
       exact⟨h0.trans (br.mono h0.size),hk u0,hk u1,hk u2,hk u3,hk u4,hk u5,hk u6,hk u7⟩
      refine kH hK aN fun hHeld=>?_
      clear hK K;refine ap 2 3 4 5 ?_;refine ap 6 7 8 9 ?_;refine ap 10 11 12 13 ?_;refine ap 14 15 16 17 ?_;refine bw 18 19 ?_;refine aF 20 ?_;refine aJ 21 (fun K hK=>?_);go_simp;refine(HM.out _).mono ?_;rintro ex wx ⟨rfl,br⟩
      have aN:(bE W0 n o) wx:=by
       obtain⟨h0,u0,u1,u2,u3,u4,u5,u6,u7⟩:=hHeld;have hk:∀ {i:Nat} {u:Value},_→wx.cell? ⟨n,i,none⟩=some u:=fun {i u} hc=>(br.cell (p:=⟨n,i,none⟩) (aX hc)).trans hc
       exact⟨h0.trans (br.mono h0.size),hk u0,hk u1,hk u2,hk u3,hk u4,hk u5,hk u6,hk u7⟩
      refine kH hK aN fun hHeld=>?_
      clear hK K;refine bw 22 23 ?_;refine aF 24 ?_;refine nZ 25 26 27 28 ?_;refine bw 29 30 ?_;refine bh ?_;clear ct;go_wp2_with fail;go_ret;exact⟨bq (by have p0:aH o 6 0:=(by first | exact of_decide_eq_true h0 | exact of_decide_eq_false h0 | simpa using h0 | (have hh:=h0;simp at hh;omega));have p1:1≤o.s:=(by first | exact of_decide_eq_true h1 | exact of_decide_eq_false h1 | simpa using h1 | (have hh:=h1;simp at hh;omega));have p2:o.s≤16:=(by first | exact of_decide_eq_true h2 | exact of_decide_eq_false h2 | simpa using h2 | (have hh:=h2;simp at hh;omega));have p3:o.c=0:=(by first | exact of_decide_eq_true h3 | exact of_decide_eq_false h3 | simpa using h3 | (have hh:=h3;simp at hh;omega));have p4:¬ (o.st<2*o.s):=(by first | exact of_decide_eq_true h4 | exact of_decide_eq_false h4 | simpa using h4 | (have hh:=h4;simp at hh;omega));have q:decide (bS o)=false:=(by rw[decide_eq_false_iff_not];unfold bS;first | omega | simp[p0,p1,p2,p3,p4]);rw[q];(try assumption)),HB.out.trans (hHeld.1.mono (by have:=HB.out.size;omega))⟩
     ·rcases h5:(((o.nr:Int)==1)) with _ | _
      ·have hw:=fun W=>cL o 6 0 W
       simp only[h0] at hw;unfold af at hw;have HW:=hid hw;clear hw;have hm:=fun W=>de o (of_decide_eq_true h1) (of_decide_eq_true h2) W
       unfold af at hm;have HM:=hid hm;clear hm;unfold af;go_enter Tryz.func45,Tryz.ntmps45;go_wp2_with fail;refine wp_region_held_drew (S:=(bE W0 n o)) (by kernel_rfl) ct (fun hHeld=>?_);generalize W0.drew=wd at hHeld ⊢;have hHeld:(bE W0 n o) wd:=hHeld;refine aF 0 ?_;refine aJ 1 (fun K hK=>?_);go_simp;refine(HW.out _).mono ?_;rintro ex wx ⟨rfl,br⟩
       have aN:(bE W0 n o) wx:=by
        obtain⟨h0,u0,u1,u2,u3,u4,u5,u6,u7⟩:=hHeld;have hk:∀ {i:Nat} {u:Value},_→wx.cell? ⟨n,i,none⟩=some u:=fun {i u} hc=>(br.cell (p:=⟨n,i,none⟩) (aX hc)).trans hc
        exact⟨h0.trans (br.mono h0.size),hk u0,hk u1,hk u2,hk u3,hk u4,hk u5,hk u6,hk u7⟩
       refine kH hK aN fun hHeld=>?_
       clear hK K;refine ap 2 3 4 5 ?_;refine ap 6 7 8 9 ?_;refine ap 10 11 12 13 ?_;refine ap 14 15 16 17 ?_;refine bw 18 19 ?_;refine aF 20 ?_;refine aJ 21 (fun K hK=>?_);go_simp;refine(HM.out _).mono ?_;rintro ex wx ⟨rfl,br⟩
       have aN:(bE W0 n o) wx:=by
        obtain⟨h0,u0,u1,u2,u3,u4,u5,u6,u7⟩:=hHeld;have hk:∀ {i:Nat} {u:Value},_→wx.cell? ⟨n,i,none⟩=some u:=fun {i u} hc=>(br.cell (p:=⟨n,i,none⟩) (aX hc)).trans hc
        exact⟨h0.trans (br.mono h0.size),hk u0,hk u1,hk u2,hk u3,hk u4,hk u5,hk u6,hk u7⟩
       refine kH hK aN fun hHeld=>?_
       clear hK K;refine ap 22 23 24 25 ?_;refine ap 26 27 28 29 ?_;refine aF 30 ?_;refine bh ?_;clear ct;go_wp2_with fail;go_ret;exact⟨bq (by have p0:aH o 6 0:=(by first | exact of_decide_eq_true h0 | exact of_decide_eq_false h0 | simpa using h0 | (have hh:=h0;simp at hh;omega));have p1:1≤o.s:=(by first | exact of_decide_eq_true h1 | exact of_decide_eq_false h1 | simpa using h1 | (have hh:=h1;simp at hh;omega));have p2:o.s≤16:=(by first | exact of_decide_eq_true h2 | exact of_decide_eq_false h2 | simpa using h2 | (have hh:=h2;simp at hh;omega));have p3:o.c=0:=(by first | exact of_decide_eq_true h3 | exact of_decide_eq_false h3 | simpa using h3 | (have hh:=h3;simp at hh;omega));have p4:o.st<2*o.s:=(by first | exact of_decide_eq_true h4 | exact of_decide_eq_false h4 | simpa using h4 | (have hh:=h4;simp at hh;omega));have p5:¬ (o.nr=1):=(by first | exact of_decide_eq_true h5 | exact of_decide_eq_false h5 | simpa using h5 | (have hh:=h5;simp at hh;omega));have q:decide (bS o)=false:=(by rw[decide_eq_false_iff_not];unfold bS;first | omega | simp[p0,p1,p2,p3,p4,p5]);rw[q];(try assumption)),HB.out.trans (hHeld.1.mono (by have:=HB.out.size;omega))⟩
      ·have hw:=fun W=>cL o 6 0 W
       simp only[h0] at hw;unfold af at hw;have HW:=hid hw;clear hw;have hm:=fun W=>de o (of_decide_eq_true h1) (of_decide_eq_true h2) W
       unfold af at hm;have HM:=hid hm;clear hm;unfold af;go_enter Tryz.func45,Tryz.ntmps45;go_wp2_with fail;refine wp_region_held_drew (S:=(bE W0 n o)) (by kernel_rfl) ct (fun hHeld=>?_);generalize W0.drew=wd at hHeld ⊢;have hHeld:(bE W0 n o) wd:=hHeld;refine aF 0 ?_;refine aJ 1 (fun K hK=>?_);go_simp;refine(HW.out _).mono ?_;rintro ex wx ⟨rfl,br⟩
       have aN:(bE W0 n o) wx:=by
        obtain⟨h0,u0,u1,u2,u3,u4,u5,u6,u7⟩:=hHeld;have hk:∀ {i:Nat} {u:Value},_→wx.cell? ⟨n,i,none⟩=some u:=fun {i u} hc=>(br.cell (p:=⟨n,i,none⟩) (aX hc)).trans hc
        exact⟨h0.trans (br.mono h0.size),hk u0,hk u1,hk u2,hk u3,hk u4,hk u5,hk u6,hk u7⟩
       refine kH hK aN fun hHeld=>?_
       clear hK K;refine ap 2 3 4 5 ?_;refine ap 6 7 8 9 ?_;refine ap 10 11 12 13 ?_;refine ap 14 15 16 17 ?_;refine bw 18 19 ?_;refine aF 20 ?_;refine aJ 21 (fun K hK=>?_);go_simp;refine(HM.out _).mono ?_;rintro ex wx ⟨rfl,br⟩
       have aN:(bE W0 n o) wx:=by
        obtain⟨h0,u0,u1,u2,u3,u4,u5,u6,u7⟩:=hHeld;have hk:∀ {i:Nat} {u:Value},_→wx.cell? ⟨n,i,none⟩=some u:=fun {i u} hc=>(br.cell (p:=⟨n,i,none⟩) (aX hc)).trans hc
        exact⟨h0.trans (br.mono h0.size),hk u0,hk u1,hk u2,hk u3,hk u4,hk u5,hk u6,hk u7⟩
       refine kH hK aN fun hHeld=>?_
       clear hK K;refine ap 22 23 24 25 ?_;refine ap 26 27 28 29 ?_;refine aF 30 ?_;refine bh ?_;clear ct;go_wp2_with fail;go_ret;exact⟨bq (by have p0:aH o 6 0:=(by first | exact of_decide_eq_true h0 | exact of_decide_eq_false h0 | simpa using h0 | (have hh:=h0;simp at hh;omega));have p1:1≤o.s:=(by first | exact of_decide_eq_true h1 | exact of_decide_eq_false h1 | simpa using h1 | (have hh:=h1;simp at hh;omega));have p2:o.s≤16:=(by first | exact of_decide_eq_true h2 | exact of_decide_eq_false h2 | simpa using h2 | (have hh:=h2;simp at hh;omega));have p3:o.c=0:=(by first | exact of_decide_eq_true h3 | exact of_decide_eq_false h3 | simpa using h3 | (have hh:=h3;simp at hh;omega));have p4:o.st<2*o.s:=(by first | exact of_decide_eq_true h4 | exact of_decide_eq_false h4 | simpa using h4 | (have hh:=h4;simp at hh;omega));have p5:o.nr=1:=(by first | exact of_decide_eq_true h5 | exact of_decide_eq_false h5 | simpa using h5 | (have hh:=h5;simp at hh;omega));have q:decide (bS o)=true:=(by rw[decide_eq_true_iff];unfold bS;first | omega | simp[p0,p1,p2,p3,p4,p5]);rw[q];(try assumption)),HB.out.trans (hHeld.1.mono (by have:=HB.out.size;omega))⟩
end Go.Proofs.YtolmpehgeinlkaaGreatDoor
