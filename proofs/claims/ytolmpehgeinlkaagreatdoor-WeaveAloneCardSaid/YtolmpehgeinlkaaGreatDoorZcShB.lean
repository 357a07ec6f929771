/- Which objects may be: micro.Words, Caps, the kinds' Right. -/
import Derived.Test.YtolmpehgeinlkaaGreatDoorZcA
namespace Go.Proofs.YtolmpehgeinlkaaGreatDoor
open Go.RowKit
open Go.Lib (hid)
set_option maxRecDepth 100000
theorem words_o (o:Ob) (kind init:Int) (w:World):Calls Tryz.prog 75 #[.agg (obA o),.int .i64 kind,.int .i64 init] w fun e w'=>e=.returned (.bool (decide (wordsR o kind init)))∧Below w.heap.size w w':=by
 have hn:=ObX.new w o;have hB:=(Below.refl w.heap.size w).alloc (Nat.le_refl _) (.cells (obA o) 26);obtain⟨n,hn0⟩:∃ n,w.heap.size=n:=⟨_,rfl⟩;rw[hn0] at hn hB;have HN:=hid hn;have HB:=hid hB;clear hn hB;rw[hn0]
 rcases h0:(o.k==kind) with _ | _
 rotate_left
 rcases h1:(decide (1≤o.wd)) with _ | _
 rotate_left
 rcases h2:(decide (o.wd≤8)) with _ | _
 rotate_left
 rcases h3:(((o.ni:Int)==init)) with _ | _
 rotate_left
 rcases h4:(decide ((1:Int)≤(o.nr:Int))) with _ | _
 rotate_left
 rcases h5:(decide ((o.nr:Int)≤4)) with _ | _
 rotate_left
 all_goals
  unfold obA at *;go_enter Tryz.func75,Tryz.ntmps75;go_wp2_with fail;go_ret;exact⟨ret_bool (by first | (rw[show decide (wordsR o kind init)=false from by(simp only[decide_eq_false_iff_not,decide_eq_true_eq,beq_iff_eq,beq_eq_false_iff_ne,ne_eq] at *;unfold wordsR;first | omega | (simp_all <;> omega))];first | done | assumption) | (rw[show decide (wordsR o kind init)=true from by(simp only[decide_eq_true_eq,beq_iff_eq] at *;unfold wordsR;first | omega | (simp_all <;> omega))];first | done | assumption)),HB.out⟩
theorem caps_o (o:Ob) (w:World):Calls Tryz.prog 76 #[.agg (obA o)] w fun e w'=>e=.returned (.bool (decide (capsR o)))∧Below w.heap.size w w':=by
 have hn:=ObX.new w o;have hB:=(Below.refl w.heap.size w).alloc (Nat.le_refl _) (.cells (obA o) 26);obtain⟨n,hn0⟩:∃ n,w.heap.size=n:=⟨_,rfl⟩;rw[hn0] at hn hB;have HN:=hid hn;have HB:=hid hB;clear hn hB;rw[hn0]
 rcases h0:(decide (1≤o.c)) with _ | _
 rotate_left
 rcases h1:(decide (o.c≤16)) with _ | _
 rotate_left
 all_goals
  unfold obA at *;go_enter Tryz.func76,Tryz.ntmps76;go_wp2_with fail;go_ret;exact⟨ret_bool (by first | (rw[show decide (capsR o)=false from by(simp only[decide_eq_false_iff_not,decide_eq_true_eq] at *;unfold capsR;first | omega | (simp_all <;> omega))];first | done | assumption) | (rw[show decide (capsR o)=true from by(simp only[decide_eq_true_eq] at *;unfold capsR;first | omega | (simp_all <;> omega))];first | done | assumption)),HB.out⟩
theorem fourRight_o (o:Ob) (_ho:o.Ok) (w:World):Calls Tryz.prog 40 #[.agg (obA o)] w fun e w'=>e=.returned (.bool (decide (fourR o)))∧Below w.heap.size w w':=by
 have hn:=ObX.new w o;have hB:=(Below.refl w.heap.size w).alloc (Nat.le_refl _) (.cells (obA o) 26);obtain⟨n,hn0⟩:∃ n,w.heap.size=n:=⟨_,rfl⟩;rw[hn0] at hn hB;have HN:=hid hn;have HB:=hid hB;clear hn hB;rw[hn0]
 rcases h0:(decide (wordsR o 1 o.wd)) with _ | _
 rotate_left
 rcases h1:(o.s==0) with _ | _
 rotate_left
 rcases h2:(o.c==0) with _ | _
 rotate_left
 rcases h3:(o.st==0) with _ | _
 rotate_left
 rcases h4:(((o.nr:Int)==1)) with _ | _
 rotate_left
 all_goals
  have hw:=fun W=>words_o o 1 o.wd W
  simp only[h0] at hw;unfold obA at hw;have HW:=hid hw;clear hw;unfold obA at *;go_enter Tryz.func40,Tryz.ntmps40;go_wp2_with fail;refine(HW.out _).mono ?_;rintro e w1 ⟨rfl,hb1⟩;have ho1:=ObX.kept (HN.out) hb1;have hB1:=(HB.out).trans (hb1.mono (by have:=(HB.out).size;omega));obtain⟨d0,d1,d2,d3,d4,d5,d6,d7⟩:=ho1.cells;go_wp2_with fail;go_ret;exact⟨ret_bool (by first | (rw[show decide (fourR o)=false from by(simp only[decide_eq_false_iff_not,decide_eq_true_eq,beq_iff_eq,beq_eq_false_iff_ne,ne_eq] at *;unfold fourR;first | omega | (simp_all <;> omega))];first | done | assumption) | (rw[show decide (fourR o)=true from by(simp only[decide_eq_true_eq,beq_iff_eq] at *;unfold fourR;first | omega | (simp_all <;> omega))];first | done | assumption)),hB1⟩
theorem chenRight_o (o:Ob) (_ho:o.Ok) (w:World):Calls Tryz.prog 41 #[.agg (obA o)] w fun e w'=>e=.returned (.bool (decide (chenR o)))∧Below w.heap.size w w':=by
 have hn:=ObX.new w o;have hB:=(Below.refl w.heap.size w).alloc (Nat.le_refl _) (.cells (obA o) 26);obtain⟨n,hn0⟩:∃ n,w.heap.size=n:=⟨_,rfl⟩;rw[hn0] at hn hB;have HN:=hid hn;have HB:=hid hB;clear hn hB;rw[hn0]
 rcases h0:(decide (wordsR o 2 o.wd)) with _ | _
 rotate_left
 rcases h1:(o.s==0) with _ | _
 rotate_left
 rcases h2:(o.c==0) with _ | _
 rotate_left
 rcases h3:(o.st==0) with _ | _
 rotate_left
 all_goals
  have hw:=fun W=>words_o o 2 o.wd W
  simp only[h0] at hw;unfold obA at hw;have HW:=hid hw;clear hw;unfold obA at *;go_enter Tryz.func41,Tryz.ntmps41;go_wp2_with fail;refine(HW.out _).mono ?_;rintro e w1 ⟨rfl,hb1⟩;have ho1:=ObX.kept (HN.out) hb1;have hB1:=(HB.out).trans (hb1.mono (by have:=(HB.out).size;omega));obtain⟨d0,d1,d2,d3,d4,d5,d6,d7⟩:=ho1.cells;go_wp2_with fail;go_ret;exact⟨ret_bool (by first | (rw[show decide (chenR o)=false from by(simp only[decide_eq_false_iff_not,decide_eq_true_eq,beq_iff_eq,beq_eq_false_iff_ne,ne_eq] at *;unfold chenR;first | omega | (simp_all <;> omega))];first | done | assumption) | (rw[show decide (chenR o)=true from by(simp only[decide_eq_true_eq,beq_iff_eq] at *;unfold chenR;first | omega | (simp_all <;> omega))];first | done | assumption)),hB1⟩
theorem seqRight_o (o:Ob) (ho:o.Ok) (w:World):Calls Tryz.prog 42 #[.agg (obA o)] w fun e w'=>e=.returned (.bool (decide (seqR o)))∧Below w.heap.size w w':=by
 have e1:o.st.tmod 2=o.st%2:=Int.tmod_eq_emod_of_nonneg ho.st0;have e2:IntKind.u32.wrap (o.st%2)=o.st%2:=sh_wrap32 (by omega) (by omega);have hn:=ObX.new w o;have hB:=(Below.refl w.heap.size w).alloc (Nat.le_refl _) (.cells (obA o) 26);obtain⟨n,hn0⟩:∃ n,w.heap.size=n:=⟨_,rfl⟩;rw[hn0] at hn hB;have HN:=hid hn;have HB:=hid hB;clear hn hB;rw[hn0]
 rcases h0:(decide (wordsR o 3 o.wd)) with _ | _
 rotate_left
 rcases h1:(o.s==0) with _ | _
 rotate_left
 ·rcases h2:(decide (capsR o)) with _ | _
  rotate_left
  rcases h3:((o.st%2==0)) with _ | _
  rotate_left
  all_goals
   have hc:=fun W=>caps_o o W
   simp only[h2] at hc;unfold obA at hc;have HC:=hid hc;clear hc;have hw:=fun W=>words_o o 3 o.wd W
   simp only[h0] at hw;unfold obA at hw;have HW:=hid hw;clear hw;unfold obA at *;go_enter Tryz.func42,Tryz.ntmps42;go_wp2_with fail;refine(HW.out _).mono ?_;rintro e w1 ⟨rfl,hb1⟩;have ho1:=ObX.kept (HN.out) hb1;have hB1:=(HB.out).trans (hb1.mono (by have:=(HB.out).size;omega));obtain⟨d0,d1,d2,d3,d4,d5,d6,d7⟩:=ho1.cells;go_wp2_with fail;refine(HC.out _).mono ?_;rintro e w2 ⟨rfl,hb2⟩;have ho2:=ObX.kept (ho1) hb2;have hB2:=(hB1).trans (hb2.mono (by have:=(hB1).size;omega));clear d0 d1 d2 d3 d4 d5 d6 d7;obtain⟨d0,d1,d2,d3,d4,d5,d6,d7⟩:=ho2.cells;go_wp2_with fail;go_ret;exact⟨ret_bool (by first | (rw[show decide (seqR o)=false from by(simp only[decide_eq_false_iff_not,decide_eq_true_eq,beq_iff_eq,beq_eq_false_iff_ne,ne_eq] at *;unfold seqR;first | omega | (simp_all <;> omega))];first | done | assumption) | (rw[show decide (seqR o)=true from by(simp only[decide_eq_true_eq,beq_iff_eq] at *;unfold seqR;first | omega | (simp_all <;> omega))];first | done | assumption)),hB2⟩
 all_goals
  have hw:=fun W=>words_o o 3 o.wd W
  simp only[h0] at hw;unfold obA at hw;have HW:=hid hw;clear hw;unfold obA at *;go_enter Tryz.func42,Tryz.ntmps42;go_wp2_with fail;refine(HW.out _).mono ?_;rintro e w1 ⟨rfl,hb1⟩;have ho1:=ObX.kept (HN.out) hb1;have hB1:=(HB.out).trans (hb1.mono (by have:=(HB.out).size;omega));obtain⟨d0,d1,d2,d3,d4,d5,d6,d7⟩:=ho1.cells;go_wp2_with fail;go_ret;exact⟨ret_bool (by first | (rw[show decide (seqR o)=false from by(simp only[decide_eq_false_iff_not,decide_eq_true_eq,beq_eq_false_iff_ne,ne_eq] at *;unfold seqR;first | omega | (simp_all <;> omega))];first | done | assumption) | (rw[show decide (seqR o)=true from by(simp only[decide_eq_false_iff_not,decide_eq_true_eq,beq_iff_eq,beq_eq_false_iff_ne,bne_iff_ne,bne_eq_false_iff_eq,ne_eq] at *;unfold seqR;first | omega | (simp_all <;> omega))];first | done | assumption)),hB1⟩
theorem cabRight_o (o:Ob) (ho:o.Ok) (w:World):Calls Tryz.prog 44 #[.agg (obA o)] w fun e w'=>e=.returned (.bool (decide (cabR o)))∧Below w.heap.size w w':=by
 have e1:IntKind.i64.wrap ((o.nr:Int)+2)=(o.nr:Int)+2:=sh_wrap (by omega) (by have:=ho.nr1;omega);have hn:=ObX.new w o;have hB:=(Below.refl w.heap.size w).alloc (Nat.le_refl _) (.cells (obA o) 26);obtain⟨n,hn0⟩:∃ n,w.heap.size=n:=⟨_,rfl⟩;rw[hn0] at hn hB;have HN:=hid hn;have HB:=hid hB;clear hn hB;rw[hn0]
 rcases h0:(decide (wordsR o 5 o.wd)) with _ | _
 rotate_left
 rcases h1:(decide ((o.nr:Int)+2≤o.s)) with _ | _
 rotate_left
 rcases h2:(decide (o.s≤16)) with _ | _
 rotate_left
 ·rcases h3:(decide (capsR o)) with _ | _
  rotate_left
  rcases h4:(o.st==0) with _ | _
  rotate_left
  all_goals
   have hc:=fun W=>caps_o o W
   simp only[h3] at hc;unfold obA at hc;have HC:=hid hc;clear hc;have hw:=fun W=>words_o o 5 o.wd W
   simp only[h0] at hw;unfold obA at hw;have HW:=hid hw;clear hw;unfold obA at *;go_enter Tryz.func44,Tryz.ntmps44;go_wp2_with fail;refine(HW.out _).mono ?_;rintro e w1 ⟨rfl,hb1⟩;have ho1:=ObX.kept (HN.out) hb1;have hB1:=(HB.out).trans (hb1.mono (by have:=(HB.out).size;omega));obtain⟨d0,d1,d2,d3,d4,d5,d6,d7⟩:=ho1.cells;go_wp2_with fail;refine(HC.out _).mono ?_;rintro e w2 ⟨rfl,hb2⟩;have ho2:=ObX.kept (ho1) hb2;have hB2:=(hB1).trans (hb2.mono (by have:=(hB1).size;omega));clear d0 d1 d2 d3 d4 d5 d6 d7;obtain⟨d0,d1,d2,d3,d4,d5,d6,d7⟩:=ho2.cells;go_wp2_with fail;go_ret;exact⟨ret_bool (by first | (rw[show decide (cabR o)=false from by(simp only[decide_eq_false_iff_not,decide_eq_true_eq,beq_iff_eq,beq_eq_false_iff_ne,ne_eq] at *;unfold cabR;first | omega | (simp_all <;> omega))];first | done | assumption) | (rw[show decide (cabR o)=true from by(simp only[decide_eq_true_eq,beq_iff_eq] at *;unfold cabR;first | omega | (simp_all <;> omega))];first | done | assumption)),hB2⟩
 all_goals
  have hw:=fun W=>words_o o 5 o.wd W
  simp only[h0] at hw;unfold obA at hw;have HW:=hid hw;clear hw;unfold obA at *;go_enter Tryz.func44,Tryz.ntmps44;go_wp2_with fail;refine(HW.out _).mono ?_;rintro e w1 ⟨rfl,hb1⟩;have ho1:=ObX.kept (HN.out) hb1;have hB1:=(HB.out).trans (hb1.mono (by have:=(HB.out).size;omega));obtain⟨d0,d1,d2,d3,d4,d5,d6,d7⟩:=ho1.cells;go_wp2_with fail;go_ret;exact⟨ret_bool (by first | (rw[show decide (cabR o)=false from by(simp only[decide_eq_false_iff_not,decide_eq_true_eq] at *;unfold cabR;first | omega | (simp_all <;> omega))];first | done | assumption) | (rw[show decide (cabR o)=true from by(simp only[decide_eq_false_iff_not,decide_eq_true_eq,beq_iff_eq,beq_eq_false_iff_ne,bne_iff_ne,bne_eq_false_iff_eq,ne_eq] at *;unfold cabR;first | omega | (simp_all <;> omega))];first | done | assumption)),hB1⟩
end Go.Proofs.YtolmpehgeinlkaaGreatDoor
