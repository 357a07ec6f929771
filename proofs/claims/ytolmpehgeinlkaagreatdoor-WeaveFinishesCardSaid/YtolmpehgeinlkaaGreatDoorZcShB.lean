/- Which objects may be: micro.Words, Caps, the kinds' Right. -/
import Derived.Test.YtolmpehgeinlkaaGreatDoorZcA
namespace Go.Proofs.YtolmpehgeinlkaaGreatDoor
open Go.RowKit
open Go.Lib (hid)
set_option maxRecDepth 100000
theorem cL (o:Ob) (kind init:Int) (w:World):Calls Tryz.prog 75 #[.agg (af o),.int .i64 kind,.int .i64 init] w fun e w'=>e=.returned (.bool (decide (aH o kind init)))∧Below w.heap.size w w':=by
 have hn:=ObX.new w o;have hB:=bt w (.cells (af o) 26);obtain⟨n,aq⟩:∃ n,w.heap.size=n:=⟨_,rfl⟩;rw[aq] at hn hB;have HN:=hid hn;have HB:=hid hB;clear hn hB;rw[aq]
 rcases h0:(o.k==kind) with _ | _
 rotate_left
 rcases h1:(decide (1≤o.wd)) with _ | _
 rotate_left
 rcases h2:(decide (o.wd≤8)) with _ | _
 rotate_left
 rcases h3:(((o.ni:Int)==init)) with _ | _
 rotate_left
 rcases h4:(decide ((1:Int)≤(o.nr:Int))) with _ | _
 rotate_left
 rcases h5:(decide ((o.nr:Int)≤4)) with _ | _
 rotate_left
 all_goals
  unfold af at *;go_enter Tryz.func75,Tryz.ntmps75;go_wp2_with fail;go_ret;exact⟨bq (by first | (rw[show decide (aH o kind init)=false from by(simp only[decide_eq_false_iff_not,decide_eq_true_eq,beq_iff_eq,beq_eq_false_iff_ne,ne_eq] at *;unfold aH;first | omega | (simp_all <;> omega))];first | done | assumption) | (rw[show decide (aH o kind init)=true from by(simp only[decide_eq_true_eq,beq_iff_eq] at *;unfold aH;first | omega | (simp_all <;> omega))];first | done | assumption)),HB.out⟩
theorem mX (o:Ob) (w:World):Calls Tryz.prog 76 #[.agg (af o)] w fun e w'=>e=.returned (.bool (decide (di o)))∧Below w.heap.size w w':=by
 have hn:=ObX.new w o;have hB:=bt w (.cells (af o) 26);obtain⟨n,aq⟩:∃ n,w.heap.size=n:=⟨_,rfl⟩;rw[aq] at hn hB;have HN:=hid hn;have HB:=hid hB;clear hn hB;rw[aq]
 rcases h0:(decide (1≤o.c)) with _ | _
 rotate_left
 rcases h1:(decide (o.c≤16)) with _ | _
 rotate_left
 all_goals
  unfold af at *;go_enter Tryz.func76,Tryz.ntmps76;go_wp2_with fail;go_ret;exact⟨bq (by first | (rw[show decide (di o)=false from by(simp only[decide_eq_false_iff_not,decide_eq_true_eq] at *;unfold di;first | omega | (simp_all <;> omega))];first | done | assumption) | (rw[show decide (di o)=true from by(simp only[decide_eq_true_eq] at *;unfold di;first | omega | (simp_all <;> omega))];first | done | assumption)),HB.out⟩
theorem fc (o:Ob) (_ho:o.Ok) (w:World):Calls Tryz.prog 40 #[.agg (af o)] w fun e w'=>e=.returned (.bool (decide (cG o)))∧Below w.heap.size w w':=by
 have hn:=ObX.new w o;have hB:=bt w (.cells (af o) 26);obtain⟨n,aq⟩:∃ n,w.heap.size=n:=⟨_,rfl⟩;rw[aq] at hn hB;have HN:=hid hn;have HB:=hid hB;clear hn hB;rw[aq]
 rcases h0:(decide (aH o 1 o.wd)) with _ | _
 rotate_left
 rcases h1:(o.s==0) with _ | _
 rotate_left
 rcases h2:(o.c==0) with _ | _
 rotate_left
 rcases h3:(o.st==0) with _ | _
 rotate_left
 rcases h4:(((o.nr:Int)==1)) with _ | _
 rotate_left
 all_goals
  have hw:=fun W=>cL o 1 o.wd W
  simp only[h0] at hw;unfold af at hw;have HW:=hid hw;clear hw;unfold af at *;go_enter Tryz.func40,Tryz.ntmps40;go_wp2_with fail;refine(HW.out _).mono ?_;rintro e w1 ⟨rfl,am⟩;have aP:=ObX.kept HN.out am;have aO:=bv HB.out am;obtain⟨d0,d1,d2,d3,d4,d5,d6,d7⟩:=aP.cells;go_wp2_with fail;go_ret;exact⟨bq (by first | (rw[show decide (cG o)=false from by(simp only[decide_eq_false_iff_not,decide_eq_true_eq,beq_iff_eq,beq_eq_false_iff_ne,ne_eq] at *;unfold cG;first | omega | (simp_all <;> omega))];first | done | assumption) | (rw[show decide (cG o)=true from by(simp only[decide_eq_true_eq,beq_iff_eq] at *;unfold cG;first | omega | (simp_all <;> omega))];first | done | assumption)),aO⟩
theorem fg (o:Ob) (_ho:o.Ok) (w:World):Calls Tryz.prog 41 #[.agg (af o)] w fun e w'=>e=.returned (.bool (decide (cF o)))∧Below w.heap.size w w':=by
 have hn:=ObX.new w o;have hB:=bt w (.cells (af o) 26);obtain⟨n,aq⟩:∃ n,w.heap.size=n:=⟨_,rfl⟩;rw[aq] at hn hB;have HN:=hid hn;have HB:=hid hB;clear hn hB;rw[aq]
 rcases h0:(decide (aH o 2 o.wd)) with _ | _
 rotate_left
 rcases h1:(o.s==0) with _ | _
 rotate_left
 rcases h2:(o.c==0) with _ | _
 rotate_left
 rcases h3:(o.st==0) with _ | _
 rotate_left
 all_goals
  have hw:=fun W=>cL o 2 o.wd W
  simp only[h0] at hw;unfold af at hw;have HW:=hid hw;clear hw;unfold af at *;go_enter Tryz.func41,Tryz.ntmps41;go_wp2_with fail;refine(HW.out _).mono ?_;rintro e w1 ⟨rfl,am⟩;have aP:=ObX.kept HN.out am;have aO:=bv HB.out am;obtain⟨d0,d1,d2,d3,d4,d5,d6,d7⟩:=aP.cells;go_wp2_with fail;go_ret;exact⟨bq (by first | (rw[show decide (cF o)=false from by(simp only[decide_eq_false_iff_not,decide_eq_true_eq,beq_iff_eq,beq_eq_false_iff_ne,ne_eq] at *;unfold cF;first | omega | (simp_all <;> omega))];first | done | assumption) | (rw[show decide (cF o)=true from by(simp only[decide_eq_true_eq,beq_iff_eq] at *;unfold cF;first | omega | (simp_all <;> omega))];first | done | assumption)),aO⟩
theorem ee (o:Ob) (ho:o.Ok) (w:World):Calls Tryz.prog 42 #[.agg (af o)] w fun e w'=>e=.returned (.bool (decide (dB o)))∧Below w.heap.size w w':=by
 have e1:o.st.tmod 2=o.st%2:=Int.tmod_eq_emod_of_nonneg ho.st0;have e2:IntKind.u32.wrap (o.st%2)=o.st%2:=aa (by omega) (by omega);have hn:=ObX.new w o;have hB:=bt w (.cells (af o) 26);obtain⟨n,aq⟩:∃ n,w.heap.size=n:=⟨_,rfl⟩;rw[aq] at hn hB;have HN:=hid hn;have HB:=hid hB;clear hn hB;rw[aq]
 rcases h0:(decide (aH o 3 o.wd)) with _ | _
 rotate_left
 rcases h1:(o.s==0) with _ | _
 rotate_left
 ·rcases h2:(decide (di o)) with _ | _
  rotate_left
  rcases h3:((o.st%2==0)) with _ | _
  rotate_left
  all_goals
   have hc:=fun W=>mX o W
   simp only[h2] at hc;unfold af at hc;have HC:=hid hc;clear hc;have hw:=fun W=>cL o 3 o.wd W
   simp only[h0] at hw;unfold af at hw;have HW:=hid hw;clear hw;unfold af at *;go_enter Tryz.func42,Tryz.ntmps42;go_wp2_with fail;refine(HW.out _).mono ?_;rintro e w1 ⟨rfl,am⟩;have aP:=ObX.kept HN.out am;have aO:=bv HB.out am;obtain⟨d0,d1,d2,d3,d4,d5,d6,d7⟩:=aP.cells;go_wp2_with fail;refine(HC.out _).mono ?_;rintro e w2 ⟨rfl,bu⟩;have cC:=ObX.kept (aP) bu;have bz:=bv aO bu;clear d0 d1 d2 d3 d4 d5 d6 d7;obtain⟨d0,d1,d2,d3,d4,d5,d6,d7⟩:=cC.cells;go_wp2_with fail;go_ret;exact⟨bq (by first | (rw[show decide (dB o)=false from by(simp only[decide_eq_false_iff_not,decide_eq_true_eq,beq_iff_eq,beq_eq_false_iff_ne,ne_eq] at *;unfold dB;first | omega | (simp_all <;> omega))];first | done | assumption) | (rw[show decide (dB o)=true from by(simp only[decide_eq_true_eq,beq_iff_eq] at *;unfold dB;first | omega | (simp_all <;> omega))];first | done | assumption)),bz⟩
 all_goals
  have hw:=fun W=>cL o 3 o.wd W
  simp only[h0] at hw;unfold af at hw;have HW:=hid hw;clear hw;unfold af at *;go_enter Tryz.func42,Tryz.ntmps42;go_wp2_with fail;refine(HW.out _).mono ?_;rintro e w1 ⟨rfl,am⟩;have aP:=ObX.kept HN.out am;have aO:=bv HB.out am;obtain⟨d0,d1,d2,d3,d4,d5,d6,d7⟩:=aP.cells;go_wp2_with fail;go_ret;exact⟨bq (by first | (rw[show decide (dB o)=false from by(simp only[decide_eq_false_iff_not,decide_eq_true_eq,beq_eq_false_iff_ne,ne_eq] at *;unfold dB;first | omega | (simp_all <;> omega))];first | done | assumption) | (rw[show decide (dB o)=true from by(simp only[decide_eq_false_iff_not,decide_eq_true_eq,beq_iff_eq,beq_eq_false_iff_ne,bne_iff_ne,bne_eq_false_iff_eq,ne_eq] at *;unfold dB;first | omega | (simp_all <;> omega))];first | done | assumption)),aO⟩
theorem fL (o:Ob) (ho:o.Ok) (w:World):Calls Tryz.prog 44 #[.agg (af o)] w fun e w'=>e=.returned (.bool (decide (dK o)))∧Below w.heap.size w w':=by
 have e1:IntKind.i64.wrap ((o.nr:Int)+2)=(o.nr:Int)+2:=ac (by omega) (by have:=ho.nr1;omega);have hn:=ObX.new w o;have hB:=bt w (.cells (af o) 26);obtain⟨n,aq⟩:∃ n,w.heap.size=n:=⟨_,rfl⟩;rw[aq] at hn hB;have HN:=hid hn;have HB:=hid hB;clear hn hB;rw[aq]
 rcases h0:(decide (aH o 5 o.wd)) with _ | _
 rotate_left
 rcases h1:(decide ((o.nr:Int)+2≤o.s)) with _ | _
 rotate_left
 rcases h2:(decide (o.s≤16)) with _ | _
 rotate_left
 ·rcases h3:(decide (di o)) with _ | _
  rotate_left
  rcases h4:(o.st==0) with _ | _
  rotate_left
  all_goals
   have hc:=fun W=>mX o W
   simp only[h3] at hc;unfold af at hc;have HC:=hid hc;clear hc;have hw:=fun W=>cL o 5 o.wd W
   simp only[h0] at hw;unfold af at hw;have HW:=hid hw;clear hw;unfold af at *;go_enter Tryz.func44,Tryz.ntmps44;go_wp2_with fail;refine(HW.out _).mono ?_;rintro e w1 ⟨rfl,am⟩;have aP:=ObX.kept HN.out am;have aO:=bv HB.out am;obtain⟨d0,d1,d2,d3,d4,d5,d6,d7⟩:=aP.cells;go_wp2_with fail;refine(HC.out _).mono ?_;rintro e w2 ⟨rfl,bu⟩;have cC:=ObX.kept (aP) bu;have bz:=bv aO bu;clear d0 d1 d2 d3 d4 d5 d6 d7;obtain⟨d0,d1,d2,d3,d4,d5,d6,d7⟩:=cC.cells;go_wp2_with fail;go_ret;exact⟨bq (by first | (rw[show decide (dK o)=false from by(simp only[decide_eq_false_iff_not,decide_eq_true_eq,beq_iff_eq,beq_eq_false_iff_ne,ne_eq] at *;unfold dK;first | omega | (simp_all <;> omega))];first | done | assumption) | (rw[show decide (dK o)=true from by(simp only[decide_eq_true_eq,beq_iff_eq] at *;unfold dK;first | omega | (simp_all <;> omega))];first | done | assumption)),bz⟩
 all_goals
  have hw:=fun W=>cL o 5 o.wd W
  simp only[h0] at hw;unfold af at hw;have HW:=hid hw;clear hw;unfold af at *;go_enter Tryz.func44,Tryz.ntmps44;go_wp2_with fail;refine(HW.out _).mono ?_;rintro e w1 ⟨rfl,am⟩;have aP:=ObX.kept HN.out am;have aO:=bv HB.out am;obtain⟨d0,d1,d2,d3,d4,d5,d6,d7⟩:=aP.cells;go_wp2_with fail;go_ret;exact⟨bq (by first | (rw[show decide (dK o)=false from by(simp only[decide_eq_false_iff_not,decide_eq_true_eq] at *;unfold dK;first | omega | (simp_all <;> omega))];first | done | assumption) | (rw[show decide (dK o)=true from by(simp only[decide_eq_false_iff_not,decide_eq_true_eq,beq_iff_eq,beq_eq_false_iff_ne,bne_iff_ne,bne_eq_false_iff_eq,ne_eq] at *;unfold dK;first | omega | (simp_all <;> omega))];first | done | assumption)),aO⟩
end Go.Proofs.YtolmpehgeinlkaaGreatDoor
