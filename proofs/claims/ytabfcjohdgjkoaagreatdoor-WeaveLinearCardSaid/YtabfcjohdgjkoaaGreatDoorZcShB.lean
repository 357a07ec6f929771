/- Which objects may be: micro.Words, Caps, the kinds' Right. -/
import Derived.Test.YtabfcjohdgjkoaaGreatDoorZcA
namespace Go.Proofs.YtabfcjohdgjkoaaGreatDoor
open Go.RowKit
open Go.Lib (hid)
set_option maxRecDepth 100000
theorem cB (o:Ob) (kind init:Int) (w:World):Calls Tryz.prog 193 #[.agg (af o),.int .i64 kind,.int .i64 init] w fun e w'=>e=.returned (.bool (decide (ax o kind init)))∧Below w.heap.size w w':=by
 have hn:=ObX.new w o;have hB:=bK w (.cells (af o) 26);obtain⟨n,aI⟩:∃ n,w.heap.size=n:=⟨_,rfl⟩;rw[aI] at hn hB;have HN:=hid hn;have HB:=hid hB;clear hn hB;rw[aI]
 rcases h0:(o.k==kind) with _ | _
 rotate_left
 rcases h1:(decide (1≤o.wd)) with _ | _
 rotate_left
 rcases h2:(decide (o.wd≤8)) with _ | _
 rotate_left
 rcases h3:(((o.ni:Int)==init)) with _ | _
 rotate_left
 rcases h4:(decide ((1:Int)≤(o.nr:Int))) with _ | _
 rotate_left
 rcases h5:(decide ((o.nr:Int)≤4)) with _ | _
 rotate_left
 all_goals
  unfold af at *;go_enter Tryz.func193,Tryz.ntmps193;go_wp2_with fail;go_ret;exact⟨az (by first | (rw[show decide (ax o kind init)=false from by(simp only[decide_eq_false_iff_not,decide_eq_true_eq,beq_iff_eq,beq_eq_false_iff_ne,ne_eq] at *;unfold ax;first | omega | (simp_all <;> omega))];first | done | assumption) | (rw[show decide (ax o kind init)=true from by(simp only[decide_eq_true_eq,beq_iff_eq] at *;unfold ax;first | omega | (simp_all <;> omega))];first | done | assumption)),HB.out⟩
theorem nJ (o:Ob) (w:World):Calls Tryz.prog 194 #[.agg (af o)] w fun e w'=>e=.returned (.bool (decide (dB o)))∧Below w.heap.size w w':=by
 have hn:=ObX.new w o;have hB:=bK w (.cells (af o) 26);obtain⟨n,aI⟩:∃ n,w.heap.size=n:=⟨_,rfl⟩;rw[aI] at hn hB;have HN:=hid hn;have HB:=hid hB;clear hn hB;rw[aI]
 rcases h0:(decide (1≤o.c)) with _ | _
 rotate_left
 rcases h1:(decide (o.c≤16)) with _ | _
 rotate_left
 all_goals
  unfold af at *;go_enter Tryz.func194,Tryz.ntmps194;go_wp2_with fail;go_ret;exact⟨az (by first | (rw[show decide (dB o)=false from by(simp only[decide_eq_false_iff_not,decide_eq_true_eq] at *;unfold dB;first | omega | (simp_all <;> omega))];first | done | assumption) | (rw[show decide (dB o)=true from by(simp only[decide_eq_true_eq] at *;unfold dB;first | omega | (simp_all <;> omega))];first | done | assumption)),HB.out⟩
theorem jo (o:Ob) (_ho:o.Ok) (w:World):Calls Tryz.prog 135 #[.agg (af o)] w fun e w'=>e=.returned (.bool (decide (cG o)))∧Below w.heap.size w w':=by
 have hn:=ObX.new w o;have hB:=bK w (.cells (af o) 26);obtain⟨n,aI⟩:∃ n,w.heap.size=n:=⟨_,rfl⟩;rw[aI] at hn hB;have HN:=hid hn;have HB:=hid hB;clear hn hB;rw[aI]
 rcases h0:(decide (ax o 1 o.wd)) with _ | _
 rotate_left
 rcases h1:(o.s==0) with _ | _
 rotate_left
 rcases h2:(o.c==0) with _ | _
 rotate_left
 rcases h3:(o.st==0) with _ | _
 rotate_left
 rcases h4:(((o.nr:Int)==1)) with _ | _
 rotate_left
 all_goals
  have hw:=fun W=>cB o 1 o.wd W
  simp only[h0] at hw;unfold af at hw;have HW:=hid hw;clear hw;unfold af at *;go_enter Tryz.func135,Tryz.ntmps135;go_wp2_with fail;refine(HW.out _).mono ?_;rintro e w1 ⟨rfl,aq⟩;have bZ:=ObX.kept HN.out aq;have bF:=eC HB.out aq;obtain⟨d0,d1,d2,d3,d4,d5,d6,d7⟩:=bZ.cells;go_wp2_with fail;go_ret;exact⟨az (by first | (rw[show decide (cG o)=false from by(simp only[decide_eq_false_iff_not,decide_eq_true_eq,beq_iff_eq,beq_eq_false_iff_ne,ne_eq] at *;unfold cG;first | omega | (simp_all <;> omega))];first | done | assumption) | (rw[show decide (cG o)=true from by(simp only[decide_eq_true_eq,beq_iff_eq] at *;unfold cG;first | omega | (simp_all <;> omega))];first | done | assumption)),bF⟩
theorem je (o:Ob) (_ho:o.Ok) (w:World):Calls Tryz.prog 136 #[.agg (af o)] w fun e w'=>e=.returned (.bool (decide (cF o)))∧Below w.heap.size w w':=by
 have hn:=ObX.new w o;have hB:=bK w (.cells (af o) 26);obtain⟨n,aI⟩:∃ n,w.heap.size=n:=⟨_,rfl⟩;rw[aI] at hn hB;have HN:=hid hn;have HB:=hid hB;clear hn hB;rw[aI]
 rcases h0:(decide (ax o 2 o.wd)) with _ | _
 rotate_left
 rcases h1:(o.s==0) with _ | _
 rotate_left
 rcases h2:(o.c==0) with _ | _
 rotate_left
 rcases h3:(o.st==0) with _ | _
 rotate_left
 all_goals
  have hw:=fun W=>cB o 2 o.wd W
  simp only[h0] at hw;unfold af at hw;have HW:=hid hw;clear hw;unfold af at *;go_enter Tryz.func136,Tryz.ntmps136;go_wp2_with fail;refine(HW.out _).mono ?_;rintro e w1 ⟨rfl,aq⟩;have bZ:=ObX.kept HN.out aq;have bF:=eC HB.out aq;obtain⟨d0,d1,d2,d3,d4,d5,d6,d7⟩:=bZ.cells;go_wp2_with fail;go_ret;exact⟨az (by first | (rw[show decide (cF o)=false from by(simp only[decide_eq_false_iff_not,decide_eq_true_eq,beq_iff_eq,beq_eq_false_iff_ne,ne_eq] at *;unfold cF;first | omega | (simp_all <;> omega))];first | done | assumption) | (rw[show decide (cF o)=true from by(simp only[decide_eq_true_eq,beq_iff_eq] at *;unfold cF;first | omega | (simp_all <;> omega))];first | done | assumption)),bF⟩
theorem gu (o:Ob) (ho:o.Ok) (w:World):Calls Tryz.prog 137 #[.agg (af o)] w fun e w'=>e=.returned (.bool (decide (ee o)))∧Below w.heap.size w w':=by
 have e1:o.st.tmod 2=o.st%2:=Int.tmod_eq_emod_of_nonneg ho.st0;have e2:IntKind.u32.wrap (o.st%2)=o.st%2:=aK (by omega) (by omega);have hn:=ObX.new w o;have hB:=bK w (.cells (af o) 26);obtain⟨n,aI⟩:∃ n,w.heap.size=n:=⟨_,rfl⟩;rw[aI] at hn hB;have HN:=hid hn;have HB:=hid hB;clear hn hB;rw[aI]
 rcases h0:(decide (ax o 3 o.wd)) with _ | _
 rotate_left
 rcases h1:(o.s==0) with _ | _
 rotate_left
 ·rcases h2:(decide (dB o)) with _ | _
  rotate_left
  rcases h3:((o.st%2==0)) with _ | _
  rotate_left
  all_goals
   have hc:=fun W=>nJ o W
   simp only[h2] at hc;unfold af at hc;have HC:=hid hc;clear hc;have hw:=fun W=>cB o 3 o.wd W
   simp only[h0] at hw;unfold af at hw;have HW:=hid hw;clear hw;unfold af at *;go_enter Tryz.func137,Tryz.ntmps137;go_wp2_with fail;refine(HW.out _).mono ?_;rintro e w1 ⟨rfl,aq⟩;have bZ:=ObX.kept HN.out aq;have bF:=eC HB.out aq;obtain⟨d0,d1,d2,d3,d4,d5,d6,d7⟩:=bZ.cells;go_wp2_with fail;refine(HC.out _).mono ?_;rintro e w2 ⟨rfl,aO⟩;have fk:=ObX.kept (bZ) aO;have dO:=eC bF aO;clear d0 d1 d2 d3 d4 d5 d6 d7;obtain⟨d0,d1,d2,d3,d4,d5,d6,d7⟩:=fk.cells;go_wp2_with fail;go_ret;exact⟨az (by first | (rw[show decide (ee o)=false from by(simp only[decide_eq_false_iff_not,decide_eq_true_eq,beq_iff_eq,beq_eq_false_iff_ne,ne_eq] at *;unfold ee;first | omega | (simp_all <;> omega))];first | done | assumption) | (rw[show decide (ee o)=true from by(simp only[decide_eq_true_eq,beq_iff_eq] at *;unfold ee;first | omega | (simp_all <;> omega))];first | done | assumption)),dO⟩
 all_goals
  have hw:=fun W=>cB o 3 o.wd W
  simp only[h0] at hw;unfold af at hw;have HW:=hid hw;clear hw;unfold af at *;go_enter Tryz.func137,Tryz.ntmps137;go_wp2_with fail;refine(HW.out _).mono ?_;rintro e w1 ⟨rfl,aq⟩;have bZ:=ObX.kept HN.out aq;have bF:=eC HB.out aq;obtain⟨d0,d1,d2,d3,d4,d5,d6,d7⟩:=bZ.cells;go_wp2_with fail;go_ret;exact⟨az (by first | (rw[show decide (ee o)=false from by(simp only[decide_eq_false_iff_not,decide_eq_true_eq,beq_eq_false_iff_ne,ne_eq] at *;unfold ee;first | omega | (simp_all <;> omega))];first | done | assumption) | (rw[show decide (ee o)=true from by(simp only[decide_eq_false_iff_not,decide_eq_true_eq,beq_iff_eq,beq_eq_false_iff_ne,bne_iff_ne,bne_eq_false_iff_eq,ne_eq] at *;unfold ee;first | omega | (simp_all <;> omega))];first | done | assumption)),bF⟩
theorem ka (o:Ob) (ho:o.Ok) (w:World):Calls Tryz.prog 139 #[.agg (af o)] w fun e w'=>e=.returned (.bool (decide (eh o)))∧Below w.heap.size w w':=by
 have e1:IntKind.i64.wrap ((o.nr:Int)+2)=(o.nr:Int)+2:=ag (by omega) (by have:=ho.nr1;omega);have hn:=ObX.new w o;have hB:=bK w (.cells (af o) 26);obtain⟨n,aI⟩:∃ n,w.heap.size=n:=⟨_,rfl⟩;rw[aI] at hn hB;have HN:=hid hn;have HB:=hid hB;clear hn hB;rw[aI]
 rcases h0:(decide (ax o 5 o.wd)) with _ | _
 rotate_left
 rcases h1:(decide ((o.nr:Int)+2≤o.s)) with _ | _
 rotate_left
 rcases h2:(decide (o.s≤16)) with _ | _
 rotate_left
 ·rcases h3:(decide (dB o)) with _ | _
  rotate_left
  rcases h4:(o.st==0) with _ | _
  rotate_left
  all_goals
   have hc:=fun W=>nJ o W
   simp only[h3] at hc;unfold af at hc;have HC:=hid hc;clear hc;have hw:=fun W=>cB o 5 o.wd W
   simp only[h0] at hw;unfold af at hw;have HW:=hid hw;clear hw;unfold af at *;go_enter Tryz.func139,Tryz.ntmps139;go_wp2_with fail;refine(HW.out _).mono ?_;rintro e w1 ⟨rfl,aq⟩;have bZ:=ObX.kept HN.out aq;have bF:=eC HB.out aq;obtain⟨d0,d1,d2,d3,d4,d5,d6,d7⟩:=bZ.cells;go_wp2_with fail;refine(HC.out _).mono ?_;rintro e w2 ⟨rfl,aO⟩;have fk:=ObX.kept (bZ) aO;have dO:=eC bF aO;clear d0 d1 d2 d3 d4 d5 d6 d7;obtain⟨d0,d1,d2,d3,d4,d5,d6,d7⟩:=fk.cells;go_wp2_with fail;go_ret;exact⟨az (by first | (rw[show decide (eh o)=false from by(simp only[decide_eq_false_iff_not,decide_eq_true_eq,beq_iff_eq,beq_eq_false_iff_ne,ne_eq] at *;unfold eh;first | omega | (simp_all <;> omega))];first | done | assumption) | (rw[show decide (eh o)=true from by(simp only[decide_eq_true_eq,beq_iff_eq] at *;unfold eh;first | omega | (simp_all <;> omega))];first | done | assumption)),dO⟩
 all_goals
  have hw:=fun W=>cB o 5 o.wd W
  simp only[h0] at hw;unfold af at hw;have HW:=hid hw;clear hw;unfold af at *;go_enter Tryz.func139,Tryz.ntmps139;go_wp2_with fail;refine(HW.out _).mono ?_;rintro e w1 ⟨rfl,aq⟩;have bZ:=ObX.kept HN.out aq;have bF:=eC HB.out aq;obtain⟨d0,d1,d2,d3,d4,d5,d6,d7⟩:=bZ.cells;go_wp2_with fail;go_ret;exact⟨az (by first | (rw[show decide (eh o)=false from by(simp only[decide_eq_false_iff_not,decide_eq_true_eq] at *;unfold eh;first | omega | (simp_all <;> omega))];first | done | assumption) | (rw[show decide (eh o)=true from by(simp only[decide_eq_false_iff_not,decide_eq_true_eq,beq_iff_eq,beq_eq_false_iff_ne,bne_iff_ne,bne_eq_false_iff_eq,ne_eq] at *;unfold eh;first | omega | (simp_all <;> omega))];first | done | assumption)),bF⟩
end Go.Proofs.YtabfcjohdgjkoaaGreatDoor
