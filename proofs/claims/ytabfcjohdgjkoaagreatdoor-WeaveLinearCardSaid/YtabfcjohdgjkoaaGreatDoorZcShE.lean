/- coxswainref14.Right. -/
import Derived.Test.YtabfcjohdgjkoaaGreatDoorZcShF
namespace Go.Proofs.YtabfcjohdgjkoaaGreatDoor
open Go.RowKit
open Go.Lib (hid)
set_option maxHeartbeats 4000000
set_option maxRecDepth 100000
theorem oO (o:Ob) (ho:o.Ok) (w:World):Calls Tryz.prog 28 #[.agg (af o)] w fun e w'=>e=.returned (.bool (decide (bD o)))∧Below w.heap.size w w':=by
 have e1:o.st.tmod 2=o.st%2:=Int.tmod_eq_emod_of_nonneg ho.st0;have e2:IntKind.u32.wrap (o.st%2)=o.st%2:=aK (by omega) (by omega);have e3:IntKind.i64.wrap o.st=o.st:=ag (by have:=ho.st0;omega) (by have:=ho.st1;omega);have e4:IntKind.i64.wrap ((o.nr:Int)+2)=(o.nr:Int)+2:=ag (by omega) (by have:=ho.nr1;omega);have hn:=ObX.new w o;have hB:=bK w (.cells (af o) 26);obtain⟨n,aI⟩:∃ n,w.heap.size=n:=⟨_,rfl⟩;rw[aI] at hn hB;have HN:=hid hn;have HB:=hid hB;clear hn hB;rw[aI]
 by_cases dU:o.k=1
 ·have kb1:(o.k==1)=true:=by simpa using dU
  rw[kR dU];have kn:(o.k != 6)=true:=by rw[dU];rfl
  have tP:=hid dU;clear dU
  rcases h1:(decide (o.wd<1)) with _ | _
  rcases h2:(decide (8<o.wd)) with _ | _
  rcases h3:(decide ((o.nr:Int)<1)) with _ | _
  rcases h4:(decide (4<(o.nr:Int))) with _ | _
  rcases h5:(((o.ni:Int) != o.wd)) with _ | _
  focus
   rcases c6a:(decide (1≤o.c)) with _ | _
   rotate_left
   rcases c6b:(decide (o.c≤16)) with _ | _
   all_goals
    rcases h6:((o.s==0)) with _ | _
    rotate_left
    rcases h7:((o.c==0)) with _ | _
    rotate_left
    rcases h8:((o.st==0)) with _ | _
    rotate_left
    rcases h9:(((o.nr:Int)==1)) with _ | _
    rotate_left
  all_goals
   unfold af at *;go_enter Tryz.func28,Tryz.ntmps28;go_wp2_with fail;go_ret;exact⟨az (by first | (rw[show decide (cG o)=false from by(simp only[decide_eq_false_iff_not,decide_eq_true_eq,beq_iff_eq,beq_eq_false_iff_ne,bne_iff_ne,bne_eq_false_iff_eq,ne_eq] at *;unfold cG ax;omega)];first | done | assumption) | (rw[show decide (cG o)=true from by(simp only[decide_eq_false_iff_not,decide_eq_true_eq,beq_iff_eq,bne_iff_ne,bne_eq_false_iff_eq,ne_eq] at *;unfold cG ax;omega)];first | done | assumption)),HB.out⟩
 ·have kb1:(o.k==1)=false:=by simpa using dU
  by_cases eW:o.k=2
  ·have kb2:(o.k==2)=true:=by simpa using eW
   rw[kQ eW];have kn:(o.k != 6)=true:=by rw[eW];rfl
   have tP:=hid dU;clear dU;have yv:=hid eW;clear eW
   rcases T1:(decide (o.wd<1)) with _ | _
   rcases Qk:(decide (8<o.wd)) with _ | _
   rcases T2:(decide ((o.nr:Int)<1)) with _ | _
   rcases Ql:(decide (4<(o.nr:Int))) with _ | _
   rcases T3:(((o.ni:Int) != o.wd)) with _ | _
   focus
    rcases c6a:(decide (1≤o.c)) with _ | _
    rotate_left
    rcases c6b:(decide (o.c≤16)) with _ | _
    all_goals
     rcases T4:((o.s==0)) with _ | _
     rotate_left
     rcases T5:((o.c==0)) with _ | _
     rotate_left
     rcases T6:((o.st==0)) with _ | _
     rotate_left
   all_goals
    unfold af at *;go_enter Tryz.func28,Tryz.ntmps28;go_wp2_with fail;go_ret;exact⟨az (by first | (rw[show decide (cF o)=false from by(simp only[decide_eq_false_iff_not,decide_eq_true_eq,beq_iff_eq,beq_eq_false_iff_ne,bne_iff_ne,bne_eq_false_iff_eq,ne_eq] at *;unfold cF ax;omega)];first | done | assumption) | (rw[show decide (cF o)=true from by(simp only[decide_eq_false_iff_not,decide_eq_true_eq,beq_iff_eq,beq_eq_false_iff_ne,bne_iff_ne,bne_eq_false_iff_eq,ne_eq] at *;unfold cF ax;omega)];first | done | assumption)),HB.out⟩
  ·have kb2:(o.k==2)=false:=by simpa using eW
   by_cases fW:o.k=3
   ·have kb3:(o.k==3)=true:=by simpa using fW
    rw[ng fW];have kn:(o.k != 6)=true:=by rw[fW];rfl
    have tP:=hid dU;clear dU;have yv:=hid eW;clear eW;have vk:=hid fW;clear fW
    rcases T7:(decide (o.wd<1)) with _ | _
    rcases T8:(decide (8<o.wd)) with _ | _
    rcases T9:(decide ((o.nr:Int)<1)) with _ | _
    rcases Ua:(decide (4<(o.nr:Int))) with _ | _
    rcases Ub:(((o.ni:Int) != o.wd)) with _ | _
    focus
     rcases c6a:(decide (1≤o.c)) with _ | _
     rotate_left
     rcases c6b:(decide (o.c≤16)) with _ | _
     all_goals
      rcases Uc:((o.s==0)) with _ | _
      rotate_left
      rcases Ud:((o.st%2==0)) with _ | _
      rotate_left
    all_goals
     unfold af at *;go_enter Tryz.func28,Tryz.ntmps28;go_wp2_with fail;go_ret;exact⟨az (by first | (rw[show decide (ee o)=false from by(simp only[decide_eq_false_iff_not,decide_eq_true_eq,beq_iff_eq,beq_eq_false_iff_ne,bne_iff_ne,bne_eq_false_iff_eq,ne_eq] at *;unfold ee ax dB;omega)];first | done | assumption) | (rw[show decide (ee o)=true from by(simp only[decide_eq_false_iff_not,decide_eq_true_eq,beq_iff_eq,beq_eq_false_iff_ne,bne_iff_ne,bne_eq_false_iff_eq,ne_eq] at *;unfold ee ax dB;omega)];first | done | assumption)),HB.out⟩
   ·have kb3:(o.k==3)=false:=by simpa using fW
    by_cases fX:o.k=4
    ·have kb4:(o.k==4)=true:=by simpa using fX
     rw[kS fX];have kn:(o.k != 6)=true:=by rw[fX];rfl
     have tP:=hid dU;clear dU;have yv:=hid eW;clear eW;have vk:=hid fW;clear fW;have vl:=hid fX;clear fX
     rcases Nv:(decide (o.wd<1)) with _ | _
     rcases Ue:(decide (8<o.wd)) with _ | _
     rcases Uf:(decide ((o.nr:Int)<1)) with _ | _
     rcases Ug:(decide (4<(o.nr:Int))) with _ | _
     rcases Uh:(((o.ni:Int) != o.wd)) with _ | _
     focus
      rcases c6a:(decide (1≤o.c)) with _ | _
      rotate_left
      rcases c6b:(decide (o.c≤16)) with _ | _
      all_goals
       rcases Qm:(decide (2≤o.s)) with _ | _
       rotate_left
       rcases Qn:(decide (o.s≤16)) with _ | _
       rotate_left;have w1:IntKind.i64.wrap (o.s*1048576)=o.s*1048576:=ag (by have:=of_decide_eq_true Qm;omega) (by have:=of_decide_eq_true Qn;omega);have w2:IntKind.i64.wrap (2*o.s)=2*o.s:=ag (by have:=of_decide_eq_true Qm;omega) (by have:=of_decide_eq_true Qn;omega)
       rcases Ui:(decide (o.st<o.s*1048576)) with _ | _
       rotate_left
     all_goals
      unfold af at *;go_enter Tryz.func28,Tryz.ntmps28;go_wp2_with fail;go_ret;exact⟨az (by first | (rw[show decide (ce o)=false from by(simp only[decide_eq_false_iff_not,decide_eq_true_eq,beq_iff_eq,beq_eq_false_iff_ne,bne_iff_ne,bne_eq_false_iff_eq,ne_eq] at *;unfold ce ax dB;omega)];first | done | assumption) | (rw[show decide (ce o)=true from by(simp only[decide_eq_false_iff_not,decide_eq_true_eq,beq_iff_eq,beq_eq_false_iff_ne,bne_iff_ne,bne_eq_false_iff_eq,ne_eq] at *;unfold ce ax dB;omega)];first | done | assumption)),HB.out⟩
    ·have kb4:(o.k==4)=false:=by simpa using fX
     by_cases gZ:o.k=5
     ·have kb5:(o.k==5)=true:=by simpa using gZ
      rw[nf gZ];have kn:(o.k != 6)=true:=by rw[gZ];rfl
      have tP:=hid dU;clear dU;have yv:=hid eW;clear eW;have vk:=hid fW;clear fW;have vl:=hid fX;clear fX;have yw:=hid gZ;clear gZ
      rcases Uj:(decide (o.wd<1)) with _ | _
      rcases Uk:(decide (8<o.wd)) with _ | _
      rcases Ul:(decide ((o.nr:Int)<1)) with _ | _
      rcases Um:(decide (4<(o.nr:Int))) with _ | _
      rcases Un:(((o.ni:Int) != o.wd)) with _ | _
      focus
       rcases c6a:(decide (1≤o.c)) with _ | _
       rotate_left
       rcases c6b:(decide (o.c≤16)) with _ | _
       all_goals
        rcases Qo:(decide ((o.nr:Int)+2≤o.s)) with _ | _
        rotate_left
        rcases Qp:(decide (o.s≤16)) with _ | _
        rotate_left;have w1:IntKind.i64.wrap (o.s*1048576)=o.s*1048576:=ag (by have:=of_decide_eq_true Qo;omega) (by have:=of_decide_eq_true Qp;omega);have w2:IntKind.i64.wrap (2*o.s)=2*o.s:=ag (by have:=of_decide_eq_true Qo;omega) (by have:=of_decide_eq_true Qp;omega)
        rcases KD:((o.st==0)) with _ | _
        rotate_left
      all_goals
       unfold af at *;go_enter Tryz.func28,Tryz.ntmps28;go_wp2_with fail;go_ret;exact⟨az (by first | (rw[show decide (eh o)=false from by(simp only[decide_eq_false_iff_not,decide_eq_true_eq,beq_iff_eq,beq_eq_false_iff_ne,bne_iff_ne,bne_eq_false_iff_eq,ne_eq] at *;unfold eh ax dB;omega)];first | done | assumption) | (rw[show decide (eh o)=true from by(simp only[decide_eq_false_iff_not,decide_eq_true_eq,beq_iff_eq,beq_eq_false_iff_ne,bne_iff_ne,bne_eq_false_iff_eq,ne_eq] at *;unfold eh ax dB;omega)];first | done | assumption)),HB.out⟩
     ·have kb5:(o.k==5)=false:=by simpa using gZ
      by_cases py:o.k=6
      ·have kb6:(o.k==6)=true:=by simpa using py
       rw[ja ⟨dU,eW,fW,fX,gZ⟩];have kn:(o.k != 6)=false:=by rw[py];rfl
       have tP:=hid dU;clear dU;have yv:=hid eW;clear eW;have vk:=hid fW;clear fW;have vl:=hid fX;clear fX;have yw:=hid gZ;clear gZ;have PU:=hid py;clear py
       rcases Uo:(decide (o.wd<1)) with _ | _
       rcases Uq:(decide (8<o.wd)) with _ | _
       rcases Ur:(decide ((o.nr:Int)<1)) with _ | _
       rcases Us:(decide (4<(o.nr:Int))) with _ | _
       focus
        rcases c6a:(decide (1≤o.c)) with _ | _
        rotate_left
        rcases c6b:(decide (o.c≤16)) with _ | _
        all_goals
         rcases Qq:(decide (1≤o.s)) with _ | _
         rotate_left
         rcases Qr:(decide (o.s≤16)) with _ | _
         rotate_left;have w1:IntKind.i64.wrap (o.s*1048576)=o.s*1048576:=ag (by have:=of_decide_eq_true Qq;omega) (by have:=of_decide_eq_true Qr;omega);have w2:IntKind.i64.wrap (2*o.s)=2*o.s:=ag (by have:=of_decide_eq_true Qq;omega) (by have:=of_decide_eq_true Qr;omega)
         rcases Ut:((o.c==0)) with _ | _
         rotate_left
         rcases Uu:(decide (o.st<2*o.s)) with _ | _
         rotate_left
         rcases Uv:(((o.nr:Int)==1)) with _ | _
         rotate_left
         rcases Uw:(((o.ni:Int)==0)) with _ | _
         rotate_left
       all_goals
        unfold af at *;go_enter Tryz.func28,Tryz.ntmps28;go_wp2_with fail;go_ret;exact⟨az (by first | (rw[show decide (bL o)=false from by(simp only[decide_eq_false_iff_not,decide_eq_true_eq,beq_iff_eq,beq_eq_false_iff_ne,bne_eq_false_iff_eq,ne_eq] at *;unfold bL ax;omega)];first | done | assumption) | (rw[show decide (bL o)=true from by(simp only[decide_eq_false_iff_not,decide_eq_true_eq,beq_iff_eq,beq_eq_false_iff_ne,bne_eq_false_iff_eq,ne_eq] at *;unfold bL ax;omega)];first | done | assumption)),HB.out⟩
      ·have kb6:(o.k==6)=false:=by simpa using py
       have kn:(o.k != 6)=true:=by simpa using py
       have tP:=hid dU;clear dU;have yv:=hid eW;clear eW;have vk:=hid fW;clear fW;have vl:=hid fX;clear fX;have yw:=hid gZ;clear gZ;have PU:=hid py;clear py
       rcases Ux:(decide (o.wd<1)) with _ | _
       rcases Uy:(decide (8<o.wd)) with _ | _
       rcases Uz:(decide ((o.nr:Int)<1)) with _ | _
       rcases UA:(decide (4<(o.nr:Int))) with _ | _
       rcases UB:(((o.ni:Int) != o.wd)) with _ | _
       focus
        rcases c6a:(decide (1≤o.c)) with _ | _
        rotate_left
        rcases c6b:(decide (o.c≤16)) with _ | _
       all_goals
        unfold af at *;go_enter Tryz.func28,Tryz.ntmps28;go_wp2_with fail;go_ret;exact⟨az (by rw[show decide (bD o)=false from by rw[ja ⟨tP.out,yv.out,vk.out,vl.out,yw.out⟩,decide_eq_false_iff_not];intro hf;exact PU.out (cm.2.2.2.2.2 hf)]),HB.out⟩
end Go.Proofs.YtabfcjohdgjkoaaGreatDoor
