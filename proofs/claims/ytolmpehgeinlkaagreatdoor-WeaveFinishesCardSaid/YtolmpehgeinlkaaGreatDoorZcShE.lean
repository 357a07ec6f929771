/- coxswainref14.Right. -/
import Derived.Test.YtolmpehgeinlkaaGreatDoorZcShF
namespace Go.Proofs.YtolmpehgeinlkaaGreatDoor
open Go.RowKit
open Go.Lib (hid)
set_option maxHeartbeats 4000000
set_option maxRecDepth 100000
theorem aY (o:Ob) (ho:o.Ok) (w:World):Calls Tryz.prog 20 #[.agg (af o)] w fun e w'=>e=.returned (.bool (decide (aT o)))∧Below w.heap.size w w':=by
 have e1:o.st.tmod 2=o.st%2:=Int.tmod_eq_emod_of_nonneg ho.st0;have e2:IntKind.u32.wrap (o.st%2)=o.st%2:=aa (by omega) (by omega);have e3:IntKind.i64.wrap o.st=o.st:=ac (by have:=ho.st0;omega) (by have:=ho.st1;omega);have e4:IntKind.i64.wrap ((o.nr:Int)+2)=(o.nr:Int)+2:=ac (by omega) (by have:=ho.nr1;omega);have hn:=ObX.new w o;have hB:=bt w (.cells (af o) 26);obtain⟨n,aq⟩:∃ n,w.heap.size=n:=⟨_,rfl⟩;rw[aq] at hn hB;have HN:=hid hn;have HB:=hid hB;clear hn hB;rw[aq]
 by_cases cP:o.k=1
 ·have kb1:(o.k==1)=true:=by simpa using cP
  rw[iB cP];have kn:(o.k != 6)=true:=by rw[cP];rfl
  have tT:=hid cP;clear cP
  rcases h1:(decide (o.wd<1)) with _ | _
  rcases h2:(decide (8<o.wd)) with _ | _
  rcases h3:(decide ((o.nr:Int)<1)) with _ | _
  rcases h4:(decide (4<(o.nr:Int))) with _ | _
  rcases h5:(((o.ni:Int) != o.wd)) with _ | _
  focus
   rcases c6a:(decide (1≤o.c)) with _ | _
   rotate_left
   rcases c6b:(decide (o.c≤16)) with _ | _
   all_goals
    rcases h6:((o.s==0)) with _ | _
    rotate_left
    rcases h7:((o.c==0)) with _ | _
    rotate_left
    rcases h8:((o.st==0)) with _ | _
    rotate_left
    rcases h9:(((o.nr:Int)==1)) with _ | _
    rotate_left
  all_goals
   unfold af at *;go_enter Tryz.func20,Tryz.ntmps20;go_wp2_with fail;go_ret;exact⟨bq (by first | (rw[show decide (cG o)=false from by(simp only[decide_eq_false_iff_not,decide_eq_true_eq,beq_iff_eq,beq_eq_false_iff_ne,bne_iff_ne,bne_eq_false_iff_eq,ne_eq] at *;unfold cG aH;omega)];first | done | assumption) | (rw[show decide (cG o)=true from by(simp only[decide_eq_false_iff_not,decide_eq_true_eq,beq_iff_eq,bne_iff_ne,bne_eq_false_iff_eq,ne_eq] at *;unfold cG aH;omega)];first | done | assumption)),HB.out⟩
 ·have kb1:(o.k==1)=false:=by simpa using cP
  by_cases dg:o.k=2
  ·have kb2:(o.k==2)=true:=by simpa using dg
   rw[ix dg];have kn:(o.k != 6)=true:=by rw[dg];rfl
   have tT:=hid cP;clear cP;have ym:=hid dg;clear dg
   rcases NQ:(decide (o.wd<1)) with _ | _
   rcases KQ:(decide (8<o.wd)) with _ | _
   rcases NP:(decide ((o.nr:Int)<1)) with _ | _
   rcases KA:(decide (4<(o.nr:Int))) with _ | _
   rcases NA:(((o.ni:Int) != o.wd)) with _ | _
   focus
    rcases c6a:(decide (1≤o.c)) with _ | _
    rotate_left
    rcases c6b:(decide (o.c≤16)) with _ | _
    all_goals
     rcases NX:((o.s==0)) with _ | _
     rotate_left
     rcases Nq:((o.c==0)) with _ | _
     rotate_left
     rcases NJ:((o.st==0)) with _ | _
     rotate_left
   all_goals
    unfold af at *;go_enter Tryz.func20,Tryz.ntmps20;go_wp2_with fail;go_ret;exact⟨bq (by first | (rw[show decide (cF o)=false from by(simp only[decide_eq_false_iff_not,decide_eq_true_eq,beq_iff_eq,beq_eq_false_iff_ne,bne_iff_ne,bne_eq_false_iff_eq,ne_eq] at *;unfold cF aH;omega)];first | done | assumption) | (rw[show decide (cF o)=true from by(simp only[decide_eq_false_iff_not,decide_eq_true_eq,beq_iff_eq,beq_eq_false_iff_ne,bne_iff_ne,bne_eq_false_iff_eq,ne_eq] at *;unfold cF aH;omega)];first | done | assumption)),HB.out⟩
  ·have kb2:(o.k==2)=false:=by simpa using dg
   by_cases hk3:o.k=3
   ·have kb3:(o.k==3)=true:=by simpa using hk3
    rw[jT hk3];have kn:(o.k != 6)=true:=by rw[hk3];rfl
    have tT:=hid cP;clear cP;have ym:=hid dg;clear dg;have AI:=hid hk3;clear hk3
    rcases Ns:(decide (o.wd<1)) with _ | _
    rcases Nt:(decide (8<o.wd)) with _ | _
    rcases JC:(decide ((o.nr:Int)<1)) with _ | _
    rcases Ng:(decide (4<(o.nr:Int))) with _ | _
    rcases M2:(((o.ni:Int) != o.wd)) with _ | _
    focus
     rcases c6a:(decide (1≤o.c)) with _ | _
     rotate_left
     rcases c6b:(decide (o.c≤16)) with _ | _
     all_goals
      rcases M3:((o.s==0)) with _ | _
      rotate_left
      rcases N2:((o.st%2==0)) with _ | _
      rotate_left
    all_goals
     unfold af at *;go_enter Tryz.func20,Tryz.ntmps20;go_wp2_with fail;go_ret;exact⟨bq (by first | (rw[show decide (dB o)=false from by(simp only[decide_eq_false_iff_not,decide_eq_true_eq,beq_iff_eq,beq_eq_false_iff_ne,bne_iff_ne,bne_eq_false_iff_eq,ne_eq] at *;unfold dB aH di;omega)];first | done | assumption) | (rw[show decide (dB o)=true from by(simp only[decide_eq_false_iff_not,decide_eq_true_eq,beq_iff_eq,beq_eq_false_iff_ne,bne_iff_ne,bne_eq_false_iff_eq,ne_eq] at *;unfold dB aH di;omega)];first | done | assumption)),HB.out⟩
   ·have kb3:(o.k==3)=false:=by simpa using hk3
    by_cases fk:o.k=4
    ·have kb4:(o.k==4)=true:=by simpa using fk
     rw[ip fk];have kn:(o.k != 6)=true:=by rw[fk];rfl
     have tT:=hid cP;clear cP;have ym:=hid dg;clear dg;have AI:=hid hk3;clear hk3;have En:=hid fk;clear fk
     rcases IM:(decide (o.wd<1)) with _ | _
     rcases NF:(decide (8<o.wd)) with _ | _
     rcases M4:(decide ((o.nr:Int)<1)) with _ | _
     rcases Nk:(decide (4<(o.nr:Int))) with _ | _
     rcases Nd:(((o.ni:Int) != o.wd)) with _ | _
     focus
      rcases c6a:(decide (1≤o.c)) with _ | _
      rotate_left
      rcases c6b:(decide (o.c≤16)) with _ | _
      all_goals
       rcases Kk:(decide (2≤o.s)) with _ | _
       rotate_left
       rcases Lg:(decide (o.s≤16)) with _ | _
       rotate_left;have w1:IntKind.i64.wrap (o.s*1048576)=o.s*1048576:=ac (by have:=of_decide_eq_true Kk;omega) (by have:=of_decide_eq_true Lg;omega);have w2:IntKind.i64.wrap (2*o.s)=2*o.s:=ac (by have:=of_decide_eq_true Kk;omega) (by have:=of_decide_eq_true Lg;omega)
       rcases Nw:(decide (o.st<o.s*1048576)) with _ | _
       rotate_left
     all_goals
      unfold af at *;go_enter Tryz.func20,Tryz.ntmps20;go_wp2_with fail;go_ret;exact⟨bq (by first | (rw[show decide (bY o)=false from by(simp only[decide_eq_false_iff_not,decide_eq_true_eq,beq_iff_eq,beq_eq_false_iff_ne,bne_iff_ne,bne_eq_false_iff_eq,ne_eq] at *;unfold bY aH di;omega)];first | done | assumption) | (rw[show decide (bY o)=true from by(simp only[decide_eq_false_iff_not,decide_eq_true_eq,beq_iff_eq,beq_eq_false_iff_ne,bne_iff_ne,bne_eq_false_iff_eq,ne_eq] at *;unfold bY aH di;omega)];first | done | assumption)),HB.out⟩
    ·have kb4:(o.k==4)=false:=by simpa using fk
     by_cases hk5:o.k=5
     ·have kb5:(o.k==5)=true:=by simpa using hk5
      rw[j8 hk5];have kn:(o.k != 6)=true:=by rw[hk5];rfl
      have tT:=hid cP;clear cP;have ym:=hid dg;clear dg;have AI:=hid hk3;clear hk3;have En:=hid fk;clear fk;have CI:=hid hk5;clear hk5
      rcases Nz:(decide (o.wd<1)) with _ | _
      rcases Nc:(decide (8<o.wd)) with _ | _
      rcases Nu:(decide ((o.nr:Int)<1)) with _ | _
      rcases NZ:(decide (4<(o.nr:Int))) with _ | _
      rcases M6:(((o.ni:Int) != o.wd)) with _ | _
      focus
       rcases c6a:(decide (1≤o.c)) with _ | _
       rotate_left
       rcases c6b:(decide (o.c≤16)) with _ | _
       all_goals
        rcases K4:(decide ((o.nr:Int)+2≤o.s)) with _ | _
        rotate_left
        rcases Hi:(decide (o.s≤16)) with _ | _
        rotate_left;have w1:IntKind.i64.wrap (o.s*1048576)=o.s*1048576:=ac (by have:=of_decide_eq_true K4;omega) (by have:=of_decide_eq_true Hi;omega);have w2:IntKind.i64.wrap (2*o.s)=2*o.s:=ac (by have:=of_decide_eq_true K4;omega) (by have:=of_decide_eq_true Hi;omega)
        rcases N1:((o.st==0)) with _ | _
        rotate_left
      all_goals
       unfold af at *;go_enter Tryz.func20,Tryz.ntmps20;go_wp2_with fail;go_ret;exact⟨bq (by first | (rw[show decide (dK o)=false from by(simp only[decide_eq_false_iff_not,decide_eq_true_eq,beq_iff_eq,beq_eq_false_iff_ne,bne_iff_ne,bne_eq_false_iff_eq,ne_eq] at *;unfold dK aH di;omega)];first | done | assumption) | (rw[show decide (dK o)=true from by(simp only[decide_eq_false_iff_not,decide_eq_true_eq,beq_iff_eq,beq_eq_false_iff_ne,bne_iff_ne,bne_eq_false_iff_eq,ne_eq] at *;unfold dK aH di;omega)];first | done | assumption)),HB.out⟩
     ·have kb5:(o.k==5)=false:=by simpa using hk5
      by_cases l6:o.k=6
      ·have kb6:(o.k==6)=true:=by simpa using l6
       rw[gB ⟨cP,dg,hk3,fk,hk5⟩];have kn:(o.k != 6)=false:=by rw[l6];rfl
       have tT:=hid cP;clear cP;have ym:=hid dg;clear dg;have AI:=hid hk3;clear hk3;have En:=hid fk;clear fk;have CI:=hid hk5;clear hk5;have K5:=hid l6;clear l6
       rcases Ni:(decide (o.wd<1)) with _ | _
       rcases N7:(decide (8<o.wd)) with _ | _
       rcases ND:(decide ((o.nr:Int)<1)) with _ | _
       rcases Np:(decide (4<(o.nr:Int))) with _ | _
       focus
        rcases c6a:(decide (1≤o.c)) with _ | _
        rotate_left
        rcases c6b:(decide (o.c≤16)) with _ | _
        all_goals
         rcases JZ:(decide (1≤o.s)) with _ | _
         rotate_left
         rcases KL:(decide (o.s≤16)) with _ | _
         rotate_left;have w1:IntKind.i64.wrap (o.s*1048576)=o.s*1048576:=ac (by have:=of_decide_eq_true JZ;omega) (by have:=of_decide_eq_true KL;omega);have w2:IntKind.i64.wrap (2*o.s)=2*o.s:=ac (by have:=of_decide_eq_true JZ;omega) (by have:=of_decide_eq_true KL;omega)
         rcases N6:((o.c==0)) with _ | _
         rotate_left
         rcases Ny:(decide (o.st<2*o.s)) with _ | _
         rotate_left
         rcases Nn:(((o.nr:Int)==1)) with _ | _
         rotate_left
         rcases N0:(((o.ni:Int)==0)) with _ | _
         rotate_left
       all_goals
        unfold af at *;go_enter Tryz.func20,Tryz.ntmps20;go_wp2_with fail;go_ret;exact⟨bq (by first | (rw[show decide (bS o)=false from by(simp only[decide_eq_false_iff_not,decide_eq_true_eq,beq_iff_eq,beq_eq_false_iff_ne,bne_eq_false_iff_eq,ne_eq] at *;unfold bS aH;omega)];first | done | assumption) | (rw[show decide (bS o)=true from by(simp only[decide_eq_false_iff_not,decide_eq_true_eq,beq_iff_eq,beq_eq_false_iff_ne,bne_eq_false_iff_eq,ne_eq] at *;unfold bS aH;omega)];first | done | assumption)),HB.out⟩
      ·have kb6:(o.k==6)=false:=by simpa using l6
       have kn:(o.k != 6)=true:=by simpa using l6
       have tT:=hid cP;clear cP;have ym:=hid dg;clear dg;have AI:=hid hk3;clear hk3;have En:=hid fk;clear fk;have CI:=hid hk5;clear hk5;have K5:=hid l6;clear l6
       rcases NL:(decide (o.wd<1)) with _ | _
       rcases M7:(decide (8<o.wd)) with _ | _
       rcases NU:(decide ((o.nr:Int)<1)) with _ | _
       rcases Nj:(decide (4<(o.nr:Int))) with _ | _
       rcases NG:(((o.ni:Int) != o.wd)) with _ | _
       focus
        rcases c6a:(decide (1≤o.c)) with _ | _
        rotate_left
        rcases c6b:(decide (o.c≤16)) with _ | _
       all_goals
        unfold af at *;go_enter Tryz.func20,Tryz.ntmps20;go_wp2_with fail;go_ret;exact⟨bq (by rw[show decide (aT o)=false from by rw[gB ⟨tT.out,ym.out,AI.out,En.out,CI.out⟩,decide_eq_false_iff_not];intro hf;exact K5.out (bo.2.2.2.2.2 hf)]),HB.out⟩
end Go.Proofs.YtolmpehgeinlkaaGreatDoor
