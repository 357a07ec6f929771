/- coxswainref14.Right. -/
import Derived.Test.YtolmpehgeinlkaaGreatDoorZcShF
namespace Go.Proofs.YtolmpehgeinlkaaGreatDoor
open Go.RowKit
open Go.Lib (hid)
set_option maxHeartbeats 4000000
set_option maxRecDepth 100000
theorem r14Right_o (o:Ob) (ho:o.Ok) (w:World):Calls Tryz.prog 20 #[.agg (obA o)] w fun e w'=>e=.returned (.bool (decide (anyR o)))∧Below w.heap.size w w':=by
 have e1:o.st.tmod 2=o.st%2:=Int.tmod_eq_emod_of_nonneg ho.st0;have e2:IntKind.u32.wrap (o.st%2)=o.st%2:=sh_wrap32 (by omega) (by omega);have e3:IntKind.i64.wrap o.st=o.st:=sh_wrap (by have:=ho.st0;omega) (by have:=ho.st1;omega);have e4:IntKind.i64.wrap ((o.nr:Int)+2)=(o.nr:Int)+2:=sh_wrap (by omega) (by have:=ho.nr1;omega);have hn:=ObX.new w o;have hB:=(Below.refl w.heap.size w).alloc (Nat.le_refl _) (.cells (obA o) 26);obtain⟨n,hn0⟩:∃ n,w.heap.size=n:=⟨_,rfl⟩;rw[hn0] at hn hB;have HN:=hid hn;have HB:=hid hB;clear hn hB;rw[hn0]
 by_cases hk1:o.k=1
 ·have kb1:(o.k==1)=true:=by simpa using hk1
  rw[any_four hk1];have kn:(o.k != 6)=true:=by rw[hk1];rfl
  have HK1:=hid hk1;clear hk1
  rcases h1:(decide (o.wd<1)) with _ | _
  rcases h2:(decide (8<o.wd)) with _ | _
  rcases h3:(decide ((o.nr:Int)<1)) with _ | _
  rcases h4:(decide (4<(o.nr:Int))) with _ | _
  rcases h5:(((o.ni:Int) != o.wd)) with _ | _
  focus
   rcases c6a:(decide (1≤o.c)) with _ | _
   rotate_left
   rcases c6b:(decide (o.c≤16)) with _ | _
   all_goals
    rcases h6:((o.s==0)) with _ | _
    rotate_left
    rcases h7:((o.c==0)) with _ | _
    rotate_left
    rcases h8:((o.st==0)) with _ | _
    rotate_left
    rcases h9:(((o.nr:Int)==1)) with _ | _
    rotate_left
  all_goals
   unfold obA at *;go_enter Tryz.func20,Tryz.ntmps20;go_wp2_with fail;go_ret;exact⟨ret_bool (by first | (rw[show decide (fourR o)=false from by(simp only[decide_eq_false_iff_not,decide_eq_true_eq,beq_iff_eq,beq_eq_false_iff_ne,bne_iff_ne,bne_eq_false_iff_eq,ne_eq] at *;unfold fourR wordsR;omega)];first | done | assumption) | (rw[show decide (fourR o)=true from by(simp only[decide_eq_false_iff_not,decide_eq_true_eq,beq_iff_eq,bne_iff_ne,bne_eq_false_iff_eq,ne_eq] at *;unfold fourR wordsR;omega)];first | done | assumption)),HB.out⟩
 ·have kb1:(o.k==1)=false:=by simpa using hk1
  by_cases hk2:o.k=2
  ·have kb2:(o.k==2)=true:=by simpa using hk2
   rw[any_chen hk2];have kn:(o.k != 6)=true:=by rw[hk2];rfl
   have HK1:=hid hk1;clear hk1;have HK2:=hid hk2;clear hk2
   rcases h10:(decide (o.wd<1)) with _ | _
   rcases h11:(decide (8<o.wd)) with _ | _
   rcases h12:(decide ((o.nr:Int)<1)) with _ | _
   rcases h13:(decide (4<(o.nr:Int))) with _ | _
   rcases h14:(((o.ni:Int) != o.wd)) with _ | _
   focus
    rcases c6a:(decide (1≤o.c)) with _ | _
    rotate_left
    rcases c6b:(decide (o.c≤16)) with _ | _
    all_goals
     rcases h15:((o.s==0)) with _ | _
     rotate_left
     rcases h16:((o.c==0)) with _ | _
     rotate_left
     rcases h17:((o.st==0)) with _ | _
     rotate_left
   all_goals
    unfold obA at *;go_enter Tryz.func20,Tryz.ntmps20;go_wp2_with fail;go_ret;exact⟨ret_bool (by first | (rw[show decide (chenR o)=false from by(simp only[decide_eq_false_iff_not,decide_eq_true_eq,beq_iff_eq,beq_eq_false_iff_ne,bne_iff_ne,bne_eq_false_iff_eq,ne_eq] at *;unfold chenR wordsR;omega)];first | done | assumption) | (rw[show decide (chenR o)=true from by(simp only[decide_eq_false_iff_not,decide_eq_true_eq,beq_iff_eq,beq_eq_false_iff_ne,bne_iff_ne,bne_eq_false_iff_eq,ne_eq] at *;unfold chenR wordsR;omega)];first | done | assumption)),HB.out⟩
  ·have kb2:(o.k==2)=false:=by simpa using hk2
   by_cases hk3:o.k=3
   ·have kb3:(o.k==3)=true:=by simpa using hk3
    rw[any_seq hk3];have kn:(o.k != 6)=true:=by rw[hk3];rfl
    have HK1:=hid hk1;clear hk1;have HK2:=hid hk2;clear hk2;have HK3:=hid hk3;clear hk3
    rcases h18:(decide (o.wd<1)) with _ | _
    rcases h19:(decide (8<o.wd)) with _ | _
    rcases h20:(decide ((o.nr:Int)<1)) with _ | _
    rcases h21:(decide (4<(o.nr:Int))) with _ | _
    rcases h22:(((o.ni:Int) != o.wd)) with _ | _
    focus
     rcases c6a:(decide (1≤o.c)) with _ | _
     rotate_left
     rcases c6b:(decide (o.c≤16)) with _ | _
     all_goals
      rcases h23:((o.s==0)) with _ | _
      rotate_left
      rcases h24:((o.st%2==0)) with _ | _
      rotate_left
    all_goals
     unfold obA at *;go_enter Tryz.func20,Tryz.ntmps20;go_wp2_with fail;go_ret;exact⟨ret_bool (by first | (rw[show decide (seqR o)=false from by(simp only[decide_eq_false_iff_not,decide_eq_true_eq,beq_iff_eq,beq_eq_false_iff_ne,bne_iff_ne,bne_eq_false_iff_eq,ne_eq] at *;unfold seqR wordsR capsR;omega)];first | done | assumption) | (rw[show decide (seqR o)=true from by(simp only[decide_eq_false_iff_not,decide_eq_true_eq,beq_iff_eq,beq_eq_false_iff_ne,bne_iff_ne,bne_eq_false_iff_eq,ne_eq] at *;unfold seqR wordsR capsR;omega)];first | done | assumption)),HB.out⟩
   ·have kb3:(o.k==3)=false:=by simpa using hk3
    by_cases hk4:o.k=4
    ·have kb4:(o.k==4)=true:=by simpa using hk4
     rw[any_ring hk4];have kn:(o.k != 6)=true:=by rw[hk4];rfl
     have HK1:=hid hk1;clear hk1;have HK2:=hid hk2;clear hk2;have HK3:=hid hk3;clear hk3;have HK4:=hid hk4;clear hk4
     rcases h25:(decide (o.wd<1)) with _ | _
     rcases h26:(decide (8<o.wd)) with _ | _
     rcases h27:(decide ((o.nr:Int)<1)) with _ | _
     rcases h28:(decide (4<(o.nr:Int))) with _ | _
     rcases h29:(((o.ni:Int) != o.wd)) with _ | _
     focus
      rcases c6a:(decide (1≤o.c)) with _ | _
      rotate_left
      rcases c6b:(decide (o.c≤16)) with _ | _
      all_goals
       rcases h30:(decide (2≤o.s)) with _ | _
       rotate_left
       rcases h31:(decide (o.s≤16)) with _ | _
       rotate_left;have w1:IntKind.i64.wrap (o.s*1048576)=o.s*1048576:=sh_wrap (by have:=of_decide_eq_true h30;omega) (by have:=of_decide_eq_true h31;omega);have w2:IntKind.i64.wrap (2*o.s)=2*o.s:=sh_wrap (by have:=of_decide_eq_true h30;omega) (by have:=of_decide_eq_true h31;omega)
       rcases h32:(decide (o.st<o.s*1048576)) with _ | _
       rotate_left
     all_goals
      unfold obA at *;go_enter Tryz.func20,Tryz.ntmps20;go_wp2_with fail;go_ret;exact⟨ret_bool (by first | (rw[show decide (ringR o)=false from by(simp only[decide_eq_false_iff_not,decide_eq_true_eq,beq_iff_eq,beq_eq_false_iff_ne,bne_iff_ne,bne_eq_false_iff_eq,ne_eq] at *;unfold ringR wordsR capsR;omega)];first | done | assumption) | (rw[show decide (ringR o)=true from by(simp only[decide_eq_false_iff_not,decide_eq_true_eq,beq_iff_eq,beq_eq_false_iff_ne,bne_iff_ne,bne_eq_false_iff_eq,ne_eq] at *;unfold ringR wordsR capsR;omega)];first | done | assumption)),HB.out⟩
    ·have kb4:(o.k==4)=false:=by simpa using hk4
     by_cases hk5:o.k=5
     ·have kb5:(o.k==5)=true:=by simpa using hk5
      rw[any_cab hk5];have kn:(o.k != 6)=true:=by rw[hk5];rfl
      have HK1:=hid hk1;clear hk1;have HK2:=hid hk2;clear hk2;have HK3:=hid hk3;clear hk3;have HK4:=hid hk4;clear hk4;have HK5:=hid hk5;clear hk5
      rcases h33:(decide (o.wd<1)) with _ | _
      rcases h34:(decide (8<o.wd)) with _ | _
      rcases h35:(decide ((o.nr:Int)<1)) with _ | _
      rcases h36:(decide (4<(o.nr:Int))) with _ | _
      rcases h37:(((o.ni:Int) != o.wd)) with _ | _
      focus
       rcases c6a:(decide (1≤o.c)) with _ | _
       rotate_left
       rcases c6b:(decide (o.c≤16)) with _ | _
       all_goals
        rcases h38:(decide ((o.nr:Int)+2≤o.s)) with _ | _
        rotate_left
        rcases h39:(decide (o.s≤16)) with _ | _
        rotate_left;have w1:IntKind.i64.wrap (o.s*1048576)=o.s*1048576:=sh_wrap (by have:=of_decide_eq_true h38;omega) (by have:=of_decide_eq_true h39;omega);have w2:IntKind.i64.wrap (2*o.s)=2*o.s:=sh_wrap (by have:=of_decide_eq_true h38;omega) (by have:=of_decide_eq_true h39;omega)
        rcases h40:((o.st==0)) with _ | _
        rotate_left
      all_goals
       unfold obA at *;go_enter Tryz.func20,Tryz.ntmps20;go_wp2_with fail;go_ret;exact⟨ret_bool (by first | (rw[show decide (cabR o)=false from by(simp only[decide_eq_false_iff_not,decide_eq_true_eq,beq_iff_eq,beq_eq_false_iff_ne,bne_iff_ne,bne_eq_false_iff_eq,ne_eq] at *;unfold cabR wordsR capsR;omega)];first | done | assumption) | (rw[show decide (cabR o)=true from by(simp only[decide_eq_false_iff_not,decide_eq_true_eq,beq_iff_eq,beq_eq_false_iff_ne,bne_iff_ne,bne_eq_false_iff_eq,ne_eq] at *;unfold cabR wordsR capsR;omega)];first | done | assumption)),HB.out⟩
     ·have kb5:(o.k==5)=false:=by simpa using hk5
      by_cases hk6:o.k=6
      ·have kb6:(o.k==6)=true:=by simpa using hk6
       rw[any_fifo ⟨hk1,hk2,hk3,hk4,hk5⟩];have kn:(o.k != 6)=false:=by rw[hk6];rfl
       have HK1:=hid hk1;clear hk1;have HK2:=hid hk2;clear hk2;have HK3:=hid hk3;clear hk3;have HK4:=hid hk4;clear hk4;have HK5:=hid hk5;clear hk5;have HK6:=hid hk6;clear hk6
       rcases h41:(decide (o.wd<1)) with _ | _
       rcases h42:(decide (8<o.wd)) with _ | _
       rcases h43:(decide ((o.nr:Int)<1)) with _ | _
       rcases h44:(decide (4<(o.nr:Int))) with _ | _
       focus
        rcases c6a:(decide (1≤o.c)) with _ | _
        rotate_left
        rcases c6b:(decide (o.c≤16)) with _ | _
        all_goals
         rcases h45:(decide (1≤o.s)) with _ | _
         rotate_left
         rcases h46:(decide (o.s≤16)) with _ | _
         rotate_left;have w1:IntKind.i64.wrap (o.s*1048576)=o.s*1048576:=sh_wrap (by have:=of_decide_eq_true h45;omega) (by have:=of_decide_eq_true h46;omega);have w2:IntKind.i64.wrap (2*o.s)=2*o.s:=sh_wrap (by have:=of_decide_eq_true h45;omega) (by have:=of_decide_eq_true h46;omega)
         rcases h47:((o.c==0)) with _ | _
         rotate_left
         rcases h48:(decide (o.st<2*o.s)) with _ | _
         rotate_left
         rcases h49:(((o.nr:Int)==1)) with _ | _
         rotate_left
         rcases h50:(((o.ni:Int)==0)) with _ | _
         rotate_left
       all_goals
        unfold obA at *;go_enter Tryz.func20,Tryz.ntmps20;go_wp2_with fail;go_ret;exact⟨ret_bool (by first | (rw[show decide (fifoR o)=false from by(simp only[decide_eq_false_iff_not,decide_eq_true_eq,beq_iff_eq,beq_eq_false_iff_ne,bne_eq_false_iff_eq,ne_eq] at *;unfold fifoR wordsR;omega)];first | done | assumption) | (rw[show decide (fifoR o)=true from by(simp only[decide_eq_false_iff_not,decide_eq_true_eq,beq_iff_eq,beq_eq_false_iff_ne,bne_eq_false_iff_eq,ne_eq] at *;unfold fifoR wordsR;omega)];first | done | assumption)),HB.out⟩
      ·have kb6:(o.k==6)=false:=by simpa using hk6
       have kn:(o.k != 6)=true:=by simpa using hk6
       have HK1:=hid hk1;clear hk1;have HK2:=hid hk2;clear hk2;have HK3:=hid hk3;clear hk3;have HK4:=hid hk4;clear hk4;have HK5:=hid hk5;clear hk5;have HK6:=hid hk6;clear hk6
       rcases h51:(decide (o.wd<1)) with _ | _
       rcases h52:(decide (8<o.wd)) with _ | _
       rcases h53:(decide ((o.nr:Int)<1)) with _ | _
       rcases h54:(decide (4<(o.nr:Int))) with _ | _
       rcases h55:(((o.ni:Int) != o.wd)) with _ | _
       focus
        rcases c6a:(decide (1≤o.c)) with _ | _
        rotate_left
        rcases c6b:(decide (o.c≤16)) with _ | _
       all_goals
        unfold obA at *;go_enter Tryz.func20,Tryz.ntmps20;go_wp2_with fail;go_ret;exact⟨ret_bool (by rw[show decide (anyR o)=false from by rw[any_fifo ⟨HK1.out,HK2.out,HK3.out,HK4.out,HK5.out⟩,decide_eq_false_iff_not];intro hf;exact HK6.out (kind_of.2.2.2.2.2 hf)]),HB.out⟩
end Go.Proofs.YtolmpehgeinlkaaGreatDoor
