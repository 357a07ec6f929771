/- A step of an operation of any kind; whether it is over; how many steps it made. -/
import Derived.Test.YtolmpehgeinlkaaGreatDoorZcOgM
import Derived.Test.YtolmpehgeinlkaaGreatDoorZcI
namespace Go.Proofs.YtolmpehgeinlkaaGreatDoor
open Go.RowKit
open Go.Lib (hid)
attribute [local go_sem] Oper.semAt_some
set_option maxHeartbeats 4000000
set_option maxRecDepth 100000
section
variable (sb mb lb:Nat) (ty:TypeId) (o:Ob) (c:Kc) (rv mp:Value) (l:List Int)
theorem can_sz {c:Kc} {l:List Int} (h:c.can l=true):c.over=false∧c.base+c.size≤l.length:=by
 unfold Kc.can at h;rw[Bool.and_eq_true,decide_eq_true_eq] at h;obtain⟨h1,h2,h3⟩:=h;refine⟨by simpa using h1,by omega⟩
def Hand (w:World) (F:Nat) (d:Kc × List Int):Prop:=∀ W,St W sb mb lb ty o { c with steps:=c.steps+1 } rv l→Mv sb mb lb w W rv rv→Calls Tryz.prog F #[.pointer (some ⟨sb,0,none⟩)] W (Did sb mb lb ty o W rv d.1 d.2 (.tuple #[]))
theorem kStep_fw (w:World) (d:Kc × List Int) (HO:Calls Tryz.prog 138 #[.pointer (some ⟨sb,0,none⟩),.pointer (some ⟨mb,0,none⟩)] w fun e w'=>DidK sb mb lb ty o w rv { c with steps:=c.steps+1 } l (.bool true) e w'):
  (c.op=2→Hand sb mb lb ty o c rv l w 139 d→Calls Tryz.prog 93 #[.pointer (some ⟨sb,0,none⟩),.pointer (some ⟨mb,0,none⟩)] w (Did sb mb lb ty o w rv d.1 d.2 (.bool true)))∧
  (c.op=1→Hand sb mb lb ty o c rv l w 140 d→Calls Tryz.prog 93 #[.pointer (some ⟨sb,0,none⟩),.pointer (some ⟨mb,0,none⟩)] w (Did sb mb lb ty o w rv d.1 d.2 (.bool true)))∧
  (c.op=2→Hand sb mb lb ty o c rv l w 141 d→Calls Tryz.prog 94 #[.pointer (some ⟨sb,0,none⟩),.pointer (some ⟨mb,0,none⟩)] w (Did sb mb lb ty o w rv d.1 d.2 (.bool true)))∧
  (c.op=1→Hand sb mb lb ty o c rv l w 142 d→Calls Tryz.prog 94 #[.pointer (some ⟨sb,0,none⟩),.pointer (some ⟨mb,0,none⟩)] w (Did sb mb lb ty o w rv d.1 d.2 (.bool true)))∧
  (c.op=2→Hand sb mb lb ty o c rv l w 143 d→Calls Tryz.prog 95 #[.pointer (some ⟨sb,0,none⟩),.pointer (some ⟨mb,0,none⟩)] w (Did sb mb lb ty o w rv d.1 d.2 (.bool true)))∧
  (c.op=1→Hand sb mb lb ty o c rv l w 144 d→Calls Tryz.prog 95 #[.pointer (some ⟨sb,0,none⟩),.pointer (some ⟨mb,0,none⟩)] w (Did sb mb lb ty o w rv d.1 d.2 (.bool true)))∧
  (c.op=2→Hand sb mb lb ty o c rv l w 145 d→Calls Tryz.prog 96 #[.pointer (some ⟨sb,0,none⟩),.pointer (some ⟨mb,0,none⟩)] w (Did sb mb lb ty o w rv d.1 d.2 (.bool true)))∧
  (c.op=1→Hand sb mb lb ty o c rv l w 146 d→Calls Tryz.prog 96 #[.pointer (some ⟨sb,0,none⟩),.pointer (some ⟨mb,0,none⟩)] w (Did sb mb lb ty o w rv d.1 d.2 (.bool true)))∧
  (c.op=2→Hand sb mb lb ty o c rv l w 147 d→Calls Tryz.prog 97 #[.pointer (some ⟨sb,0,none⟩),.pointer (some ⟨mb,0,none⟩)] w (Did sb mb lb ty o w rv d.1 d.2 (.bool true)))∧
  (c.op=1→Hand sb mb lb ty o c rv l w 148 d→Calls Tryz.prog 97 #[.pointer (some ⟨sb,0,none⟩),.pointer (some ⟨mb,0,none⟩)] w (Did sb mb lb ty o w rv d.1 d.2 (.bool true)))∧
  (c.op=3→Hand sb mb lb ty o c rv l w 149 d→Calls Tryz.prog 98 #[.pointer (some ⟨sb,0,none⟩),.pointer (some ⟨mb,0,none⟩)] w (Did sb mb lb ty o w rv d.1 d.2 (.bool true)))∧
  (c.op=4→Hand sb mb lb ty o c rv l w 150 d→Calls Tryz.prog 98 #[.pointer (some ⟨sb,0,none⟩),.pointer (some ⟨mb,0,none⟩)] w (Did sb mb lb ty o w rv d.1 d.2 (.bool true))):=by
 have HO:=hid HO;refine⟨fun hop HW=>?_,fun hop HW=>?_,fun hop HW=>?_,fun hop HW=>?_,fun hop HW=>?_,fun hop HW=>?_,fun hop HW=>?_,fun hop HW=>?_,fun hop HW=>?_,fun hop HW=>?_,fun hop HW=>?_,fun hop HW=>?_⟩;go_enter Tryz.func93,Tryz.ntmps93;rotate_left;go_enter Tryz.func93,Tryz.ntmps93;rotate_left;go_enter Tryz.func94,Tryz.ntmps94;rotate_left;go_enter Tryz.func94,Tryz.ntmps94;rotate_left;go_enter Tryz.func95,Tryz.ntmps95;rotate_left;go_enter Tryz.func95,Tryz.ntmps95;rotate_left;go_enter Tryz.func96,Tryz.ntmps96;rotate_left;go_enter Tryz.func96,Tryz.ntmps96;rotate_left;go_enter Tryz.func97,Tryz.ntmps97;rotate_left;go_enter Tryz.func97,Tryz.ntmps97;rotate_left;go_enter Tryz.func98,Tryz.ntmps98;rotate_left;go_enter Tryz.func98,Tryz.ntmps98;rotate_left
 all_goals
  have HW:=hid HW;have HOP:=hid hop;clear hop;go_wp2_with fail;refine HO.out.mono ?_;rintro e w1 ⟨rfl,hs1,hm1⟩;obtain⟨u1,hu1,hr1⟩:=hs1.op.row;have c8:=(hr1.cell 8).trans (by show some (Value.int .i64 c.op)=_;rw[HOP.out]);have HS1:=hid hs1;have HM1:=hid hm1;clear hs1 hm1 hr1 hu1;go_wp2_with fail;refine(HW.out _ HS1.out HM1.out).mono ?_;rintro e w2 ⟨rv2,rfl,hs2,hm2⟩;have HS2:=hid hs2;have HM2:=hid (HM1.out.trans hm2);clear hs2 hm2;go_wp2_with fail;go_ret;exact⟨rv2,rfl,HS2.out,HM2.out⟩
theorem fourStep_yes (w:World) (h:OpS w sb ty o c rv mp) (hm:MemG w mb lb l) (hp:∃ q,mp=.pointer q) (hI:Kc.Inv c) (hk:c.kd=1) (hcan:c.can l=true) (s1:sb≠mb) (s2:sb≠lb) (s3:rv.ownBlock≠some mb) (s4:rv.ownBlock≠some lb) (_hT:Tab64 w) (_hn:¬ fp sb mb lb rv 0):Calls Tryz.prog 93 #[.pointer (some ⟨sb,0,none⟩),.pointer (some ⟨mb,0,none⟩)] w (Did sb mb lb ty o w rv (c.step l).1 (c.step l).2 (.bool true)):=by
 have e:c.step l=Kc.four { c with steps:=c.steps+1 } l:=by simp[Kc.step,hk]
 obtain⟨hov,hsz⟩:=can_sz hcan;have hz:=hI.sta.s1 hk;rw[hz] at hsz;have hst:c.steps+1≤1000:=by have:=hI.st;omega
 have hgu:=hI.gen.up;have hd:=hI.d1 hk;have fw:=kStep_fw sb mb lb ty o c rv l w (Kc.four { c with steps:=c.steps+1 } l) (open_yes sb mb lb ty o c rv mp l w h hm hp (by omega) hcan s1 s2 s3 s4);rw[e]
 rcases hI.sta.op5 (by omega) with hop | hop
 ·exact fw.1 hop fun W hs hmv=>fourWrite_o sb mb lb ty o { c with steps:=c.steps+1 } rv l W hs (by show(c.op==2)=true;rw[hop];rfl) hgu hd hov hI.sta.wd1 hI.sta.wd8 hst hsz
 ·exact fw.2.1 hop fun W hs hmv=>fourRead_o sb mb lb ty o { c with steps:=c.steps+1 } rv l W hs (by show(c.op==2)=false;rw[hop];rfl) hgu hd hov hI.sta.wd1 hI.sta.wd8 hst hsz
theorem chenStep_yes (w:World) (h:OpS w sb ty o c rv mp) (hm:MemG w mb lb l) (hp:∃ q,mp=.pointer q) (hI:Kc.Inv c) (hk:c.kd=2) (hcan:c.can l=true) (s1:sb≠mb) (s2:sb≠lb) (s3:rv.ownBlock≠some mb) (s4:rv.ownBlock≠some lb) (hT:Tab64 w) (hn:¬ fp sb mb lb rv 0):Calls Tryz.prog 94 #[.pointer (some ⟨sb,0,none⟩),.pointer (some ⟨mb,0,none⟩)] w (Did sb mb lb ty o w rv (c.step l).1 (c.step l).2 (.bool true)):=by
 have e:c.step l=Kc.chen { c with steps:=c.steps+1 } l:=by simp[Kc.step,hk]
 obtain⟨hov,hsz⟩:=can_sz hcan;have hz:=hI.sta.s2 hk;rw[hz] at hsz;have hst:c.steps+1≤1000:=by have:=hI.st;omega
 have hgu:=hI.gen.up;have hd:=hI.d2 hk;have fw:=kStep_fw sb mb lb ty o c rv l w (Kc.chen { c with steps:=c.steps+1 } l) (open_yes sb mb lb ty o c rv mp l w h hm hp (by omega) hcan s1 s2 s3 s4);rw[e]
 rcases hI.sta.op5 (by omega) with hop | hop
 ·exact fw.2.2.1 hop fun W hs hmv=>chenWrite_o sb mb lb ty o { c with steps:=c.steps+1 } rv l W hs (by show(c.op==2)=true;rw[hop];rfl) hgu hd hov hI.sta.wd1 hI.sta.wd8 hst hI.sta.nr1 hI.sta.nr4 hI.sta.rd hsz (hT.mv hmv hn) hn
 ·exact fw.2.2.2.1 hop fun W hs hmv=>chenRead_o sb mb lb ty o { c with steps:=c.steps+1 } rv l W hs (by show(c.op==2)=false;rw[hop];rfl) hgu hd hov hI.sta.wd1 hI.sta.wd8 hst hI.sta.nr1 hI.sta.nr4 hI.sta.rd hsz
theorem seqStep_yes (w:World) (h:OpS w sb ty o c rv mp) (hm:MemG w mb lb l) (hp:∃ q,mp=.pointer q) (hI:Kc.Inv c) (hk:c.kd=3) (hcan:c.can l=true) (s1:sb≠mb) (s2:sb≠lb) (s3:rv.ownBlock≠some mb) (s4:rv.ownBlock≠some lb) (_hT:Tab64 w) (_hn:¬ fp sb mb lb rv 0):Calls Tryz.prog 95 #[.pointer (some ⟨sb,0,none⟩),.pointer (some ⟨mb,0,none⟩)] w (Did sb mb lb ty o w rv (c.step l).1 (c.step l).2 (.bool true)):=by
 have e:c.step l=Kc.seq { c with steps:=c.steps+1 } l:=by simp[Kc.step,hk]
 obtain⟨hov,hsz⟩:=can_sz hcan;have hz:=hI.sta.s3 hk;rw[hz] at hsz;have hst:c.steps+1≤1000:=by have:=hI.st;omega
 have hgu:=hI.gen.up;have hd:=hI.d3 hk;have fw:=kStep_fw sb mb lb ty o c rv l w (Kc.seq { c with steps:=c.steps+1 } l) (open_yes sb mb lb ty o c rv mp l w h hm hp (by omega) hcan s1 s2 s3 s4);rw[e]
 rcases hI.sta.op5 (by omega) with hop | hop
 ·exact fw.2.2.2.2.1 hop fun W hs hmv=>seqWrite_o sb mb lb ty o { c with steps:=c.steps+1 } rv l W hs (by show(c.op==2)=true;rw[hop];rfl) hgu hd hov hI.sta.wd1 hI.sta.wd8 hst hsz
 ·exact fw.2.2.2.2.2.1 hop fun W hs hmv=>seqRead_o sb mb lb ty o { c with steps:=c.steps+1 } rv l W hs (by show(c.op==2)=false;rw[hop];rfl) hgu hd hov hI.sta.wd1 hI.sta.wd8 hst hsz
theorem ringStep_yes (w:World) (h:OpS w sb ty o c rv mp) (hm:MemG w mb lb l) (hp:∃ q,mp=.pointer q) (hI:Kc.Inv c) (hk:c.kd=4) (hcan:c.can l=true) (s1:sb≠mb) (s2:sb≠lb) (s3:rv.ownBlock≠some mb) (s4:rv.ownBlock≠some lb) (_hT:Tab64 w) (_hn:¬ fp sb mb lb rv 0):Calls Tryz.prog 96 #[.pointer (some ⟨sb,0,none⟩),.pointer (some ⟨mb,0,none⟩)] w (Did sb mb lb ty o w rv (c.step l).1 (c.step l).2 (.bool true)):=by
 have e:c.step l=Kc.ring { c with steps:=c.steps+1 } l:=by simp[Kc.step,hk]
 obtain⟨hov,hsz⟩:=can_sz hcan;have hz:=hI.sta.s4 hk;rw[hz] at hsz;have hst:c.steps+1≤1000:=by have:=hI.st;omega
 have hgu:=hI.gen.up;have hd:=hI.d4 hk;have fw:=kStep_fw sb mb lb ty o c rv l w (Kc.ring { c with steps:=c.steps+1 } l) (open_yes sb mb lb ty o c rv mp l w h hm hp (by omega) hcan s1 s2 s3 s4);rw[e]
 rcases hI.sta.op5 (by omega) with hop | hop
 ·exact fw.2.2.2.2.2.2.1 hop fun W hs hmv=>ringWrite_o sb mb lb ty o { c with steps:=c.steps+1 } rv l W hs (by show(c.op==2)=true;rw[hop];rfl) hgu hd hov hI.sta.wd1 hI.sta.wd8 hst (hI.sta.sl4 hk) hsz
 ·exact fw.2.2.2.2.2.2.2.1 hop fun W hs hmv=>ringRead_o sb mb lb ty o { c with steps:=c.steps+1 } rv l W hs (by show(c.op==2)=false;rw[hop];rfl) hgu hd hov hI.sta.wd1 hI.sta.wd8 hst (hI.sta.sl4 hk) hsz
theorem cabStep_yes (w:World) (h:OpS w sb ty o c rv mp) (hm:MemG w mb lb l) (hp:∃ q,mp=.pointer q) (hI:Kc.Inv c) (hk:c.kd=5) (hcan:c.can l=true) (s1:sb≠mb) (s2:sb≠lb) (s3:rv.ownBlock≠some mb) (s4:rv.ownBlock≠some lb) (hT:Tab64 w) (hn:¬ fp sb mb lb rv 0):Calls Tryz.prog 97 #[.pointer (some ⟨sb,0,none⟩),.pointer (some ⟨mb,0,none⟩)] w (Did sb mb lb ty o w rv (c.step l).1 (c.step l).2 (.bool true)):=by
 have e:c.step l=Kc.cab { c with steps:=c.steps+1 } l:=by simp[Kc.step,hk]
 obtain⟨hov,hsz⟩:=can_sz hcan;have hz:=hI.sta.s5 hk;rw[hz] at hsz;have hst:c.steps+1≤1000:=by have:=hI.st;omega
 have hgu:=hI.gen.up;have hd:=hI.d5 hk;have fw:=kStep_fw sb mb lb ty o c rv l w (Kc.cab { c with steps:=c.steps+1 } l) (open_yes sb mb lb ty o c rv mp l w h hm hp (by omega) hcan s1 s2 s3 s4);rw[e]
 rcases hI.sta.op5 (by omega) with hop | hop
 ·exact fw.2.2.2.2.2.2.2.2.1 hop fun W hs hmv=>cabWrite_o sb mb lb ty o { c with steps:=c.steps+1 } rv l W hs (by show(c.op==2)=true;rw[hop];rfl) hgu hd hov hI.sta.wd1 hI.sta.wd8 hst hI.sta.nr1 hI.sta.nr4 hI.sta.rd (hI.sta.sl5 hk) hI.sta.sl16 hsz (hT.mv hmv hn) hn
 ·exact fw.2.2.2.2.2.2.2.2.2.1 hop fun W hs hmv=>cabRead_o sb mb lb ty o { c with steps:=c.steps+1 } rv l W hs (by show(c.op==2)=false;rw[hop];rfl) hgu hd hov hI.sta.wd1 hI.sta.wd8 hst hI.sta.nr1 hI.sta.nr4 hI.sta.rd (hI.sta.sl5 hk) hI.sta.sl16 hsz
theorem fifoStep_yes (w:World) (h:OpS w sb ty o c rv mp) (hm:MemG w mb lb l) (hp:∃ q,mp=.pointer q) (hI:Kc.Inv c) (hk:c.kd=6) (hcan:c.can l=true) (s1:sb≠mb) (s2:sb≠lb) (s3:rv.ownBlock≠some mb) (s4:rv.ownBlock≠some lb) (_hT:Tab64 w) (_hn:¬ fp sb mb lb rv 0):Calls Tryz.prog 98 #[.pointer (some ⟨sb,0,none⟩),.pointer (some ⟨mb,0,none⟩)] w (Did sb mb lb ty o w rv (c.step l).1 (c.step l).2 (.bool true)):=by
 have e:c.step l=Kc.fifo { c with steps:=c.steps+1 } l:=by simp[Kc.step,hk]
 obtain⟨hov,hsz⟩:=can_sz hcan;have hz:=hI.sta.s6 hk;rw[hz] at hsz;have hst:c.steps+1≤1000:=by have:=hI.st;omega
 have hgu:=hI.gen.up;have hd:=hI.d6 hk;have fw:=kStep_fw sb mb lb ty o c rv l w (Kc.fifo { c with steps:=c.steps+1 } l) (open_yes sb mb lb ty o c rv mp l w h hm hp (by omega) hcan s1 s2 s3 s4);rw[e]
 rcases hI.sta.op6 (by omega) with hop | hop
 ·exact fw.2.2.2.2.2.2.2.2.2.2.1 hop fun W hs hmv=>fifoPut_o sb mb lb ty o { c with steps:=c.steps+1 } rv l W hs (by show(c.op==3)=true;rw[hop];rfl) hgu hd hov hI.sta.wd1 hI.sta.wd8 hst (hI.sta.sl6 hk) hsz
 ·exact fw.2.2.2.2.2.2.2.2.2.2.2 hop fun W hs hmv=>fifoTake_o sb mb lb ty o { c with steps:=c.steps+1 } rv l W hs (by show(c.op==3)=false;rw[hop];rfl) hgu hd hov hI.sta.wd1 hI.sta.wd8 hst (hI.sta.sl6 hk) hsz
end
end Go.Proofs.YtolmpehgeinlkaaGreatDoor
