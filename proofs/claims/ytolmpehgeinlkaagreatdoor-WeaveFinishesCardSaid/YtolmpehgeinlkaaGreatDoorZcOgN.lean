/- A step of an operation of any kind; whether it is over; how many steps it made. -/
import Derived.Test.YtolmpehgeinlkaaGreatDoorZcOgM
namespace Go.Proofs.YtolmpehgeinlkaaGreatDoor
open Go.RowKit
open Go.Lib (hid)
attribute [local go_sem] Oper.semAt_some
set_option maxHeartbeats 4000000
set_option maxRecDepth 100000
section
variable (sb mb lb:Nat) (ty:TypeId) (o:Ob) (c:Kc) (rv mp:Value) (l:List Int)
theorem jE {c:Kc} {l:List Int} (h:c.can l=true):c.over=false∧c.base+c.size≤l.length:=by
 unfold Kc.can at h;rw[Bool.and_eq_true,decide_eq_true_eq] at h;obtain⟨h1,h2,h3⟩:=h;refine⟨by simpa using h1,by omega⟩
def li (w:World) (F:Nat) (d:Kc × List Int):Prop:=∀ W,St W sb mb lb ty o { c with steps:=c.steps+1 } rv l→Mv sb mb lb w W rv rv→Calls Tryz.prog F #[.pointer (some ⟨sb,0,none⟩)] W (Did sb mb lb ty o W rv d.1 d.2 (.tuple #[]))
theorem gy (w:World) (d:Kc × List Int) (HO:Calls Tryz.prog 138 #[.pointer (some ⟨sb,0,none⟩),.pointer (some ⟨mb,0,none⟩)] w fun e w'=>lw sb mb lb ty o w rv { c with steps:=c.steps+1 } l (.bool true) e w'):
  (c.op=2→li sb mb lb ty o c rv l w 139 d→Calls Tryz.prog 93 #[.pointer (some ⟨sb,0,none⟩),.pointer (some ⟨mb,0,none⟩)] w (Did sb mb lb ty o w rv d.1 d.2 (.bool true)))∧
  (c.op=1→li sb mb lb ty o c rv l w 140 d→Calls Tryz.prog 93 #[.pointer (some ⟨sb,0,none⟩),.pointer (some ⟨mb,0,none⟩)] w (Did sb mb lb ty o w rv d.1 d.2 (.bool true)))∧
  (c.op=2→li sb mb lb ty o c rv l w 141 d→Calls Tryz.prog 94 #[.pointer (some ⟨sb,0,none⟩),.pointer (some ⟨mb,0,none⟩)] w (Did sb mb lb ty o w rv d.1 d.2 (.bool true)))∧
  (c.op=1→li sb mb lb ty o c rv l w 142 d→Calls Tryz.prog 94 #[.pointer (some ⟨sb,0,none⟩),.pointer (some ⟨mb,0,none⟩)] w (Did sb mb lb ty o w rv d.1 d.2 (.bool true)))∧
  (c.op=2→li sb mb lb ty o c rv l w 143 d→Calls Tryz.prog 95 #[.pointer (some ⟨sb,0,none⟩),.pointer (some ⟨mb,0,none⟩)] w (Did sb mb lb ty o w rv d.1 d.2 (.bool true)))∧
  (c.op=1→li sb mb lb ty o c rv l w 144 d→Calls Tryz.prog 95 #[.pointer (some ⟨sb,0,none⟩),.pointer (some ⟨mb,0,none⟩)] w (Did sb mb lb ty o w rv d.1 d.2 (.bool true)))∧
  (c.op=2→li sb mb lb ty o c rv l w 145 d→Calls Tryz.prog 96 #[.pointer (some ⟨sb,0,none⟩),.pointer (some ⟨mb,0,none⟩)] w (Did sb mb lb ty o w rv d.1 d.2 (.bool true)))∧
  (c.op=1→li sb mb lb ty o c rv l w 146 d→Calls Tryz.prog 96 #[.pointer (some ⟨sb,0,none⟩),.pointer (some ⟨mb,0,none⟩)] w (Did sb mb lb ty o w rv d.1 d.2 (.bool true)))∧
  (c.op=2→li sb mb lb ty o c rv l w 147 d→Calls Tryz.prog 97 #[.pointer (some ⟨sb,0,none⟩),.pointer (some ⟨mb,0,none⟩)] w (Did sb mb lb ty o w rv d.1 d.2 (.bool true)))∧
  (c.op=1→li sb mb lb ty o c rv l w 148 d→Calls Tryz.prog 97 #[.pointer (some ⟨sb,0,none⟩),.pointer (some ⟨mb,0,none⟩)] w (Did sb mb lb ty o w rv d.1 d.2 (.bool true)))∧
  (c.op=3→li sb mb lb ty o c rv l w 149 d→Calls Tryz.prog 98 #[.pointer (some ⟨sb,0,none⟩),.pointer (some ⟨mb,0,none⟩)] w (Did sb mb lb ty o w rv d.1 d.2 (.bool true)))∧
  (c.op=4→li sb mb lb ty o c rv l w 150 d→Calls Tryz.prog 98 #[.pointer (some ⟨sb,0,none⟩),.pointer (some ⟨mb,0,none⟩)] w (Did sb mb lb ty o w rv d.1 d.2 (.bool true))):=by
 have HO:=hid HO;refine⟨fun aA HW=>?_,fun aA HW=>?_,fun aA HW=>?_,fun aA HW=>?_,fun aA HW=>?_,fun aA HW=>?_,fun aA HW=>?_,fun aA HW=>?_,fun aA HW=>?_,fun aA HW=>?_,fun aA HW=>?_,fun aA HW=>?_⟩;go_enter Tryz.func93,Tryz.ntmps93;rotate_left;go_enter Tryz.func93,Tryz.ntmps93;rotate_left;go_enter Tryz.func94,Tryz.ntmps94;rotate_left;go_enter Tryz.func94,Tryz.ntmps94;rotate_left;go_enter Tryz.func95,Tryz.ntmps95;rotate_left;go_enter Tryz.func95,Tryz.ntmps95;rotate_left;go_enter Tryz.func96,Tryz.ntmps96;rotate_left;go_enter Tryz.func96,Tryz.ntmps96;rotate_left;go_enter Tryz.func97,Tryz.ntmps97;rotate_left;go_enter Tryz.func97,Tryz.ntmps97;rotate_left;go_enter Tryz.func98,Tryz.ntmps98;rotate_left;go_enter Tryz.func98,Tryz.ntmps98;rotate_left
 all_goals
  have HW:=hid HW;have sj:=hid aA;clear aA;go_wp2_with fail;refine HO.out.mono ?_;rintro e w1 ⟨rfl,bZ,fq⟩;obtain⟨u1,gS,bi⟩:=bZ.op.row;have c8:=(bi.cell 8).trans (by show some (Value.int .i64 c.op)=_;rw[sj.out]);have ai:=hid bZ;have au:=hid fq;clear bZ fq bi gS;go_wp2_with fail;refine(HW.out _ ai.out au.out).mono ?_;rintro e w2 ⟨rv2,rfl,gl,oW⟩;have ar:=hid gl;have aE:=hid (au.out.trans oW);clear gl oW;go_wp2_with fail;go_ret;exact⟨rv2,rfl,ar.out,aE.out⟩
theorem o7 (w:World) (h:OpS w sb ty o c rv mp) (hm:MemG w mb lb l) (hp:∃ q,mp=.pointer q) (hI:Kc.Inv c) (hk:c.kd=1) (bJ:c.can l=true) (s1:sb≠mb) (s2:sb≠lb) (s3:rv.ownBlock≠some mb) (s4:rv.ownBlock≠some lb) (_hT:Tab64 w) (_hn:¬ fp sb mb lb rv 0):Calls Tryz.prog 93 #[.pointer (some ⟨sb,0,none⟩),.pointer (some ⟨mb,0,none⟩)] w (Did sb mb lb ty o w rv (c.step l).1 (c.step l).2 (.bool true)):=by
 have e:c.step l=Kc.four { c with steps:=c.steps+1 } l:=by simp[Kc.step,hk]
 obtain⟨bX,bK⟩:=jE bJ;have hz:=hI.sta.s1 hk;rw[hz] at bK;have dQ:c.steps+1≤1000:=by have:=hI.st;omega
 have rO:=hI.gen.up;have hd:=hI.d1 hk;have fw:=gy sb mb lb ty o c rv l w (Kc.four { c with steps:=c.steps+1 } l) (gG sb mb lb ty o c rv mp l w h hm hp (by omega) bJ s1 s2 s3 s4);rw[e]
 rcases hI.sta.op5 (by omega) with aA | aA
 ·exact fw.1 aA fun W hs nv=>ru sb mb lb ty o { c with steps:=c.steps+1 } rv l W hs (by show(c.op==2)=true;rw[aA];rfl) rO hd bX hI.sta.wd1 hI.sta.wd8 dQ bK
 ·exact fw.2.1 aA fun W hs nv=>tD sb mb lb ty o { c with steps:=c.steps+1 } rv l W hs (by show(c.op==2)=false;rw[aA];rfl) rO hd bX hI.sta.wd1 hI.sta.wd8 dQ bK
theorem oF (w:World) (h:OpS w sb ty o c rv mp) (hm:MemG w mb lb l) (hp:∃ q,mp=.pointer q) (hI:Kc.Inv c) (hk:c.kd=2) (bJ:c.can l=true) (s1:sb≠mb) (s2:sb≠lb) (s3:rv.ownBlock≠some mb) (s4:rv.ownBlock≠some lb) (hT:Tab64 w) (hn:¬ fp sb mb lb rv 0):Calls Tryz.prog 94 #[.pointer (some ⟨sb,0,none⟩),.pointer (some ⟨mb,0,none⟩)] w (Did sb mb lb ty o w rv (c.step l).1 (c.step l).2 (.bool true)):=by
 have e:c.step l=Kc.chen { c with steps:=c.steps+1 } l:=by simp[Kc.step,hk]
 obtain⟨bX,bK⟩:=jE bJ;have hz:=hI.sta.s2 hk;rw[hz] at bK;have dQ:c.steps+1≤1000:=by have:=hI.st;omega
 have rO:=hI.gen.up;have hd:=hI.d2 hk;have fw:=gy sb mb lb ty o c rv l w (Kc.chen { c with steps:=c.steps+1 } l) (gG sb mb lb ty o c rv mp l w h hm hp (by omega) bJ s1 s2 s3 s4);rw[e]
 rcases hI.sta.op5 (by omega) with aA | aA
 ·exact fw.2.2.1 aA fun W hs nv=>qZ sb mb lb ty o { c with steps:=c.steps+1 } rv l W hs (by show(c.op==2)=true;rw[aA];rfl) rO hd bX hI.sta.wd1 hI.sta.wd8 dQ hI.sta.nr1 hI.sta.nr4 hI.sta.rd bK (hT.mv nv hn) hn
 ·exact fw.2.2.2.1 aA fun W hs nv=>sO sb mb lb ty o { c with steps:=c.steps+1 } rv l W hs (by show(c.op==2)=false;rw[aA];rfl) rO hd bX hI.sta.wd1 hI.sta.wd8 dQ hI.sta.nr1 hI.sta.nr4 hI.sta.rd bK
theorem qO (w:World) (h:OpS w sb ty o c rv mp) (hm:MemG w mb lb l) (hp:∃ q,mp=.pointer q) (hI:Kc.Inv c) (hk:c.kd=3) (bJ:c.can l=true) (s1:sb≠mb) (s2:sb≠lb) (s3:rv.ownBlock≠some mb) (s4:rv.ownBlock≠some lb) (_hT:Tab64 w) (_hn:¬ fp sb mb lb rv 0):Calls Tryz.prog 95 #[.pointer (some ⟨sb,0,none⟩),.pointer (some ⟨mb,0,none⟩)] w (Did sb mb lb ty o w rv (c.step l).1 (c.step l).2 (.bool true)):=by
 have e:c.step l=Kc.seq { c with steps:=c.steps+1 } l:=by simp[Kc.step,hk]
 obtain⟨bX,bK⟩:=jE bJ;have hz:=hI.sta.s3 hk;rw[hz] at bK;have dQ:c.steps+1≤1000:=by have:=hI.st;omega
 have rO:=hI.gen.up;have hd:=hI.d3 hk;have fw:=gy sb mb lb ty o c rv l w (Kc.seq { c with steps:=c.steps+1 } l) (gG sb mb lb ty o c rv mp l w h hm hp (by omega) bJ s1 s2 s3 s4);rw[e]
 rcases hI.sta.op5 (by omega) with aA | aA
 ·exact fw.2.2.2.2.1 aA fun W hs nv=>tC sb mb lb ty o { c with steps:=c.steps+1 } rv l W hs (by show(c.op==2)=true;rw[aA];rfl) rO hd bX hI.sta.wd1 hI.sta.wd8 dQ bK
 ·exact fw.2.2.2.2.2.1 aA fun W hs nv=>wu sb mb lb ty o { c with steps:=c.steps+1 } rv l W hs (by show(c.op==2)=false;rw[aA];rfl) rO hd bX hI.sta.wd1 hI.sta.wd8 dQ bK
theorem pz (w:World) (h:OpS w sb ty o c rv mp) (hm:MemG w mb lb l) (hp:∃ q,mp=.pointer q) (hI:Kc.Inv c) (hk:c.kd=4) (bJ:c.can l=true) (s1:sb≠mb) (s2:sb≠lb) (s3:rv.ownBlock≠some mb) (s4:rv.ownBlock≠some lb) (_hT:Tab64 w) (_hn:¬ fp sb mb lb rv 0):Calls Tryz.prog 96 #[.pointer (some ⟨sb,0,none⟩),.pointer (some ⟨mb,0,none⟩)] w (Did sb mb lb ty o w rv (c.step l).1 (c.step l).2 (.bool true)):=by
 have e:c.step l=Kc.ring { c with steps:=c.steps+1 } l:=by simp[Kc.step,hk]
 obtain⟨bX,bK⟩:=jE bJ;have hz:=hI.sta.s4 hk;rw[hz] at bK;have dQ:c.steps+1≤1000:=by have:=hI.st;omega
 have rO:=hI.gen.up;have hd:=hI.d4 hk;have fw:=gy sb mb lb ty o c rv l w (Kc.ring { c with steps:=c.steps+1 } l) (gG sb mb lb ty o c rv mp l w h hm hp (by omega) bJ s1 s2 s3 s4);rw[e]
 rcases hI.sta.op5 (by omega) with aA | aA
 ·exact fw.2.2.2.2.2.2.1 aA fun W hs nv=>rL sb mb lb ty o { c with steps:=c.steps+1 } rv l W hs (by show(c.op==2)=true;rw[aA];rfl) rO hd bX hI.sta.wd1 hI.sta.wd8 dQ (hI.sta.sl4 hk) bK
 ·exact fw.2.2.2.2.2.2.2.1 aA fun W hs nv=>sX sb mb lb ty o { c with steps:=c.steps+1 } rv l W hs (by show(c.op==2)=false;rw[aA];rfl) rO hd bX hI.sta.wd1 hI.sta.wd8 dQ (hI.sta.sl4 hk) bK
theorem qi (w:World) (h:OpS w sb ty o c rv mp) (hm:MemG w mb lb l) (hp:∃ q,mp=.pointer q) (hI:Kc.Inv c) (hk:c.kd=5) (bJ:c.can l=true) (s1:sb≠mb) (s2:sb≠lb) (s3:rv.ownBlock≠some mb) (s4:rv.ownBlock≠some lb) (hT:Tab64 w) (hn:¬ fp sb mb lb rv 0):Calls Tryz.prog 97 #[.pointer (some ⟨sb,0,none⟩),.pointer (some ⟨mb,0,none⟩)] w (Did sb mb lb ty o w rv (c.step l).1 (c.step l).2 (.bool true)):=by
 have e:c.step l=Kc.cab { c with steps:=c.steps+1 } l:=by simp[Kc.step,hk]
 obtain⟨bX,bK⟩:=jE bJ;have hz:=hI.sta.s5 hk;rw[hz] at bK;have dQ:c.steps+1≤1000:=by have:=hI.st;omega
 have rO:=hI.gen.up;have hd:=hI.d5 hk;have fw:=gy sb mb lb ty o c rv l w (Kc.cab { c with steps:=c.steps+1 } l) (gG sb mb lb ty o c rv mp l w h hm hp (by omega) bJ s1 s2 s3 s4);rw[e]
 rcases hI.sta.op5 (by omega) with aA | aA
 ·exact fw.2.2.2.2.2.2.2.2.1 aA fun W hs nv=>ti sb mb lb ty o { c with steps:=c.steps+1 } rv l W hs (by show(c.op==2)=true;rw[aA];rfl) rO hd bX hI.sta.wd1 hI.sta.wd8 dQ hI.sta.nr1 hI.sta.nr4 hI.sta.rd (hI.sta.sl5 hk) hI.sta.sl16 bK (hT.mv nv hn) hn
 ·exact fw.2.2.2.2.2.2.2.2.2.1 aA fun W hs nv=>wA sb mb lb ty o { c with steps:=c.steps+1 } rv l W hs (by show(c.op==2)=false;rw[aA];rfl) rO hd bX hI.sta.wd1 hI.sta.wd8 dQ hI.sta.nr1 hI.sta.nr4 hI.sta.rd (hI.sta.sl5 hk) hI.sta.sl16 bK
theorem pF (w:World) (h:OpS w sb ty o c rv mp) (hm:MemG w mb lb l) (hp:∃ q,mp=.pointer q) (hI:Kc.Inv c) (hk:c.kd=6) (bJ:c.can l=true) (s1:sb≠mb) (s2:sb≠lb) (s3:rv.ownBlock≠some mb) (s4:rv.ownBlock≠some lb) (_hT:Tab64 w) (_hn:¬ fp sb mb lb rv 0):Calls Tryz.prog 98 #[.pointer (some ⟨sb,0,none⟩),.pointer (some ⟨mb,0,none⟩)] w (Did sb mb lb ty o w rv (c.step l).1 (c.step l).2 (.bool true)):=by
 have e:c.step l=Kc.fifo { c with steps:=c.steps+1 } l:=by simp[Kc.step,hk]
 obtain⟨bX,bK⟩:=jE bJ;have hz:=hI.sta.s6 hk;rw[hz] at bK;have dQ:c.steps+1≤1000:=by have:=hI.st;omega
 have rO:=hI.gen.up;have hd:=hI.d6 hk;have fw:=gy sb mb lb ty o c rv l w (Kc.fifo { c with steps:=c.steps+1 } l) (gG sb mb lb ty o c rv mp l w h hm hp (by omega) bJ s1 s2 s3 s4);rw[e]
 rcases hI.sta.op6 (by omega) with aA | aA
 ·exact fw.2.2.2.2.2.2.2.2.2.2.1 aA fun W hs nv=>vS sb mb lb ty o { c with steps:=c.steps+1 } rv l W hs (by show(c.op==3)=true;rw[aA];rfl) rO hd bX hI.sta.wd1 hI.sta.wd8 dQ (hI.sta.sl6 hk) bK
 ·exact fw.2.2.2.2.2.2.2.2.2.2.2 aA fun W hs nv=>tv sb mb lb ty o { c with steps:=c.steps+1 } rv l W hs (by show(c.op==3)=false;rw[aA];rfl) rO hd bX hI.sta.wd1 hI.sta.wd8 dQ (hI.sta.sl6 hk) bK
end
end Go.Proofs.YtolmpehgeinlkaaGreatDoor
