/- A step of an operation of any kind; whether it is over; how many steps it made. -/
import Derived.Test.YtabfcjohdgjkoaaGreatDoorZcOgM
namespace Go.Proofs.YtabfcjohdgjkoaaGreatDoor
open Go.RowKit
open Go.Lib (hid)
attribute [local go_sem] Oper.semAt_some
set_option maxHeartbeats 4000000
set_option maxRecDepth 100000
section
variable (sb mb lb:Nat) (ty:TypeId) (o:Ob) (c:Kc) (rv mp:Value) (l:List Int)
theorem ke {c:Kc} {l:List Int} (h:c.can l=true):c.over=false∧c.base+c.size≤l.length:=by
 unfold Kc.can at h;rw[Bool.and_eq_true,decide_eq_true_eq] at h;obtain⟨h1,h2,h3⟩:=h;refine⟨by simpa using h1,by omega⟩
def mV (w:World) (F:Nat) (d:Kc × List Int):Prop:=∀ W,St W sb mb lb ty o { c with steps:=c.steps+1 } rv l→Mv sb mb lb w W rv rv→Calls Tryz.prog F #[.pointer (some ⟨sb,0,none⟩)] W (Did sb mb lb ty o W rv d.1 d.2 (.tuple #[]))
theorem ik (w:World) (d:Kc × List Int) (HO:Calls Tryz.prog 159 #[.pointer (some ⟨sb,0,none⟩),.pointer (some ⟨mb,0,none⟩)] w fun e w'=>mS sb mb lb ty o w rv { c with steps:=c.steps+1 } l (.bool true) e w'):
  (c.op=2→mV sb mb lb ty o c rv l w 160 d→Calls Tryz.prog 95 #[.pointer (some ⟨sb,0,none⟩),.pointer (some ⟨mb,0,none⟩)] w (Did sb mb lb ty o w rv d.1 d.2 (.bool true)))∧
  (c.op=1→mV sb mb lb ty o c rv l w 161 d→Calls Tryz.prog 95 #[.pointer (some ⟨sb,0,none⟩),.pointer (some ⟨mb,0,none⟩)] w (Did sb mb lb ty o w rv d.1 d.2 (.bool true)))∧
  (c.op=2→mV sb mb lb ty o c rv l w 162 d→Calls Tryz.prog 96 #[.pointer (some ⟨sb,0,none⟩),.pointer (some ⟨mb,0,none⟩)] w (Did sb mb lb ty o w rv d.1 d.2 (.bool true)))∧
  (c.op=1→mV sb mb lb ty o c rv l w 163 d→Calls Tryz.prog 96 #[.pointer (some ⟨sb,0,none⟩),.pointer (some ⟨mb,0,none⟩)] w (Did sb mb lb ty o w rv d.1 d.2 (.bool true)))∧
  (c.op=2→mV sb mb lb ty o c rv l w 164 d→Calls Tryz.prog 97 #[.pointer (some ⟨sb,0,none⟩),.pointer (some ⟨mb,0,none⟩)] w (Did sb mb lb ty o w rv d.1 d.2 (.bool true)))∧
  (c.op=1→mV sb mb lb ty o c rv l w 165 d→Calls Tryz.prog 97 #[.pointer (some ⟨sb,0,none⟩),.pointer (some ⟨mb,0,none⟩)] w (Did sb mb lb ty o w rv d.1 d.2 (.bool true)))∧
  (c.op=2→mV sb mb lb ty o c rv l w 166 d→Calls Tryz.prog 98 #[.pointer (some ⟨sb,0,none⟩),.pointer (some ⟨mb,0,none⟩)] w (Did sb mb lb ty o w rv d.1 d.2 (.bool true)))∧
  (c.op=1→mV sb mb lb ty o c rv l w 167 d→Calls Tryz.prog 98 #[.pointer (some ⟨sb,0,none⟩),.pointer (some ⟨mb,0,none⟩)] w (Did sb mb lb ty o w rv d.1 d.2 (.bool true)))∧
  (c.op=2→mV sb mb lb ty o c rv l w 168 d→Calls Tryz.prog 99 #[.pointer (some ⟨sb,0,none⟩),.pointer (some ⟨mb,0,none⟩)] w (Did sb mb lb ty o w rv d.1 d.2 (.bool true)))∧
  (c.op=1→mV sb mb lb ty o c rv l w 169 d→Calls Tryz.prog 99 #[.pointer (some ⟨sb,0,none⟩),.pointer (some ⟨mb,0,none⟩)] w (Did sb mb lb ty o w rv d.1 d.2 (.bool true)))∧
  (c.op=3→mV sb mb lb ty o c rv l w 170 d→Calls Tryz.prog 100 #[.pointer (some ⟨sb,0,none⟩),.pointer (some ⟨mb,0,none⟩)] w (Did sb mb lb ty o w rv d.1 d.2 (.bool true)))∧
  (c.op=4→mV sb mb lb ty o c rv l w 171 d→Calls Tryz.prog 100 #[.pointer (some ⟨sb,0,none⟩),.pointer (some ⟨mb,0,none⟩)] w (Did sb mb lb ty o w rv d.1 d.2 (.bool true))):=by
 have HO:=hid HO;refine⟨fun aU HW=>?_,fun aU HW=>?_,fun aU HW=>?_,fun aU HW=>?_,fun aU HW=>?_,fun aU HW=>?_,fun aU HW=>?_,fun aU HW=>?_,fun aU HW=>?_,fun aU HW=>?_,fun aU HW=>?_,fun aU HW=>?_⟩;go_enter Tryz.func95,Tryz.ntmps95;rotate_left;go_enter Tryz.func95,Tryz.ntmps95;rotate_left;go_enter Tryz.func96,Tryz.ntmps96;rotate_left;go_enter Tryz.func96,Tryz.ntmps96;rotate_left;go_enter Tryz.func97,Tryz.ntmps97;rotate_left;go_enter Tryz.func97,Tryz.ntmps97;rotate_left;go_enter Tryz.func98,Tryz.ntmps98;rotate_left;go_enter Tryz.func98,Tryz.ntmps98;rotate_left;go_enter Tryz.func99,Tryz.ntmps99;rotate_left;go_enter Tryz.func99,Tryz.ntmps99;rotate_left;go_enter Tryz.func100,Tryz.ntmps100;rotate_left;go_enter Tryz.func100,Tryz.ntmps100;rotate_left
 all_goals
  have HW:=hid HW;have J9:=hid aU;clear aU;go_wp2_with fail;refine HO.out.mono ?_;rintro e w1 ⟨rfl,bN,fY⟩;obtain⟨u1,iz,bV⟩:=bN.op.row;have c8:=(bV.cell 8).trans (by show some (Value.int .i64 c.op)=_;rw[J9.out]);have al:=hid bN;have aT:=hid fY;clear bN fY bV iz;go_wp2_with fail;refine(HW.out _ al.out aT.out).mono ?_;rintro e w2 ⟨rv2,rfl,cO,rO⟩;have aL:=hid cO;have bk:=hid (aT.out.trans rO);clear cO rO;go_wp2_with fail;go_ret;exact⟨rv2,rfl,aL.out,bk.out⟩
theorem qO (w:World) (h:OpS w sb ty o c rv mp) (hm:MemG w mb lb l) (hp:∃ q,mp=.pointer q) (hI:Kc.Inv c) (hk:c.kd=1) (eq:c.can l=true) (s1:sb≠mb) (s2:sb≠lb) (s3:rv.ownBlock≠some mb) (s4:rv.ownBlock≠some lb) (_hT:Tab64 w) (_hn:¬ fp sb mb lb rv 0):Calls Tryz.prog 95 #[.pointer (some ⟨sb,0,none⟩),.pointer (some ⟨mb,0,none⟩)] w (Did sb mb lb ty o w rv (c.step l).1 (c.step l).2 (.bool true)):=by
 have e:c.step l=Kc.four { c with steps:=c.steps+1 } l:=by simp[Kc.step,hk]
 obtain⟨dg,bY⟩:=ke eq;have hz:=hI.sta.s1 hk;rw[hz] at bY;have du:c.steps+1≤1000:=by have:=hI.st;omega
 have sD:=hI.gen.up;have hd:=hI.d1 hk;have fw:=ik sb mb lb ty o c rv l w (Kc.four { c with steps:=c.steps+1 } l) (im sb mb lb ty o c rv mp l w h hm hp (by omega) eq s1 s2 s3 s4);rw[e]
 rcases hI.sta.op5 (by omega) with aU | aU
 ·exact fw.1 aU fun W hs rP=>sv sb mb lb ty o { c with steps:=c.steps+1 } rv l W hs (by show(c.op==2)=true;rw[aU];rfl) sD hd dg hI.sta.wd1 hI.sta.wd8 du bY
 ·exact fw.2.1 aU fun W hs rP=>t8 sb mb lb ty o { c with steps:=c.steps+1 } rv l W hs (by show(c.op==2)=false;rw[aU];rfl) sD hd dg hI.sta.wd1 hI.sta.wd8 du bY
theorem qC (w:World) (h:OpS w sb ty o c rv mp) (hm:MemG w mb lb l) (hp:∃ q,mp=.pointer q) (hI:Kc.Inv c) (hk:c.kd=2) (eq:c.can l=true) (s1:sb≠mb) (s2:sb≠lb) (s3:rv.ownBlock≠some mb) (s4:rv.ownBlock≠some lb) (hT:Tab64 w) (hn:¬ fp sb mb lb rv 0):Calls Tryz.prog 96 #[.pointer (some ⟨sb,0,none⟩),.pointer (some ⟨mb,0,none⟩)] w (Did sb mb lb ty o w rv (c.step l).1 (c.step l).2 (.bool true)):=by
 have e:c.step l=Kc.chen { c with steps:=c.steps+1 } l:=by simp[Kc.step,hk]
 obtain⟨dg,bY⟩:=ke eq;have hz:=hI.sta.s2 hk;rw[hz] at bY;have du:c.steps+1≤1000:=by have:=hI.st;omega
 have sD:=hI.gen.up;have hd:=hI.d2 hk;have fw:=ik sb mb lb ty o c rv l w (Kc.chen { c with steps:=c.steps+1 } l) (im sb mb lb ty o c rv mp l w h hm hp (by omega) eq s1 s2 s3 s4);rw[e]
 rcases hI.sta.op5 (by omega) with aU | aU
 ·exact fw.2.2.1 aU fun W hs rP=>sj sb mb lb ty o { c with steps:=c.steps+1 } rv l W hs (by show(c.op==2)=true;rw[aU];rfl) sD hd dg hI.sta.wd1 hI.sta.wd8 du hI.sta.nr1 hI.sta.nr4 hI.sta.rd bY (hT.mv rP hn) hn
 ·exact fw.2.2.2.1 aU fun W hs rP=>tW sb mb lb ty o { c with steps:=c.steps+1 } rv l W hs (by show(c.op==2)=false;rw[aU];rfl) sD hd dg hI.sta.wd1 hI.sta.wd8 du hI.sta.nr1 hI.sta.nr4 hI.sta.rd bY
theorem tv (w:World) (h:OpS w sb ty o c rv mp) (hm:MemG w mb lb l) (hp:∃ q,mp=.pointer q) (hI:Kc.Inv c) (hk:c.kd=3) (eq:c.can l=true) (s1:sb≠mb) (s2:sb≠lb) (s3:rv.ownBlock≠some mb) (s4:rv.ownBlock≠some lb) (_hT:Tab64 w) (_hn:¬ fp sb mb lb rv 0):Calls Tryz.prog 97 #[.pointer (some ⟨sb,0,none⟩),.pointer (some ⟨mb,0,none⟩)] w (Did sb mb lb ty o w rv (c.step l).1 (c.step l).2 (.bool true)):=by
 have e:c.step l=Kc.seq { c with steps:=c.steps+1 } l:=by simp[Kc.step,hk]
 obtain⟨dg,bY⟩:=ke eq;have hz:=hI.sta.s3 hk;rw[hz] at bY;have du:c.steps+1≤1000:=by have:=hI.st;omega
 have sD:=hI.gen.up;have hd:=hI.d3 hk;have fw:=ik sb mb lb ty o c rv l w (Kc.seq { c with steps:=c.steps+1 } l) (im sb mb lb ty o c rv mp l w h hm hp (by omega) eq s1 s2 s3 s4);rw[e]
 rcases hI.sta.op5 (by omega) with aU | aU
 ·exact fw.2.2.2.2.1 aU fun W hs rP=>uP sb mb lb ty o { c with steps:=c.steps+1 } rv l W hs (by show(c.op==2)=true;rw[aU];rfl) sD hd dg hI.sta.wd1 hI.sta.wd8 du bY
 ·exact fw.2.2.2.2.2.1 aU fun W hs rP=>xW sb mb lb ty o { c with steps:=c.steps+1 } rv l W hs (by show(c.op==2)=false;rw[aU];rfl) sD hd dg hI.sta.wd1 hI.sta.wd8 du bY
theorem rp (w:World) (h:OpS w sb ty o c rv mp) (hm:MemG w mb lb l) (hp:∃ q,mp=.pointer q) (hI:Kc.Inv c) (hk:c.kd=4) (eq:c.can l=true) (s1:sb≠mb) (s2:sb≠lb) (s3:rv.ownBlock≠some mb) (s4:rv.ownBlock≠some lb) (_hT:Tab64 w) (_hn:¬ fp sb mb lb rv 0):Calls Tryz.prog 98 #[.pointer (some ⟨sb,0,none⟩),.pointer (some ⟨mb,0,none⟩)] w (Did sb mb lb ty o w rv (c.step l).1 (c.step l).2 (.bool true)):=by
 have e:c.step l=Kc.ring { c with steps:=c.steps+1 } l:=by simp[Kc.step,hk]
 obtain⟨dg,bY⟩:=ke eq;have hz:=hI.sta.s4 hk;rw[hz] at bY;have du:c.steps+1≤1000:=by have:=hI.st;omega
 have sD:=hI.gen.up;have hd:=hI.d4 hk;have fw:=ik sb mb lb ty o c rv l w (Kc.ring { c with steps:=c.steps+1 } l) (im sb mb lb ty o c rv mp l w h hm hp (by omega) eq s1 s2 s3 s4);rw[e]
 rcases hI.sta.op5 (by omega) with aU | aU
 ·exact fw.2.2.2.2.2.2.1 aU fun W hs rP=>tk sb mb lb ty o { c with steps:=c.steps+1 } rv l W hs (by show(c.op==2)=true;rw[aU];rfl) sD hd dg hI.sta.wd1 hI.sta.wd8 du (hI.sta.sl4 hk) bY
 ·exact fw.2.2.2.2.2.2.2.1 aU fun W hs rP=>uM sb mb lb ty o { c with steps:=c.steps+1 } rv l W hs (by show(c.op==2)=false;rw[aU];rfl) sD hd dg hI.sta.wd1 hI.sta.wd8 du (hI.sta.sl4 hk) bY
theorem sf (w:World) (h:OpS w sb ty o c rv mp) (hm:MemG w mb lb l) (hp:∃ q,mp=.pointer q) (hI:Kc.Inv c) (hk:c.kd=5) (eq:c.can l=true) (s1:sb≠mb) (s2:sb≠lb) (s3:rv.ownBlock≠some mb) (s4:rv.ownBlock≠some lb) (hT:Tab64 w) (hn:¬ fp sb mb lb rv 0):Calls Tryz.prog 99 #[.pointer (some ⟨sb,0,none⟩),.pointer (some ⟨mb,0,none⟩)] w (Did sb mb lb ty o w rv (c.step l).1 (c.step l).2 (.bool true)):=by
 have e:c.step l=Kc.cab { c with steps:=c.steps+1 } l:=by simp[Kc.step,hk]
 obtain⟨dg,bY⟩:=ke eq;have hz:=hI.sta.s5 hk;rw[hz] at bY;have du:c.steps+1≤1000:=by have:=hI.st;omega
 have sD:=hI.gen.up;have hd:=hI.d5 hk;have fw:=ik sb mb lb ty o c rv l w (Kc.cab { c with steps:=c.steps+1 } l) (im sb mb lb ty o c rv mp l w h hm hp (by omega) eq s1 s2 s3 s4);rw[e]
 rcases hI.sta.op5 (by omega) with aU | aU
 ·exact fw.2.2.2.2.2.2.2.2.1 aU fun W hs rP=>tV sb mb lb ty o { c with steps:=c.steps+1 } rv l W hs (by show(c.op==2)=true;rw[aU];rfl) sD hd dg hI.sta.wd1 hI.sta.wd8 du hI.sta.nr1 hI.sta.nr4 hI.sta.rd (hI.sta.sl5 hk) hI.sta.sl16 bY (hT.mv rP hn) hn
 ·exact fw.2.2.2.2.2.2.2.2.2.1 aU fun W hs rP=>wL sb mb lb ty o { c with steps:=c.steps+1 } rv l W hs (by show(c.op==2)=false;rw[aU];rfl) sD hd dg hI.sta.wd1 hI.sta.wd8 du hI.sta.nr1 hI.sta.nr4 hI.sta.rd (hI.sta.sl5 hk) hI.sta.sl16 bY
theorem qI (w:World) (h:OpS w sb ty o c rv mp) (hm:MemG w mb lb l) (hp:∃ q,mp=.pointer q) (hI:Kc.Inv c) (hk:c.kd=6) (eq:c.can l=true) (s1:sb≠mb) (s2:sb≠lb) (s3:rv.ownBlock≠some mb) (s4:rv.ownBlock≠some lb) (_hT:Tab64 w) (_hn:¬ fp sb mb lb rv 0):Calls Tryz.prog 100 #[.pointer (some ⟨sb,0,none⟩),.pointer (some ⟨mb,0,none⟩)] w (Did sb mb lb ty o w rv (c.step l).1 (c.step l).2 (.bool true)):=by
 have e:c.step l=Kc.fifo { c with steps:=c.steps+1 } l:=by simp[Kc.step,hk]
 obtain⟨dg,bY⟩:=ke eq;have hz:=hI.sta.s6 hk;rw[hz] at bY;have du:c.steps+1≤1000:=by have:=hI.st;omega
 have sD:=hI.gen.up;have hd:=hI.d6 hk;have fw:=ik sb mb lb ty o c rv l w (Kc.fifo { c with steps:=c.steps+1 } l) (im sb mb lb ty o c rv mp l w h hm hp (by omega) eq s1 s2 s3 s4);rw[e]
 rcases hI.sta.op6 (by omega) with aU | aU
 ·exact fw.2.2.2.2.2.2.2.2.2.2.1 aU fun W hs rP=>wY sb mb lb ty o { c with steps:=c.steps+1 } rv l W hs (by show(c.op==3)=true;rw[aU];rfl) sD hd dg hI.sta.wd1 hI.sta.wd8 du (hI.sta.sl6 hk) bY
 ·exact fw.2.2.2.2.2.2.2.2.2.2.2 aU fun W hs rP=>tY sb mb lb ty o { c with steps:=c.steps+1 } rv l W hs (by show(c.op==3)=false;rw[aU];rfl) sD hd dg hI.sta.wd1 hI.sta.wd8 du (hI.sta.sl6 hk) bY
end
end Go.Proofs.YtabfcjohdgjkoaaGreatDoor
