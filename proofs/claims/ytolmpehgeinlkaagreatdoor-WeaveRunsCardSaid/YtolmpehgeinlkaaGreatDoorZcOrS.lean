/- The document's step, joined. -/
import Derived.Test.YtolmpehgeinlkaaGreatDoorZcOrK
import Derived.Test.YtolmpehgeinlkaaGreatDoorZcI
namespace Go.Proofs.YtolmpehgeinlkaaGreatDoor
open Go.RowKit
section
variable (yb lb cap:Nat) (o:Ob) (c d:Kc) (rv:Value) (l:List Int)
theorem rstep_fourw (w:World) (h:SR w yb lb cap o d rv l) (ho:o.Ok) (hI:Kc.Inv c) (hr:Kc.Rel c d) (hov:c.over=false) (hsz:sizeZ o=(c.size:Int)) (hcan:c.base≤l.length∧c.size≤l.length - c.base) (hcp:l.length≤cap) (hkc:c.kd=1) (hop:c.op=2):Calls Tryz.prog 48 #[.pointer (some ⟨yb,0,none⟩),.slice (some ⟨lb,0,none⟩) l.length cap] w (DidR yb lb cap o w rv (d.stepR l).1 (d.stepR l).2 (.bool true)):=by
 have S:=hI.sta;have G:=hI.gen;have hst2:=hI.st;obtain⟨hd,_,_⟩:=Kc.rel_of (by omega) (by omega) hr;subst hd;have hkd:o.k=1:=h.fits.kd.trans hkc;have hk:isK o.k=true:=by rw[hkd];rfl
 have hwr:(d).wr=true:=by show(_ || _)=_;rw[show(d).op=2 from hop];rfl
 have hs:=S.s1 hkc;have h1:=S.wd1;have hop2:(d).op=2:=hop;obtain⟨hA,hB,hp⟩:=hI.d1 hkc;obtain⟨hq,hq2⟩:=(hp hov).1 (by show(_==_)=true;rw[hop2];rfl);have hH:=head_four hkd
 have e:(d).stepR l=Kc.four ({ d with steps:=(d).steps+1 }:Kc) l:=by
  unfold Kc.stepR;simp only;rw[if_pos (show(d).kd=1 from hkc)]
 rw[e];refine r_step_k yb lb cap o (d) rv l w h ho hov hcan.1 (by show sizeZ o≤(l.length:Int) - (((d).base:Nat):Int);omega) (by omega) hk 1 true hkd hwr (by show d.steps<1000000;omega) hcp _ _ (fun W hW=>?_);exact r_fourWrite yb lb cap o { d with steps:=(d).steps+1 } rv l (d).base (l.length - (d).base) (cap - (d).base) W hW rfl (by omega) hk (by show(_==_)=true;rw[hop2];rfl) (fun q=>G.wrl q hov) (by show d.rc.length≤1000000;have:=G.rcl;omega) G.i8 (by show d.tr<1000;have:=G.tr;omega) h1 hH (show 4+4*d.wd≤_ by omega) hA hB hq hq2
theorem rstep_fourr (w:World) (h:SR w yb lb cap o d rv l) (ho:o.Ok) (hI:Kc.Inv c) (hr:Kc.Rel c d) (hov:c.over=false) (hsz:sizeZ o=(c.size:Int)) (hcan:c.base≤l.length∧c.size≤l.length - c.base) (hcp:l.length≤cap) (hkc:c.kd=1) (hop:c.op=1):Calls Tryz.prog 48 #[.pointer (some ⟨yb,0,none⟩),.slice (some ⟨lb,0,none⟩) l.length cap] w (DidR yb lb cap o w rv (d.stepR l).1 (d.stepR l).2 (.bool true)):=by
 have S:=hI.sta;have G:=hI.gen;have hst2:=hI.st;obtain⟨hd,_,_⟩:=Kc.rel_of (by omega) (by omega) hr;subst hd;have hkd:o.k=1:=h.fits.kd.trans hkc;have hk:isK o.k=true:=by rw[hkd];rfl
 have hwr:(d).wr=false:=by show(_ || _)=_;rw[show(d).op=1 from hop];rfl
 have hs:=S.s1 hkc;have h1:=S.wd1;have hop2:(d).op=1:=hop;obtain⟨hA,hB,hp⟩:=hI.d1 hkc;obtain⟨hq,hq2⟩:=(hp hov).2 (by show(_==_)=false;rw[hop2];rfl);have hH:=head_four hkd
 have e:(d).stepR l=Kc.four ({ d with steps:=(d).steps+1 }:Kc) l:=by
  unfold Kc.stepR;simp only;rw[if_pos (show(d).kd=1 from hkc)]
 rw[e];refine r_step_k yb lb cap o (d) rv l w h ho hov hcan.1 (by show sizeZ o≤(l.length:Int) - (((d).base:Nat):Int);omega) (by omega) hk 1 false hkd hwr (by show d.steps<1000000;omega) hcp _ _ (fun W hW=>?_);exact r_fourRead yb lb cap o { d with steps:=(d).steps+1 } rv l (d).base (l.length - (d).base) (cap - (d).base) W hW rfl (by omega) hk (by show(_==_)=false;rw[hop2];rfl) (fun q=>G.wrl q hov) (by show d.rc.length≤1000000;have:=G.rcl;omega) G.i8 (by show d.tr<1000;have:=G.tr;omega) h1 hH (show 4+4*d.wd≤_ by omega) hA hB hq hq2
theorem rstep_seqw (w:World) (h:SR w yb lb cap o d rv l) (ho:o.Ok) (hI:Kc.Inv c) (hr:Kc.Rel c d) (hov:c.over=false) (hsz:sizeZ o=(c.size:Int)) (hcan:c.base≤l.length∧c.size≤l.length - c.base) (hcp:l.length≤cap) (hkc:c.kd=3) (hop:c.op=2):Calls Tryz.prog 48 #[.pointer (some ⟨yb,0,none⟩),.slice (some ⟨lb,0,none⟩) l.length cap] w (DidR yb lb cap o w rv (d.stepR l).1 (d.stepR l).2 (.bool true)):=by
 have S:=hI.sta;have G:=hI.gen;have hst2:=hI.st;obtain⟨hd,_,_⟩:=Kc.rel_of (by omega) (by omega) hr;subst hd;have hkd:o.k=3:=h.fits.kd.trans hkc;have hk:isK o.k=true:=by rw[hkd];rfl
 have hwr:(d).wr=true:=by show(_ || _)=_;rw[show(d).op=2 from hop];rfl
 have hs:=S.s3 hkc;have h1:=S.wd1;have hop2:(d).op=2:=hop;obtain⟨hA,hB,hp⟩:=hI.d3 hkc;obtain⟨hq,hq2⟩:=(hp hov).1 (by show(_==_)=true;rw[hop2];rfl);have hH:=head_seq hkd
 have e:(d).stepR l=Kc.seq ({ d with steps:=(d).steps+1 }:Kc) l:=by
  unfold Kc.stepR;simp only;rw[if_neg (show ¬ d.kd=1 by omega),if_neg (show ¬ d.kd=2 by omega),if_pos (show(d).kd=3 from hkc)]
 rw[e];refine r_step_k yb lb cap o (d) rv l w h ho hov hcan.1 (by show sizeZ o≤(l.length:Int) - (((d).base:Nat):Int);omega) (by omega) hk 3 true hkd hwr (by show d.steps<1000000;omega) hcp _ _ (fun W hW=>?_);exact r_seqWrite yb lb cap o { d with steps:=(d).steps+1 } rv l (d).base (l.length - (d).base) (cap - (d).base) W hW rfl (by omega) hk (by show(_==_)=true;rw[hop2];rfl) (fun q=>G.wrl q hov) (by show d.rc.length≤1000000;have:=G.rcl;omega) G.i8 (by show d.tr<1000;have:=G.tr;omega) h1 hH (show 1+d.wd≤_ by omega) hq hq2
theorem rstep_seqr (w:World) (h:SR w yb lb cap o d rv l) (ho:o.Ok) (hI:Kc.Inv c) (hr:Kc.Rel c d) (hov:c.over=false) (hsz:sizeZ o=(c.size:Int)) (hcan:c.base≤l.length∧c.size≤l.length - c.base) (hcp:l.length≤cap) (hkc:c.kd=3) (hop:c.op=1):Calls Tryz.prog 48 #[.pointer (some ⟨yb,0,none⟩),.slice (some ⟨lb,0,none⟩) l.length cap] w (DidR yb lb cap o w rv (d.stepR l).1 (d.stepR l).2 (.bool true)):=by
 have S:=hI.sta;have G:=hI.gen;have hst2:=hI.st;obtain⟨hd,_,_⟩:=Kc.rel_of (by omega) (by omega) hr;subst hd;have hkd:o.k=3:=h.fits.kd.trans hkc;have hk:isK o.k=true:=by rw[hkd];rfl
 have hwr:(d).wr=false:=by show(_ || _)=_;rw[show(d).op=1 from hop];rfl
 have hs:=S.s3 hkc;have h1:=S.wd1;have hop2:(d).op=1:=hop;obtain⟨hA,hB,hp⟩:=hI.d3 hkc;obtain⟨hq,hq2⟩:=(hp hov).2 (by show(_==_)=false;rw[hop2];rfl);have hH:=head_seq hkd
 have e:(d).stepR l=Kc.seq ({ d with steps:=(d).steps+1 }:Kc) l:=by
  unfold Kc.stepR;simp only;rw[if_neg (show ¬ d.kd=1 by omega),if_neg (show ¬ d.kd=2 by omega),if_pos (show(d).kd=3 from hkc)]
 rw[e];refine r_step_k yb lb cap o (d) rv l w h ho hov hcan.1 (by show sizeZ o≤(l.length:Int) - (((d).base:Nat):Int);omega) (by omega) hk 3 false hkd hwr (by show d.steps<1000000;omega) hcp _ _ (fun W hW=>?_);exact r_seqRead yb lb cap o { d with steps:=(d).steps+1 } rv l (d).base (l.length - (d).base) (cap - (d).base) W hW rfl (by omega) hk (by show(_==_)=false;rw[hop2];rfl) (fun q=>G.wrl q hov) (by show d.rc.length≤1000000;have:=G.rcl;omega) G.i8 (by show d.tr<1000;have:=G.tr;omega) h1 hH (show 1+d.wd≤_ by omega) hq hq2
theorem rstep_ringw (w:World) (h:SR w yb lb cap o d rv l) (ho:o.Ok) (hI:Kc.Inv c) (hr:Kc.Rel c d) (hov:c.over=false) (hsz:sizeZ o=(c.size:Int)) (hcan:c.base≤l.length∧c.size≤l.length - c.base) (hcp:l.length≤cap) (hkc:c.kd=4) (hop:c.op=2):Calls Tryz.prog 48 #[.pointer (some ⟨yb,0,none⟩),.slice (some ⟨lb,0,none⟩) l.length cap] w (DidR yb lb cap o w rv (d.stepR l).1 (d.stepR l).2 (.bool true)):=by
 have S:=hI.sta;have G:=hI.gen;have hst2:=hI.st;obtain⟨hd,_,_⟩:=Kc.rel_of (by omega) (by omega) hr;subst hd;have hkd:o.k=4:=h.fits.kd.trans hkc;have hk:isK o.k=true:=by rw[hkd];rfl
 have hwr:(d).wr=true:=by show(_ || _)=_;rw[show(d).op=2 from hop];rfl
 have hs:=S.s4 hkc;have h1:=S.wd1;have hop2:(d).op=2:=hop;obtain⟨hA,hB,hp⟩:=hI.d4 hkc;obtain⟨hq,hq2⟩:=hp hov;have hH:=head_ring hkd;have hs2:=S.sl4 hkc
 have e:(d).stepR l=Kc.ringR' ({ d with steps:=(d).steps+1 }:Kc) l:=by
  unfold Kc.stepR;simp only;rw[if_neg (show ¬ d.kd=1 by omega),if_neg (show ¬ d.kd=2 by omega),if_neg (show ¬ d.kd=3 by omega),if_pos (show(d).kd=4 from hkc)]
 rw[e];refine r_step_k yb lb cap o (d) rv l w h ho hov hcan.1 (by show sizeZ o≤(l.length:Int) - (((d).base:Nat):Int);omega) (by omega) hk 4 true hkd hwr (by show d.steps<1000000;omega) hcp _ _ (fun W hW=>?_);exact r_ringWrite yb lb cap o { d with steps:=(d).steps+1 } rv l (d).base (l.length - (d).base) (cap - (d).base) W hW rfl (by omega) hk (by show(_==_)=true;rw[hop2];rfl) (fun q=>G.wrl q hov) (by show d.rc.length≤1000000;have:=G.rcl;omega) G.i8 (by show d.tr<1000;have:=G.tr;omega) h1 hH (show 1≤d.sl by omega) (show 1+d.sl*d.wd≤_ by omega) hq hq2
theorem rstep_ringr (w:World) (h:SR w yb lb cap o d rv l) (ho:o.Ok) (hI:Kc.Inv c) (hr:Kc.Rel c d) (hov:c.over=false) (hsz:sizeZ o=(c.size:Int)) (hcan:c.base≤l.length∧c.size≤l.length - c.base) (hcp:l.length≤cap) (hkc:c.kd=4) (hop:c.op=1):Calls Tryz.prog 48 #[.pointer (some ⟨yb,0,none⟩),.slice (some ⟨lb,0,none⟩) l.length cap] w (DidR yb lb cap o w rv (d.stepR l).1 (d.stepR l).2 (.bool true)):=by
 have S:=hI.sta;have G:=hI.gen;have hst2:=hI.st;obtain⟨hd,_,_⟩:=Kc.rel_of (by omega) (by omega) hr;subst hd;have hkd:o.k=4:=h.fits.kd.trans hkc;have hk:isK o.k=true:=by rw[hkd];rfl
 have hwr:(d).wr=false:=by show(_ || _)=_;rw[show(d).op=1 from hop];rfl
 have hs:=S.s4 hkc;have h1:=S.wd1;have hop2:(d).op=1:=hop;obtain⟨hA,hB,hp⟩:=hI.d4 hkc;obtain⟨hq,hq2⟩:=hp hov;have hH:=head_ring hkd;have hs2:=S.sl4 hkc
 have e:(d).stepR l=Kc.ringR' ({ d with steps:=(d).steps+1 }:Kc) l:=by
  unfold Kc.stepR;simp only;rw[if_neg (show ¬ d.kd=1 by omega),if_neg (show ¬ d.kd=2 by omega),if_neg (show ¬ d.kd=3 by omega),if_pos (show(d).kd=4 from hkc)]
 rw[e];refine r_step_k yb lb cap o (d) rv l w h ho hov hcan.1 (by show sizeZ o≤(l.length:Int) - (((d).base:Nat):Int);omega) (by omega) hk 4 false hkd hwr (by show d.steps<1000000;omega) hcp _ _ (fun W hW=>?_);exact r_ringRead yb lb cap o { d with steps:=(d).steps+1 } rv l (d).base (l.length - (d).base) (cap - (d).base) W hW rfl (by omega) hk (by show(_==_)=false;rw[hop2];rfl) (fun q=>G.wrl q hov) (by show d.rc.length≤1000000;have:=G.rcl;omega) G.i8 (by show d.tr<1000;have:=G.tr;omega) h1 hH (show 1≤d.sl by omega) (show 1+d.sl*d.wd≤_ by omega) hq hq2
theorem rstep_fifow (w:World) (h:SR w yb lb cap o d rv l) (ho:o.Ok) (hI:Kc.Inv c) (hr:Kc.Rel c d) (hov:c.over=false) (hsz:sizeZ o=(c.size:Int)) (hcan:c.base≤l.length∧c.size≤l.length - c.base) (hcp:l.length≤cap) (hkc:c.kd=6) (hop:c.op=3):Calls Tryz.prog 48 #[.pointer (some ⟨yb,0,none⟩),.slice (some ⟨lb,0,none⟩) l.length cap] w (DidR yb lb cap o w rv (d.stepR l).1 (d.stepR l).2 (.bool true)):=by
 have S:=hI.sta;have G:=hI.gen;have hst2:=hI.st;obtain⟨hd,_,_⟩:=Kc.rel_of (by omega) (by omega) hr;subst hd;have hkd:o.k=6:=h.fits.kd.trans hkc;have hk:isK o.k=true:=by rw[hkd];rfl
 have hwr:(d).wr=true:=by show(_ || _)=_;rw[show(d).op=3 from hop];rfl
 have hs:=S.s6 hkc;have h1:=S.wd1;have hop2:(d).op=3:=hop;obtain⟨hA,hB,hp⟩:=hI.d6 hkc;obtain⟨hq,hq2⟩:=hp hov;have hH:=head_fifo hkd;have hs2:=S.sl6 hkc
 have e:(d).stepR l=Kc.fifoR' ({ d with steps:=(d).steps+1 }:Kc) l:=by
  unfold Kc.stepR;simp only;rw[if_neg (show ¬ d.kd=1 by omega),if_neg (show ¬ d.kd=2 by omega),if_neg (show ¬ d.kd=3 by omega),if_neg (show ¬ d.kd=4 by omega),if_neg (show ¬ d.kd=5 by omega)]
 rw[e];refine r_step_k yb lb cap o (d) rv l w h ho hov hcan.1 (by show sizeZ o≤(l.length:Int) - (((d).base:Nat):Int);omega) (by omega) hk 6 true hkd hwr (by show d.steps<1000000;omega) hcp _ _ (fun W hW=>?_);exact r_fifoPut yb lb cap o { d with steps:=(d).steps+1 } rv l (d).base (l.length - (d).base) (cap - (d).base) W hW rfl (by omega) hk (by show(_==_)=true;rw[hop2];rfl) (fun q=>G.wrl q hov) (by show d.rc.length≤1000000;have:=G.rcl;omega) G.i8 (by show d.tr<1000;have:=G.tr;omega) h1 hH hs2 (show 2+d.sl*d.wd≤_ by omega) hq hq2
theorem rstep_fifor (w:World) (h:SR w yb lb cap o d rv l) (ho:o.Ok) (hI:Kc.Inv c) (hr:Kc.Rel c d) (hov:c.over=false) (hsz:sizeZ o=(c.size:Int)) (hcan:c.base≤l.length∧c.size≤l.length - c.base) (hcp:l.length≤cap) (hkc:c.kd=6) (hop:c.op=4):Calls Tryz.prog 48 #[.pointer (some ⟨yb,0,none⟩),.slice (some ⟨lb,0,none⟩) l.length cap] w (DidR yb lb cap o w rv (d.stepR l).1 (d.stepR l).2 (.bool true)):=by
 have S:=hI.sta;have G:=hI.gen;have hst2:=hI.st;obtain⟨hd,_,_⟩:=Kc.rel_of (by omega) (by omega) hr;subst hd;have hkd:o.k=6:=h.fits.kd.trans hkc;have hk:isK o.k=true:=by rw[hkd];rfl
 have hwr:(d).wr=false:=by show(_ || _)=_;rw[show(d).op=4 from hop];rfl
 have hs:=S.s6 hkc;have h1:=S.wd1;have hop2:(d).op=4:=hop;obtain⟨hA,hB,hp⟩:=hI.d6 hkc;obtain⟨hq,hq2⟩:=hp hov;have hH:=head_fifo hkd;have hs2:=S.sl6 hkc
 have e:(d).stepR l=Kc.fifoR' ({ d with steps:=(d).steps+1 }:Kc) l:=by
  unfold Kc.stepR;simp only;rw[if_neg (show ¬ d.kd=1 by omega),if_neg (show ¬ d.kd=2 by omega),if_neg (show ¬ d.kd=3 by omega),if_neg (show ¬ d.kd=4 by omega),if_neg (show ¬ d.kd=5 by omega)]
 rw[e];refine r_step_k yb lb cap o (d) rv l w h ho hov hcan.1 (by show sizeZ o≤(l.length:Int) - (((d).base:Nat):Int);omega) (by omega) hk 6 false hkd hwr (by show d.steps<1000000;omega) hcp _ _ (fun W hW=>?_);exact r_fifoTake yb lb cap o { d with steps:=(d).steps+1 } rv l (d).base (l.length - (d).base) (cap - (d).base) W hW rfl (by omega) hk (by show(_==_)=false;rw[hop2];rfl) (fun q=>G.wrl q hov) (by show d.rc.length≤1000000;have:=G.rcl;omega) G.i8 (by show d.tr<1000;have:=G.tr;omega) h1 hH hs2 (show 2+d.sl*d.wd≤_ by omega) hq hq2
theorem rstep_chenw (w:World) (h:SR w yb lb cap o d rv l) (ho:o.Ok) (hI:Kc.Inv c) (hr:Kc.Rel c d) (hov:c.over=false) (hsz:sizeZ o=(c.size:Int)) (hcan:c.base≤l.length∧c.size≤l.length - c.base) (hcp:l.length≤cap) (hkc:c.kd=2) (hop:c.op=2):Calls Tryz.prog 48 #[.pointer (some ⟨yb,0,none⟩),.slice (some ⟨lb,0,none⟩) l.length cap] w (DidR yb lb cap o w rv (d.stepR l).1 (d.stepR l).2 (.bool true)):=by
 have S:=hI.sta;have G:=hI.gen;have hst2:=hI.st;unfold Kc.Rel at hr;rw[if_pos ⟨hkc,hop⟩] at hr;obtain⟨v,hd,_⟩:=hr;subst hd;have hkd:o.k=2:=h.fits.kd.trans hkc;have hk:isK o.k=true:=by rw[hkd];rfl
 have hwr:(c.asR v).wr=true:=by show(_ || _)=_;rw[show(c.asR v).op=2 from hop];rfl
 have hs:=S.s2 hkc;have h1:=S.wd1;have hop2:(c.asR v).op=2:=hop;have hnr:=h.fits.nr;have hH:headZ o=((1+c.nr:Nat):Int):=by have:=head_chen hkd;have:o.nr=c.nr:=hnr;omega
 have hR:recZ o=((c.nr+2:Nat):Int):=by have:=rec_chen hkd;have:o.nr=c.nr:=hnr;omega
 obtain⟨hA,hB,hp⟩:=hI.d2 hkc;obtain⟨hq,_,_,hq1,hq2,hq4⟩:=(hp hov).1 (by show(_==_)=true;rw[hop];rfl)
 have e:(c.asR v).stepR l=Kc.chenWriteR ({ c.asR v with steps:=(c.asR v).steps+1 }:Kc) l:=by
  unfold Kc.stepR;simp only;rw[if_neg (show ¬ (c.asR v).kd=1 from by show ¬ c.kd=1;omega),if_pos (show(c.asR v).kd=2 from hkc),if_pos (by show(_==_)=true;rw[show(c.asR v).op=2 from hop];decide)]
 rw[e];refine r_step_k yb lb cap o (c.asR v) rv l w h ho hov hcan.1 (by show sizeZ o≤(l.length:Int) - ((c.base:Nat):Int);omega) (by omega) hk 2 true hkd hwr (by show c.steps<1000000;omega) hcp _ _ (fun W hW=>?_);exact r_chenWrite yb lb cap o { c.asR v with steps:=(c.asR v).steps+1 } rv l c.base (l.length - c.base) (cap - c.base) W hW rfl (by omega) hk (fun q=>G.wrl q hov) (by show c.rc.length≤1000000;have:=G.rcl;omega) G.i8 (by show c.tr<1000;have:=G.tr;omega) h1 hH hR S.nr1 S.nr4 S.rd (show 1+c.nr+(c.nr+2)*c.wd≤_ by omega) hB hq hq1 hq2 hq4
theorem rstep_chenr (w:World) (h:SR w yb lb cap o d rv l) (ho:o.Ok) (hI:Kc.Inv c) (hr:Kc.Rel c d) (hov:c.over=false) (hsz:sizeZ o=(c.size:Int)) (hcan:c.base≤l.length∧c.size≤l.length - c.base) (hcp:l.length≤cap) (hkc:c.kd=2) (hop:c.op=1):Calls Tryz.prog 48 #[.pointer (some ⟨yb,0,none⟩),.slice (some ⟨lb,0,none⟩) l.length cap] w (DidR yb lb cap o w rv (d.stepR l).1 (d.stepR l).2 (.bool true)):=by
 have S:=hI.sta;have G:=hI.gen;have hst2:=hI.st;obtain⟨hd,_,_⟩:=Kc.rel_of (Or.inr (by omega)) (by omega) hr;subst hd;have hkd:o.k=2:=h.fits.kd.trans hkc;have hk:isK o.k=true:=by rw[hkd];rfl
 have hwr:(d).wr=false:=by show(_ || _)=_;rw[show(d).op=1 from hop];rfl
 have hs:=S.s2 hkc;have h1:=S.wd1;have hop2:(d).op=1:=hop;have hnr:=h.fits.nr;have hH:headZ o=((1+d.nr:Nat):Int):=by have:=head_chen hkd;have:o.nr=d.nr:=hnr;omega
 have hR:recZ o=((d.nr+2:Nat):Int):=by have:=rec_chen hkd;have:o.nr=d.nr:=hnr;omega
 obtain⟨hA,hB,hp⟩:=hI.d2 hkc;obtain⟨hq,hq4⟩:=(hp hov).2 (by show(_==_)=false;rw[hop];rfl)
 have e:(d).stepR l=Kc.chen ({ d with steps:=(d).steps+1 }:Kc) l:=by
  unfold Kc.stepR;simp only;rw[if_neg (show ¬ d.kd=1 by omega),if_pos (show(d).kd=2 from hkc),if_neg (by show ¬ (_==_)=true;rw[show(d).op=1 from hop];decide)]
 rw[e];refine r_step_k yb lb cap o (d) rv l w h ho hov hcan.1 (by show sizeZ o≤(l.length:Int) - (((d).base:Nat):Int);omega) (by omega) hk 2 false hkd hwr (by show d.steps<1000000;omega) hcp _ _ (fun W hW=>?_);exact r_chenRead yb lb cap o { d with steps:=(d).steps+1 } rv l (d).base (l.length - (d).base) (cap - (d).base) W hW rfl (by omega) hk (by show(_==_)=false;rw[hop2];rfl) (fun q=>G.wrl q hov) (by show d.rc.length≤1000000;have:=G.rcl;omega) G.i8 (by show d.tr<1000;have:=G.tr;omega) h1 hH hR S.nr1 S.nr4 S.rd (show 1+d.nr+(d.nr+2)*d.wd≤_ by omega) hB hq hq4
theorem rstep_cabw (w:World) (h:SR w yb lb cap o d rv l) (ho:o.Ok) (hI:Kc.Inv c) (hr:Kc.Rel c d) (hov:c.over=false) (hsz:sizeZ o=(c.size:Int)) (hcan:c.base≤l.length∧c.size≤l.length - c.base) (hcp:l.length≤cap) (hkc:c.kd=5) (hop:c.op=2):Calls Tryz.prog 48 #[.pointer (some ⟨yb,0,none⟩),.slice (some ⟨lb,0,none⟩) l.length cap] w (DidR yb lb cap o w rv (d.stepR l).1 (d.stepR l).2 (.bool true)):=by
 have S:=hI.sta;have G:=hI.gen;have hst2:=hI.st;unfold Kc.Rel at hr;rw[if_neg (by omega),if_pos ⟨hkc,hop⟩] at hr;obtain⟨v,hd,_⟩:=hr;subst hd;have hkd:o.k=5:=h.fits.kd.trans hkc;have hk:isK o.k=true:=by rw[hkd];rfl
 have hwr:(c.asR v).wr=true:=by show(_ || _)=_;rw[show(c.asR v).op=2 from hop];rfl
 have hs:=S.s5 hkc;have h1:=S.wd1;have hop2:(c.asR v).op=2:=hop;have hnr:=h.fits.nr;have hH:headZ o=((1+c.nr:Nat):Int):=by have:=head_cab hkd;have:o.nr=c.nr:=hnr;omega
 have hR:recZ o=((c.sl:Nat):Int):=by have:=rec_cab hkd;have:o.s=(c.sl:Int):=h.fits.sl;omega
 obtain⟨hA,hB,hp⟩:=hI.d5 hkc;obtain⟨hBs,hq,_,_,hq1,hq2⟩:=(hp hov).1 (by show(_==_)=true;rw[hop];rfl)
 have e:(c.asR v).stepR l=Kc.cabWriteR ({ c.asR v with steps:=(c.asR v).steps+1 }:Kc) l:=by
  unfold Kc.stepR;simp only;rw[if_neg (show ¬ (c.asR v).kd=1 from by show ¬ c.kd=1;omega),if_neg (show ¬ (c.asR v).kd=2 from by show ¬ c.kd=2;omega),if_neg (show ¬ (c.asR v).kd=3 from by show ¬ c.kd=3;omega),if_neg (show ¬ (c.asR v).kd=4 from by show ¬ c.kd=4;omega),if_pos (show(c.asR v).kd=5 from hkc),if_pos (by show(_==_)=true;rw[show(c.asR v).op=2 from hop];decide)]
 rw[e];refine r_step_k yb lb cap o (c.asR v) rv l w h ho hov hcan.1 (by show sizeZ o≤(l.length:Int) - ((c.base:Nat):Int);omega) (by omega) hk 5 true hkd hwr (by show c.steps<1000000;omega) hcp _ _ (fun W hW=>?_);exact r_cabWrite yb lb cap o { c.asR v with steps:=(c.asR v).steps+1 } rv l c.base (l.length - c.base) (cap - c.base) W hW rfl (by omega) hk (fun q=>G.wrl q hov) (by show c.rc.length≤1000000;have:=G.rcl;omega) G.i8 (by show c.tr<1000;have:=G.tr;omega) h1 hH hR S.nr1 S.nr4 S.rd (S.sl5 hkc) S.sl16 (show 1+c.nr+c.sl*c.wd≤_ by omega) hB hBs hq hq1 hq2
theorem cabRow_eq (c:Kc):∃ p b,c.cabRow={ c with ph:=p,B:=b }∧(p=c.ph∨p=5):=by
 unfold Kc.cabRow
 split
 ·exact⟨5,0,rfl,.inr rfl⟩
 ·exact⟨c.ph,c.B,rfl,.inl rfl⟩
theorem rstep_cabr (w:World) (h:SR w yb lb cap o d rv l) (ho:o.Ok) (hI:Kc.Inv c) (hr:Kc.Rel c d) (hov:c.over=false) (hsz:sizeZ o=(c.size:Int)) (hcan:c.base≤l.length∧c.size≤l.length - c.base) (hcp:l.length≤cap) (hkc:c.kd=5) (hop:c.op=1):Calls Tryz.prog 48 #[.pointer (some ⟨yb,0,none⟩),.slice (some ⟨lb,0,none⟩) l.length cap] w (DidR yb lb cap o w rv (d.stepR l).1 (d.stepR l).2 (.bool true)):=by
 have S:=hI.sta;have G:=hI.gen;have hst2:=hI.st;unfold Kc.Rel at hr;rw[if_neg (by omega),if_neg (by omega),if_pos hkc] at hr;obtain⟨hd,hp4,hB1⟩:=hr;obtain⟨p,b,he,hpp⟩:=cabRow_eq c;rw[he] at hd;subst hd;have hkd:o.k=5:=h.fits.kd.trans hkc;have hk:isK o.k=true:=by rw[hkd];rfl
 have hwr:(({ c with ph:=p,B:=b }:Kc)).wr=false:=by show(_ || _)=_;rw[show(({ c with ph:=p,B:=b }:Kc)).op=1 from hop];rfl
 have hs:=S.s5 hkc;have h1:=S.wd1;have hop2:(({ c with ph:=p,B:=b }:Kc)).op=1:=hop;have hnr:=h.fits.nr;have hH:headZ o=((1+c.nr:Nat):Int):=by have:=head_cab hkd;have:o.nr=c.nr:=hnr;omega
 have hR:recZ o=((c.sl:Nat):Int):=by have:=rec_cab hkd;have:o.s=(c.sl:Int):=h.fits.sl;omega
 obtain⟨hA,hB,hp⟩:=hI.d5 hkc;obtain⟨hq,hq3⟩:=(hp hov).2 (by show(_==_)=false;rw[hop];rfl)
 have e:(({ c with ph:=p,B:=b }:Kc)).stepR l=Kc.cabReadR ({ ({ c with ph:=p,B:=b }:Kc) with steps:=(({ c with ph:=p,B:=b }:Kc)).steps+1 }:Kc) l:=by
  unfold Kc.stepR;simp only;rw[if_neg (show ¬ (({ c with ph:=p,B:=b }:Kc)).kd=1 from by show ¬ c.kd=1;omega),if_neg (show ¬ (({ c with ph:=p,B:=b }:Kc)).kd=2 from by show ¬ c.kd=2;omega),if_neg (show ¬ (({ c with ph:=p,B:=b }:Kc)).kd=3 from by show ¬ c.kd=3;omega),if_neg (show ¬ (({ c with ph:=p,B:=b }:Kc)).kd=4 from by show ¬ c.kd=4;omega),if_pos (show(({ c with ph:=p,B:=b }:Kc)).kd=5 from hkc),if_neg (by show ¬ (_==_)=true;rw[show(({ c with ph:=p,B:=b }:Kc)).op=1 from hop];decide)]
 rw[e];refine r_step_k yb lb cap o (({ c with ph:=p,B:=b }:Kc)) rv l w h ho hov hcan.1 (by show sizeZ o≤(l.length:Int) - ((c.base:Nat):Int);omega) (by omega) hk 5 false hkd hwr (by show c.steps<1000000;omega) hcp _ _ (fun W hW=>?_);exact r_cabRead yb lb cap o { ({ c with ph:=p,B:=b }:Kc) with steps:=(({ c with ph:=p,B:=b }:Kc)).steps+1 } rv l c.base (l.length - c.base) (cap - c.base) W hW rfl (by omega) hk (fun q=>G.wrl q hov) (by show c.rc.length≤1000000;have:=G.rcl;omega) G.i8 (by show c.tr<1000;have:=G.tr;omega) h1 hH hR S.nr1 S.nr4 S.rd (S.sl5 hkc) S.sl16 (show 1+c.nr+c.sl*c.wd≤_ by omega) hA (show p≤5 by omega) (fun q=>hq3 (by have:p=3:=q;omega))
theorem rstep_o (w:World) (h:SR w yb lb cap o d rv l) (ho:o.Ok) (hI:Kc.Inv c) (hr:Kc.Rel c d) (hov:c.over=false) (hsz:sizeZ o=(c.size:Int)) (hcan:c.base≤l.length∧c.size≤l.length - c.base) (hcp:l.length≤cap):Calls Tryz.prog 48 #[.pointer (some ⟨yb,0,none⟩),.slice (some ⟨lb,0,none⟩) l.length cap] w (DidR yb lb cap o w rv (d.stepR l).1 (d.stepR l).2 (.bool true)):=by
 rcases hI.sta.kd with q | q | q | q | q | q
 ·rcases hI.sta.op5 (by omega) with p | p
  ·exact rstep_fourw yb lb cap o c d rv l w h ho hI hr hov hsz hcan hcp q p
  ·exact rstep_fourr yb lb cap o c d rv l w h ho hI hr hov hsz hcan hcp q p
 ·rcases hI.sta.op5 (by omega) with p | p
  ·exact rstep_chenw yb lb cap o c d rv l w h ho hI hr hov hsz hcan hcp q p
  ·exact rstep_chenr yb lb cap o c d rv l w h ho hI hr hov hsz hcan hcp q p
 ·rcases hI.sta.op5 (by omega) with p | p
  ·exact rstep_seqw yb lb cap o c d rv l w h ho hI hr hov hsz hcan hcp q p
  ·exact rstep_seqr yb lb cap o c d rv l w h ho hI hr hov hsz hcan hcp q p
 ·rcases hI.sta.op5 (by omega) with p | p
  ·exact rstep_ringw yb lb cap o c d rv l w h ho hI hr hov hsz hcan hcp q p
  ·exact rstep_ringr yb lb cap o c d rv l w h ho hI hr hov hsz hcan hcp q p
 ·rcases hI.sta.op5 (by omega) with p | p
  ·exact rstep_cabw yb lb cap o c d rv l w h ho hI hr hov hsz hcan hcp q p
  ·exact rstep_cabr yb lb cap o c d rv l w h ho hI hr hov hsz hcan hcp q p
 ·rcases hI.sta.op6 q with p | p
  ·exact rstep_fifow yb lb cap o c d rv l w h ho hI hr hov hsz hcan hcp q p
  ·exact rstep_fifor yb lb cap o c d rv l w h ho hI hr hov hsz hcan hcp q p
end
end Go.Proofs.YtolmpehgeinlkaaGreatDoor
