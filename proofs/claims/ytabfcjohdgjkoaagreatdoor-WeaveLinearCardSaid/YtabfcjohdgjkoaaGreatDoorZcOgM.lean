/- One step of each kind: what the program's step computes. -/
import Derived.Test.YtabfcjohdgjkoaaGreatDoorZcOgL
import Derived.Test.YtabfcjohdgjkoaaGreatDoorZcI
namespace Go.Proofs.YtabfcjohdgjkoaaGreatDoor
open Go.RowKit
set_option maxHeartbeats 1000000
set_option maxRecDepth 100000
theorem fA {k n wd i:Nat} (hk:k<n) (hi:i<wd):k*wd+i<n*wd:=by
 have h:(k+1)*wd≤n*wd:=Nat.mul_le_mul_right wd hk;rw[Nat.add_mul] at h;omega
section
variable (sb mb lb:Nat) (ty:TypeId) (o:Ob) (c:Kc) (rv:Value) (l:List Int)
theorem aD {sb mb lb:Nat} {ty:TypeId} {o:Ob} {w:World} {rv:Value} {d:Kc × List Int} {c':Kc} {l':List Int} {v:Value} {P:Program} {f:FuncId} {args:Array Value} (hd:d=(c',l')) (h:Calls P f args w (Did sb mb lb ty o w rv c' l' v)):Calls P f args w (Did sb mb lb ty o w rv d.1 d.2 v):=by
 subst hd;exact h
theorem sv (w:World) (h:St w sb mb lb ty o c rv l) (aU:(c.op==2)=true) (hg:Kc.Gen 1 c) (hd:Kc.D1 c) (ho:c.over=false) (h1:1≤c.wd) (h8:c.wd≤8) (du:c.steps≤1000) (bY:c.base+(4+4*c.wd)≤l.length):Calls Tryz.prog 160 #[.pointer (some ⟨sb,0,none⟩)] w (Did sb mb lb ty o w rv (c.four l).1 (c.four l).2 (.tuple #[])):=by
 have bf:=h.mem.len;have di:c.rc.length≤1000000:=by have:=hg.rcl;omega
 have zQ:=hg.i8;have oy:c.tr<1000:=by have:=hg.tr;omega
 have dP:c.wr=true→c.rc.length=c.wd:=fun q=>hg.wrl q ho
 obtain⟨hA,hB,hp⟩:=hd;obtain⟨hq,sI⟩:=(hp ho).1 aU;have dZ:c.A.toNat≤1:=by omega
 rcases ae:c.ph with _ | _ | _ | _ | _ | n
 ·have hc:=Dy sb mb lb ty o c rv l w h ae (by omega);refine aD ?_ hc;unfold Kc.four;try dsimp only
  rw[if_pos aU]
  split <;> first | omega | exact absurd ae (by assumption) | rfl
 ·have hc:=Dz sb mb lb ty o c rv l w h ae hA (by omega);refine aD ?_ hc;unfold Kc.four;try dsimp only
  rw[if_pos aU]
  split <;> first | omega | exact absurd ae (by assumption) | rfl
 ·have hi:=sI ae;have aj:=fA (k:=(2*c.A+c.B).toNat) (n:=4) (by omega) hi;have hc:=DA sb mb lb ty o c rv l w h ae hA hB (fun q=>by rw[dP q];exact hi) di (by omega) (by omega) (by omega);refine aD ?_ hc;unfold Kc.four;try dsimp only
  rw[if_pos aU]
  split <;> first | omega | exact absurd ae (by assumption) | rfl
 ·have hc:=DB sb mb lb ty o c rv l w h ae hA (by omega);refine aD ?_ hc;unfold Kc.four;try dsimp only
  rw[if_pos aU]
  split <;> first | omega | exact absurd ae (by assumption) | rfl
 ·have hc:=DC sb mb lb ty o c rv l w h ae (by omega);refine aD ?_ hc;unfold Kc.four;try dsimp only
  rw[if_pos aU]
  split <;> first | omega | exact absurd ae (by assumption) | rfl
 ·omega
theorem t8 (w:World) (h:St w sb mb lb ty o c rv l) (aU:(c.op==2)=false) (hg:Kc.Gen 1 c) (hd:Kc.D1 c) (ho:c.over=false) (h1:1≤c.wd) (h8:c.wd≤8) (du:c.steps≤1000) (bY:c.base+(4+4*c.wd)≤l.length):Calls Tryz.prog 161 #[.pointer (some ⟨sb,0,none⟩)] w (Did sb mb lb ty o w rv (c.four l).1 (c.four l).2 (.tuple #[])):=by
 have bf:=h.mem.len;have di:c.rc.length≤1000000:=by have:=hg.rcl;omega
 have zQ:=hg.i8;have oy:c.tr<1000:=by have:=hg.tr;omega
 have dP:c.wr=true→c.rc.length=c.wd:=fun q=>hg.wrl q ho
 obtain⟨hA,hB,hp⟩:=hd;obtain⟨hq,sI⟩:=(hp ho).2 aU;have dZ:c.A.toNat≤1:=by omega
 rcases ae:c.ph with _ | _ | _ | _ | n
 ·have hc:=Du sb mb lb ty o c rv l w h ae (by omega);refine aD ?_ hc;unfold Kc.four;try dsimp only
  rw[if_neg (by rw[aU];decide)]
  split <;> first | omega | exact absurd ae (by assumption) | rfl
 ·have hc:=Dv sb mb lb ty o c rv l w h ae (by omega);refine aD ?_ hc;unfold Kc.four;try dsimp only
  rw[if_neg (by rw[aU];decide)]
  split <;> first | omega | exact absurd ae (by assumption) | rfl
 ·have hc:=Dw sb mb lb ty o c rv l w h ae hA (by omega);refine aD ?_ hc;unfold Kc.four;try dsimp only
  rw[if_neg (by rw[aU];decide)]
  split <;> first | omega | exact absurd ae (by assumption) | rfl
 ·have hi:=sI ae;have aj:=fA (k:=(2*c.A+c.B).toNat) (n:=4) (by omega) hi;have hc:=Dx sb mb lb ty o c rv l w h ae hA hB (fun q=>by rw[dP q];exact hi) di (by omega) (by omega) (by omega);refine aD ?_ hc;unfold Kc.four;try dsimp only
  rw[if_neg (by rw[aU];decide)]
  split <;> first | omega | exact absurd ae (by assumption) | rfl
 ·omega
theorem sj (w:World) (h:St w sb mb lb ty o c rv l) (aU:(c.op==2)=true) (hg:Kc.Gen 1 c) (hd:Kc.D2 c) (ho:c.over=false) (h1:1≤c.wd) (h8:c.wd≤8) (du:c.steps≤1000) (n1:1≤c.nr) (n4:c.nr≤4) (jX:c.rd<c.nr) (bY:c.base+(1+c.nr+(c.nr+2)*c.wd)≤l.length) (hT:Tab64 w) (hn:¬ fp sb mb lb rv 0):Calls Tryz.prog 162 #[.pointer (some ⟨sb,0,none⟩)] w (Did sb mb lb ty o w rv (c.chen l).1 (c.chen l).2 (.tuple #[])):=by
 have bf:=h.mem.len;have di:c.rc.length≤1000000:=by have:=hg.rcl;omega
 have zQ:=hg.i8;have oy:c.tr<1000:=by have:=hg.tr;omega
 have dP:c.wr=true→c.rc.length=c.wd:=fun q=>hg.wrl q ho
 obtain⟨hA,hB,hp⟩:=hd;obtain⟨hq,kK,Io,fr,sI,Aj⟩:=(hp ho).1 aU;have xm:1*1≤(c.nr+2)*c.wd:=Nat.mul_le_mul (by omega) h1
 rcases ae:c.ph with _ | _ | _ | _ | _ | n
 ·have hc:=Dd sb mb lb ty o c rv l w h ae (by omega);refine aD ?_ hc;unfold Kc.chen;try dsimp only
  rw[if_pos aU]
  split <;> first | omega | exact absurd ae (by assumption) | rfl
 ·by_cases hx:c.nr≤c.i+1
  ·have hi:=fr ae;have hc:=qD sb mb lb ty o c rv l w h ae (by omega) hT hn hx (by omega);refine aD ?_ hc;unfold Kc.chen;try dsimp only
   rw[if_pos aU]
   split <;> first | omega | exact absurd ae (by assumption) | rfl | (rw[if_pos hx];first | done | rfl)
  ·have hi:=fr ae;have hc:=qE sb mb lb ty o c rv l w h ae (by omega) hT hn hx (by omega);refine aD ?_ hc;unfold Kc.chen;try dsimp only
   rw[if_pos aU]
   split <;> first | omega | exact absurd ae (by assumption) | rfl | (rw[if_neg hx];first | done | rfl)
 ·have hi:=sI ae;have aj:=fA (k:=c.B.toNat) (n:=c.nr+2) (by omega) hi;have hc:=De sb mb lb ty o c rv l w h ae ⟨hB.1,by omega⟩ (fun q=>by rw[dP q];exact hi) di (by omega) (by omega) (by omega);refine aD ?_ hc;unfold Kc.chen;try dsimp only
  rw[if_pos aU]
  split <;> first | omega | exact absurd ae (by assumption) | rfl
 ·have hc:=Df sb mb lb ty o c rv l w h ae (by omega);refine aD ?_ hc;unfold Kc.chen;try dsimp only
  rw[if_pos aU]
  split <;> first | omega | exact absurd ae (by assumption) | rfl
 ·by_cases hx:c.nr≤c.i+1
  ·have hi:=Aj ae;have hc:=qF sb mb lb ty o c rv l w h ae (by omega) hx (by omega);refine aD ?_ hc;unfold Kc.chen;try dsimp only
   rw[if_pos aU]
   split <;> first | omega | exact absurd ae (by assumption) | rfl | (rw[if_pos hx];first | done | rfl)
  ·have hi:=Aj ae;have hc:=qG sb mb lb ty o c rv l w h ae (by omega) hx (by omega);refine aD ?_ hc;unfold Kc.chen;try dsimp only
   rw[if_pos aU]
   split <;> first | omega | exact absurd ae (by assumption) | rfl | (rw[if_neg hx];first | done | rfl)
 ·omega
theorem tW (w:World) (h:St w sb mb lb ty o c rv l) (aU:(c.op==2)=false) (hg:Kc.Gen 1 c) (hd:Kc.D2 c) (ho:c.over=false) (h1:1≤c.wd) (h8:c.wd≤8) (du:c.steps≤1000) (n1:1≤c.nr) (n4:c.nr≤4) (jX:c.rd<c.nr) (bY:c.base+(1+c.nr+(c.nr+2)*c.wd)≤l.length):Calls Tryz.prog 163 #[.pointer (some ⟨sb,0,none⟩)] w (Did sb mb lb ty o w rv (c.chen l).1 (c.chen l).2 (.tuple #[])):=by
 have bf:=h.mem.len;have di:c.rc.length≤1000000:=by have:=hg.rcl;omega
 have zQ:=hg.i8;have oy:c.tr<1000:=by have:=hg.tr;omega
 have dP:c.wr=true→c.rc.length=c.wd:=fun q=>hg.wrl q ho
 obtain⟨hA,hB,hp⟩:=hd;obtain⟨hq,Aj⟩:=(hp ho).2 aU;have xm:1*1≤(c.nr+2)*c.wd:=Nat.mul_le_mul (by omega) h1
 rcases ae:c.ph with _ | _ | _ | _ | _ | n
 ·have hc:=C8 sb mb lb ty o c rv l w h ae (by omega);refine aD ?_ hc;unfold Kc.chen;try dsimp only
  rw[if_neg (by rw[aU];decide)]
  split <;> first | omega | exact absurd ae (by assumption) | rfl
 ·have hc:=C9 sb mb lb ty o c rv l w h ae (by omega);refine aD ?_ hc;unfold Kc.chen;try dsimp only
  rw[if_neg (by rw[aU];decide)]
  split <;> first | omega | exact absurd ae (by assumption) | rfl
 ·have hc:=Da sb mb lb ty o c rv l w h ae (by omega);refine aD ?_ hc;unfold Kc.chen;try dsimp only
  rw[if_neg (by rw[aU];decide)]
  split <;> first | omega | exact absurd ae (by assumption) | rfl
 ·have hc:=Db sb mb lb ty o c rv l w h ae (by omega);refine aD ?_ hc;unfold Kc.chen;try dsimp only
  rw[if_neg (by rw[aU];decide)]
  split <;> first | omega | exact absurd ae (by assumption) | rfl
 ·have hi:=Aj ae;have aj:=fA (k:=c.B.toNat) (n:=c.nr+2) (by omega) hi;have hc:=Dc sb mb lb ty o c rv l w h ae ⟨hB.1,by omega⟩ (fun q=>by rw[dP q];exact hi) di (by omega) (by omega) (by omega);refine aD ?_ hc;unfold Kc.chen;try dsimp only
  rw[if_neg (by rw[aU];decide)]
  split <;> first | omega | exact absurd ae (by assumption) | rfl
 ·omega
theorem uP (w:World) (h:St w sb mb lb ty o c rv l) (aU:(c.op==2)=true) (hg:Kc.Gen 1 c) (hd:Kc.D3 c) (ho:c.over=false) (h1:1≤c.wd) (h8:c.wd≤8) (du:c.steps≤1000) (bY:c.base+(1+c.wd)≤l.length):Calls Tryz.prog 164 #[.pointer (some ⟨sb,0,none⟩)] w (Did sb mb lb ty o w rv (c.seq l).1 (c.seq l).2 (.tuple #[])):=by
 have bf:=h.mem.len;have di:c.rc.length≤1000000:=by have:=hg.rcl;omega
 have zQ:=hg.i8;have oy:c.tr<1000:=by have:=hg.tr;omega
 have dP:c.wr=true→c.rc.length=c.wd:=fun q=>hg.wrl q ho
 obtain⟨hA,hB,hp⟩:=hd;obtain⟨hq,sI⟩:=(hp ho).1 aU
 rcases ae:c.ph with _ | _ | _ | _ | n
 ·have hc:=IU sb mb lb ty o c rv l w h ae (by omega);refine aD ?_ hc;unfold Kc.seq;try dsimp only
  rw[if_pos aU]
  split <;> first | omega | exact absurd ae (by assumption) | rfl
 ·have hc:=IV sb mb lb ty o c rv l w h ae (by omega);refine aD ?_ hc;unfold Kc.seq;try dsimp only
  rw[if_pos aU]
  split <;> first | omega | exact absurd ae (by assumption) | rfl
 ·have hi:=sI ae;have hc:=IW sb mb lb ty o c rv l w h ae (fun q=>by rw[dP q];exact hi) di (by omega) (by omega) (by omega);refine aD ?_ hc;unfold Kc.seq;try dsimp only
  rw[if_pos aU]
  split <;> first | omega | exact absurd ae (by assumption) | rfl
 ·have hc:=IX sb mb lb ty o c rv l w h ae (by omega);refine aD ?_ hc;unfold Kc.seq;try dsimp only
  rw[if_pos aU]
  split <;> first | omega | exact absurd ae (by assumption) | rfl
 ·omega
theorem xW (w:World) (h:St w sb mb lb ty o c rv l) (aU:(c.op==2)=false) (hg:Kc.Gen 1 c) (hd:Kc.D3 c) (ho:c.over=false) (h1:1≤c.wd) (h8:c.wd≤8) (du:c.steps≤1000) (bY:c.base+(1+c.wd)≤l.length):Calls Tryz.prog 165 #[.pointer (some ⟨sb,0,none⟩)] w (Did sb mb lb ty o w rv (c.seq l).1 (c.seq l).2 (.tuple #[])):=by
 have bf:=h.mem.len;have di:c.rc.length≤1000000:=by have:=hg.rcl;omega
 have zQ:=hg.i8;have oy:c.tr<1000:=by have:=hg.tr;omega
 have dP:c.wr=true→c.rc.length=c.wd:=fun q=>hg.wrl q ho
 obtain⟨hA,hB,hp⟩:=hd;obtain⟨hq,fr⟩:=(hp ho).2 aU
 rcases ae:c.ph with _ | _ | _ | n
 ·by_cases hx:c.rdm l 0%2=1
  ·have hc:=uQ sb mb lb ty o c rv l w h ae oy (by omega) hx;refine aD ?_ hc;unfold Kc.seq;try dsimp only
   rw[if_neg (by rw[aU];decide)]
   split <;> first | omega | exact absurd ae (by assumption) | rfl | (rw[if_pos hx];first | done | rfl)
  ·have hc:=tz sb mb lb ty o c rv l w h ae oy (by omega) hx;refine aD ?_ hc;unfold Kc.seq;try dsimp only
   rw[if_neg (by rw[aU];decide)]
   split <;> first | omega | exact absurd ae (by assumption) | rfl | (rw[if_neg hx];first | done | rfl)
 ·have hi:=fr ae;have hc:=IT sb mb lb ty o c rv l w h ae (fun q=>by rw[dP q];exact hi) di (by omega) (by omega) (by omega);refine aD ?_ hc;unfold Kc.seq;try dsimp only
  rw[if_neg (by rw[aU];decide)]
  split <;> first | omega | exact absurd ae (by assumption) | rfl
 ·by_cases hx:c.rdm l 0=c.A
  ·have hc:=tA sb mb lb ty o c rv l w h ae oy (by omega) hx;refine aD ?_ hc;unfold Kc.seq;try dsimp only
   rw[if_neg (by rw[aU];decide)]
   split <;> first | omega | exact absurd ae (by assumption) | rfl | (rw[if_pos hx];first | done | rfl)
  ·have hc:=ru sb mb lb ty o c rv l w h ae oy (by omega) hx;refine aD ?_ hc;unfold Kc.seq;try dsimp only
   rw[if_neg (by rw[aU];decide)]
   split <;> first | omega | exact absurd ae (by assumption) | rfl | (rw[if_neg hx];first | done | rfl)
 ·omega
theorem tk (w:World) (h:St w sb mb lb ty o c rv l) (aU:(c.op==2)=true) (hg:Kc.Gen 1 c) (hd:Kc.D4 c) (ho:c.over=false) (h1:1≤c.wd) (h8:c.wd≤8) (du:c.steps≤1000) (hs:2≤c.sl) (bY:c.base+(1+c.sl*c.wd)≤l.length):Calls Tryz.prog 166 #[.pointer (some ⟨sb,0,none⟩)] w (Did sb mb lb ty o w rv (c.ring l).1 (c.ring l).2 (.tuple #[])):=by
 have bf:=h.mem.len;have di:c.rc.length≤1000000:=by have:=hg.rcl;omega
 have zQ:=hg.i8;have oy:c.tr<1000:=by have:=hg.tr;omega
 have dP:c.wr=true→c.rc.length=c.wd:=fun q=>hg.wrl q ho
 obtain⟨hA,hB,hp⟩:=hd;obtain⟨hq,fr⟩:=hp ho
 rcases ae:c.ph with _ | _ | _ | n
 ·have hc:=ES sb mb lb ty o c rv l w h ae hs (by omega);refine aD ?_ hc;unfold Kc.ring;try dsimp only
  try simp only[aU,if_true]
  split <;> first | omega | exact absurd ae (by assumption) | rfl
 ·have hi:=fr ae;have NR:=Int.emod_nonneg c.A (show(c.sl:Int)≠0 by omega);have NS:=Int.emod_lt_of_pos c.A (show(0:Int)<(c.sl:Int) by omega);have aj:=fA (k:=(c.A%c.sl).toNat) (n:=c.sl) (by omega) hi;have hc:=ET sb mb lb ty o c rv l w h ae hs (fun q=>by rw[dP q];exact hi) di (by omega) (by omega) (by omega);refine aD ?_ hc;unfold Kc.ring;try dsimp only
  try simp only[aU,if_true]
  split <;> first | omega | exact absurd ae (by assumption) | rfl
 ·have hc:=EU sb mb lb ty o c rv l w h ae (by omega);refine aD ?_ hc;unfold Kc.ring;try dsimp only
  try simp only[aU,if_true]
  split <;> first | omega | exact absurd ae (by assumption) | rfl
 ·omega
theorem uM (w:World) (h:St w sb mb lb ty o c rv l) (aU:(c.op==2)=false) (hg:Kc.Gen 1 c) (hd:Kc.D4 c) (ho:c.over=false) (h1:1≤c.wd) (h8:c.wd≤8) (du:c.steps≤1000) (hs:2≤c.sl) (bY:c.base+(1+c.sl*c.wd)≤l.length):Calls Tryz.prog 167 #[.pointer (some ⟨sb,0,none⟩)] w (Did sb mb lb ty o w rv (c.ring l).1 (c.ring l).2 (.tuple #[])):=by
 have bf:=h.mem.len;have di:c.rc.length≤1000000:=by have:=hg.rcl;omega
 have zQ:=hg.i8;have oy:c.tr<1000:=by have:=hg.tr;omega
 have dP:c.wr=true→c.rc.length=c.wd:=fun q=>hg.wrl q ho
 obtain⟨hA,hB,hp⟩:=hd;obtain⟨hq,fr⟩:=hp ho
 rcases ae:c.ph with _ | _ | _ | n
 ·have hc:=EQ sb mb lb ty o c rv l w h ae hs (by omega);refine aD ?_ hc;unfold Kc.ring;try dsimp only
  try simp only[aU,Bool.false_eq_true,if_false]
  split <;> first | omega | exact absurd ae (by assumption) | rfl
 ·have hi:=fr ae;have NR:=Int.emod_nonneg c.A (show(c.sl:Int)≠0 by omega);have NS:=Int.emod_lt_of_pos c.A (show(0:Int)<(c.sl:Int) by omega);have aj:=fA (k:=(c.A%c.sl).toNat) (n:=c.sl) (by omega) hi;have hc:=ER sb mb lb ty o c rv l w h ae hs (fun q=>by rw[dP q];exact hi) di (by omega) (by omega) (by omega);refine aD ?_ hc;unfold Kc.ring;try dsimp only
  try simp only[aU,Bool.false_eq_true,if_false]
  split <;> first | omega | exact absurd ae (by assumption) | rfl
 ·by_cases hx:Kc.gap c.A (c.rdm l 0%((c.sl:Int)*1048576)) ((c.sl:Int)*1048576)<(c.sl:Int) - 1
  ·have hc:=uN sb mb lb ty o c rv l w h ae hs hA.2 oy (by omega) hx;refine aD ?_ hc;unfold Kc.ring;try dsimp only
   try simp only[aU,Bool.false_eq_true,if_false]
   split <;> first | omega | exact absurd ae (by assumption) | rfl | (rw[if_pos hx];first | done | rfl)
  ·by_cases hy:c.cap≤c.tr+1
   ·have hc:=rq sb mb lb ty o c rv l w h ae hs hA.2 oy (by omega) hx hy;refine aD ?_ hc;unfold Kc.ring;try dsimp only
    try simp only[aU,Bool.false_eq_true,if_false]
    split <;> first | omega | exact absurd ae (by assumption) | rfl | (rw[if_neg hx,if_pos hy];first | done | rfl) | (rw[if_pos hy,if_neg hx];first | done | rfl) | (rw[if_neg hx];first | done | rfl) | (rw[if_pos hy];first | done | rfl)
   ·have hc:=pE sb mb lb ty o c rv l w h ae hs hA.2 oy (by omega) hx hy;refine aD ?_ hc;unfold Kc.ring;try dsimp only
    try simp only[aU,Bool.false_eq_true,if_false]
    split <;> first | omega | exact absurd ae (by assumption) | rfl | (rw[if_neg hx,if_neg hy];first | done | rfl) | (rw[if_neg hy,if_neg hx];first | done | rfl) | (rw[if_neg hx];first | done | rfl) | (rw[if_neg hy];first | done | rfl)
 ·omega
theorem tV (w:World) (h:St w sb mb lb ty o c rv l) (aU:(c.op==2)=true) (hg:Kc.Gen 1 c) (hd:Kc.D5 c) (ho:c.over=false) (h1:1≤c.wd) (h8:c.wd≤8) (du:c.steps≤1000) (n1:1≤c.nr) (n4:c.nr≤4) (jX:c.rd<c.nr) (_hs:c.nr+2≤c.sl) (cO:c.sl≤16) (bY:c.base+(1+c.nr+c.sl*c.wd)≤l.length) (hT:Tab64 w) (hn:¬ fp sb mb lb rv 0):Calls Tryz.prog 168 #[.pointer (some ⟨sb,0,none⟩)] w (Did sb mb lb ty o w rv (c.cab l).1 (c.cab l).2 (.tuple #[])):=by
 have bf:=h.mem.len;have di:c.rc.length≤1000000:=by have:=hg.rcl;omega
 have zQ:=hg.i8;have oy:c.tr<1000:=by have:=hg.tr;omega
 have dP:c.wr=true→c.rc.length=c.wd:=fun q=>hg.wrl q ho
 obtain⟨hA,hB,hp⟩:=hd;obtain⟨KG,hq,kK,Io,fr,sI⟩:=(hp ho).1 aU;have xm:1*1≤c.sl*c.wd:=Nat.mul_le_mul (by omega) h1
 rcases ae:c.ph with _ | _ | _ | _ | n
 ·have hc:=G8 sb mb lb ty o c rv l w h ae (by omega) (by omega);refine aD ?_ hc;unfold Kc.cab;try dsimp only
  rw[if_pos aU]
  split <;> first | omega | exact absurd ae (by assumption) | rfl
 ·by_cases hx:c.nr≤c.i+1
  ·by_cases hy:0<c.rdm l (1+c.i)
   ·have hi:=fr ae;have hc:=nH sb mb lb ty o c rv l w h ae (by omega) hT hn hx hy (by omega);refine aD ?_ hc;unfold Kc.cab;try dsimp only
    rw[if_pos aU]
    split <;> first | omega | exact absurd ae (by assumption) | rfl | (rw[if_pos hx,if_pos hy];first | done | rfl) | (rw[if_pos hy,if_pos hx];first | done | rfl) | (rw[if_pos hx];first | done | rfl) | (rw[if_pos hy];first | done | rfl)
   ·have hi:=fr ae;have hc:=nF sb mb lb ty o c rv l w h ae (by omega) hT hn hx hy (by omega);refine aD ?_ hc;unfold Kc.cab;try dsimp only
    rw[if_pos aU]
    split <;> first | omega | exact absurd ae (by assumption) | rfl | (rw[if_pos hx,if_neg hy];first | done | rfl) | (rw[if_neg hy,if_pos hx];first | done | rfl) | (rw[if_pos hx];first | done | rfl) | (rw[if_neg hy];first | done | rfl)
  ·by_cases hy:0<c.rdm l (1+c.i)
   ·have hi:=fr ae;have hc:=nI sb mb lb ty o c rv l w h ae (by omega) hT hn hx hy (by omega);refine aD ?_ hc;unfold Kc.cab;try dsimp only
    rw[if_pos aU]
    split <;> first | omega | exact absurd ae (by assumption) | rfl | (rw[if_neg hx,if_pos hy];first | done | rfl) | (rw[if_pos hy,if_neg hx];first | done | rfl) | (rw[if_neg hx];first | done | rfl) | (rw[if_pos hy];first | done | rfl)
   ·have hi:=fr ae;have hc:=nG sb mb lb ty o c rv l w h ae (by omega) hT hn hx hy (by omega);refine aD ?_ hc;unfold Kc.cab;try dsimp only
    rw[if_pos aU]
    split <;> first | omega | exact absurd ae (by assumption) | rfl | (rw[if_neg hx,if_neg hy];first | done | rfl) | (rw[if_neg hy,if_neg hx];first | done | rfl) | (rw[if_neg hx];first | done | rfl) | (rw[if_neg hy];first | done | rfl)
 ·have hi:=sI ae;have aj:=fA (k:=c.B.toNat) (n:=c.sl) (by omega) hi;have hc:=G9 sb mb lb ty o c rv l w h ae ⟨hB.1,by omega⟩ (fun q=>by rw[dP q];exact hi) di (by omega) (by omega) (by omega);refine aD ?_ hc;unfold Kc.cab;try dsimp only
  rw[if_pos aU]
  split <;> first | omega | exact absurd ae (by assumption) | rfl
 ·have hc:=Ha sb mb lb ty o c rv l w h ae (by omega);refine aD ?_ hc;unfold Kc.cab;try dsimp only
  rw[if_pos aU]
  split <;> first | omega | exact absurd ae (by assumption) | rfl
 ·omega
theorem wL (w:World) (h:St w sb mb lb ty o c rv l) (aU:(c.op==2)=false) (hg:Kc.Gen 1 c) (hd:Kc.D5 c) (ho:c.over=false) (h1:1≤c.wd) (h8:c.wd≤8) (du:c.steps≤1000) (_n1:1≤c.nr) (_n4:c.nr≤4) (jX:c.rd<c.nr) (_hs:c.nr+2≤c.sl) (cO:c.sl≤16) (bY:c.base+(1+c.nr+c.sl*c.wd)≤l.length):Calls Tryz.prog 169 #[.pointer (some ⟨sb,0,none⟩)] w (Did sb mb lb ty o w rv (c.cab l).1 (c.cab l).2 (.tuple #[])):=by
 have bf:=h.mem.len;have di:c.rc.length≤1000000:=by have:=hg.rcl;omega
 have zQ:=hg.i8;have oy:c.tr<1000:=by have:=hg.tr;omega
 have dP:c.wr=true→c.rc.length=c.wd:=fun q=>hg.wrl q ho
 obtain⟨hA,hB,hp⟩:=hd;obtain⟨hq,vX⟩:=(hp ho).2 aU;have xm:1*1≤c.sl*c.wd:=Nat.mul_le_mul (by omega) h1
 rcases ae:c.ph with _ | _ | _ | _ | _ | n
 ·have hc:=G4 sb mb lb ty o c rv l w h ae (by omega) (by omega);refine aD ?_ hc;unfold Kc.cab;try dsimp only
  rw[if_neg (by rw[aU];decide)]
  split <;> first | omega | exact absurd ae (by assumption) | rfl
 ·have hc:=G5 sb mb lb ty o c rv l w h ae (by omega);refine aD ?_ hc;unfold Kc.cab;try dsimp only
  rw[if_neg (by rw[aU];decide)]
  split <;> first | omega | exact absurd ae (by assumption) | rfl
 ·by_cases hx:c.rdm l 0%(c.sl:Int)=c.A
  ·have hc:=sh sb mb lb ty o c rv l w h ae (by omega) oy (by omega) hx;refine aD ?_ hc;unfold Kc.cab;try dsimp only
   rw[if_neg (by rw[aU];decide)]
   split <;> first | omega | exact absurd ae (by assumption) | rfl | (rw[if_pos hx];first | done | rfl)
  ·by_cases hy:c.cap≤c.tr+1
   ·have hc:=sg sb mb lb ty o c rv l w h ae (by omega) oy (by omega) hx hy;refine aD ?_ hc;unfold Kc.cab;try dsimp only
    rw[if_neg (by rw[aU];decide)]
    split <;> first | omega | exact absurd ae (by assumption) | rfl | (rw[if_neg hx,if_pos hy];first | done | rfl) | (rw[if_pos hy,if_neg hx];first | done | rfl) | (rw[if_neg hx];first | done | rfl) | (rw[if_pos hy];first | done | rfl)
   ·have hc:=qz sb mb lb ty o c rv l w h ae (by omega) oy (by omega) hx hy;refine aD ?_ hc;unfold Kc.cab;try dsimp only
    rw[if_neg (by rw[aU];decide)]
    split <;> first | omega | exact absurd ae (by assumption) | rfl | (rw[if_neg hx,if_neg hy];first | done | rfl) | (rw[if_neg hy,if_neg hx];first | done | rfl) | (rw[if_neg hx];first | done | rfl) | (rw[if_neg hy];first | done | rfl)
 ·have hi:=vX ae;have aj:=fA (k:=c.A.toNat) (n:=c.sl) (by omega) hi;have hc:=G6 sb mb lb ty o c rv l w h ae ⟨hA.1,by omega⟩ (fun q=>by rw[dP q];exact hi) di (by omega) (by omega) (by omega);refine aD ?_ hc;unfold Kc.cab;try dsimp only
  rw[if_neg (by rw[aU];decide)]
  split <;> first | omega | exact absurd ae (by assumption) | rfl
 ·have hc:=G7 sb mb lb ty o c rv l w h ae (by omega);refine aD ?_ hc;unfold Kc.cab;try dsimp only
  rw[if_neg (by rw[aU];decide)]
  split <;> first | omega | exact absurd ae (by assumption) | rfl
 ·omega
theorem wY (w:World) (h:St w sb mb lb ty o c rv l) (aU:(c.op==3)=true) (hg:Kc.Gen 1 c) (hd:Kc.D6 c) (ho:c.over=false) (h1:1≤c.wd) (h8:c.wd≤8) (du:c.steps≤1000) (hs:1≤c.sl) (bY:c.base+(2+c.sl*c.wd)≤l.length):Calls Tryz.prog 170 #[.pointer (some ⟨sb,0,none⟩)] w (Did sb mb lb ty o w rv (c.fifo l).1 (c.fifo l).2 (.tuple #[])):=by
 have bf:=h.mem.len;have di:c.rc.length≤1000000:=by have:=hg.rcl;omega
 have zQ:=hg.i8;have oy:c.tr<1000:=by have:=hg.tr;omega
 have dP:c.wr=true→c.rc.length=c.wd:=fun q=>hg.wrl q ho
 obtain⟨hA,hB,hp⟩:=hd;obtain⟨hq,fr⟩:=hp ho
 rcases ae:c.ph with _ | _ | _ | _ | n
 ·have hc:=Dn sb mb lb ty o c rv l w h ae hs (by omega);refine aD ?_ hc;unfold Kc.fifo;try dsimp only
  try simp only[aU,if_true]
  split <;> first | omega | exact absurd ae (by assumption) | rfl
 ·by_cases hx:Kc.gap (c.rdm l 0%(2*(c.sl:Int))) c.A (2*(c.sl:Int))≥(c.sl:Int)
  ·have hc:=qJ sb mb lb ty o c rv l w h ae hs hA.2 hx (by omega);refine aD ?_ hc;unfold Kc.fifo;try dsimp only
   try simp only[aU,if_true]
   split <;> first | omega | exact absurd ae (by assumption) | rfl | (rw[if_pos hx];first | done | rfl)
  ·have hc:=tZ sb mb lb ty o c rv l w h ae hs hA.2 hx (by omega);refine aD ?_ hc;unfold Kc.fifo;try dsimp only
   try simp only[aU,if_true]
   split <;> first | omega | exact absurd ae (by assumption) | rfl | (rw[if_neg hx];first | done | rfl)
 ·have hi:=fr ae;have NR:=Int.emod_nonneg c.A (show(c.sl:Int)≠0 by omega);have NS:=Int.emod_lt_of_pos c.A (show(0:Int)<(c.sl:Int) by omega);have aj:=fA (k:=(c.A%c.sl).toNat) (n:=c.sl) (by omega) hi;have hc:=Do sb mb lb ty o c rv l w h ae hs (fun q=>by rw[dP q];exact hi) di (by omega) (by omega) (by omega);refine aD ?_ hc;unfold Kc.fifo;try dsimp only
  try simp only[aU,if_true]
  split <;> first | omega | exact absurd ae (by assumption) | rfl
 ·have hc:=Dp sb mb lb ty o c rv l w h ae hs hA.2 (by omega);refine aD ?_ hc;unfold Kc.fifo;try dsimp only
  try simp only[aU,if_true]
  split <;> first | omega | exact absurd ae (by assumption) | rfl
 ·omega
theorem tY (w:World) (h:St w sb mb lb ty o c rv l) (aU:(c.op==3)=false) (hg:Kc.Gen 1 c) (hd:Kc.D6 c) (ho:c.over=false) (h1:1≤c.wd) (h8:c.wd≤8) (du:c.steps≤1000) (hs:1≤c.sl) (bY:c.base+(2+c.sl*c.wd)≤l.length):Calls Tryz.prog 171 #[.pointer (some ⟨sb,0,none⟩)] w (Did sb mb lb ty o w rv (c.fifo l).1 (c.fifo l).2 (.tuple #[])):=by
 have bf:=h.mem.len;have di:c.rc.length≤1000000:=by have:=hg.rcl;omega
 have zQ:=hg.i8;have oy:c.tr<1000:=by have:=hg.tr;omega
 have dP:c.wr=true→c.rc.length=c.wd:=fun q=>hg.wrl q ho
 obtain⟨hA,hB,hp⟩:=hd;obtain⟨hq,fr⟩:=hp ho
 rcases ae:c.ph with _ | _ | _ | _ | n
 ·have hc:=Dq sb mb lb ty o c rv l w h ae hs (by omega);refine aD ?_ hc;unfold Kc.fifo;try dsimp only
  try simp only[aU,Bool.false_eq_true,if_false]
  split <;> first | omega | exact absurd ae (by assumption) | rfl
 ·by_cases hx:c.rdm l 1%(2*(c.sl:Int))=c.A
  ·have hc:=pm sb mb lb ty o c rv l w h ae hs hx (by omega);refine aD ?_ hc;unfold Kc.fifo;try dsimp only
   try simp only[aU,Bool.false_eq_true,if_false]
   split <;> first | omega | exact absurd ae (by assumption) | rfl | (rw[if_pos hx];first | done | rfl)
  ·have hc:=t6 sb mb lb ty o c rv l w h ae hs hx (by omega);refine aD ?_ hc;unfold Kc.fifo;try dsimp only
   try simp only[aU,Bool.false_eq_true,if_false]
   split <;> first | omega | exact absurd ae (by assumption) | rfl | (rw[if_neg hx];first | done | rfl)
 ·have hi:=fr ae;have NR:=Int.emod_nonneg c.A (show(c.sl:Int)≠0 by omega);have NS:=Int.emod_lt_of_pos c.A (show(0:Int)<(c.sl:Int) by omega);have aj:=fA (k:=(c.A%c.sl).toNat) (n:=c.sl) (by omega) hi;have hc:=Dr sb mb lb ty o c rv l w h ae hs (fun q=>by rw[dP q];exact hi) di (by omega) (by omega) (by omega);refine aD ?_ hc;unfold Kc.fifo;try dsimp only
  try simp only[aU,Bool.false_eq_true,if_false]
  split <;> first | omega | exact absurd ae (by assumption) | rfl
 ·have hc:=Ds sb mb lb ty o c rv l w h ae hs hA.2 (by omega);refine aD ?_ hc;unfold Kc.fifo;try dsimp only
  try simp only[aU,Bool.false_eq_true,if_false]
  split <;> first | omega | exact absurd ae (by assumption) | rfl
 ·omega
end
end Go.Proofs.YtabfcjohdgjkoaaGreatDoor
