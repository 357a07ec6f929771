/- One step of each kind as the document has it: what its step computes. -/
import Derived.Test.YtolmpehgeinlkaaGreatDoorZcOrG
import Derived.Test.YtolmpehgeinlkaaGreatDoorZcOrH
import Derived.Test.YtolmpehgeinlkaaGreatDoorZcOrI
import Derived.Test.YtolmpehgeinlkaaGreatDoorZcOgM
namespace Go.Proofs.YtolmpehgeinlkaaGreatDoor
open Go.RowKit
set_option maxHeartbeats 1000000
set_option maxRecDepth 100000
section
variable (yb lb cap:Nat) (o:Ob) (c:Kc) (rv:Value) (l:List Int)
theorem aw {d:Kc × List Int} {w:World} {c':Kc} {l':List Int} {v:Value} {P:Program} {f:FuncId} {args:Array Value} (hd:d=(c',l')) (h:Calls P f args w (aU yb lb cap o w rv c' l' v)):Calls P f args w (aU yb lb cap o w rv d.1 d.2 v):=by
 subst hd;exact h
theorem rJ (B LL CC:Nat) (w:World) (h:SR w yb lb cap o c rv l) (az:c.base=B) (aD:B+LL=l.length) (hk:bG o.k=true) (aA:(c.op==2)=true) (bM:c.wr=true→c.rc.length=c.wd) (cJ:c.rc.length≤1000000) (gf:c.i≤8) (_htr:c.tr<1000) (h1:1≤c.wd) (eH:bn o=((4:Nat):Int)) (bK:4+4*c.wd≤LL) (hA:0≤c.A∧c.A≤1) (hB:0≤c.B∧c.B≤1) (hq:c.ph≤4) (fN:c.ph=2→c.i<c.wd):Calls Tryz.prog 81 #[.pointer (some ⟨yb,0,none⟩),.slice (some ⟨lb,B,none⟩) LL CC] w (aU yb lb cap o w rv (c.four l).1 (c.four l).2 (.tuple #[])):=by
 have nj:c.A.toNat≤1:=by omega
 rcases ae:c.ph with _ | _ | _ | _ | _ | n
 ·have hc:=wm yb lb cap o c rv l B LL CC w h az aD hk ae (by omega);refine aw _ _ _ _ _ ?_ hc;unfold Kc.four;try dsimp only
  rw[if_pos aA]
  split <;> first | omega | exact absurd ae (by assumption) | rfl
 ·have hc:=vP yb lb cap o c rv l B LL CC w h az aD hk ae hA (by omega);refine aw _ _ _ _ _ ?_ hc;unfold Kc.four;try dsimp only
  rw[if_pos aA]
  split <;> first | omega | exact absurd ae (by assumption) | rfl
 ·have hi:=fN ae;have bH:=cE (k:=(2*c.A+c.B).toNat) (n:=4) (by omega) hi;have hc:=vl yb lb cap o c rv l B LL CC w h az aD hk ae eH (fun q=>by rw[bM q];exact hi) cJ (by omega) (by omega) hA hB;refine aw _ _ _ _ _ ?_ hc;unfold Kc.four;try dsimp only
  rw[if_pos aA]
  split <;> first | omega | exact absurd ae (by assumption) | rfl
 ·have hc:=vE yb lb cap o c rv l B LL CC w h az aD hk ae hA (by omega);refine aw _ _ _ _ _ ?_ hc;unfold Kc.four;try dsimp only
  rw[if_pos aA]
  split <;> first | omega | exact absurd ae (by assumption) | rfl
 ·have hc:=xe yb lb cap o c rv l B LL CC w h az aD hk ae (by omega);refine aw _ _ _ _ _ ?_ hc;unfold Kc.four;try dsimp only
  rw[if_pos aA]
  split <;> first | omega | exact absurd ae (by assumption) | rfl
 ·omega
theorem tW (B LL CC:Nat) (w:World) (h:SR w yb lb cap o c rv l) (az:c.base=B) (aD:B+LL=l.length) (hk:bG o.k=true) (aA:(c.op==2)=false) (bM:c.wr=true→c.rc.length=c.wd) (cJ:c.rc.length≤1000000) (gf:c.i≤8) (_htr:c.tr<1000) (h1:1≤c.wd) (eH:bn o=((4:Nat):Int)) (bK:4+4*c.wd≤LL) (hA:0≤c.A∧c.A≤1) (hB:0≤c.B∧c.B≤1) (hq:c.ph≤3) (fN:c.ph=3→c.i<c.wd):Calls Tryz.prog 82 #[.pointer (some ⟨yb,0,none⟩),.slice (some ⟨lb,B,none⟩) LL CC] w (aU yb lb cap o w rv (c.four l).1 (c.four l).2 (.tuple #[])):=by
 have nj:c.A.toNat≤1:=by omega
 rcases ae:c.ph with _ | _ | _ | _ | n
 ·have hc:=wP yb lb cap o c rv l B LL CC w h az aD hk ae (by omega);refine aw _ _ _ _ _ ?_ hc;unfold Kc.four;try dsimp only
  rw[if_neg (by rw[aA];decide)]
  split <;> first | omega | exact absurd ae (by assumption) | rfl
 ·have hc:=vr yb lb cap o c rv l B LL CC w h az aD hk ae (by omega);refine aw _ _ _ _ _ ?_ hc;unfold Kc.four;try dsimp only
  rw[if_neg (by rw[aA];decide)]
  split <;> first | omega | exact absurd ae (by assumption) | rfl
 ·have hc:=wQ yb lb cap o c rv l B LL CC w h az aD hk ae hA (by omega);refine aw _ _ _ _ _ ?_ hc;unfold Kc.four;try dsimp only
  rw[if_neg (by rw[aA];decide)]
  split <;> first | omega | exact absurd ae (by assumption) | rfl
 ·have hi:=fN ae;have bH:=cE (k:=(2*c.A+c.B).toNat) (n:=4) (by omega) hi;have hc:=wX yb lb cap o c rv l B LL CC w h az aD hk ae eH (fun q=>by rw[bM q];exact hi) cJ (by omega) (by omega) hA hB;refine aw _ _ _ _ _ ?_ hc;unfold Kc.four;try dsimp only
  rw[if_neg (by rw[aA];decide)]
  split <;> first | omega | exact absurd ae (by assumption) | rfl
 ·omega
theorem rH (B LL CC:Nat) (w:World) (h:SR w yb lb cap o c rv l) (az:c.base=B) (aD:B+LL=l.length) (hk:bG o.k=true) (bM:c.wr=true→c.rc.length=c.wd) (cJ:c.rc.length≤1000000) (gf:c.i≤8) (_htr:c.tr<1000) (h1:1≤c.wd) (eH:bn o=((1+c.nr:Nat):Int)) (iK:cU o=((c.nr+2:Nat):Int)) (n1:1≤c.nr) (n4:c.nr≤4) (gg:c.rd<c.nr) (bK:1+c.nr+(c.nr+2)*c.wd≤LL) (hB:0≤c.B∧c.B≤c.nr+1) (hq:c.ph≤4) (dP:c.ph=1→c.i<c.nr) (fN:c.ph=2→c.i<c.wd) (mr:c.ph=4→c.i<c.nr):Calls Tryz.prog 83 #[.pointer (some ⟨yb,0,none⟩),.slice (some ⟨lb,B,none⟩) LL CC] w (aU yb lb cap o w rv (c.chenWriteR l).1 (c.chenWriteR l).2 (.tuple #[])):=by
 have pW:1*1≤(c.nr+2)*c.wd:=Nat.mul_le_mul (by omega) h1
 rcases ae:c.ph with _ | _ | _ | _ | _ | n
 ·have hc:=vg yb lb cap o c rv l B LL CC w h az aD hk ae iK (by omega);refine aw _ _ _ _ _ ?_ hc;unfold Kc.chenWriteR;try dsimp only
  split <;> first | omega | exact absurd ae (by assumption) | rfl
 ·by_cases hx:c.nr≤c.i+1
  ·have hi:=dP ae;have hc:=mo yb lb cap o c rv l B LL CC w h az aD hk ae iK (dP ae) hx (by omega);refine aw _ _ _ _ _ ?_ hc;unfold Kc.chenWriteR;try dsimp only
   split <;> first | omega | exact absurd ae (by assumption) | rfl | (rw[if_pos hx];first | done | rfl)
  ·have hi:=dP ae;have hc:=m5 yb lb cap o c rv l B LL CC w h az aD hk ae iK (dP ae) hx (by omega);refine aw _ _ _ _ _ ?_ hc;unfold Kc.chenWriteR;try dsimp only
   split <;> first | omega | exact absurd ae (by assumption) | rfl | (rw[if_neg hx];first | done | rfl)
 ·have hi:=fN ae;have bH:=cE (k:=c.B.toNat) (n:=c.nr+2) (by omega) hi;have hc:=vq yb lb cap o c rv l B LL CC w h az aD hk ae eH (fun q=>by rw[bM q];exact hi) cJ (by omega) (by omega) ⟨hB.1,by omega⟩;refine aw _ _ _ _ _ ?_ hc;unfold Kc.chenWriteR;try dsimp only
  split <;> first | omega | exact absurd ae (by assumption) | rfl
 ·have hc:=vK yb lb cap o c rv l B LL CC w h az aD hk ae (by omega);refine aw _ _ _ _ _ ?_ hc;unfold Kc.chenWriteR;try dsimp only
  split <;> first | omega | exact absurd ae (by assumption) | rfl
 ·by_cases hx:c.nr≤c.i+1
  ·by_cases hy:c.rdm l (1+c.i)=(c.nr:Int)+2
   ·have hi:=mr ae;have hc:=kF yb lb cap o c rv l B LL CC w h az aD hk ae (mr ae) hx hy (by omega);refine aw _ _ _ _ _ ?_ hc;unfold Kc.chenWriteR;try dsimp only
    split <;> first | omega | exact absurd ae (by assumption) | rfl | (rw[if_pos hx,if_pos hy];first | done | rfl) | (rw[if_pos hy,if_pos hx];first | done | rfl) | (rw[if_pos hx];first | done | rfl) | (rw[if_pos hy];first | done | rfl)
   ·have hi:=mr ae;have hc:=kN yb lb cap o c rv l B LL CC w h az aD hk ae (mr ae) hx hy (by omega);refine aw _ _ _ _ _ ?_ hc;unfold Kc.chenWriteR;try dsimp only
    split <;> first | omega | exact absurd ae (by assumption) | rfl | (rw[if_pos hx,if_neg hy];first | done | rfl) | (rw[if_neg hy,if_pos hx];first | done | rfl) | (rw[if_pos hx];first | done | rfl) | (rw[if_neg hy];first | done | rfl)
  ·by_cases hy:c.rdm l (1+c.i)=(c.nr:Int)+2
   ·have hi:=mr ae;have hc:=kB yb lb cap o c rv l B LL CC w h az aD hk ae (mr ae) hx hy (by omega);refine aw _ _ _ _ _ ?_ hc;unfold Kc.chenWriteR;try dsimp only
    split <;> first | omega | exact absurd ae (by assumption) | rfl | (rw[if_neg hx,if_pos hy];first | done | rfl) | (rw[if_pos hy,if_neg hx];first | done | rfl) | (rw[if_neg hx];first | done | rfl) | (rw[if_pos hy];first | done | rfl)
   ·have hi:=mr ae;have hc:=kk yb lb cap o c rv l B LL CC w h az aD hk ae (mr ae) hx hy (by omega);refine aw _ _ _ _ _ ?_ hc;unfold Kc.chenWriteR;try dsimp only
    split <;> first | omega | exact absurd ae (by assumption) | rfl | (rw[if_neg hx,if_neg hy];first | done | rfl) | (rw[if_neg hy,if_neg hx];first | done | rfl) | (rw[if_neg hx];first | done | rfl) | (rw[if_neg hy];first | done | rfl)
 ·omega
theorem tk (B LL CC:Nat) (w:World) (h:SR w yb lb cap o c rv l) (az:c.base=B) (aD:B+LL=l.length) (hk:bG o.k=true) (aA:(c.op==2)=false) (bM:c.wr=true→c.rc.length=c.wd) (cJ:c.rc.length≤1000000) (gf:c.i≤8) (_htr:c.tr<1000) (h1:1≤c.wd) (eH:bn o=((1+c.nr:Nat):Int)) (iK:cU o=((c.nr+2:Nat):Int)) (n1:1≤c.nr) (n4:c.nr≤4) (gg:c.rd<c.nr) (bK:1+c.nr+(c.nr+2)*c.wd≤LL) (hB:0≤c.B∧c.B≤c.nr+1) (hq:c.ph≤4) (mr:c.ph=4→c.i<c.wd):Calls Tryz.prog 84 #[.pointer (some ⟨yb,0,none⟩),.slice (some ⟨lb,B,none⟩) LL CC] w (aU yb lb cap o w rv (c.chen l).1 (c.chen l).2 (.tuple #[])):=by
 have pW:1*1≤(c.nr+2)*c.wd:=Nat.mul_le_mul (by omega) h1
 rcases ae:c.ph with _ | _ | _ | _ | _ | n
 ·have hc:=uZ yb lb cap o c rv l B LL CC w h az aD hk ae (by omega);refine aw _ _ _ _ _ ?_ hc;unfold Kc.chen;try dsimp only
  rw[if_neg (by rw[aA];decide)]
  split <;> first | omega | exact absurd ae (by assumption) | rfl
 ·have hc:=vH yb lb cap o c rv l B LL CC w h az aD hk ae (by omega);refine aw _ _ _ _ _ ?_ hc;unfold Kc.chen;try dsimp only
  rw[if_neg (by rw[aA];decide)]
  split <;> first | omega | exact absurd ae (by assumption) | rfl
 ·by_cases hx:c.rdm l (1+c.rd)=(c.nr:Int)+2
  ·have hc:=o6 yb lb cap o c rv l B LL CC w h az aD hk ae hx (by omega);refine aw _ _ _ _ _ ?_ hc;unfold Kc.chen;try dsimp only
   rw[if_neg (by rw[aA];decide)]
   split <;> first | omega | exact absurd ae (by assumption) | rfl | (rw[if_pos hx];first | done | rfl)
  ·have hc:=pr yb lb cap o c rv l B LL CC w h az aD hk ae hx (by omega);refine aw _ _ _ _ _ ?_ hc;unfold Kc.chen;try dsimp only
   rw[if_neg (by rw[aA];decide)]
   split <;> first | omega | exact absurd ae (by assumption) | rfl | (rw[if_neg hx];first | done | rfl)
 ·have hc:=ve yb lb cap o c rv l B LL CC w h az aD hk ae (by omega);refine aw _ _ _ _ _ ?_ hc;unfold Kc.chen;try dsimp only
  rw[if_neg (by rw[aA];decide)]
  split <;> first | omega | exact absurd ae (by assumption) | rfl
 ·have hi:=mr ae;have bH:=cE (k:=c.B.toNat) (n:=c.nr+2) (by omega) hi;have hc:=vx yb lb cap o c rv l B LL CC w h az aD hk ae eH (fun q=>by rw[bM q];exact hi) cJ (by omega) (by omega) ⟨hB.1,by omega⟩;refine aw _ _ _ _ _ ?_ hc;unfold Kc.chen;try dsimp only
  rw[if_neg (by rw[aA];decide)]
  split <;> first | omega | exact absurd ae (by assumption) | rfl
 ·omega
theorem sB (B LL CC:Nat) (w:World) (h:SR w yb lb cap o c rv l) (az:c.base=B) (aD:B+LL=l.length) (hk:bG o.k=true) (aA:(c.op==2)=true) (bM:c.wr=true→c.rc.length=c.wd) (cJ:c.rc.length≤1000000) (gf:c.i≤8) (_htr:c.tr<1000) (h1:1≤c.wd) (eH:bn o=((1:Nat):Int)) (bK:1+c.wd≤LL) (hq:c.ph≤3) (fN:c.ph=2→c.i<c.wd):Calls Tryz.prog 85 #[.pointer (some ⟨yb,0,none⟩),.slice (some ⟨lb,B,none⟩) LL CC] w (aU yb lb cap o w rv (c.seq l).1 (c.seq l).2 (.tuple #[])):=by
 rcases ae:c.ph with _ | _ | _ | _ | n
 ·have hc:=xq yb lb cap o c rv l B LL CC w h az aD hk ae (by omega);refine aw _ _ _ _ _ ?_ hc;unfold Kc.seq;try dsimp only
  rw[if_pos aA]
  split <;> first | omega | exact absurd ae (by assumption) | rfl
 ·have hc:=zt yb lb cap o c rv l B LL CC w h az aD hk ae (by omega);refine aw _ _ _ _ _ ?_ hc;unfold Kc.seq;try dsimp only
  rw[if_pos aA]
  split <;> first | omega | exact absurd ae (by assumption) | rfl
 ·have hi:=fN ae;have hc:=yG yb lb cap o c rv l B LL CC w h az aD hk ae eH (fun q=>by rw[bM q];exact hi) cJ (by omega) (by omega);refine aw _ _ _ _ _ ?_ hc;unfold Kc.seq;try dsimp only
  rw[if_pos aA]
  split <;> first | omega | exact absurd ae (by assumption) | rfl
 ·have hc:=xZ yb lb cap o c rv l B LL CC w h az aD hk ae (by omega);refine aw _ _ _ _ _ ?_ hc;unfold Kc.seq;try dsimp only
  rw[if_pos aA]
  split <;> first | omega | exact absurd ae (by assumption) | rfl
 ·omega
theorem vU (B LL CC:Nat) (w:World) (h:SR w yb lb cap o c rv l) (az:c.base=B) (aD:B+LL=l.length) (hk:bG o.k=true) (aA:(c.op==2)=false) (bM:c.wr=true→c.rc.length=c.wd) (cJ:c.rc.length≤1000000) (gf:c.i≤8) (gU:c.tr<1000) (h1:1≤c.wd) (eH:bn o=((1:Nat):Int)) (bK:1+c.wd≤LL) (hq:c.ph≤2) (dP:c.ph=1→c.i<c.wd):Calls Tryz.prog 86 #[.pointer (some ⟨yb,0,none⟩),.slice (some ⟨lb,B,none⟩) LL CC] w (aU yb lb cap o w rv (c.seq l).1 (c.seq l).2 (.tuple #[])):=by
 rcases ae:c.ph with _ | _ | _ | n
 ·by_cases hx:c.rdm l 0%2=1
  ·by_cases hy:c.cap≤c.tr+1
   ·have hc:=kD yb lb cap o c rv l B LL CC w h az aD hk ae gU (by omega) hx hy;refine aw _ _ _ _ _ ?_ hc;unfold Kc.seq;try dsimp only
    rw[if_neg (by rw[aA];decide)]
    split <;> first | omega | exact absurd ae (by assumption) | rfl | (rw[if_pos hx,if_pos hy];first | done | rfl) | (rw[if_pos hy,if_pos hx];first | done | rfl) | (rw[if_pos hx];first | done | rfl) | (rw[if_pos hy];first | done | rfl)
   ·have hc:=pj yb lb cap o c rv l B LL CC w h az aD hk ae gU (by omega) hx hy;refine aw _ _ _ _ _ ?_ hc;unfold Kc.seq;try dsimp only
    rw[if_neg (by rw[aA];decide)]
    split <;> first | omega | exact absurd ae (by assumption) | rfl | (rw[if_pos hx,if_neg hy];first | done | rfl) | (rw[if_neg hy,if_pos hx];first | done | rfl) | (rw[if_pos hx];first | done | rfl) | (rw[if_neg hy];first | done | rfl)
  ·have hc:=nQ yb lb cap o c rv l B LL CC w h az aD hk ae gU (by omega) hx;refine aw _ _ _ _ _ ?_ hc;unfold Kc.seq;try dsimp only
   rw[if_neg (by rw[aA];decide)]
   split <;> first | omega | exact absurd ae (by assumption) | rfl | (rw[if_neg hx];first | done | rfl)
 ·have hi:=dP ae;have hc:=zN yb lb cap o c rv l B LL CC w h az aD hk ae eH (fun q=>by rw[bM q];exact hi) cJ (by omega) (by omega);refine aw _ _ _ _ _ ?_ hc;unfold Kc.seq;try dsimp only
  rw[if_neg (by rw[aA];decide)]
  split <;> first | omega | exact absurd ae (by assumption) | rfl
 ·by_cases hx:c.rdm l 0=c.A
  ·have hc:=ny yb lb cap o c rv l B LL CC w h az aD hk ae gU (by omega) hx;refine aw _ _ _ _ _ ?_ hc;unfold Kc.seq;try dsimp only
   rw[if_neg (by rw[aA];decide)]
   split <;> first | omega | exact absurd ae (by assumption) | rfl | (rw[if_pos hx];first | done | rfl)
  ·by_cases hy:c.cap≤c.tr+1
   ·have hc:=jh yb lb cap o c rv l B LL CC w h az aD hk ae gU (by omega) hx hy;refine aw _ _ _ _ _ ?_ hc;unfold Kc.seq;try dsimp only
    rw[if_neg (by rw[aA];decide)]
    split <;> first | omega | exact absurd ae (by assumption) | rfl | (rw[if_neg hx,if_pos hy];first | done | rfl) | (rw[if_pos hy,if_neg hx];first | done | rfl) | (rw[if_neg hx];first | done | rfl) | (rw[if_pos hy];first | done | rfl)
   ·have hc:=me yb lb cap o c rv l B LL CC w h az aD hk ae gU (by omega) hx hy;refine aw _ _ _ _ _ ?_ hc;unfold Kc.seq;try dsimp only
    rw[if_neg (by rw[aA];decide)]
    split <;> first | omega | exact absurd ae (by assumption) | rfl | (rw[if_neg hx,if_neg hy];first | done | rfl) | (rw[if_neg hy,if_neg hx];first | done | rfl) | (rw[if_neg hx];first | done | rfl) | (rw[if_neg hy];first | done | rfl)
 ·omega
theorem rI (B LL CC:Nat) (w:World) (h:SR w yb lb cap o c rv l) (az:c.base=B) (aD:B+LL=l.length) (hk:bG o.k=true) (aA:(c.op==2)=true) (bM:c.wr=true→c.rc.length=c.wd) (cJ:c.rc.length≤1000000) (gf:c.i≤8) (_htr:c.tr<1000) (_h1:1≤c.wd) (eH:bn o=((1:Nat):Int)) (hs:1≤c.sl) (bK:1+c.sl*c.wd≤LL) (hq:c.ph≤2) (dP:c.ph=1→c.i<c.wd):Calls Tryz.prog 87 #[.pointer (some ⟨yb,0,none⟩),.slice (some ⟨lb,B,none⟩) LL CC,.bool true] w (aU yb lb cap o w rv (c.ringR' l).1 (c.ringR' l).2 (.tuple #[])):=by
 rcases ae:c.ph with _ | _ | _ | n
 ·have hc:=vo yb lb cap o c rv l B LL CC w h az aD hk ae hs (by omega);refine aw _ _ _ _ _ ?_ hc;unfold Kc.ringR';try dsimp only
  try simp only[aA,if_true]
  split <;> first | omega | exact absurd ae (by assumption) | rfl
 ·have hi:=dP ae;have zS:=Int.emod_nonneg c.A (show(c.sl:Int)≠0 by omega);have ul:=Int.emod_lt_of_pos c.A (show(0:Int)<(c.sl:Int) by omega);have bH:=cE (k:=(c.A%c.sl).toNat) (n:=c.sl) (by omega) hi;have hc:=vJ yb lb cap o c rv l B LL CC w h az aD hk ae eH (fun q=>by rw[bM q];exact hi) cJ (by omega) (by omega) hs;refine aw _ _ _ _ _ ?_ hc;unfold Kc.ringR';try dsimp only
  try simp only[aA,if_true]
  split <;> first | omega | exact absurd ae (by assumption) | rfl
 ·have hc:=ww yb lb cap o c rv l B LL CC w h az aD hk ae hs (by omega);refine aw _ _ _ _ _ ?_ hc;unfold Kc.ringR';try dsimp only
  try simp only[aA,if_true]
  split <;> first | omega | exact absurd ae (by assumption) | rfl
 ·omega
theorem tA (B LL CC:Nat) (w:World) (h:SR w yb lb cap o c rv l) (az:c.base=B) (aD:B+LL=l.length) (hk:bG o.k=true) (aA:(c.op==2)=false) (bM:c.wr=true→c.rc.length=c.wd) (cJ:c.rc.length≤1000000) (gf:c.i≤8) (gU:c.tr<1000) (_h1:1≤c.wd) (eH:bn o=((1:Nat):Int)) (hs:1≤c.sl) (bK:1+c.sl*c.wd≤LL) (hq:c.ph≤2) (dP:c.ph=1→c.i<c.wd):Calls Tryz.prog 87 #[.pointer (some ⟨yb,0,none⟩),.slice (some ⟨lb,B,none⟩) LL CC,.bool false] w (aU yb lb cap o w rv (c.ringR' l).1 (c.ringR' l).2 (.tuple #[])):=by
 rcases ae:c.ph with _ | _ | _ | n
 ·have hc:=wH yb lb cap o c rv l B LL CC w h az aD hk ae hs (by omega);refine aw _ _ _ _ _ ?_ hc;unfold Kc.ringR';try dsimp only
  try simp only[aA,Bool.false_eq_true,if_false]
  split <;> first | omega | exact absurd ae (by assumption) | rfl
 ·have hi:=dP ae;have zS:=Int.emod_nonneg c.A (show(c.sl:Int)≠0 by omega);have ul:=Int.emod_lt_of_pos c.A (show(0:Int)<(c.sl:Int) by omega);have bH:=cE (k:=(c.A%c.sl).toNat) (n:=c.sl) (by omega) hi;have hc:=vk yb lb cap o c rv l B LL CC w h az aD hk ae eH (fun q=>by rw[bM q];exact hi) cJ (by omega) (by omega) hs;refine aw _ _ _ _ _ ?_ hc;unfold Kc.ringR';try dsimp only
  try simp only[aA,Bool.false_eq_true,if_false]
  split <;> first | omega | exact absurd ae (by assumption) | rfl
 ·by_cases hx:Kc.gapR c.A (c.rdm l 0) ((c.sl:Int)*1048576)+1<(c.sl:Int)
  ·have hc:=pu yb lb cap o c rv l B LL CC w h az aD hk ae hs gU (by omega) hx;refine aw _ _ _ _ _ ?_ hc;unfold Kc.ringR';try dsimp only
   try simp only[aA,Bool.false_eq_true,if_false]
   split <;> first | omega | exact absurd ae (by assumption) | rfl | (rw[if_pos hx];first | done | rfl)
  ·by_cases hy:c.cap≤c.tr+1
   ·have hc:=mM yb lb cap o c rv l B LL CC w h az aD hk ae hs gU (by omega) hx hy;refine aw _ _ _ _ _ ?_ hc;unfold Kc.ringR';try dsimp only
    try simp only[aA,Bool.false_eq_true,if_false]
    split <;> first | omega | exact absurd ae (by assumption) | rfl | (rw[if_neg hx,if_pos hy];first | done | rfl) | (rw[if_pos hy,if_neg hx];first | done | rfl) | (rw[if_neg hx];first | done | rfl) | (rw[if_pos hy];first | done | rfl)
   ·have hc:=lp yb lb cap o c rv l B LL CC w h az aD hk ae hs gU (by omega) hx hy;refine aw _ _ _ _ _ ?_ hc;unfold Kc.ringR';try dsimp only
    try simp only[aA,Bool.false_eq_true,if_false]
    split <;> first | omega | exact absurd ae (by assumption) | rfl | (rw[if_neg hx,if_neg hy];first | done | rfl) | (rw[if_neg hy,if_neg hx];first | done | rfl) | (rw[if_neg hx];first | done | rfl) | (rw[if_neg hy];first | done | rfl)
 ·omega
theorem tK (B LL CC:Nat) (w:World) (h:SR w yb lb cap o c rv l) (az:c.base=B) (aD:B+LL=l.length) (hk:bG o.k=true) (bM:c.wr=true→c.rc.length=c.wd) (cJ:c.rc.length≤1000000) (gf:c.i≤8) (_htr:c.tr<1000) (h1:1≤c.wd) (eH:bn o=((1+c.nr:Nat):Int)) (iK:cU o=((c.sl:Nat):Int)) (n1:1≤c.nr) (n4:c.nr≤4) (gg:c.rd<c.nr) (kf:c.nr+2≤c.sl) (gl:c.sl≤16) (bK:1+c.nr+c.sl*c.wd≤LL) (hB:0≤c.B∧c.B≤16) (C3:c.B<c.sl) (hq:c.ph≤3) (dP:c.ph=1→c.i<c.nr) (fN:c.ph=2→c.i<c.wd):Calls Tryz.prog 88 #[.pointer (some ⟨yb,0,none⟩),.slice (some ⟨lb,B,none⟩) LL CC] w (aU yb lb cap o w rv (c.cabWriteR l).1 (c.cabWriteR l).2 (.tuple #[])):=by
 have pW:1*1≤c.sl*c.wd:=Nat.mul_le_mul (by omega) h1;have hs:1≤c.sl:=by omega
 rcases ae:c.ph with _ | _ | _ | _ | n
 ·have hc:=yk yb lb cap o c rv l B LL CC w h az aD hk ae iK hs (by omega);refine aw _ _ _ _ _ ?_ hc;unfold Kc.cabWriteR;try dsimp only
  split <;> first | omega | exact absurd ae (by assumption) | rfl
 ·by_cases hx:c.nr≤c.i+1
  ·by_cases hy:0<c.rdm l (1+c.i)
   ·have hi:=dP ae;have hc:=kL yb lb cap o c rv l B LL CC w h az aD hk ae iK (dP ae) hx hy (by omega);refine aw _ _ _ _ _ ?_ hc;unfold Kc.cabWriteR;try dsimp only
    split <;> first | omega | exact absurd ae (by assumption) | rfl | (rw[if_pos hx,if_pos hy];first | done | rfl) | (rw[if_pos hy,if_pos hx];first | done | rfl) | (rw[if_pos hx];first | done | rfl) | (rw[if_pos hy];first | done | rfl)
   ·have hi:=dP ae;have hc:=kr yb lb cap o c rv l B LL CC w h az aD hk ae iK (dP ae) hx hy (by omega);refine aw _ _ _ _ _ ?_ hc;unfold Kc.cabWriteR;try dsimp only
    split <;> first | omega | exact absurd ae (by assumption) | rfl | (rw[if_pos hx,if_neg hy];first | done | rfl) | (rw[if_neg hy,if_pos hx];first | done | rfl) | (rw[if_pos hx];first | done | rfl) | (rw[if_neg hy];first | done | rfl)
  ·by_cases hy:0<c.rdm l (1+c.i)
   ·have hi:=dP ae;have hc:=kt yb lb cap o c rv l B LL CC w h az aD hk ae iK (dP ae) hx hy (by omega);refine aw _ _ _ _ _ ?_ hc;unfold Kc.cabWriteR;try dsimp only
    split <;> first | omega | exact absurd ae (by assumption) | rfl | (rw[if_neg hx,if_pos hy];first | done | rfl) | (rw[if_pos hy,if_neg hx];first | done | rfl) | (rw[if_neg hx];first | done | rfl) | (rw[if_pos hy];first | done | rfl)
   ·have hi:=dP ae;have hc:=kq yb lb cap o c rv l B LL CC w h az aD hk ae iK (dP ae) hx hy (by omega);refine aw _ _ _ _ _ ?_ hc;unfold Kc.cabWriteR;try dsimp only
    split <;> first | omega | exact absurd ae (by assumption) | rfl | (rw[if_neg hx,if_neg hy];first | done | rfl) | (rw[if_neg hy,if_neg hx];first | done | rfl) | (rw[if_neg hx];first | done | rfl) | (rw[if_neg hy];first | done | rfl)
 ·have hi:=fN ae;have bH:=cE (k:=c.B.toNat) (n:=c.sl) (by omega) hi;have hc:=yK yb lb cap o c rv l B LL CC w h az aD hk ae eH (fun q=>by rw[bM q];exact hi) cJ (by omega) (by omega) ⟨hB.1,by omega⟩;refine aw _ _ _ _ _ ?_ hc;unfold Kc.cabWriteR;try dsimp only
  split <;> first | omega | exact absurd ae (by assumption) | rfl
 ·have hc:=zJ yb lb cap o c rv l B LL CC w h az aD hk ae (by omega);refine aw _ _ _ _ _ ?_ hc;unfold Kc.cabWriteR;try dsimp only
  split <;> first | omega | exact absurd ae (by assumption) | rfl
 ·omega
theorem v6 (B LL CC:Nat) (w:World) (h:SR w yb lb cap o c rv l) (az:c.base=B) (aD:B+LL=l.length) (hk:bG o.k=true) (bM:c.wr=true→c.rc.length=c.wd) (cJ:c.rc.length≤1000000) (gf:c.i≤8) (gU:c.tr<1000) (h1:1≤c.wd) (eH:bn o=((1+c.nr:Nat):Int)) (_hRz:cU o=((c.sl:Nat):Int)) (n1:1≤c.nr) (n4:c.nr≤4) (gg:c.rd<c.nr) (kf:c.nr+2≤c.sl) (gl:c.sl≤16) (bK:1+c.nr+c.sl*c.wd≤LL) (hA:0≤c.A∧c.A<c.sl) (hq:c.ph≤5) (xO:c.ph=3→c.i<c.wd):Calls Tryz.prog 89 #[.pointer (some ⟨yb,0,none⟩),.slice (some ⟨lb,B,none⟩) LL CC] w (aU yb lb cap o w rv (c.cabReadR l).1 (c.cabReadR l).2 (.tuple #[])):=by
 have pW:1*1≤c.sl*c.wd:=Nat.mul_le_mul (by omega) h1;have hs:1≤c.sl:=by omega
 rcases ae:c.ph with _ | _ | _ | _ | _ | _ | n
 ·have hc:=yM yb lb cap o c rv l B LL CC w h az aD hk ae hs (by omega);refine aw _ _ _ _ _ ?_ hc;unfold Kc.cabReadR;try dsimp only
  split <;> first | omega | exact absurd ae (by assumption) | rfl
 ·have hc:=yu yb lb cap o c rv l B LL CC w h az aD hk ae hs (by omega) (by omega);refine aw _ _ _ _ _ ?_ hc;unfold Kc.cabReadR;try dsimp only
  split <;> first | omega | exact absurd ae (by assumption) | rfl
 ·by_cases hx:c.rdm l 0%(c.sl:Int)=c.A
  ·have hc:=nC yb lb cap o c rv l B LL CC w h az aD hk ae hs (by omega) gU hx;refine aw _ _ _ _ _ ?_ hc;unfold Kc.cabReadR;try dsimp only
   split <;> first | omega | exact absurd ae (by assumption) | rfl | (rw[if_pos hx];first | done | rfl)
  ·by_cases hy:c.cap≤c.tr+1
   ·have hc:=nu yb lb cap o c rv l B LL CC w h az aD hk ae hs (by omega) gU hx hy;refine aw _ _ _ _ _ ?_ hc;unfold Kc.cabReadR;try dsimp only
    split <;> first | omega | exact absurd ae (by assumption) | rfl | (rw[if_neg hx,if_pos hy];first | done | rfl) | (rw[if_pos hy,if_neg hx];first | done | rfl) | (rw[if_neg hx];first | done | rfl) | (rw[if_pos hy];first | done | rfl)
   ·have hc:=mO yb lb cap o c rv l B LL CC w h az aD hk ae hs (by omega) gU hx hy;refine aw _ _ _ _ _ ?_ hc;unfold Kc.cabReadR;try dsimp only
    split <;> first | omega | exact absurd ae (by assumption) | rfl | (rw[if_neg hx,if_neg hy];first | done | rfl) | (rw[if_neg hy,if_neg hx];first | done | rfl) | (rw[if_neg hx];first | done | rfl) | (rw[if_neg hy];first | done | rfl)
 ·have hi:=xO ae;have bH:=cE (k:=c.A.toNat) (n:=c.sl) (by omega) hi;have hc:=yT yb lb cap o c rv l B LL CC w h az aD hk ae eH (fun q=>by rw[bM q];exact hi) cJ (by omega) (by omega) hs (by omega) ⟨hA.1,by omega⟩;refine aw _ _ _ _ _ ?_ hc;unfold Kc.cabReadR;try dsimp only
  split <;> first | omega | exact absurd ae (by assumption) | rfl
 ·have hc:=yW yb lb cap o c rv l B LL CC w h az aD hk ae hs (by omega) (by omega);refine aw _ _ _ _ _ ?_ hc;unfold Kc.cabReadR;try dsimp only
  split <;> first | omega | exact absurd ae (by assumption) | rfl
 ·have hc:=zg yb lb cap o c rv l B LL CC w h az aD hk ae hs (by omega) (by omega);refine aw _ _ _ _ _ ?_ hc;unfold Kc.cabReadR;try dsimp only
  split <;> first | omega | exact absurd ae (by assumption) | rfl
 ·omega
theorem vG (B LL CC:Nat) (w:World) (h:SR w yb lb cap o c rv l) (az:c.base=B) (aD:B+LL=l.length) (hk:bG o.k=true) (aA:(c.op==3)=true) (bM:c.wr=true→c.rc.length=c.wd) (cJ:c.rc.length≤1000000) (gf:c.i≤8) (_htr:c.tr<1000) (_h1:1≤c.wd) (eH:bn o=((2:Nat):Int)) (hs:1≤c.sl) (bK:2+c.sl*c.wd≤LL) (hq:c.ph≤3) (dP:c.ph=2→c.i<c.wd):Calls Tryz.prog 90 #[.pointer (some ⟨yb,0,none⟩),.slice (some ⟨lb,B,none⟩) LL CC,.bool true] w (aU yb lb cap o w rv (c.fifoR' l).1 (c.fifoR' l).2 (.tuple #[])):=by
 rcases ae:c.ph with _ | _ | _ | _ | n
 ·have hc:=vz yb lb cap o c rv l B LL CC w h az aD hk ae hs (by omega);refine aw _ _ _ _ _ ?_ hc;unfold Kc.fifoR';try dsimp only
  try simp only[aA,if_true,Bool.false_eq_true,if_false,Bool.true_and,Bool.false_and,Bool.not_true,decide_eq_true_eq]
  split <;> first | omega | exact absurd ae (by assumption) | rfl
 ·by_cases hx:Kc.gapR (c.rdm l 0) c.A (2*(c.sl:Int))≥(c.sl:Int)
  ·have hc:=mG yb lb cap o c rv l B LL CC w h az aD hk ae hs (by omega) hx;refine aw _ _ _ _ _ ?_ hc;unfold Kc.fifoR';try dsimp only
   try simp only[aA,if_true,Bool.false_eq_true,if_false,Bool.true_and,Bool.false_and,Bool.not_true,decide_eq_true_eq]
   split <;> first | omega | exact absurd ae (by assumption) | rfl | (rw[if_pos hx];first | done | rfl)
  ·have hc:=oG yb lb cap o c rv l B LL CC w h az aD hk ae hs (by omega) hx;refine aw _ _ _ _ _ ?_ hc;unfold Kc.fifoR';try dsimp only
   try simp only[aA,if_true,Bool.false_eq_true,if_false,Bool.true_and,Bool.false_and,Bool.not_true,decide_eq_true_eq]
   split <;> first | omega | exact absurd ae (by assumption) | rfl | (rw[if_neg hx];first | done | rfl)
 ·have hi:=dP ae;have zS:=Int.emod_nonneg c.A (show(c.sl:Int)≠0 by omega);have ul:=Int.emod_lt_of_pos c.A (show(0:Int)<(c.sl:Int) by omega);have bH:=cE (k:=(c.A%c.sl).toNat) (n:=c.sl) (by omega) hi;have hc:=vF yb lb cap o c rv l B LL CC w h az aD hk ae eH (fun q=>by rw[bM q];exact hi) cJ (by omega) (by omega) hs;refine aw _ _ _ _ _ ?_ hc;unfold Kc.fifoR';try dsimp only
  try simp only[aA,if_true,Bool.false_eq_true,if_false,Bool.true_and,Bool.false_and,Bool.not_true,decide_eq_true_eq]
  split <;> first | omega | exact absurd ae (by assumption) | rfl
 ·have hc:=vV yb lb cap o c rv l B LL CC w h az aD hk ae hs (by omega);refine aw _ _ _ _ _ ?_ hc;unfold Kc.fifoR';try dsimp only
  try simp only[aA,if_true,Bool.false_eq_true,if_false,Bool.true_and,Bool.false_and,Bool.not_true,decide_eq_true_eq]
  split <;> first | omega | exact absurd ae (by assumption) | rfl
 ·omega
theorem sq (B LL CC:Nat) (w:World) (h:SR w yb lb cap o c rv l) (az:c.base=B) (aD:B+LL=l.length) (hk:bG o.k=true) (aA:(c.op==3)=false) (bM:c.wr=true→c.rc.length=c.wd) (cJ:c.rc.length≤1000000) (gf:c.i≤8) (_htr:c.tr<1000) (_h1:1≤c.wd) (eH:bn o=((2:Nat):Int)) (hs:1≤c.sl) (bK:2+c.sl*c.wd≤LL) (hq:c.ph≤3) (dP:c.ph=2→c.i<c.wd):Calls Tryz.prog 90 #[.pointer (some ⟨yb,0,none⟩),.slice (some ⟨lb,B,none⟩) LL CC,.bool false] w (aU yb lb cap o w rv (c.fifoR' l).1 (c.fifoR' l).2 (.tuple #[])):=by
 rcases ae:c.ph with _ | _ | _ | _ | n
 ·have hc:=vd yb lb cap o c rv l B LL CC w h az aD hk ae hs (by omega);refine aw _ _ _ _ _ ?_ hc;unfold Kc.fifoR';try dsimp only
  try simp only[aA,Bool.false_eq_true,if_false,Bool.true_and,Bool.false_and,Bool.not_false,decide_eq_true_eq]
  split <;> first | omega | exact absurd ae (by assumption) | rfl
 ·by_cases hx:Kc.gapR c.A (c.rdm l 1) (2*(c.sl:Int))=0
  ·have hc:=mY yb lb cap o c rv l B LL CC w h az aD hk ae hs (by omega) hx;refine aw _ _ _ _ _ ?_ hc;unfold Kc.fifoR';try dsimp only
   try simp only[aA,Bool.false_eq_true,if_false,Bool.true_and,Bool.false_and,Bool.not_false,decide_eq_true_eq]
   split <;> first | omega | exact absurd ae (by assumption) | rfl | (rw[if_pos hx];first | done | rfl)
  ·have hc:=pC yb lb cap o c rv l B LL CC w h az aD hk ae hs (by omega) hx;refine aw _ _ _ _ _ ?_ hc;unfold Kc.fifoR';try dsimp only
   try simp only[aA,Bool.false_eq_true,if_false,Bool.true_and,Bool.false_and,Bool.not_false,decide_eq_true_eq]
   split <;> first | omega | exact absurd ae (by assumption) | rfl | (rw[if_neg hx];first | done | rfl)
 ·have hi:=dP ae;have zS:=Int.emod_nonneg c.A (show(c.sl:Int)≠0 by omega);have ul:=Int.emod_lt_of_pos c.A (show(0:Int)<(c.sl:Int) by omega);have bH:=cE (k:=(c.A%c.sl).toNat) (n:=c.sl) (by omega) hi;have hc:=wW yb lb cap o c rv l B LL CC w h az aD hk ae eH (fun q=>by rw[bM q];exact hi) cJ (by omega) (by omega) hs;refine aw _ _ _ _ _ ?_ hc;unfold Kc.fifoR';try dsimp only
  try simp only[aA,Bool.false_eq_true,if_false,Bool.true_and,Bool.false_and,Bool.not_false,decide_eq_true_eq]
  split <;> first | omega | exact absurd ae (by assumption) | rfl
 ·have hc:=uW yb lb cap o c rv l B LL CC w h az aD hk ae hs (by omega);refine aw _ _ _ _ _ ?_ hc;unfold Kc.fifoR';try dsimp only
  try simp only[aA,Bool.false_eq_true,if_false,Bool.true_and,Bool.false_and,Bool.not_false,decide_eq_true_eq]
  split <;> first | omega | exact absurd ae (by assumption) | rfl
 ·omega
end
end Go.Proofs.YtolmpehgeinlkaaGreatDoor
