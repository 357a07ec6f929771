/- One step of each kind: what the program's step computes. -/
import Derived.Test.YtolmpehgeinlkaaGreatDoorZcOgL
import Derived.Test.YtolmpehgeinlkaaGreatDoorZcI
namespace Go.Proofs.YtolmpehgeinlkaaGreatDoor
open Go.RowKit
set_option maxHeartbeats 1000000
set_option maxRecDepth 100000
theorem cE {k n wd i:Nat} (hk:k<n) (hi:i<wd):k*wd+i<n*wd:=by
 have h:(k+1)*wd≤n*wd:=Nat.mul_le_mul_right wd hk;rw[Nat.add_mul] at h;omega
section
variable (sb mb lb:Nat) (ty:TypeId) (o:Ob) (c:Kc) (rv:Value) (l:List Int)
theorem aL {sb mb lb:Nat} {ty:TypeId} {o:Ob} {w:World} {rv:Value} {d:Kc × List Int} {c':Kc} {l':List Int} {v:Value} {P:Program} {f:FuncId} {args:Array Value} (hd:d=(c',l')) (h:Calls P f args w (Did sb mb lb ty o w rv c' l' v)):Calls P f args w (Did sb mb lb ty o w rv d.1 d.2 v):=by
 subst hd;exact h
theorem ru (w:World) (h:St w sb mb lb ty o c rv l) (aA:(c.op==2)=true) (hg:Kc.Gen 1 c) (hd:Kc.D1 c) (ho:c.over=false) (h1:1≤c.wd) (h8:c.wd≤8) (dQ:c.steps≤1000) (bK:c.base+(4+4*c.wd)≤l.length):Calls Tryz.prog 139 #[.pointer (some ⟨sb,0,none⟩)] w (Did sb mb lb ty o w rv (c.four l).1 (c.four l).2 (.tuple #[])):=by
 have bA:=h.mem.len;have cJ:c.rc.length≤1000000:=by have:=hg.rcl;omega
 have gf:=hg.i8;have gU:c.tr<1000:=by have:=hg.tr;omega
 have bM:c.wr=true→c.rc.length=c.wd:=fun q=>hg.wrl q ho
 obtain⟨hA,hB,hp⟩:=hd;obtain⟨hq,fN⟩:=(hp ho).1 aA;have nj:c.A.toNat≤1:=by omega
 rcases ae:c.ph with _ | _ | _ | _ | _ | n
 ·have hc:=B8 sb mb lb ty o c rv l w h ae (by omega);refine aL ?_ hc;unfold Kc.four;try dsimp only
  rw[if_pos aA]
  split <;> first | omega | exact absurd ae (by assumption) | rfl
 ·have hc:=B6 sb mb lb ty o c rv l w h ae hA (by omega);refine aL ?_ hc;unfold Kc.four;try dsimp only
  rw[if_pos aA]
  split <;> first | omega | exact absurd ae (by assumption) | rfl
 ·have hi:=fN ae;have bH:=cE (k:=(2*c.A+c.B).toNat) (n:=4) (by omega) hi;have hc:=Be sb mb lb ty o c rv l w h ae hA hB (fun q=>by rw[bM q];exact hi) cJ (by omega) (by omega) (by omega);refine aL ?_ hc;unfold Kc.four;try dsimp only
  rw[if_pos aA]
  split <;> first | omega | exact absurd ae (by assumption) | rfl
 ·have hc:=BY sb mb lb ty o c rv l w h ae hA (by omega);refine aL ?_ hc;unfold Kc.four;try dsimp only
  rw[if_pos aA]
  split <;> first | omega | exact absurd ae (by assumption) | rfl
 ·have hc:=Ax sb mb lb ty o c rv l w h ae (by omega);refine aL ?_ hc;unfold Kc.four;try dsimp only
  rw[if_pos aA]
  split <;> first | omega | exact absurd ae (by assumption) | rfl
 ·omega
theorem tD (w:World) (h:St w sb mb lb ty o c rv l) (aA:(c.op==2)=false) (hg:Kc.Gen 1 c) (hd:Kc.D1 c) (ho:c.over=false) (h1:1≤c.wd) (h8:c.wd≤8) (dQ:c.steps≤1000) (bK:c.base+(4+4*c.wd)≤l.length):Calls Tryz.prog 140 #[.pointer (some ⟨sb,0,none⟩)] w (Did sb mb lb ty o w rv (c.four l).1 (c.four l).2 (.tuple #[])):=by
 have bA:=h.mem.len;have cJ:c.rc.length≤1000000:=by have:=hg.rcl;omega
 have gf:=hg.i8;have gU:c.tr<1000:=by have:=hg.tr;omega
 have bM:c.wr=true→c.rc.length=c.wd:=fun q=>hg.wrl q ho
 obtain⟨hA,hB,hp⟩:=hd;obtain⟨hq,fN⟩:=(hp ho).2 aA;have nj:c.A.toNat≤1:=by omega
 rcases ae:c.ph with _ | _ | _ | _ | n
 ·have hc:=B5 sb mb lb ty o c rv l w h ae (by omega);refine aL ?_ hc;unfold Kc.four;try dsimp only
  rw[if_neg (by rw[aA];decide)]
  split <;> first | omega | exact absurd ae (by assumption) | rfl
 ·have hc:=AG sb mb lb ty o c rv l w h ae (by omega);refine aL ?_ hc;unfold Kc.four;try dsimp only
  rw[if_neg (by rw[aA];decide)]
  split <;> first | omega | exact absurd ae (by assumption) | rfl
 ·have hc:=AQ sb mb lb ty o c rv l w h ae hA (by omega);refine aL ?_ hc;unfold Kc.four;try dsimp only
  rw[if_neg (by rw[aA];decide)]
  split <;> first | omega | exact absurd ae (by assumption) | rfl
 ·have hi:=fN ae;have bH:=cE (k:=(2*c.A+c.B).toNat) (n:=4) (by omega) hi;have hc:=AZ sb mb lb ty o c rv l w h ae hA hB (fun q=>by rw[bM q];exact hi) cJ (by omega) (by omega) (by omega);refine aL ?_ hc;unfold Kc.four;try dsimp only
  rw[if_neg (by rw[aA];decide)]
  split <;> first | omega | exact absurd ae (by assumption) | rfl
 ·omega
theorem qZ (w:World) (h:St w sb mb lb ty o c rv l) (aA:(c.op==2)=true) (hg:Kc.Gen 1 c) (hd:Kc.D2 c) (ho:c.over=false) (h1:1≤c.wd) (h8:c.wd≤8) (dQ:c.steps≤1000) (n1:1≤c.nr) (n4:c.nr≤4) (gg:c.rd<c.nr) (bK:c.base+(1+c.nr+(c.nr+2)*c.wd)≤l.length) (hT:Tab64 w) (hn:¬ fp sb mb lb rv 0):Calls Tryz.prog 141 #[.pointer (some ⟨sb,0,none⟩)] w (Did sb mb lb ty o w rv (c.chen l).1 (c.chen l).2 (.tuple #[])):=by
 have bA:=h.mem.len;have cJ:c.rc.length≤1000000:=by have:=hg.rcl;omega
 have gf:=hg.i8;have gU:c.tr<1000:=by have:=hg.tr;omega
 have bM:c.wr=true→c.rc.length=c.wd:=fun q=>hg.wrl q ho
 obtain⟨hA,hB,hp⟩:=hd;obtain⟨hq,jJ,Dr,dP,fN,mr⟩:=(hp ho).1 aA;have pW:1*1≤(c.nr+2)*c.wd:=Nat.mul_le_mul (by omega) h1
 rcases ae:c.ph with _ | _ | _ | _ | _ | n
 ·have hc:=AL sb mb lb ty o c rv l w h ae (by omega);refine aL ?_ hc;unfold Kc.chen;try dsimp only
  rw[if_pos aA]
  split <;> first | omega | exact absurd ae (by assumption) | rfl
 ·by_cases hx:c.nr≤c.i+1
  ·have hi:=dP ae;have hc:=px sb mb lb ty o c rv l w h ae (by omega) hT hn hx (by omega);refine aL ?_ hc;unfold Kc.chen;try dsimp only
   rw[if_pos aA]
   split <;> first | omega | exact absurd ae (by assumption) | rfl | (rw[if_pos hx];first | done | rfl)
  ·have hi:=dP ae;have hc:=oZ sb mb lb ty o c rv l w h ae (by omega) hT hn hx (by omega);refine aL ?_ hc;unfold Kc.chen;try dsimp only
   rw[if_pos aA]
   split <;> first | omega | exact absurd ae (by assumption) | rfl | (rw[if_neg hx];first | done | rfl)
 ·have hi:=fN ae;have bH:=cE (k:=c.B.toNat) (n:=c.nr+2) (by omega) hi;have hc:=BU sb mb lb ty o c rv l w h ae ⟨hB.1,by omega⟩ (fun q=>by rw[bM q];exact hi) cJ (by omega) (by omega) (by omega);refine aL ?_ hc;unfold Kc.chen;try dsimp only
  rw[if_pos aA]
  split <;> first | omega | exact absurd ae (by assumption) | rfl
 ·have hc:=Ba sb mb lb ty o c rv l w h ae (by omega);refine aL ?_ hc;unfold Kc.chen;try dsimp only
  rw[if_pos aA]
  split <;> first | omega | exact absurd ae (by assumption) | rfl
 ·by_cases hx:c.nr≤c.i+1
  ·have hi:=mr ae;have hc:=oI sb mb lb ty o c rv l w h ae (by omega) hx (by omega);refine aL ?_ hc;unfold Kc.chen;try dsimp only
   rw[if_pos aA]
   split <;> first | omega | exact absurd ae (by assumption) | rfl | (rw[if_pos hx];first | done | rfl)
  ·have hi:=mr ae;have hc:=oH sb mb lb ty o c rv l w h ae (by omega) hx (by omega);refine aL ?_ hc;unfold Kc.chen;try dsimp only
   rw[if_pos aA]
   split <;> first | omega | exact absurd ae (by assumption) | rfl | (rw[if_neg hx];first | done | rfl)
 ·omega
theorem sO (w:World) (h:St w sb mb lb ty o c rv l) (aA:(c.op==2)=false) (hg:Kc.Gen 1 c) (hd:Kc.D2 c) (ho:c.over=false) (h1:1≤c.wd) (h8:c.wd≤8) (dQ:c.steps≤1000) (n1:1≤c.nr) (n4:c.nr≤4) (gg:c.rd<c.nr) (bK:c.base+(1+c.nr+(c.nr+2)*c.wd)≤l.length):Calls Tryz.prog 142 #[.pointer (some ⟨sb,0,none⟩)] w (Did sb mb lb ty o w rv (c.chen l).1 (c.chen l).2 (.tuple #[])):=by
 have bA:=h.mem.len;have cJ:c.rc.length≤1000000:=by have:=hg.rcl;omega
 have gf:=hg.i8;have gU:c.tr<1000:=by have:=hg.tr;omega
 have bM:c.wr=true→c.rc.length=c.wd:=fun q=>hg.wrl q ho
 obtain⟨hA,hB,hp⟩:=hd;obtain⟨hq,mr⟩:=(hp ho).2 aA;have pW:1*1≤(c.nr+2)*c.wd:=Nat.mul_le_mul (by omega) h1
 rcases ae:c.ph with _ | _ | _ | _ | _ | n
 ·have hc:=BK sb mb lb ty o c rv l w h ae (by omega);refine aL ?_ hc;unfold Kc.chen;try dsimp only
  rw[if_neg (by rw[aA];decide)]
  split <;> first | omega | exact absurd ae (by assumption) | rfl
 ·have hc:=A4 sb mb lb ty o c rv l w h ae (by omega);refine aL ?_ hc;unfold Kc.chen;try dsimp only
  rw[if_neg (by rw[aA];decide)]
  split <;> first | omega | exact absurd ae (by assumption) | rfl
 ·have hc:=Az sb mb lb ty o c rv l w h ae (by omega);refine aL ?_ hc;unfold Kc.chen;try dsimp only
  rw[if_neg (by rw[aA];decide)]
  split <;> first | omega | exact absurd ae (by assumption) | rfl
 ·have hc:=As sb mb lb ty o c rv l w h ae (by omega);refine aL ?_ hc;unfold Kc.chen;try dsimp only
  rw[if_neg (by rw[aA];decide)]
  split <;> first | omega | exact absurd ae (by assumption) | rfl
 ·have hi:=mr ae;have bH:=cE (k:=c.B.toNat) (n:=c.nr+2) (by omega) hi;have hc:=BH sb mb lb ty o c rv l w h ae ⟨hB.1,by omega⟩ (fun q=>by rw[bM q];exact hi) cJ (by omega) (by omega) (by omega);refine aL ?_ hc;unfold Kc.chen;try dsimp only
  rw[if_neg (by rw[aA];decide)]
  split <;> first | omega | exact absurd ae (by assumption) | rfl
 ·omega
theorem tC (w:World) (h:St w sb mb lb ty o c rv l) (aA:(c.op==2)=true) (hg:Kc.Gen 1 c) (hd:Kc.D3 c) (ho:c.over=false) (h1:1≤c.wd) (h8:c.wd≤8) (dQ:c.steps≤1000) (bK:c.base+(1+c.wd)≤l.length):Calls Tryz.prog 143 #[.pointer (some ⟨sb,0,none⟩)] w (Did sb mb lb ty o w rv (c.seq l).1 (c.seq l).2 (.tuple #[])):=by
 have bA:=h.mem.len;have cJ:c.rc.length≤1000000:=by have:=hg.rcl;omega
 have gf:=hg.i8;have gU:c.tr<1000:=by have:=hg.tr;omega
 have bM:c.wr=true→c.rc.length=c.wd:=fun q=>hg.wrl q ho
 obtain⟨hA,hB,hp⟩:=hd;obtain⟨hq,fN⟩:=(hp ho).1 aA
 rcases ae:c.ph with _ | _ | _ | _ | n
 ·have hc:=ET sb mb lb ty o c rv l w h ae (by omega);refine aL ?_ hc;unfold Kc.seq;try dsimp only
  rw[if_pos aA]
  split <;> first | omega | exact absurd ae (by assumption) | rfl
 ·have hc:=Dv sb mb lb ty o c rv l w h ae (by omega);refine aL ?_ hc;unfold Kc.seq;try dsimp only
  rw[if_pos aA]
  split <;> first | omega | exact absurd ae (by assumption) | rfl
 ·have hi:=fN ae;have hc:=Ei sb mb lb ty o c rv l w h ae (fun q=>by rw[bM q];exact hi) cJ (by omega) (by omega) (by omega);refine aL ?_ hc;unfold Kc.seq;try dsimp only
  rw[if_pos aA]
  split <;> first | omega | exact absurd ae (by assumption) | rfl
 ·have hc:=EP sb mb lb ty o c rv l w h ae (by omega);refine aL ?_ hc;unfold Kc.seq;try dsimp only
  rw[if_pos aA]
  split <;> first | omega | exact absurd ae (by assumption) | rfl
 ·omega
theorem wu (w:World) (h:St w sb mb lb ty o c rv l) (aA:(c.op==2)=false) (hg:Kc.Gen 1 c) (hd:Kc.D3 c) (ho:c.over=false) (h1:1≤c.wd) (h8:c.wd≤8) (dQ:c.steps≤1000) (bK:c.base+(1+c.wd)≤l.length):Calls Tryz.prog 144 #[.pointer (some ⟨sb,0,none⟩)] w (Did sb mb lb ty o w rv (c.seq l).1 (c.seq l).2 (.tuple #[])):=by
 have bA:=h.mem.len;have cJ:c.rc.length≤1000000:=by have:=hg.rcl;omega
 have gf:=hg.i8;have gU:c.tr<1000:=by have:=hg.tr;omega
 have bM:c.wr=true→c.rc.length=c.wd:=fun q=>hg.wrl q ho
 obtain⟨hA,hB,hp⟩:=hd;obtain⟨hq,dP⟩:=(hp ho).2 aA
 rcases ae:c.ph with _ | _ | _ | n
 ·by_cases hx:c.rdm l 0%2=1
  ·have hc:=tJ sb mb lb ty o c rv l w h ae gU (by omega) hx;refine aL ?_ hc;unfold Kc.seq;try dsimp only
   rw[if_neg (by rw[aA];decide)]
   split <;> first | omega | exact absurd ae (by assumption) | rfl | (rw[if_pos hx];first | done | rfl)
  ·have hc:=qU sb mb lb ty o c rv l w h ae gU (by omega) hx;refine aL ?_ hc;unfold Kc.seq;try dsimp only
   rw[if_neg (by rw[aA];decide)]
   split <;> first | omega | exact absurd ae (by assumption) | rfl | (rw[if_neg hx];first | done | rfl)
 ·have hi:=dP ae;have hc:=Et sb mb lb ty o c rv l w h ae (fun q=>by rw[bM q];exact hi) cJ (by omega) (by omega) (by omega);refine aL ?_ hc;unfold Kc.seq;try dsimp only
  rw[if_neg (by rw[aA];decide)]
  split <;> first | omega | exact absurd ae (by assumption) | rfl
 ·by_cases hx:c.rdm l 0=c.A
  ·have hc:=qp sb mb lb ty o c rv l w h ae gU (by omega) hx;refine aL ?_ hc;unfold Kc.seq;try dsimp only
   rw[if_neg (by rw[aA];decide)]
   split <;> first | omega | exact absurd ae (by assumption) | rfl | (rw[if_pos hx];first | done | rfl)
  ·have hc:=pl sb mb lb ty o c rv l w h ae gU (by omega) hx;refine aL ?_ hc;unfold Kc.seq;try dsimp only
   rw[if_neg (by rw[aA];decide)]
   split <;> first | omega | exact absurd ae (by assumption) | rfl | (rw[if_neg hx];first | done | rfl)
 ·omega
theorem rL (w:World) (h:St w sb mb lb ty o c rv l) (aA:(c.op==2)=true) (hg:Kc.Gen 1 c) (hd:Kc.D4 c) (ho:c.over=false) (h1:1≤c.wd) (h8:c.wd≤8) (dQ:c.steps≤1000) (hs:2≤c.sl) (bK:c.base+(1+c.sl*c.wd)≤l.length):Calls Tryz.prog 145 #[.pointer (some ⟨sb,0,none⟩)] w (Did sb mb lb ty o w rv (c.ring l).1 (c.ring l).2 (.tuple #[])):=by
 have bA:=h.mem.len;have cJ:c.rc.length≤1000000:=by have:=hg.rcl;omega
 have gf:=hg.i8;have gU:c.tr<1000:=by have:=hg.tr;omega
 have bM:c.wr=true→c.rc.length=c.wd:=fun q=>hg.wrl q ho
 obtain⟨hA,hB,hp⟩:=hd;obtain⟨hq,dP⟩:=hp ho
 rcases ae:c.ph with _ | _ | _ | n
 ·have hc:=At sb mb lb ty o c rv l w h ae hs (by omega);refine aL ?_ hc;unfold Kc.ring;try dsimp only
  try simp only[aA,if_true]
  split <;> first | omega | exact absurd ae (by assumption) | rfl
 ·have hi:=dP ae;have zS:=Int.emod_nonneg c.A (show(c.sl:Int)≠0 by omega);have ul:=Int.emod_lt_of_pos c.A (show(0:Int)<(c.sl:Int) by omega);have bH:=cE (k:=(c.A%c.sl).toNat) (n:=c.sl) (by omega) hi;have hc:=Bn sb mb lb ty o c rv l w h ae hs (fun q=>by rw[bM q];exact hi) cJ (by omega) (by omega) (by omega);refine aL ?_ hc;unfold Kc.ring;try dsimp only
  try simp only[aA,if_true]
  split <;> first | omega | exact absurd ae (by assumption) | rfl
 ·have hc:=B4 sb mb lb ty o c rv l w h ae (by omega);refine aL ?_ hc;unfold Kc.ring;try dsimp only
  try simp only[aA,if_true]
  split <;> first | omega | exact absurd ae (by assumption) | rfl
 ·omega
theorem sX (w:World) (h:St w sb mb lb ty o c rv l) (aA:(c.op==2)=false) (hg:Kc.Gen 1 c) (hd:Kc.D4 c) (ho:c.over=false) (h1:1≤c.wd) (h8:c.wd≤8) (dQ:c.steps≤1000) (hs:2≤c.sl) (bK:c.base+(1+c.sl*c.wd)≤l.length):Calls Tryz.prog 146 #[.pointer (some ⟨sb,0,none⟩)] w (Did sb mb lb ty o w rv (c.ring l).1 (c.ring l).2 (.tuple #[])):=by
 have bA:=h.mem.len;have cJ:c.rc.length≤1000000:=by have:=hg.rcl;omega
 have gf:=hg.i8;have gU:c.tr<1000:=by have:=hg.tr;omega
 have bM:c.wr=true→c.rc.length=c.wd:=fun q=>hg.wrl q ho
 obtain⟨hA,hB,hp⟩:=hd;obtain⟨hq,dP⟩:=hp ho
 rcases ae:c.ph with _ | _ | _ | n
 ·have hc:=Bh sb mb lb ty o c rv l w h ae hs (by omega);refine aL ?_ hc;unfold Kc.ring;try dsimp only
  try simp only[aA,Bool.false_eq_true,if_false]
  split <;> first | omega | exact absurd ae (by assumption) | rfl
 ·have hi:=dP ae;have zS:=Int.emod_nonneg c.A (show(c.sl:Int)≠0 by omega);have ul:=Int.emod_lt_of_pos c.A (show(0:Int)<(c.sl:Int) by omega);have bH:=cE (k:=(c.A%c.sl).toNat) (n:=c.sl) (by omega) hi;have hc:=Bm sb mb lb ty o c rv l w h ae hs (fun q=>by rw[bM q];exact hi) cJ (by omega) (by omega) (by omega);refine aL ?_ hc;unfold Kc.ring;try dsimp only
  try simp only[aA,Bool.false_eq_true,if_false]
  split <;> first | omega | exact absurd ae (by assumption) | rfl
 ·by_cases hx:Kc.gap c.A (c.rdm l 0%((c.sl:Int)*1048576)) ((c.sl:Int)*1048576)<(c.sl:Int) - 1
  ·have hc:=s9 sb mb lb ty o c rv l w h ae hs hA.2 gU (by omega) hx;refine aL ?_ hc;unfold Kc.ring;try dsimp only
   try simp only[aA,Bool.false_eq_true,if_false]
   split <;> first | omega | exact absurd ae (by assumption) | rfl | (rw[if_pos hx];first | done | rfl)
  ·by_cases hy:c.cap≤c.tr+1
   ·have hc:=pd sb mb lb ty o c rv l w h ae hs hA.2 gU (by omega) hx hy;refine aL ?_ hc;unfold Kc.ring;try dsimp only
    try simp only[aA,Bool.false_eq_true,if_false]
    split <;> first | omega | exact absurd ae (by assumption) | rfl | (rw[if_neg hx,if_pos hy];first | done | rfl) | (rw[if_pos hy,if_neg hx];first | done | rfl) | (rw[if_neg hx];first | done | rfl) | (rw[if_pos hy];first | done | rfl)
   ·have hc:=nM sb mb lb ty o c rv l w h ae hs hA.2 gU (by omega) hx hy;refine aL ?_ hc;unfold Kc.ring;try dsimp only
    try simp only[aA,Bool.false_eq_true,if_false]
    split <;> first | omega | exact absurd ae (by assumption) | rfl | (rw[if_neg hx,if_neg hy];first | done | rfl) | (rw[if_neg hy,if_neg hx];first | done | rfl) | (rw[if_neg hx];first | done | rfl) | (rw[if_neg hy];first | done | rfl)
 ·omega
theorem ti (w:World) (h:St w sb mb lb ty o c rv l) (aA:(c.op==2)=true) (hg:Kc.Gen 1 c) (hd:Kc.D5 c) (ho:c.over=false) (h1:1≤c.wd) (h8:c.wd≤8) (dQ:c.steps≤1000) (n1:1≤c.nr) (n4:c.nr≤4) (gg:c.rd<c.nr) (_hs:c.nr+2≤c.sl) (gl:c.sl≤16) (bK:c.base+(1+c.nr+c.sl*c.wd)≤l.length) (hT:Tab64 w) (hn:¬ fp sb mb lb rv 0):Calls Tryz.prog 147 #[.pointer (some ⟨sb,0,none⟩)] w (Did sb mb lb ty o w rv (c.cab l).1 (c.cab l).2 (.tuple #[])):=by
 have bA:=h.mem.len;have cJ:c.rc.length≤1000000:=by have:=hg.rcl;omega
 have gf:=hg.i8;have gU:c.tr<1000:=by have:=hg.tr;omega
 have bM:c.wr=true→c.rc.length=c.wd:=fun q=>hg.wrl q ho
 obtain⟨hA,hB,hp⟩:=hd;obtain⟨C3,hq,jJ,Dr,dP,fN⟩:=(hp ho).1 aA;have pW:1*1≤c.sl*c.wd:=Nat.mul_le_mul (by omega) h1
 rcases ae:c.ph with _ | _ | _ | _ | n
 ·have hc:=DD sb mb lb ty o c rv l w h ae (by omega) (by omega);refine aL ?_ hc;unfold Kc.cab;try dsimp only
  rw[if_pos aA]
  split <;> first | omega | exact absurd ae (by assumption) | rfl
 ·by_cases hx:c.nr≤c.i+1
  ·by_cases hy:0<c.rdm l (1+c.i)
   ·have hi:=dP ae;have hc:=lR sb mb lb ty o c rv l w h ae (by omega) hT hn hx hy (by omega);refine aL ?_ hc;unfold Kc.cab;try dsimp only
    rw[if_pos aA]
    split <;> first | omega | exact absurd ae (by assumption) | rfl | (rw[if_pos hx,if_pos hy];first | done | rfl) | (rw[if_pos hy,if_pos hx];first | done | rfl) | (rw[if_pos hx];first | done | rfl) | (rw[if_pos hy];first | done | rfl)
   ·have hi:=dP ae;have hc:=mK sb mb lb ty o c rv l w h ae (by omega) hT hn hx hy (by omega);refine aL ?_ hc;unfold Kc.cab;try dsimp only
    rw[if_pos aA]
    split <;> first | omega | exact absurd ae (by assumption) | rfl | (rw[if_pos hx,if_neg hy];first | done | rfl) | (rw[if_neg hy,if_pos hx];first | done | rfl) | (rw[if_pos hx];first | done | rfl) | (rw[if_neg hy];first | done | rfl)
  ·by_cases hy:0<c.rdm l (1+c.i)
   ·have hi:=dP ae;have hc:=mE sb mb lb ty o c rv l w h ae (by omega) hT hn hx hy (by omega);refine aL ?_ hc;unfold Kc.cab;try dsimp only
    rw[if_pos aA]
    split <;> first | omega | exact absurd ae (by assumption) | rfl | (rw[if_neg hx,if_pos hy];first | done | rfl) | (rw[if_pos hy,if_neg hx];first | done | rfl) | (rw[if_neg hx];first | done | rfl) | (rw[if_pos hy];first | done | rfl)
   ·have hi:=dP ae;have hc:=m9 sb mb lb ty o c rv l w h ae (by omega) hT hn hx hy (by omega);refine aL ?_ hc;unfold Kc.cab;try dsimp only
    rw[if_pos aA]
    split <;> first | omega | exact absurd ae (by assumption) | rfl | (rw[if_neg hx,if_neg hy];first | done | rfl) | (rw[if_neg hy,if_neg hx];first | done | rfl) | (rw[if_neg hx];first | done | rfl) | (rw[if_neg hy];first | done | rfl)
 ·have hi:=fN ae;have bH:=cE (k:=c.B.toNat) (n:=c.sl) (by omega) hi;have hc:=DM sb mb lb ty o c rv l w h ae ⟨hB.1,by omega⟩ (fun q=>by rw[bM q];exact hi) cJ (by omega) (by omega) (by omega);refine aL ?_ hc;unfold Kc.cab;try dsimp only
  rw[if_pos aA]
  split <;> first | omega | exact absurd ae (by assumption) | rfl
 ·have hc:=ED sb mb lb ty o c rv l w h ae (by omega);refine aL ?_ hc;unfold Kc.cab;try dsimp only
  rw[if_pos aA]
  split <;> first | omega | exact absurd ae (by assumption) | rfl
 ·omega
theorem wA (w:World) (h:St w sb mb lb ty o c rv l) (aA:(c.op==2)=false) (hg:Kc.Gen 1 c) (hd:Kc.D5 c) (ho:c.over=false) (h1:1≤c.wd) (h8:c.wd≤8) (dQ:c.steps≤1000) (_n1:1≤c.nr) (_n4:c.nr≤4) (gg:c.rd<c.nr) (_hs:c.nr+2≤c.sl) (gl:c.sl≤16) (bK:c.base+(1+c.nr+c.sl*c.wd)≤l.length):Calls Tryz.prog 148 #[.pointer (some ⟨sb,0,none⟩)] w (Did sb mb lb ty o w rv (c.cab l).1 (c.cab l).2 (.tuple #[])):=by
 have bA:=h.mem.len;have cJ:c.rc.length≤1000000:=by have:=hg.rcl;omega
 have gf:=hg.i8;have gU:c.tr<1000:=by have:=hg.tr;omega
 have bM:c.wr=true→c.rc.length=c.wd:=fun q=>hg.wrl q ho
 obtain⟨hA,hB,hp⟩:=hd;obtain⟨hq,xO⟩:=(hp ho).2 aA;have pW:1*1≤c.sl*c.wd:=Nat.mul_le_mul (by omega) h1
 rcases ae:c.ph with _ | _ | _ | _ | _ | n
 ·have hc:=Ea sb mb lb ty o c rv l w h ae (by omega) (by omega);refine aL ?_ hc;unfold Kc.cab;try dsimp only
  rw[if_neg (by rw[aA];decide)]
  split <;> first | omega | exact absurd ae (by assumption) | rfl
 ·have hc:=DW sb mb lb ty o c rv l w h ae (by omega);refine aL ?_ hc;unfold Kc.cab;try dsimp only
  rw[if_neg (by rw[aA];decide)]
  split <;> first | omega | exact absurd ae (by assumption) | rfl
 ·by_cases hx:c.rdm l 0%(c.sl:Int)=c.A
  ·have hc:=qx sb mb lb ty o c rv l w h ae (by omega) gU (by omega) hx;refine aL ?_ hc;unfold Kc.cab;try dsimp only
   rw[if_neg (by rw[aA];decide)]
   split <;> first | omega | exact absurd ae (by assumption) | rfl | (rw[if_pos hx];first | done | rfl)
  ·by_cases hy:c.cap≤c.tr+1
   ·have hc:=rh sb mb lb ty o c rv l w h ae (by omega) gU (by omega) hx hy;refine aL ?_ hc;unfold Kc.cab;try dsimp only
    rw[if_neg (by rw[aA];decide)]
    split <;> first | omega | exact absurd ae (by assumption) | rfl | (rw[if_neg hx,if_pos hy];first | done | rfl) | (rw[if_pos hy,if_neg hx];first | done | rfl) | (rw[if_neg hx];first | done | rfl) | (rw[if_pos hy];first | done | rfl)
   ·have hc:=pt sb mb lb ty o c rv l w h ae (by omega) gU (by omega) hx hy;refine aL ?_ hc;unfold Kc.cab;try dsimp only
    rw[if_neg (by rw[aA];decide)]
    split <;> first | omega | exact absurd ae (by assumption) | rfl | (rw[if_neg hx,if_neg hy];first | done | rfl) | (rw[if_neg hy,if_neg hx];first | done | rfl) | (rw[if_neg hx];first | done | rfl) | (rw[if_neg hy];first | done | rfl)
 ·have hi:=xO ae;have bH:=cE (k:=c.A.toNat) (n:=c.sl) (by omega) hi;have hc:=E2 sb mb lb ty o c rv l w h ae ⟨hA.1,by omega⟩ (fun q=>by rw[bM q];exact hi) cJ (by omega) (by omega) (by omega);refine aL ?_ hc;unfold Kc.cab;try dsimp only
  rw[if_neg (by rw[aA];decide)]
  split <;> first | omega | exact absurd ae (by assumption) | rfl
 ·have hc:=DB sb mb lb ty o c rv l w h ae (by omega);refine aL ?_ hc;unfold Kc.cab;try dsimp only
  rw[if_neg (by rw[aA];decide)]
  split <;> first | omega | exact absurd ae (by assumption) | rfl
 ·omega
theorem vS (w:World) (h:St w sb mb lb ty o c rv l) (aA:(c.op==3)=true) (hg:Kc.Gen 1 c) (hd:Kc.D6 c) (ho:c.over=false) (h1:1≤c.wd) (h8:c.wd≤8) (dQ:c.steps≤1000) (hs:1≤c.sl) (bK:c.base+(2+c.sl*c.wd)≤l.length):Calls Tryz.prog 149 #[.pointer (some ⟨sb,0,none⟩)] w (Did sb mb lb ty o w rv (c.fifo l).1 (c.fifo l).2 (.tuple #[])):=by
 have bA:=h.mem.len;have cJ:c.rc.length≤1000000:=by have:=hg.rcl;omega
 have gf:=hg.i8;have gU:c.tr<1000:=by have:=hg.tr;omega
 have bM:c.wr=true→c.rc.length=c.wd:=fun q=>hg.wrl q ho
 obtain⟨hA,hB,hp⟩:=hd;obtain⟨hq,dP⟩:=hp ho
 rcases ae:c.ph with _ | _ | _ | _ | n
 ·have hc:=BR sb mb lb ty o c rv l w h ae hs (by omega);refine aL ?_ hc;unfold Kc.fifo;try dsimp only
  try simp only[aA,if_true]
  split <;> first | omega | exact absurd ae (by assumption) | rfl
 ·by_cases hx:Kc.gap (c.rdm l 0%(2*(c.sl:Int))) c.A (2*(c.sl:Int))≥(c.sl:Int)
  ·have hc:=py sb mb lb ty o c rv l w h ae hs hA.2 hx (by omega);refine aL ?_ hc;unfold Kc.fifo;try dsimp only
   try simp only[aA,if_true]
   split <;> first | omega | exact absurd ae (by assumption) | rfl | (rw[if_pos hx];first | done | rfl)
  ·have hc:=tL sb mb lb ty o c rv l w h ae hs hA.2 hx (by omega);refine aL ?_ hc;unfold Kc.fifo;try dsimp only
   try simp only[aA,if_true]
   split <;> first | omega | exact absurd ae (by assumption) | rfl | (rw[if_neg hx];first | done | rfl)
 ·have hi:=dP ae;have zS:=Int.emod_nonneg c.A (show(c.sl:Int)≠0 by omega);have ul:=Int.emod_lt_of_pos c.A (show(0:Int)<(c.sl:Int) by omega);have bH:=cE (k:=(c.A%c.sl).toNat) (n:=c.sl) (by omega) hi;have hc:=Bv sb mb lb ty o c rv l w h ae hs (fun q=>by rw[bM q];exact hi) cJ (by omega) (by omega) (by omega);refine aL ?_ hc;unfold Kc.fifo;try dsimp only
  try simp only[aA,if_true]
  split <;> first | omega | exact absurd ae (by assumption) | rfl
 ·have hc:=AV sb mb lb ty o c rv l w h ae hs hA.2 (by omega);refine aL ?_ hc;unfold Kc.fifo;try dsimp only
  try simp only[aA,if_true]
  split <;> first | omega | exact absurd ae (by assumption) | rfl
 ·omega
theorem tv (w:World) (h:St w sb mb lb ty o c rv l) (aA:(c.op==3)=false) (hg:Kc.Gen 1 c) (hd:Kc.D6 c) (ho:c.over=false) (h1:1≤c.wd) (h8:c.wd≤8) (dQ:c.steps≤1000) (hs:1≤c.sl) (bK:c.base+(2+c.sl*c.wd)≤l.length):Calls Tryz.prog 150 #[.pointer (some ⟨sb,0,none⟩)] w (Did sb mb lb ty o w rv (c.fifo l).1 (c.fifo l).2 (.tuple #[])):=by
 have bA:=h.mem.len;have cJ:c.rc.length≤1000000:=by have:=hg.rcl;omega
 have gf:=hg.i8;have gU:c.tr<1000:=by have:=hg.tr;omega
 have bM:c.wr=true→c.rc.length=c.wd:=fun q=>hg.wrl q ho
 obtain⟨hA,hB,hp⟩:=hd;obtain⟨hq,dP⟩:=hp ho
 rcases ae:c.ph with _ | _ | _ | _ | n
 ·have hc:=Bf sb mb lb ty o c rv l w h ae hs (by omega);refine aL ?_ hc;unfold Kc.fifo;try dsimp only
  try simp only[aA,Bool.false_eq_true,if_false]
  split <;> first | omega | exact absurd ae (by assumption) | rfl
 ·by_cases hx:c.rdm l 1%(2*(c.sl:Int))=c.A
  ·have hc:=nT sb mb lb ty o c rv l w h ae hs hx (by omega);refine aL ?_ hc;unfold Kc.fifo;try dsimp only
   try simp only[aA,Bool.false_eq_true,if_false]
   split <;> first | omega | exact absurd ae (by assumption) | rfl | (rw[if_pos hx];first | done | rfl)
  ·have hc:=sF sb mb lb ty o c rv l w h ae hs hx (by omega);refine aL ?_ hc;unfold Kc.fifo;try dsimp only
   try simp only[aA,Bool.false_eq_true,if_false]
   split <;> first | omega | exact absurd ae (by assumption) | rfl | (rw[if_neg hx];first | done | rfl)
 ·have hi:=dP ae;have zS:=Int.emod_nonneg c.A (show(c.sl:Int)≠0 by omega);have ul:=Int.emod_lt_of_pos c.A (show(0:Int)<(c.sl:Int) by omega);have bH:=cE (k:=(c.A%c.sl).toNat) (n:=c.sl) (by omega) hi;have hc:=Cc sb mb lb ty o c rv l w h ae hs (fun q=>by rw[bM q];exact hi) cJ (by omega) (by omega) (by omega);refine aL ?_ hc;unfold Kc.fifo;try dsimp only
  try simp only[aA,Bool.false_eq_true,if_false]
  split <;> first | omega | exact absurd ae (by assumption) | rfl
 ·have hc:=Bk sb mb lb ty o c rv l w h ae hs hA.2 (by omega);refine aL ?_ hc;unfold Kc.fifo;try dsimp only
  try simp only[aA,Bool.false_eq_true,if_false]
  split <;> first | omega | exact absurd ae (by assumption) | rfl
 ·omega
end
end Go.Proofs.YtolmpehgeinlkaaGreatDoor
