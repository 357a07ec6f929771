/- One step of each kind: what the program's step computes. -/
import Derived.Test.YtolmpehgeinlkaaGreatDoorZcOgL
import Derived.Test.YtolmpehgeinlkaaGreatDoorZcI
namespace Go.Proofs.YtolmpehgeinlkaaGreatDoor
open Go.RowKit
set_option maxHeartbeats 1000000
set_option maxRecDepth 100000
theorem slot_lt {k n wd i:Nat} (hk:k<n) (hi:i<wd):k*wd+i<n*wd:=by
 have h:(k+1)*wd≤n*wd:=Nat.mul_le_mul_right wd hk;rw[Nat.add_mul] at h;omega
section
variable (sb mb lb:Nat) (ty:TypeId) (o:Ob) (c:Kc) (rv:Value) (l:List Int)
theorem did_of {sb mb lb:Nat} {ty:TypeId} {o:Ob} {w:World} {rv:Value} {d:Kc × List Int} {c':Kc} {l':List Int} {v:Value} {P:Program} {f:FuncId} {args:Array Value} (hd:d=(c',l')) (h:Calls P f args w (Did sb mb lb ty o w rv c' l' v)):Calls P f args w (Did sb mb lb ty o w rv d.1 d.2 v):=by
 subst hd;exact h
theorem fourWrite_o (w:World) (h:St w sb mb lb ty o c rv l) (hop:(c.op==2)=true) (hg:Kc.Gen 1 c) (hd:Kc.D1 c) (ho:c.over=false) (h1:1≤c.wd) (h8:c.wd≤8) (hst:c.steps≤1000) (hsz:c.base+(4+4*c.wd)≤l.length):Calls Tryz.prog 139 #[.pointer (some ⟨sb,0,none⟩)] w (Did sb mb lb ty o w rv (c.four l).1 (c.four l).2 (.tuple #[])):=by
 have hlen:=h.mem.len;have hrl:c.rc.length≤1000000:=by have:=hg.rcl;omega
 have hi8:=hg.i8;have htr:c.tr<1000:=by have:=hg.tr;omega
 have hwr:c.wr=true→c.rc.length=c.wd:=fun q=>hg.wrl q ho
 obtain⟨hA,hB,hp⟩:=hd;obtain⟨hq,hq2⟩:=(hp ho).1 hop;have hA2:c.A.toNat≤1:=by omega
 rcases hph:c.ph with _ | _ | _ | _ | _ | n
 ·have hc:=four_w0 sb mb lb ty o c rv l w h hph (by omega);refine did_of ?_ hc;unfold Kc.four;try dsimp only
  rw[if_pos hop]
  split <;> first | (exfalso;omega) | (exfalso;exact absurd hph (by assumption)) | rfl
 ·have hc:=four_w1 sb mb lb ty o c rv l w h hph hA (by omega);refine did_of ?_ hc;unfold Kc.four;try dsimp only
  rw[if_pos hop]
  split <;> first | (exfalso;omega) | (exfalso;exact absurd hph (by assumption)) | rfl
 ·have hi:=hq2 hph;have hsl:=slot_lt (k:=(2*c.A+c.B).toNat) (n:=4) (by omega) hi;have hc:=four_w2 sb mb lb ty o c rv l w h hph hA hB (fun q=>by rw[hwr q];exact hi) hrl (by omega) (by omega) (by omega);refine did_of ?_ hc;unfold Kc.four;try dsimp only
  rw[if_pos hop]
  split <;> first | (exfalso;omega) | (exfalso;exact absurd hph (by assumption)) | rfl
 ·have hc:=four_w3 sb mb lb ty o c rv l w h hph hA (by omega);refine did_of ?_ hc;unfold Kc.four;try dsimp only
  rw[if_pos hop]
  split <;> first | (exfalso;omega) | (exfalso;exact absurd hph (by assumption)) | rfl
 ·have hc:=four_w4 sb mb lb ty o c rv l w h hph (by omega);refine did_of ?_ hc;unfold Kc.four;try dsimp only
  rw[if_pos hop]
  split <;> first | (exfalso;omega) | (exfalso;exact absurd hph (by assumption)) | rfl
 ·omega
theorem fourRead_o (w:World) (h:St w sb mb lb ty o c rv l) (hop:(c.op==2)=false) (hg:Kc.Gen 1 c) (hd:Kc.D1 c) (ho:c.over=false) (h1:1≤c.wd) (h8:c.wd≤8) (hst:c.steps≤1000) (hsz:c.base+(4+4*c.wd)≤l.length):Calls Tryz.prog 140 #[.pointer (some ⟨sb,0,none⟩)] w (Did sb mb lb ty o w rv (c.four l).1 (c.four l).2 (.tuple #[])):=by
 have hlen:=h.mem.len;have hrl:c.rc.length≤1000000:=by have:=hg.rcl;omega
 have hi8:=hg.i8;have htr:c.tr<1000:=by have:=hg.tr;omega
 have hwr:c.wr=true→c.rc.length=c.wd:=fun q=>hg.wrl q ho
 obtain⟨hA,hB,hp⟩:=hd;obtain⟨hq,hq2⟩:=(hp ho).2 hop;have hA2:c.A.toNat≤1:=by omega
 rcases hph:c.ph with _ | _ | _ | _ | n
 ·have hc:=four_r0 sb mb lb ty o c rv l w h hph (by omega);refine did_of ?_ hc;unfold Kc.four;try dsimp only
  rw[if_neg (by rw[hop];decide)]
  split <;> first | (exfalso;omega) | (exfalso;exact absurd hph (by assumption)) | rfl
 ·have hc:=four_r1 sb mb lb ty o c rv l w h hph (by omega);refine did_of ?_ hc;unfold Kc.four;try dsimp only
  rw[if_neg (by rw[hop];decide)]
  split <;> first | (exfalso;omega) | (exfalso;exact absurd hph (by assumption)) | rfl
 ·have hc:=four_r2 sb mb lb ty o c rv l w h hph hA (by omega);refine did_of ?_ hc;unfold Kc.four;try dsimp only
  rw[if_neg (by rw[hop];decide)]
  split <;> first | (exfalso;omega) | (exfalso;exact absurd hph (by assumption)) | rfl
 ·have hi:=hq2 hph;have hsl:=slot_lt (k:=(2*c.A+c.B).toNat) (n:=4) (by omega) hi;have hc:=four_r3 sb mb lb ty o c rv l w h hph hA hB (fun q=>by rw[hwr q];exact hi) hrl (by omega) (by omega) (by omega);refine did_of ?_ hc;unfold Kc.four;try dsimp only
  rw[if_neg (by rw[hop];decide)]
  split <;> first | (exfalso;omega) | (exfalso;exact absurd hph (by assumption)) | rfl
 ·omega
theorem chenWrite_o (w:World) (h:St w sb mb lb ty o c rv l) (hop:(c.op==2)=true) (hg:Kc.Gen 1 c) (hd:Kc.D2 c) (ho:c.over=false) (h1:1≤c.wd) (h8:c.wd≤8) (hst:c.steps≤1000) (n1:1≤c.nr) (n4:c.nr≤4) (hrd:c.rd<c.nr) (hsz:c.base+(1+c.nr+(c.nr+2)*c.wd)≤l.length) (hT:Tab64 w) (hn:¬ fp sb mb lb rv 0):Calls Tryz.prog 141 #[.pointer (some ⟨sb,0,none⟩)] w (Did sb mb lb ty o w rv (c.chen l).1 (c.chen l).2 (.tuple #[])):=by
 have hlen:=h.mem.len;have hrl:c.rc.length≤1000000:=by have:=hg.rcl;omega
 have hi8:=hg.i8;have htr:c.tr<1000:=by have:=hg.tr;omega
 have hwr:c.wr=true→c.rc.length=c.wd:=fun q=>hg.wrl q ho
 obtain⟨hA,hB,hp⟩:=hd;obtain⟨hq,hq0,hqF,hq1,hq2,hq4⟩:=(hp ho).1 hop;have hm0:1*1≤(c.nr+2)*c.wd:=Nat.mul_le_mul (by omega) h1
 rcases hph:c.ph with _ | _ | _ | _ | _ | n
 ·have hc:=chen_w0 sb mb lb ty o c rv l w h hph (by omega);refine did_of ?_ hc;unfold Kc.chen;try dsimp only
  rw[if_pos hop]
  split <;> first | (exfalso;omega) | (exfalso;exact absurd hph (by assumption)) | rfl
 ·by_cases hx:c.nr≤c.i+1
  ·have hi:=hq1 hph;have hc:=chen_w1_last sb mb lb ty o c rv l w h hph (by omega) hT hn hx (by omega);refine did_of ?_ hc;unfold Kc.chen;try dsimp only
   rw[if_pos hop]
   split <;> first | (exfalso;omega) | (exfalso;exact absurd hph (by assumption)) | rfl | (rw[if_pos hx];first | done | rfl)
  ·have hi:=hq1 hph;have hc:=chen_w1_next sb mb lb ty o c rv l w h hph (by omega) hT hn hx (by omega);refine did_of ?_ hc;unfold Kc.chen;try dsimp only
   rw[if_pos hop]
   split <;> first | (exfalso;omega) | (exfalso;exact absurd hph (by assumption)) | rfl | (rw[if_neg hx];first | done | rfl)
 ·have hi:=hq2 hph;have hsl:=slot_lt (k:=c.B.toNat) (n:=c.nr+2) (by omega) hi;have hc:=chen_w2 sb mb lb ty o c rv l w h hph ⟨hB.1,by omega⟩ (fun q=>by rw[hwr q];exact hi) hrl (by omega) (by omega) (by omega);refine did_of ?_ hc;unfold Kc.chen;try dsimp only
  rw[if_pos hop]
  split <;> first | (exfalso;omega) | (exfalso;exact absurd hph (by assumption)) | rfl
 ·have hc:=chen_w3 sb mb lb ty o c rv l w h hph (by omega);refine did_of ?_ hc;unfold Kc.chen;try dsimp only
  rw[if_pos hop]
  split <;> first | (exfalso;omega) | (exfalso;exact absurd hph (by assumption)) | rfl
 ·by_cases hx:c.nr≤c.i+1
  ·have hi:=hq4 hph;have hc:=chen_w4_last sb mb lb ty o c rv l w h hph (by omega) hx (by omega);refine did_of ?_ hc;unfold Kc.chen;try dsimp only
   rw[if_pos hop]
   split <;> first | (exfalso;omega) | (exfalso;exact absurd hph (by assumption)) | rfl | (rw[if_pos hx];first | done | rfl)
  ·have hi:=hq4 hph;have hc:=chen_w4_next sb mb lb ty o c rv l w h hph (by omega) hx (by omega);refine did_of ?_ hc;unfold Kc.chen;try dsimp only
   rw[if_pos hop]
   split <;> first | (exfalso;omega) | (exfalso;exact absurd hph (by assumption)) | rfl | (rw[if_neg hx];first | done | rfl)
 ·omega
theorem chenRead_o (w:World) (h:St w sb mb lb ty o c rv l) (hop:(c.op==2)=false) (hg:Kc.Gen 1 c) (hd:Kc.D2 c) (ho:c.over=false) (h1:1≤c.wd) (h8:c.wd≤8) (hst:c.steps≤1000) (n1:1≤c.nr) (n4:c.nr≤4) (hrd:c.rd<c.nr) (hsz:c.base+(1+c.nr+(c.nr+2)*c.wd)≤l.length):Calls Tryz.prog 142 #[.pointer (some ⟨sb,0,none⟩)] w (Did sb mb lb ty o w rv (c.chen l).1 (c.chen l).2 (.tuple #[])):=by
 have hlen:=h.mem.len;have hrl:c.rc.length≤1000000:=by have:=hg.rcl;omega
 have hi8:=hg.i8;have htr:c.tr<1000:=by have:=hg.tr;omega
 have hwr:c.wr=true→c.rc.length=c.wd:=fun q=>hg.wrl q ho
 obtain⟨hA,hB,hp⟩:=hd;obtain⟨hq,hq4⟩:=(hp ho).2 hop;have hm0:1*1≤(c.nr+2)*c.wd:=Nat.mul_le_mul (by omega) h1
 rcases hph:c.ph with _ | _ | _ | _ | _ | n
 ·have hc:=chen_r0 sb mb lb ty o c rv l w h hph (by omega);refine did_of ?_ hc;unfold Kc.chen;try dsimp only
  rw[if_neg (by rw[hop];decide)]
  split <;> first | (exfalso;omega) | (exfalso;exact absurd hph (by assumption)) | rfl
 ·have hc:=chen_r1 sb mb lb ty o c rv l w h hph (by omega);refine did_of ?_ hc;unfold Kc.chen;try dsimp only
  rw[if_neg (by rw[hop];decide)]
  split <;> first | (exfalso;omega) | (exfalso;exact absurd hph (by assumption)) | rfl
 ·have hc:=chen_r2 sb mb lb ty o c rv l w h hph (by omega);refine did_of ?_ hc;unfold Kc.chen;try dsimp only
  rw[if_neg (by rw[hop];decide)]
  split <;> first | (exfalso;omega) | (exfalso;exact absurd hph (by assumption)) | rfl
 ·have hc:=chen_r3 sb mb lb ty o c rv l w h hph (by omega);refine did_of ?_ hc;unfold Kc.chen;try dsimp only
  rw[if_neg (by rw[hop];decide)]
  split <;> first | (exfalso;omega) | (exfalso;exact absurd hph (by assumption)) | rfl
 ·have hi:=hq4 hph;have hsl:=slot_lt (k:=c.B.toNat) (n:=c.nr+2) (by omega) hi;have hc:=chen_r4 sb mb lb ty o c rv l w h hph ⟨hB.1,by omega⟩ (fun q=>by rw[hwr q];exact hi) hrl (by omega) (by omega) (by omega);refine did_of ?_ hc;unfold Kc.chen;try dsimp only
  rw[if_neg (by rw[hop];decide)]
  split <;> first | (exfalso;omega) | (exfalso;exact absurd hph (by assumption)) | rfl
 ·omega
theorem seqWrite_o (w:World) (h:St w sb mb lb ty o c rv l) (hop:(c.op==2)=true) (hg:Kc.Gen 1 c) (hd:Kc.D3 c) (ho:c.over=false) (h1:1≤c.wd) (h8:c.wd≤8) (hst:c.steps≤1000) (hsz:c.base+(1+c.wd)≤l.length):Calls Tryz.prog 143 #[.pointer (some ⟨sb,0,none⟩)] w (Did sb mb lb ty o w rv (c.seq l).1 (c.seq l).2 (.tuple #[])):=by
 have hlen:=h.mem.len;have hrl:c.rc.length≤1000000:=by have:=hg.rcl;omega
 have hi8:=hg.i8;have htr:c.tr<1000:=by have:=hg.tr;omega
 have hwr:c.wr=true→c.rc.length=c.wd:=fun q=>hg.wrl q ho
 obtain⟨hA,hB,hp⟩:=hd;obtain⟨hq,hq2⟩:=(hp ho).1 hop
 rcases hph:c.ph with _ | _ | _ | _ | n
 ·have hc:=seq_w0 sb mb lb ty o c rv l w h hph (by omega);refine did_of ?_ hc;unfold Kc.seq;try dsimp only
  rw[if_pos hop]
  split <;> first | (exfalso;omega) | (exfalso;exact absurd hph (by assumption)) | rfl
 ·have hc:=seq_w1 sb mb lb ty o c rv l w h hph (by omega);refine did_of ?_ hc;unfold Kc.seq;try dsimp only
  rw[if_pos hop]
  split <;> first | (exfalso;omega) | (exfalso;exact absurd hph (by assumption)) | rfl
 ·have hi:=hq2 hph;have hc:=seq_w2 sb mb lb ty o c rv l w h hph (fun q=>by rw[hwr q];exact hi) hrl (by omega) (by omega) (by omega);refine did_of ?_ hc;unfold Kc.seq;try dsimp only
  rw[if_pos hop]
  split <;> first | (exfalso;omega) | (exfalso;exact absurd hph (by assumption)) | rfl
 ·have hc:=seq_w3 sb mb lb ty o c rv l w h hph (by omega);refine did_of ?_ hc;unfold Kc.seq;try dsimp only
  rw[if_pos hop]
  split <;> first | (exfalso;omega) | (exfalso;exact absurd hph (by assumption)) | rfl
 ·omega
theorem seqRead_o (w:World) (h:St w sb mb lb ty o c rv l) (hop:(c.op==2)=false) (hg:Kc.Gen 1 c) (hd:Kc.D3 c) (ho:c.over=false) (h1:1≤c.wd) (h8:c.wd≤8) (hst:c.steps≤1000) (hsz:c.base+(1+c.wd)≤l.length):Calls Tryz.prog 144 #[.pointer (some ⟨sb,0,none⟩)] w (Did sb mb lb ty o w rv (c.seq l).1 (c.seq l).2 (.tuple #[])):=by
 have hlen:=h.mem.len;have hrl:c.rc.length≤1000000:=by have:=hg.rcl;omega
 have hi8:=hg.i8;have htr:c.tr<1000:=by have:=hg.tr;omega
 have hwr:c.wr=true→c.rc.length=c.wd:=fun q=>hg.wrl q ho
 obtain⟨hA,hB,hp⟩:=hd;obtain⟨hq,hq1⟩:=(hp ho).2 hop
 rcases hph:c.ph with _ | _ | _ | n
 ·by_cases hx:c.rdm l 0%2=1
  ·have hc:=seq_r0_odd sb mb lb ty o c rv l w h hph htr (by omega) hx;refine did_of ?_ hc;unfold Kc.seq;try dsimp only
   rw[if_neg (by rw[hop];decide)]
   split <;> first | (exfalso;omega) | (exfalso;exact absurd hph (by assumption)) | rfl | (rw[if_pos hx];first | done | rfl)
  ·have hc:=seq_r0_even sb mb lb ty o c rv l w h hph htr (by omega) hx;refine did_of ?_ hc;unfold Kc.seq;try dsimp only
   rw[if_neg (by rw[hop];decide)]
   split <;> first | (exfalso;omega) | (exfalso;exact absurd hph (by assumption)) | rfl | (rw[if_neg hx];first | done | rfl)
 ·have hi:=hq1 hph;have hc:=seq_r1 sb mb lb ty o c rv l w h hph (fun q=>by rw[hwr q];exact hi) hrl (by omega) (by omega) (by omega);refine did_of ?_ hc;unfold Kc.seq;try dsimp only
  rw[if_neg (by rw[hop];decide)]
  split <;> first | (exfalso;omega) | (exfalso;exact absurd hph (by assumption)) | rfl
 ·by_cases hx:c.rdm l 0=c.A
  ·have hc:=seq_r2_same sb mb lb ty o c rv l w h hph htr (by omega) hx;refine did_of ?_ hc;unfold Kc.seq;try dsimp only
   rw[if_neg (by rw[hop];decide)]
   split <;> first | (exfalso;omega) | (exfalso;exact absurd hph (by assumption)) | rfl | (rw[if_pos hx];first | done | rfl)
  ·have hc:=seq_r2_other sb mb lb ty o c rv l w h hph htr (by omega) hx;refine did_of ?_ hc;unfold Kc.seq;try dsimp only
   rw[if_neg (by rw[hop];decide)]
   split <;> first | (exfalso;omega) | (exfalso;exact absurd hph (by assumption)) | rfl | (rw[if_neg hx];first | done | rfl)
 ·omega
theorem ringWrite_o (w:World) (h:St w sb mb lb ty o c rv l) (hop:(c.op==2)=true) (hg:Kc.Gen 1 c) (hd:Kc.D4 c) (ho:c.over=false) (h1:1≤c.wd) (h8:c.wd≤8) (hst:c.steps≤1000) (hs:2≤c.sl) (hsz:c.base+(1+c.sl*c.wd)≤l.length):Calls Tryz.prog 145 #[.pointer (some ⟨sb,0,none⟩)] w (Did sb mb lb ty o w rv (c.ring l).1 (c.ring l).2 (.tuple #[])):=by
 have hlen:=h.mem.len;have hrl:c.rc.length≤1000000:=by have:=hg.rcl;omega
 have hi8:=hg.i8;have htr:c.tr<1000:=by have:=hg.tr;omega
 have hwr:c.wr=true→c.rc.length=c.wd:=fun q=>hg.wrl q ho
 obtain⟨hA,hB,hp⟩:=hd;obtain⟨hq,hq1⟩:=hp ho
 rcases hph:c.ph with _ | _ | _ | n
 ·have hc:=ring_w0 sb mb lb ty o c rv l w h hph hs (by omega);refine did_of ?_ hc;unfold Kc.ring;try dsimp only
  try simp only[hop,if_true]
  split <;> first | (exfalso;omega) | (exfalso;exact absurd hph (by assumption)) | rfl
 ·have hi:=hq1 hph;have ha0:=Int.emod_nonneg c.A (show(c.sl:Int)≠0 by omega);have ha1:=Int.emod_lt_of_pos c.A (show(0:Int)<(c.sl:Int) by omega);have hsl:=slot_lt (k:=(c.A%c.sl).toNat) (n:=c.sl) (by omega) hi;have hc:=ring_w1 sb mb lb ty o c rv l w h hph hs (fun q=>by rw[hwr q];exact hi) hrl (by omega) (by omega) (by omega);refine did_of ?_ hc;unfold Kc.ring;try dsimp only
  try simp only[hop,if_true]
  split <;> first | (exfalso;omega) | (exfalso;exact absurd hph (by assumption)) | rfl
 ·have hc:=ring_w2 sb mb lb ty o c rv l w h hph (by omega);refine did_of ?_ hc;unfold Kc.ring;try dsimp only
  try simp only[hop,if_true]
  split <;> first | (exfalso;omega) | (exfalso;exact absurd hph (by assumption)) | rfl
 ·omega
theorem ringRead_o (w:World) (h:St w sb mb lb ty o c rv l) (hop:(c.op==2)=false) (hg:Kc.Gen 1 c) (hd:Kc.D4 c) (ho:c.over=false) (h1:1≤c.wd) (h8:c.wd≤8) (hst:c.steps≤1000) (hs:2≤c.sl) (hsz:c.base+(1+c.sl*c.wd)≤l.length):Calls Tryz.prog 146 #[.pointer (some ⟨sb,0,none⟩)] w (Did sb mb lb ty o w rv (c.ring l).1 (c.ring l).2 (.tuple #[])):=by
 have hlen:=h.mem.len;have hrl:c.rc.length≤1000000:=by have:=hg.rcl;omega
 have hi8:=hg.i8;have htr:c.tr<1000:=by have:=hg.tr;omega
 have hwr:c.wr=true→c.rc.length=c.wd:=fun q=>hg.wrl q ho
 obtain⟨hA,hB,hp⟩:=hd;obtain⟨hq,hq1⟩:=hp ho
 rcases hph:c.ph with _ | _ | _ | n
 ·have hc:=ring_r0 sb mb lb ty o c rv l w h hph hs (by omega);refine did_of ?_ hc;unfold Kc.ring;try dsimp only
  try simp only[hop,Bool.false_eq_true,if_false]
  split <;> first | (exfalso;omega) | (exfalso;exact absurd hph (by assumption)) | rfl
 ·have hi:=hq1 hph;have ha0:=Int.emod_nonneg c.A (show(c.sl:Int)≠0 by omega);have ha1:=Int.emod_lt_of_pos c.A (show(0:Int)<(c.sl:Int) by omega);have hsl:=slot_lt (k:=(c.A%c.sl).toNat) (n:=c.sl) (by omega) hi;have hc:=ring_r1 sb mb lb ty o c rv l w h hph hs (fun q=>by rw[hwr q];exact hi) hrl (by omega) (by omega) (by omega);refine did_of ?_ hc;unfold Kc.ring;try dsimp only
  try simp only[hop,Bool.false_eq_true,if_false]
  split <;> first | (exfalso;omega) | (exfalso;exact absurd hph (by assumption)) | rfl
 ·by_cases hx:Kc.gap c.A (c.rdm l 0%((c.sl:Int)*1048576)) ((c.sl:Int)*1048576)<(c.sl:Int) - 1
  ·have hc:=ring_r2_ok sb mb lb ty o c rv l w h hph hs hA.2 htr (by omega) hx;refine did_of ?_ hc;unfold Kc.ring;try dsimp only
   try simp only[hop,Bool.false_eq_true,if_false]
   split <;> first | (exfalso;omega) | (exfalso;exact absurd hph (by assumption)) | rfl | (rw[if_pos hx];first | done | rfl)
  ·by_cases hy:c.cap≤c.tr+1
   ·have hc:=ring_r2_last sb mb lb ty o c rv l w h hph hs hA.2 htr (by omega) hx hy;refine did_of ?_ hc;unfold Kc.ring;try dsimp only
    try simp only[hop,Bool.false_eq_true,if_false]
    split <;> first | (exfalso;omega) | (exfalso;exact absurd hph (by assumption)) | rfl | (rw[if_neg hx,if_pos hy];first | done | rfl) | (rw[if_pos hy,if_neg hx];first | done | rfl) | (rw[if_neg hx];first | done | rfl) | (rw[if_pos hy];first | done | rfl)
   ·have hc:=ring_r2_again sb mb lb ty o c rv l w h hph hs hA.2 htr (by omega) hx hy;refine did_of ?_ hc;unfold Kc.ring;try dsimp only
    try simp only[hop,Bool.false_eq_true,if_false]
    split <;> first | (exfalso;omega) | (exfalso;exact absurd hph (by assumption)) | rfl | (rw[if_neg hx,if_neg hy];first | done | rfl) | (rw[if_neg hy,if_neg hx];first | done | rfl) | (rw[if_neg hx];first | done | rfl) | (rw[if_neg hy];first | done | rfl)
 ·omega
theorem cabWrite_o (w:World) (h:St w sb mb lb ty o c rv l) (hop:(c.op==2)=true) (hg:Kc.Gen 1 c) (hd:Kc.D5 c) (ho:c.over=false) (h1:1≤c.wd) (h8:c.wd≤8) (hst:c.steps≤1000) (n1:1≤c.nr) (n4:c.nr≤4) (hrd:c.rd<c.nr) (_hs:c.nr+2≤c.sl) (hs2:c.sl≤16) (hsz:c.base+(1+c.nr+c.sl*c.wd)≤l.length) (hT:Tab64 w) (hn:¬ fp sb mb lb rv 0):Calls Tryz.prog 147 #[.pointer (some ⟨sb,0,none⟩)] w (Did sb mb lb ty o w rv (c.cab l).1 (c.cab l).2 (.tuple #[])):=by
 have hlen:=h.mem.len;have hrl:c.rc.length≤1000000:=by have:=hg.rcl;omega
 have hi8:=hg.i8;have htr:c.tr<1000:=by have:=hg.tr;omega
 have hwr:c.wr=true→c.rc.length=c.wd:=fun q=>hg.wrl q ho
 obtain⟨hA,hB,hp⟩:=hd;obtain⟨hBs,hq,hq0,hqF,hq1,hq2⟩:=(hp ho).1 hop;have hm0:1*1≤c.sl*c.wd:=Nat.mul_le_mul (by omega) h1
 rcases hph:c.ph with _ | _ | _ | _ | n
 ·have hc:=cab_w0 sb mb lb ty o c rv l w h hph (by omega) (by omega);refine did_of ?_ hc;unfold Kc.cab;try dsimp only
  rw[if_pos hop]
  split <;> first | (exfalso;omega) | (exfalso;exact absurd hph (by assumption)) | rfl
 ·by_cases hx:c.nr≤c.i+1
  ·by_cases hy:0<c.rdm l (1+c.i)
   ·have hi:=hq1 hph;have hc:=cab_w1_poslast sb mb lb ty o c rv l w h hph (by omega) hT hn hx hy (by omega);refine did_of ?_ hc;unfold Kc.cab;try dsimp only
    rw[if_pos hop]
    split <;> first | (exfalso;omega) | (exfalso;exact absurd hph (by assumption)) | rfl | (rw[if_pos hx,if_pos hy];first | done | rfl) | (rw[if_pos hy,if_pos hx];first | done | rfl) | (rw[if_pos hx];first | done | rfl) | (rw[if_pos hy];first | done | rfl)
   ·have hi:=hq1 hph;have hc:=cab_w1_nillast sb mb lb ty o c rv l w h hph (by omega) hT hn hx hy (by omega);refine did_of ?_ hc;unfold Kc.cab;try dsimp only
    rw[if_pos hop]
    split <;> first | (exfalso;omega) | (exfalso;exact absurd hph (by assumption)) | rfl | (rw[if_pos hx,if_neg hy];first | done | rfl) | (rw[if_neg hy,if_pos hx];first | done | rfl) | (rw[if_pos hx];first | done | rfl) | (rw[if_neg hy];first | done | rfl)
  ·by_cases hy:0<c.rdm l (1+c.i)
   ·have hi:=hq1 hph;have hc:=cab_w1_posnext sb mb lb ty o c rv l w h hph (by omega) hT hn hx hy (by omega);refine did_of ?_ hc;unfold Kc.cab;try dsimp only
    rw[if_pos hop]
    split <;> first | (exfalso;omega) | (exfalso;exact absurd hph (by assumption)) | rfl | (rw[if_neg hx,if_pos hy];first | done | rfl) | (rw[if_pos hy,if_neg hx];first | done | rfl) | (rw[if_neg hx];first | done | rfl) | (rw[if_pos hy];first | done | rfl)
   ·have hi:=hq1 hph;have hc:=cab_w1_nilnext sb mb lb ty o c rv l w h hph (by omega) hT hn hx hy (by omega);refine did_of ?_ hc;unfold Kc.cab;try dsimp only
    rw[if_pos hop]
    split <;> first | (exfalso;omega) | (exfalso;exact absurd hph (by assumption)) | rfl | (rw[if_neg hx,if_neg hy];first | done | rfl) | (rw[if_neg hy,if_neg hx];first | done | rfl) | (rw[if_neg hx];first | done | rfl) | (rw[if_neg hy];first | done | rfl)
 ·have hi:=hq2 hph;have hsl:=slot_lt (k:=c.B.toNat) (n:=c.sl) (by omega) hi;have hc:=cab_w2 sb mb lb ty o c rv l w h hph ⟨hB.1,by omega⟩ (fun q=>by rw[hwr q];exact hi) hrl (by omega) (by omega) (by omega);refine did_of ?_ hc;unfold Kc.cab;try dsimp only
  rw[if_pos hop]
  split <;> first | (exfalso;omega) | (exfalso;exact absurd hph (by assumption)) | rfl
 ·have hc:=cab_w3 sb mb lb ty o c rv l w h hph (by omega);refine did_of ?_ hc;unfold Kc.cab;try dsimp only
  rw[if_pos hop]
  split <;> first | (exfalso;omega) | (exfalso;exact absurd hph (by assumption)) | rfl
 ·omega
theorem cabRead_o (w:World) (h:St w sb mb lb ty o c rv l) (hop:(c.op==2)=false) (hg:Kc.Gen 1 c) (hd:Kc.D5 c) (ho:c.over=false) (h1:1≤c.wd) (h8:c.wd≤8) (hst:c.steps≤1000) (_n1:1≤c.nr) (_n4:c.nr≤4) (hrd:c.rd<c.nr) (_hs:c.nr+2≤c.sl) (hs2:c.sl≤16) (hsz:c.base+(1+c.nr+c.sl*c.wd)≤l.length):Calls Tryz.prog 148 #[.pointer (some ⟨sb,0,none⟩)] w (Did sb mb lb ty o w rv (c.cab l).1 (c.cab l).2 (.tuple #[])):=by
 have hlen:=h.mem.len;have hrl:c.rc.length≤1000000:=by have:=hg.rcl;omega
 have hi8:=hg.i8;have htr:c.tr<1000:=by have:=hg.tr;omega
 have hwr:c.wr=true→c.rc.length=c.wd:=fun q=>hg.wrl q ho
 obtain⟨hA,hB,hp⟩:=hd;obtain⟨hq,hq3⟩:=(hp ho).2 hop;have hm0:1*1≤c.sl*c.wd:=Nat.mul_le_mul (by omega) h1
 rcases hph:c.ph with _ | _ | _ | _ | _ | n
 ·have hc:=cab_r0 sb mb lb ty o c rv l w h hph (by omega) (by omega);refine did_of ?_ hc;unfold Kc.cab;try dsimp only
  rw[if_neg (by rw[hop];decide)]
  split <;> first | (exfalso;omega) | (exfalso;exact absurd hph (by assumption)) | rfl
 ·have hc:=cab_r1 sb mb lb ty o c rv l w h hph (by omega);refine did_of ?_ hc;unfold Kc.cab;try dsimp only
  rw[if_neg (by rw[hop];decide)]
  split <;> first | (exfalso;omega) | (exfalso;exact absurd hph (by assumption)) | rfl
 ·by_cases hx:c.rdm l 0%(c.sl:Int)=c.A
  ·have hc:=cab_r2_same sb mb lb ty o c rv l w h hph (by omega) htr (by omega) hx;refine did_of ?_ hc;unfold Kc.cab;try dsimp only
   rw[if_neg (by rw[hop];decide)]
   split <;> first | (exfalso;omega) | (exfalso;exact absurd hph (by assumption)) | rfl | (rw[if_pos hx];first | done | rfl)
  ·by_cases hy:c.cap≤c.tr+1
   ·have hc:=cab_r2_last sb mb lb ty o c rv l w h hph (by omega) htr (by omega) hx hy;refine did_of ?_ hc;unfold Kc.cab;try dsimp only
    rw[if_neg (by rw[hop];decide)]
    split <;> first | (exfalso;omega) | (exfalso;exact absurd hph (by assumption)) | rfl | (rw[if_neg hx,if_pos hy];first | done | rfl) | (rw[if_pos hy,if_neg hx];first | done | rfl) | (rw[if_neg hx];first | done | rfl) | (rw[if_pos hy];first | done | rfl)
   ·have hc:=cab_r2_again sb mb lb ty o c rv l w h hph (by omega) htr (by omega) hx hy;refine did_of ?_ hc;unfold Kc.cab;try dsimp only
    rw[if_neg (by rw[hop];decide)]
    split <;> first | (exfalso;omega) | (exfalso;exact absurd hph (by assumption)) | rfl | (rw[if_neg hx,if_neg hy];first | done | rfl) | (rw[if_neg hy,if_neg hx];first | done | rfl) | (rw[if_neg hx];first | done | rfl) | (rw[if_neg hy];first | done | rfl)
 ·have hi:=hq3 hph;have hsl:=slot_lt (k:=c.A.toNat) (n:=c.sl) (by omega) hi;have hc:=cab_r3 sb mb lb ty o c rv l w h hph ⟨hA.1,by omega⟩ (fun q=>by rw[hwr q];exact hi) hrl (by omega) (by omega) (by omega);refine did_of ?_ hc;unfold Kc.cab;try dsimp only
  rw[if_neg (by rw[hop];decide)]
  split <;> first | (exfalso;omega) | (exfalso;exact absurd hph (by assumption)) | rfl
 ·have hc:=cab_r4 sb mb lb ty o c rv l w h hph (by omega);refine did_of ?_ hc;unfold Kc.cab;try dsimp only
  rw[if_neg (by rw[hop];decide)]
  split <;> first | (exfalso;omega) | (exfalso;exact absurd hph (by assumption)) | rfl
 ·omega
theorem fifoPut_o (w:World) (h:St w sb mb lb ty o c rv l) (hop:(c.op==3)=true) (hg:Kc.Gen 1 c) (hd:Kc.D6 c) (ho:c.over=false) (h1:1≤c.wd) (h8:c.wd≤8) (hst:c.steps≤1000) (hs:1≤c.sl) (hsz:c.base+(2+c.sl*c.wd)≤l.length):Calls Tryz.prog 149 #[.pointer (some ⟨sb,0,none⟩)] w (Did sb mb lb ty o w rv (c.fifo l).1 (c.fifo l).2 (.tuple #[])):=by
 have hlen:=h.mem.len;have hrl:c.rc.length≤1000000:=by have:=hg.rcl;omega
 have hi8:=hg.i8;have htr:c.tr<1000:=by have:=hg.tr;omega
 have hwr:c.wr=true→c.rc.length=c.wd:=fun q=>hg.wrl q ho
 obtain⟨hA,hB,hp⟩:=hd;obtain⟨hq,hq1⟩:=hp ho
 rcases hph:c.ph with _ | _ | _ | _ | n
 ·have hc:=fifo_p0 sb mb lb ty o c rv l w h hph hs (by omega);refine did_of ?_ hc;unfold Kc.fifo;try dsimp only
  try simp only[hop,if_true]
  split <;> first | (exfalso;omega) | (exfalso;exact absurd hph (by assumption)) | rfl
 ·by_cases hx:Kc.gap (c.rdm l 0%(2*(c.sl:Int))) c.A (2*(c.sl:Int))≥(c.sl:Int)
  ·have hc:=fifo_p1_full sb mb lb ty o c rv l w h hph hs hA.2 hx (by omega);refine did_of ?_ hc;unfold Kc.fifo;try dsimp only
   try simp only[hop,if_true]
   split <;> first | (exfalso;omega) | (exfalso;exact absurd hph (by assumption)) | rfl | (rw[if_pos hx];first | done | rfl)
  ·have hc:=fifo_p1_go sb mb lb ty o c rv l w h hph hs hA.2 hx (by omega);refine did_of ?_ hc;unfold Kc.fifo;try dsimp only
   try simp only[hop,if_true]
   split <;> first | (exfalso;omega) | (exfalso;exact absurd hph (by assumption)) | rfl | (rw[if_neg hx];first | done | rfl)
 ·have hi:=hq1 hph;have ha0:=Int.emod_nonneg c.A (show(c.sl:Int)≠0 by omega);have ha1:=Int.emod_lt_of_pos c.A (show(0:Int)<(c.sl:Int) by omega);have hsl:=slot_lt (k:=(c.A%c.sl).toNat) (n:=c.sl) (by omega) hi;have hc:=fifo_p2 sb mb lb ty o c rv l w h hph hs (fun q=>by rw[hwr q];exact hi) hrl (by omega) (by omega) (by omega);refine did_of ?_ hc;unfold Kc.fifo;try dsimp only
  try simp only[hop,if_true]
  split <;> first | (exfalso;omega) | (exfalso;exact absurd hph (by assumption)) | rfl
 ·have hc:=fifo_p3 sb mb lb ty o c rv l w h hph hs hA.2 (by omega);refine did_of ?_ hc;unfold Kc.fifo;try dsimp only
  try simp only[hop,if_true]
  split <;> first | (exfalso;omega) | (exfalso;exact absurd hph (by assumption)) | rfl
 ·omega
theorem fifoTake_o (w:World) (h:St w sb mb lb ty o c rv l) (hop:(c.op==3)=false) (hg:Kc.Gen 1 c) (hd:Kc.D6 c) (ho:c.over=false) (h1:1≤c.wd) (h8:c.wd≤8) (hst:c.steps≤1000) (hs:1≤c.sl) (hsz:c.base+(2+c.sl*c.wd)≤l.length):Calls Tryz.prog 150 #[.pointer (some ⟨sb,0,none⟩)] w (Did sb mb lb ty o w rv (c.fifo l).1 (c.fifo l).2 (.tuple #[])):=by
 have hlen:=h.mem.len;have hrl:c.rc.length≤1000000:=by have:=hg.rcl;omega
 have hi8:=hg.i8;have htr:c.tr<1000:=by have:=hg.tr;omega
 have hwr:c.wr=true→c.rc.length=c.wd:=fun q=>hg.wrl q ho
 obtain⟨hA,hB,hp⟩:=hd;obtain⟨hq,hq1⟩:=hp ho
 rcases hph:c.ph with _ | _ | _ | _ | n
 ·have hc:=fifo_t0 sb mb lb ty o c rv l w h hph hs (by omega);refine did_of ?_ hc;unfold Kc.fifo;try dsimp only
  try simp only[hop,Bool.false_eq_true,if_false]
  split <;> first | (exfalso;omega) | (exfalso;exact absurd hph (by assumption)) | rfl
 ·by_cases hx:c.rdm l 1%(2*(c.sl:Int))=c.A
  ·have hc:=fifo_t1_empty sb mb lb ty o c rv l w h hph hs hx (by omega);refine did_of ?_ hc;unfold Kc.fifo;try dsimp only
   try simp only[hop,Bool.false_eq_true,if_false]
   split <;> first | (exfalso;omega) | (exfalso;exact absurd hph (by assumption)) | rfl | (rw[if_pos hx];first | done | rfl)
  ·have hc:=fifo_t1_go sb mb lb ty o c rv l w h hph hs hx (by omega);refine did_of ?_ hc;unfold Kc.fifo;try dsimp only
   try simp only[hop,Bool.false_eq_true,if_false]
   split <;> first | (exfalso;omega) | (exfalso;exact absurd hph (by assumption)) | rfl | (rw[if_neg hx];first | done | rfl)
 ·have hi:=hq1 hph;have ha0:=Int.emod_nonneg c.A (show(c.sl:Int)≠0 by omega);have ha1:=Int.emod_lt_of_pos c.A (show(0:Int)<(c.sl:Int) by omega);have hsl:=slot_lt (k:=(c.A%c.sl).toNat) (n:=c.sl) (by omega) hi;have hc:=fifo_t2 sb mb lb ty o c rv l w h hph hs (fun q=>by rw[hwr q];exact hi) hrl (by omega) (by omega) (by omega);refine did_of ?_ hc;unfold Kc.fifo;try dsimp only
  try simp only[hop,Bool.false_eq_true,if_false]
  split <;> first | (exfalso;omega) | (exfalso;exact absurd hph (by assumption)) | rfl
 ·have hc:=fifo_t3 sb mb lb ty o c rv l w h hph hs hA.2 (by omega);refine did_of ?_ hc;unfold Kc.fifo;try dsimp only
  try simp only[hop,Bool.false_eq_true,if_false]
  split <;> first | (exfalso;omega) | (exfalso;exact absurd hph (by assumption)) | rfl
 ·omega
end
end Go.Proofs.YtolmpehgeinlkaaGreatDoor
