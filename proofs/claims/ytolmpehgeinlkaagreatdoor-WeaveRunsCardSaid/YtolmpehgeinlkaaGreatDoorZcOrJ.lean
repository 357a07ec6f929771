/- One step of each kind as the document has it: what its step computes. -/
import Derived.Test.YtolmpehgeinlkaaGreatDoorZcOrG
import Derived.Test.YtolmpehgeinlkaaGreatDoorZcOrH
import Derived.Test.YtolmpehgeinlkaaGreatDoorZcOrI
import Derived.Test.YtolmpehgeinlkaaGreatDoorZcOgM
namespace Go.Proofs.YtolmpehgeinlkaaGreatDoor
open Go.RowKit
set_option maxHeartbeats 1000000
set_option maxRecDepth 100000
section
variable (yb lb cap:Nat) (o:Ob) (c:Kc) (rv:Value) (l:List Int)
theorem didr_of {d:Kc × List Int} {w:World} {c':Kc} {l':List Int} {v:Value} {P:Program} {f:FuncId} {args:Array Value} (hd:d=(c',l')) (h:Calls P f args w (DidR yb lb cap o w rv c' l' v)):Calls P f args w (DidR yb lb cap o w rv d.1 d.2 v):=by
 subst hd;exact h
theorem r_fourWrite (B LL CC:Nat) (w:World) (h:SR w yb lb cap o c rv l) (hBB:c.base=B) (hLL:B+LL=l.length) (hk:isK o.k=true) (hop:(c.op==2)=true) (hwr:c.wr=true→c.rc.length=c.wd) (hrl:c.rc.length≤1000000) (hi8:c.i≤8) (_htr:c.tr<1000) (h1:1≤c.wd) (hHd:headZ o=((4:Nat):Int)) (hsz:4+4*c.wd≤LL) (hA:0≤c.A∧c.A≤1) (hB:0≤c.B∧c.B≤1) (hq:c.ph≤4) (hq2:c.ph=2→c.i<c.wd):Calls Tryz.prog 81 #[.pointer (some ⟨yb,0,none⟩),.slice (some ⟨lb,B,none⟩) LL CC] w (DidR yb lb cap o w rv (c.four l).1 (c.four l).2 (.tuple #[])):=by
 have hA2:c.A.toNat≤1:=by omega
 rcases hph:c.ph with _ | _ | _ | _ | _ | n
 ·have hc:=r_four_w0 yb lb cap o c rv l B LL CC w h hBB hLL hk hph (by omega);refine didr_of _ _ _ _ _ ?_ hc;unfold Kc.four;try dsimp only
  rw[if_pos hop]
  split <;> first | (exfalso;omega) | (exfalso;exact absurd hph (by assumption)) | rfl
 ·have hc:=r_four_w1 yb lb cap o c rv l B LL CC w h hBB hLL hk hph hA (by omega);refine didr_of _ _ _ _ _ ?_ hc;unfold Kc.four;try dsimp only
  rw[if_pos hop]
  split <;> first | (exfalso;omega) | (exfalso;exact absurd hph (by assumption)) | rfl
 ·have hi:=hq2 hph;have hsl:=slot_lt (k:=(2*c.A+c.B).toNat) (n:=4) (by omega) hi;have hc:=r_four_w2 yb lb cap o c rv l B LL CC w h hBB hLL hk hph hHd (fun q=>by rw[hwr q];exact hi) hrl (by omega) (by omega) hA hB;refine didr_of _ _ _ _ _ ?_ hc;unfold Kc.four;try dsimp only
  rw[if_pos hop]
  split <;> first | (exfalso;omega) | (exfalso;exact absurd hph (by assumption)) | rfl
 ·have hc:=r_four_w3 yb lb cap o c rv l B LL CC w h hBB hLL hk hph hA (by omega);refine didr_of _ _ _ _ _ ?_ hc;unfold Kc.four;try dsimp only
  rw[if_pos hop]
  split <;> first | (exfalso;omega) | (exfalso;exact absurd hph (by assumption)) | rfl
 ·have hc:=r_four_w4 yb lb cap o c rv l B LL CC w h hBB hLL hk hph (by omega);refine didr_of _ _ _ _ _ ?_ hc;unfold Kc.four;try dsimp only
  rw[if_pos hop]
  split <;> first | (exfalso;omega) | (exfalso;exact absurd hph (by assumption)) | rfl
 ·omega
theorem r_fourRead (B LL CC:Nat) (w:World) (h:SR w yb lb cap o c rv l) (hBB:c.base=B) (hLL:B+LL=l.length) (hk:isK o.k=true) (hop:(c.op==2)=false) (hwr:c.wr=true→c.rc.length=c.wd) (hrl:c.rc.length≤1000000) (hi8:c.i≤8) (_htr:c.tr<1000) (h1:1≤c.wd) (hHd:headZ o=((4:Nat):Int)) (hsz:4+4*c.wd≤LL) (hA:0≤c.A∧c.A≤1) (hB:0≤c.B∧c.B≤1) (hq:c.ph≤3) (hq2:c.ph=3→c.i<c.wd):Calls Tryz.prog 82 #[.pointer (some ⟨yb,0,none⟩),.slice (some ⟨lb,B,none⟩) LL CC] w (DidR yb lb cap o w rv (c.four l).1 (c.four l).2 (.tuple #[])):=by
 have hA2:c.A.toNat≤1:=by omega
 rcases hph:c.ph with _ | _ | _ | _ | n
 ·have hc:=r_four_r0 yb lb cap o c rv l B LL CC w h hBB hLL hk hph (by omega);refine didr_of _ _ _ _ _ ?_ hc;unfold Kc.four;try dsimp only
  rw[if_neg (by rw[hop];decide)]
  split <;> first | (exfalso;omega) | (exfalso;exact absurd hph (by assumption)) | rfl
 ·have hc:=r_four_r1 yb lb cap o c rv l B LL CC w h hBB hLL hk hph (by omega);refine didr_of _ _ _ _ _ ?_ hc;unfold Kc.four;try dsimp only
  rw[if_neg (by rw[hop];decide)]
  split <;> first | (exfalso;omega) | (exfalso;exact absurd hph (by assumption)) | rfl
 ·have hc:=r_four_r2 yb lb cap o c rv l B LL CC w h hBB hLL hk hph hA (by omega);refine didr_of _ _ _ _ _ ?_ hc;unfold Kc.four;try dsimp only
  rw[if_neg (by rw[hop];decide)]
  split <;> first | (exfalso;omega) | (exfalso;exact absurd hph (by assumption)) | rfl
 ·have hi:=hq2 hph;have hsl:=slot_lt (k:=(2*c.A+c.B).toNat) (n:=4) (by omega) hi;have hc:=r_four_r3 yb lb cap o c rv l B LL CC w h hBB hLL hk hph hHd (fun q=>by rw[hwr q];exact hi) hrl (by omega) (by omega) hA hB;refine didr_of _ _ _ _ _ ?_ hc;unfold Kc.four;try dsimp only
  rw[if_neg (by rw[hop];decide)]
  split <;> first | (exfalso;omega) | (exfalso;exact absurd hph (by assumption)) | rfl
 ·omega
theorem r_chenWrite (B LL CC:Nat) (w:World) (h:SR w yb lb cap o c rv l) (hBB:c.base=B) (hLL:B+LL=l.length) (hk:isK o.k=true) (hwr:c.wr=true→c.rc.length=c.wd) (hrl:c.rc.length≤1000000) (hi8:c.i≤8) (_htr:c.tr<1000) (h1:1≤c.wd) (hHd:headZ o=((1+c.nr:Nat):Int)) (hRz:recZ o=((c.nr+2:Nat):Int)) (n1:1≤c.nr) (n4:c.nr≤4) (hrd:c.rd<c.nr) (hsz:1+c.nr+(c.nr+2)*c.wd≤LL) (hB:0≤c.B∧c.B≤c.nr+1) (hq:c.ph≤4) (hq1:c.ph=1→c.i<c.nr) (hq2:c.ph=2→c.i<c.wd) (hq4:c.ph=4→c.i<c.nr):Calls Tryz.prog 83 #[.pointer (some ⟨yb,0,none⟩),.slice (some ⟨lb,B,none⟩) LL CC] w (DidR yb lb cap o w rv (c.chenWriteR l).1 (c.chenWriteR l).2 (.tuple #[])):=by
 have hm0:1*1≤(c.nr+2)*c.wd:=Nat.mul_le_mul (by omega) h1
 rcases hph:c.ph with _ | _ | _ | _ | _ | n
 ·have hc:=r_chen_w0 yb lb cap o c rv l B LL CC w h hBB hLL hk hph hRz (by omega);refine didr_of _ _ _ _ _ ?_ hc;unfold Kc.chenWriteR;try dsimp only
  split <;> first | (exfalso;omega) | (exfalso;exact absurd hph (by assumption)) | rfl
 ·by_cases hx:c.nr≤c.i+1
  ·have hi:=hq1 hph;have hc:=r_chen_w1_last yb lb cap o c rv l B LL CC w h hBB hLL hk hph hRz (hq1 hph) hx (by omega);refine didr_of _ _ _ _ _ ?_ hc;unfold Kc.chenWriteR;try dsimp only
   split <;> first | (exfalso;omega) | (exfalso;exact absurd hph (by assumption)) | rfl | (rw[if_pos hx];first | done | rfl)
  ·have hi:=hq1 hph;have hc:=r_chen_w1_next yb lb cap o c rv l B LL CC w h hBB hLL hk hph hRz (hq1 hph) hx (by omega);refine didr_of _ _ _ _ _ ?_ hc;unfold Kc.chenWriteR;try dsimp only
   split <;> first | (exfalso;omega) | (exfalso;exact absurd hph (by assumption)) | rfl | (rw[if_neg hx];first | done | rfl)
 ·have hi:=hq2 hph;have hsl:=slot_lt (k:=c.B.toNat) (n:=c.nr+2) (by omega) hi;have hc:=r_chen_w2 yb lb cap o c rv l B LL CC w h hBB hLL hk hph hHd (fun q=>by rw[hwr q];exact hi) hrl (by omega) (by omega) ⟨hB.1,by omega⟩;refine didr_of _ _ _ _ _ ?_ hc;unfold Kc.chenWriteR;try dsimp only
  split <;> first | (exfalso;omega) | (exfalso;exact absurd hph (by assumption)) | rfl
 ·have hc:=r_chen_w3 yb lb cap o c rv l B LL CC w h hBB hLL hk hph (by omega);refine didr_of _ _ _ _ _ ?_ hc;unfold Kc.chenWriteR;try dsimp only
  split <;> first | (exfalso;omega) | (exfalso;exact absurd hph (by assumption)) | rfl
 ·by_cases hx:c.nr≤c.i+1
  ·by_cases hy:c.rdm l (1+c.i)=(c.nr:Int)+2
   ·have hi:=hq4 hph;have hc:=r_chen_w4_eqlast yb lb cap o c rv l B LL CC w h hBB hLL hk hph (hq4 hph) hx hy (by omega);refine didr_of _ _ _ _ _ ?_ hc;unfold Kc.chenWriteR;try dsimp only
    split <;> first | (exfalso;omega) | (exfalso;exact absurd hph (by assumption)) | rfl | (rw[if_pos hx,if_pos hy];first | done | rfl) | (rw[if_pos hy,if_pos hx];first | done | rfl) | (rw[if_pos hx];first | done | rfl) | (rw[if_pos hy];first | done | rfl)
   ·have hi:=hq4 hph;have hc:=r_chen_w4_nelast yb lb cap o c rv l B LL CC w h hBB hLL hk hph (hq4 hph) hx hy (by omega);refine didr_of _ _ _ _ _ ?_ hc;unfold Kc.chenWriteR;try dsimp only
    split <;> first | (exfalso;omega) | (exfalso;exact absurd hph (by assumption)) | rfl | (rw[if_pos hx,if_neg hy];first | done | rfl) | (rw[if_neg hy,if_pos hx];first | done | rfl) | (rw[if_pos hx];first | done | rfl) | (rw[if_neg hy];first | done | rfl)
  ·by_cases hy:c.rdm l (1+c.i)=(c.nr:Int)+2
   ·have hi:=hq4 hph;have hc:=r_chen_w4_eqnext yb lb cap o c rv l B LL CC w h hBB hLL hk hph (hq4 hph) hx hy (by omega);refine didr_of _ _ _ _ _ ?_ hc;unfold Kc.chenWriteR;try dsimp only
    split <;> first | (exfalso;omega) | (exfalso;exact absurd hph (by assumption)) | rfl | (rw[if_neg hx,if_pos hy];first | done | rfl) | (rw[if_pos hy,if_neg hx];first | done | rfl) | (rw[if_neg hx];first | done | rfl) | (rw[if_pos hy];first | done | rfl)
   ·have hi:=hq4 hph;have hc:=r_chen_w4_nenext yb lb cap o c rv l B LL CC w h hBB hLL hk hph (hq4 hph) hx hy (by omega);refine didr_of _ _ _ _ _ ?_ hc;unfold Kc.chenWriteR;try dsimp only
    split <;> first | (exfalso;omega) | (exfalso;exact absurd hph (by assumption)) | rfl | (rw[if_neg hx,if_neg hy];first | done | rfl) | (rw[if_neg hy,if_neg hx];first | done | rfl) | (rw[if_neg hx];first | done | rfl) | (rw[if_neg hy];first | done | rfl)
 ·omega
theorem r_chenRead (B LL CC:Nat) (w:World) (h:SR w yb lb cap o c rv l) (hBB:c.base=B) (hLL:B+LL=l.length) (hk:isK o.k=true) (hop:(c.op==2)=false) (hwr:c.wr=true→c.rc.length=c.wd) (hrl:c.rc.length≤1000000) (hi8:c.i≤8) (_htr:c.tr<1000) (h1:1≤c.wd) (hHd:headZ o=((1+c.nr:Nat):Int)) (hRz:recZ o=((c.nr+2:Nat):Int)) (n1:1≤c.nr) (n4:c.nr≤4) (hrd:c.rd<c.nr) (hsz:1+c.nr+(c.nr+2)*c.wd≤LL) (hB:0≤c.B∧c.B≤c.nr+1) (hq:c.ph≤4) (hq4:c.ph=4→c.i<c.wd):Calls Tryz.prog 84 #[.pointer (some ⟨yb,0,none⟩),.slice (some ⟨lb,B,none⟩) LL CC] w (DidR yb lb cap o w rv (c.chen l).1 (c.chen l).2 (.tuple #[])):=by
 have hm0:1*1≤(c.nr+2)*c.wd:=Nat.mul_le_mul (by omega) h1
 rcases hph:c.ph with _ | _ | _ | _ | _ | n
 ·have hc:=r_chen_r0 yb lb cap o c rv l B LL CC w h hBB hLL hk hph (by omega);refine didr_of _ _ _ _ _ ?_ hc;unfold Kc.chen;try dsimp only
  rw[if_neg (by rw[hop];decide)]
  split <;> first | (exfalso;omega) | (exfalso;exact absurd hph (by assumption)) | rfl
 ·have hc:=r_chen_r1 yb lb cap o c rv l B LL CC w h hBB hLL hk hph (by omega);refine didr_of _ _ _ _ _ ?_ hc;unfold Kc.chen;try dsimp only
  rw[if_neg (by rw[hop];decide)]
  split <;> first | (exfalso;omega) | (exfalso;exact absurd hph (by assumption)) | rfl
 ·by_cases hx:c.rdm l (1+c.rd)=(c.nr:Int)+2
  ·have hc:=r_chen_r2_eq yb lb cap o c rv l B LL CC w h hBB hLL hk hph hx (by omega);refine didr_of _ _ _ _ _ ?_ hc;unfold Kc.chen;try dsimp only
   rw[if_neg (by rw[hop];decide)]
   split <;> first | (exfalso;omega) | (exfalso;exact absurd hph (by assumption)) | rfl | (rw[if_pos hx];first | done | rfl)
  ·have hc:=r_chen_r2_ne yb lb cap o c rv l B LL CC w h hBB hLL hk hph hx (by omega);refine didr_of _ _ _ _ _ ?_ hc;unfold Kc.chen;try dsimp only
   rw[if_neg (by rw[hop];decide)]
   split <;> first | (exfalso;omega) | (exfalso;exact absurd hph (by assumption)) | rfl | (rw[if_neg hx];first | done | rfl)
 ·have hc:=r_chen_r3 yb lb cap o c rv l B LL CC w h hBB hLL hk hph (by omega);refine didr_of _ _ _ _ _ ?_ hc;unfold Kc.chen;try dsimp only
  rw[if_neg (by rw[hop];decide)]
  split <;> first | (exfalso;omega) | (exfalso;exact absurd hph (by assumption)) | rfl
 ·have hi:=hq4 hph;have hsl:=slot_lt (k:=c.B.toNat) (n:=c.nr+2) (by omega) hi;have hc:=r_chen_r4 yb lb cap o c rv l B LL CC w h hBB hLL hk hph hHd (fun q=>by rw[hwr q];exact hi) hrl (by omega) (by omega) ⟨hB.1,by omega⟩;refine didr_of _ _ _ _ _ ?_ hc;unfold Kc.chen;try dsimp only
  rw[if_neg (by rw[hop];decide)]
  split <;> first | (exfalso;omega) | (exfalso;exact absurd hph (by assumption)) | rfl
 ·omega
theorem r_seqWrite (B LL CC:Nat) (w:World) (h:SR w yb lb cap o c rv l) (hBB:c.base=B) (hLL:B+LL=l.length) (hk:isK o.k=true) (hop:(c.op==2)=true) (hwr:c.wr=true→c.rc.length=c.wd) (hrl:c.rc.length≤1000000) (hi8:c.i≤8) (_htr:c.tr<1000) (h1:1≤c.wd) (hHd:headZ o=((1:Nat):Int)) (hsz:1+c.wd≤LL) (hq:c.ph≤3) (hq2:c.ph=2→c.i<c.wd):Calls Tryz.prog 85 #[.pointer (some ⟨yb,0,none⟩),.slice (some ⟨lb,B,none⟩) LL CC] w (DidR yb lb cap o w rv (c.seq l).1 (c.seq l).2 (.tuple #[])):=by
 rcases hph:c.ph with _ | _ | _ | _ | n
 ·have hc:=r_seq_w0 yb lb cap o c rv l B LL CC w h hBB hLL hk hph (by omega);refine didr_of _ _ _ _ _ ?_ hc;unfold Kc.seq;try dsimp only
  rw[if_pos hop]
  split <;> first | (exfalso;omega) | (exfalso;exact absurd hph (by assumption)) | rfl
 ·have hc:=r_seq_w1 yb lb cap o c rv l B LL CC w h hBB hLL hk hph (by omega);refine didr_of _ _ _ _ _ ?_ hc;unfold Kc.seq;try dsimp only
  rw[if_pos hop]
  split <;> first | (exfalso;omega) | (exfalso;exact absurd hph (by assumption)) | rfl
 ·have hi:=hq2 hph;have hc:=r_seq_w2 yb lb cap o c rv l B LL CC w h hBB hLL hk hph hHd (fun q=>by rw[hwr q];exact hi) hrl (by omega) (by omega);refine didr_of _ _ _ _ _ ?_ hc;unfold Kc.seq;try dsimp only
  rw[if_pos hop]
  split <;> first | (exfalso;omega) | (exfalso;exact absurd hph (by assumption)) | rfl
 ·have hc:=r_seq_w3 yb lb cap o c rv l B LL CC w h hBB hLL hk hph (by omega);refine didr_of _ _ _ _ _ ?_ hc;unfold Kc.seq;try dsimp only
  rw[if_pos hop]
  split <;> first | (exfalso;omega) | (exfalso;exact absurd hph (by assumption)) | rfl
 ·omega
theorem r_seqRead (B LL CC:Nat) (w:World) (h:SR w yb lb cap o c rv l) (hBB:c.base=B) (hLL:B+LL=l.length) (hk:isK o.k=true) (hop:(c.op==2)=false) (hwr:c.wr=true→c.rc.length=c.wd) (hrl:c.rc.length≤1000000) (hi8:c.i≤8) (htr:c.tr<1000) (h1:1≤c.wd) (hHd:headZ o=((1:Nat):Int)) (hsz:1+c.wd≤LL) (hq:c.ph≤2) (hq1:c.ph=1→c.i<c.wd):Calls Tryz.prog 86 #[.pointer (some ⟨yb,0,none⟩),.slice (some ⟨lb,B,none⟩) LL CC] w (DidR yb lb cap o w rv (c.seq l).1 (c.seq l).2 (.tuple #[])):=by
 rcases hph:c.ph with _ | _ | _ | n
 ·by_cases hx:c.rdm l 0%2=1
  ·by_cases hy:c.cap≤c.tr+1
   ·have hc:=r_seq_r0_oddlast yb lb cap o c rv l B LL CC w h hBB hLL hk hph htr (by omega) hx hy;refine didr_of _ _ _ _ _ ?_ hc;unfold Kc.seq;try dsimp only
    rw[if_neg (by rw[hop];decide)]
    split <;> first | (exfalso;omega) | (exfalso;exact absurd hph (by assumption)) | rfl | (rw[if_pos hx,if_pos hy];first | done | rfl) | (rw[if_pos hy,if_pos hx];first | done | rfl) | (rw[if_pos hx];first | done | rfl) | (rw[if_pos hy];first | done | rfl)
   ·have hc:=r_seq_r0_odd yb lb cap o c rv l B LL CC w h hBB hLL hk hph htr (by omega) hx hy;refine didr_of _ _ _ _ _ ?_ hc;unfold Kc.seq;try dsimp only
    rw[if_neg (by rw[hop];decide)]
    split <;> first | (exfalso;omega) | (exfalso;exact absurd hph (by assumption)) | rfl | (rw[if_pos hx,if_neg hy];first | done | rfl) | (rw[if_neg hy,if_pos hx];first | done | rfl) | (rw[if_pos hx];first | done | rfl) | (rw[if_neg hy];first | done | rfl)
  ·have hc:=r_seq_r0_even yb lb cap o c rv l B LL CC w h hBB hLL hk hph htr (by omega) hx;refine didr_of _ _ _ _ _ ?_ hc;unfold Kc.seq;try dsimp only
   rw[if_neg (by rw[hop];decide)]
   split <;> first | (exfalso;omega) | (exfalso;exact absurd hph (by assumption)) | rfl | (rw[if_neg hx];first | done | rfl)
 ·have hi:=hq1 hph;have hc:=r_seq_r1 yb lb cap o c rv l B LL CC w h hBB hLL hk hph hHd (fun q=>by rw[hwr q];exact hi) hrl (by omega) (by omega);refine didr_of _ _ _ _ _ ?_ hc;unfold Kc.seq;try dsimp only
  rw[if_neg (by rw[hop];decide)]
  split <;> first | (exfalso;omega) | (exfalso;exact absurd hph (by assumption)) | rfl
 ·by_cases hx:c.rdm l 0=c.A
  ·have hc:=r_seq_r2_same yb lb cap o c rv l B LL CC w h hBB hLL hk hph htr (by omega) hx;refine didr_of _ _ _ _ _ ?_ hc;unfold Kc.seq;try dsimp only
   rw[if_neg (by rw[hop];decide)]
   split <;> first | (exfalso;omega) | (exfalso;exact absurd hph (by assumption)) | rfl | (rw[if_pos hx];first | done | rfl)
  ·by_cases hy:c.cap≤c.tr+1
   ·have hc:=r_seq_r2_otherlast yb lb cap o c rv l B LL CC w h hBB hLL hk hph htr (by omega) hx hy;refine didr_of _ _ _ _ _ ?_ hc;unfold Kc.seq;try dsimp only
    rw[if_neg (by rw[hop];decide)]
    split <;> first | (exfalso;omega) | (exfalso;exact absurd hph (by assumption)) | rfl | (rw[if_neg hx,if_pos hy];first | done | rfl) | (rw[if_pos hy,if_neg hx];first | done | rfl) | (rw[if_neg hx];first | done | rfl) | (rw[if_pos hy];first | done | rfl)
   ·have hc:=r_seq_r2_other yb lb cap o c rv l B LL CC w h hBB hLL hk hph htr (by omega) hx hy;refine didr_of _ _ _ _ _ ?_ hc;unfold Kc.seq;try dsimp only
    rw[if_neg (by rw[hop];decide)]
    split <;> first | (exfalso;omega) | (exfalso;exact absurd hph (by assumption)) | rfl | (rw[if_neg hx,if_neg hy];first | done | rfl) | (rw[if_neg hy,if_neg hx];first | done | rfl) | (rw[if_neg hx];first | done | rfl) | (rw[if_neg hy];first | done | rfl)
 ·omega
theorem r_ringWrite (B LL CC:Nat) (w:World) (h:SR w yb lb cap o c rv l) (hBB:c.base=B) (hLL:B+LL=l.length) (hk:isK o.k=true) (hop:(c.op==2)=true) (hwr:c.wr=true→c.rc.length=c.wd) (hrl:c.rc.length≤1000000) (hi8:c.i≤8) (_htr:c.tr<1000) (_h1:1≤c.wd) (hHd:headZ o=((1:Nat):Int)) (hs:1≤c.sl) (hsz:1+c.sl*c.wd≤LL) (hq:c.ph≤2) (hq1:c.ph=1→c.i<c.wd):Calls Tryz.prog 87 #[.pointer (some ⟨yb,0,none⟩),.slice (some ⟨lb,B,none⟩) LL CC,.bool true] w (DidR yb lb cap o w rv (c.ringR' l).1 (c.ringR' l).2 (.tuple #[])):=by
 rcases hph:c.ph with _ | _ | _ | n
 ·have hc:=r_ring_w0 yb lb cap o c rv l B LL CC w h hBB hLL hk hph hs (by omega);refine didr_of _ _ _ _ _ ?_ hc;unfold Kc.ringR';try dsimp only
  try simp only[hop,if_true]
  split <;> first | (exfalso;omega) | (exfalso;exact absurd hph (by assumption)) | rfl
 ·have hi:=hq1 hph;have ha0:=Int.emod_nonneg c.A (show(c.sl:Int)≠0 by omega);have ha1:=Int.emod_lt_of_pos c.A (show(0:Int)<(c.sl:Int) by omega);have hsl:=slot_lt (k:=(c.A%c.sl).toNat) (n:=c.sl) (by omega) hi;have hc:=r_ring_w1 yb lb cap o c rv l B LL CC w h hBB hLL hk hph hHd (fun q=>by rw[hwr q];exact hi) hrl (by omega) (by omega) hs;refine didr_of _ _ _ _ _ ?_ hc;unfold Kc.ringR';try dsimp only
  try simp only[hop,if_true]
  split <;> first | (exfalso;omega) | (exfalso;exact absurd hph (by assumption)) | rfl
 ·have hc:=r_ring_w2 yb lb cap o c rv l B LL CC w h hBB hLL hk hph hs (by omega);refine didr_of _ _ _ _ _ ?_ hc;unfold Kc.ringR';try dsimp only
  try simp only[hop,if_true]
  split <;> first | (exfalso;omega) | (exfalso;exact absurd hph (by assumption)) | rfl
 ·omega
theorem r_ringRead (B LL CC:Nat) (w:World) (h:SR w yb lb cap o c rv l) (hBB:c.base=B) (hLL:B+LL=l.length) (hk:isK o.k=true) (hop:(c.op==2)=false) (hwr:c.wr=true→c.rc.length=c.wd) (hrl:c.rc.length≤1000000) (hi8:c.i≤8) (htr:c.tr<1000) (_h1:1≤c.wd) (hHd:headZ o=((1:Nat):Int)) (hs:1≤c.sl) (hsz:1+c.sl*c.wd≤LL) (hq:c.ph≤2) (hq1:c.ph=1→c.i<c.wd):Calls Tryz.prog 87 #[.pointer (some ⟨yb,0,none⟩),.slice (some ⟨lb,B,none⟩) LL CC,.bool false] w (DidR yb lb cap o w rv (c.ringR' l).1 (c.ringR' l).2 (.tuple #[])):=by
 rcases hph:c.ph with _ | _ | _ | n
 ·have hc:=r_ring_r0 yb lb cap o c rv l B LL CC w h hBB hLL hk hph hs (by omega);refine didr_of _ _ _ _ _ ?_ hc;unfold Kc.ringR';try dsimp only
  try simp only[hop,Bool.false_eq_true,if_false]
  split <;> first | (exfalso;omega) | (exfalso;exact absurd hph (by assumption)) | rfl
 ·have hi:=hq1 hph;have ha0:=Int.emod_nonneg c.A (show(c.sl:Int)≠0 by omega);have ha1:=Int.emod_lt_of_pos c.A (show(0:Int)<(c.sl:Int) by omega);have hsl:=slot_lt (k:=(c.A%c.sl).toNat) (n:=c.sl) (by omega) hi;have hc:=r_ring_r1 yb lb cap o c rv l B LL CC w h hBB hLL hk hph hHd (fun q=>by rw[hwr q];exact hi) hrl (by omega) (by omega) hs;refine didr_of _ _ _ _ _ ?_ hc;unfold Kc.ringR';try dsimp only
  try simp only[hop,Bool.false_eq_true,if_false]
  split <;> first | (exfalso;omega) | (exfalso;exact absurd hph (by assumption)) | rfl
 ·by_cases hx:Kc.gapR c.A (c.rdm l 0) ((c.sl:Int)*1048576)+1<(c.sl:Int)
  ·have hc:=r_ring_r2_ok yb lb cap o c rv l B LL CC w h hBB hLL hk hph hs htr (by omega) hx;refine didr_of _ _ _ _ _ ?_ hc;unfold Kc.ringR';try dsimp only
   try simp only[hop,Bool.false_eq_true,if_false]
   split <;> first | (exfalso;omega) | (exfalso;exact absurd hph (by assumption)) | rfl | (rw[if_pos hx];first | done | rfl)
  ·by_cases hy:c.cap≤c.tr+1
   ·have hc:=r_ring_r2_last yb lb cap o c rv l B LL CC w h hBB hLL hk hph hs htr (by omega) hx hy;refine didr_of _ _ _ _ _ ?_ hc;unfold Kc.ringR';try dsimp only
    try simp only[hop,Bool.false_eq_true,if_false]
    split <;> first | (exfalso;omega) | (exfalso;exact absurd hph (by assumption)) | rfl | (rw[if_neg hx,if_pos hy];first | done | rfl) | (rw[if_pos hy,if_neg hx];first | done | rfl) | (rw[if_neg hx];first | done | rfl) | (rw[if_pos hy];first | done | rfl)
   ·have hc:=r_ring_r2_again yb lb cap o c rv l B LL CC w h hBB hLL hk hph hs htr (by omega) hx hy;refine didr_of _ _ _ _ _ ?_ hc;unfold Kc.ringR';try dsimp only
    try simp only[hop,Bool.false_eq_true,if_false]
    split <;> first | (exfalso;omega) | (exfalso;exact absurd hph (by assumption)) | rfl | (rw[if_neg hx,if_neg hy];first | done | rfl) | (rw[if_neg hy,if_neg hx];first | done | rfl) | (rw[if_neg hx];first | done | rfl) | (rw[if_neg hy];first | done | rfl)
 ·omega
theorem r_cabWrite (B LL CC:Nat) (w:World) (h:SR w yb lb cap o c rv l) (hBB:c.base=B) (hLL:B+LL=l.length) (hk:isK o.k=true) (hwr:c.wr=true→c.rc.length=c.wd) (hrl:c.rc.length≤1000000) (hi8:c.i≤8) (_htr:c.tr<1000) (h1:1≤c.wd) (hHd:headZ o=((1+c.nr:Nat):Int)) (hRz:recZ o=((c.sl:Nat):Int)) (n1:1≤c.nr) (n4:c.nr≤4) (hrd:c.rd<c.nr) (hs0:c.nr+2≤c.sl) (hs2:c.sl≤16) (hsz:1+c.nr+c.sl*c.wd≤LL) (hB:0≤c.B∧c.B≤16) (hBs:c.B<c.sl) (hq:c.ph≤3) (hq1:c.ph=1→c.i<c.nr) (hq2:c.ph=2→c.i<c.wd):Calls Tryz.prog 88 #[.pointer (some ⟨yb,0,none⟩),.slice (some ⟨lb,B,none⟩) LL CC] w (DidR yb lb cap o w rv (c.cabWriteR l).1 (c.cabWriteR l).2 (.tuple #[])):=by
 have hm0:1*1≤c.sl*c.wd:=Nat.mul_le_mul (by omega) h1;have hs:1≤c.sl:=by omega
 rcases hph:c.ph with _ | _ | _ | _ | n
 ·have hc:=r_cab_w0 yb lb cap o c rv l B LL CC w h hBB hLL hk hph hRz hs (by omega);refine didr_of _ _ _ _ _ ?_ hc;unfold Kc.cabWriteR;try dsimp only
  split <;> first | (exfalso;omega) | (exfalso;exact absurd hph (by assumption)) | rfl
 ·by_cases hx:c.nr≤c.i+1
  ·by_cases hy:0<c.rdm l (1+c.i)
   ·have hi:=hq1 hph;have hc:=r_cab_w1_poslast yb lb cap o c rv l B LL CC w h hBB hLL hk hph hRz (hq1 hph) hx hy (by omega);refine didr_of _ _ _ _ _ ?_ hc;unfold Kc.cabWriteR;try dsimp only
    split <;> first | (exfalso;omega) | (exfalso;exact absurd hph (by assumption)) | rfl | (rw[if_pos hx,if_pos hy];first | done | rfl) | (rw[if_pos hy,if_pos hx];first | done | rfl) | (rw[if_pos hx];first | done | rfl) | (rw[if_pos hy];first | done | rfl)
   ·have hi:=hq1 hph;have hc:=r_cab_w1_nillast yb lb cap o c rv l B LL CC w h hBB hLL hk hph hRz (hq1 hph) hx hy (by omega);refine didr_of _ _ _ _ _ ?_ hc;unfold Kc.cabWriteR;try dsimp only
    split <;> first | (exfalso;omega) | (exfalso;exact absurd hph (by assumption)) | rfl | (rw[if_pos hx,if_neg hy];first | done | rfl) | (rw[if_neg hy,if_pos hx];first | done | rfl) | (rw[if_pos hx];first | done | rfl) | (rw[if_neg hy];first | done | rfl)
  ·by_cases hy:0<c.rdm l (1+c.i)
   ·have hi:=hq1 hph;have hc:=r_cab_w1_posnext yb lb cap o c rv l B LL CC w h hBB hLL hk hph hRz (hq1 hph) hx hy (by omega);refine didr_of _ _ _ _ _ ?_ hc;unfold Kc.cabWriteR;try dsimp only
    split <;> first | (exfalso;omega) | (exfalso;exact absurd hph (by assumption)) | rfl | (rw[if_neg hx,if_pos hy];first | done | rfl) | (rw[if_pos hy,if_neg hx];first | done | rfl) | (rw[if_neg hx];first | done | rfl) | (rw[if_pos hy];first | done | rfl)
   ·have hi:=hq1 hph;have hc:=r_cab_w1_nilnext yb lb cap o c rv l B LL CC w h hBB hLL hk hph hRz (hq1 hph) hx hy (by omega);refine didr_of _ _ _ _ _ ?_ hc;unfold Kc.cabWriteR;try dsimp only
    split <;> first | (exfalso;omega) | (exfalso;exact absurd hph (by assumption)) | rfl | (rw[if_neg hx,if_neg hy];first | done | rfl) | (rw[if_neg hy,if_neg hx];first | done | rfl) | (rw[if_neg hx];first | done | rfl) | (rw[if_neg hy];first | done | rfl)
 ·have hi:=hq2 hph;have hsl:=slot_lt (k:=c.B.toNat) (n:=c.sl) (by omega) hi;have hc:=r_cab_w2 yb lb cap o c rv l B LL CC w h hBB hLL hk hph hHd (fun q=>by rw[hwr q];exact hi) hrl (by omega) (by omega) ⟨hB.1,by omega⟩;refine didr_of _ _ _ _ _ ?_ hc;unfold Kc.cabWriteR;try dsimp only
  split <;> first | (exfalso;omega) | (exfalso;exact absurd hph (by assumption)) | rfl
 ·have hc:=r_cab_w3 yb lb cap o c rv l B LL CC w h hBB hLL hk hph (by omega);refine didr_of _ _ _ _ _ ?_ hc;unfold Kc.cabWriteR;try dsimp only
  split <;> first | (exfalso;omega) | (exfalso;exact absurd hph (by assumption)) | rfl
 ·omega
theorem r_cabRead (B LL CC:Nat) (w:World) (h:SR w yb lb cap o c rv l) (hBB:c.base=B) (hLL:B+LL=l.length) (hk:isK o.k=true) (hwr:c.wr=true→c.rc.length=c.wd) (hrl:c.rc.length≤1000000) (hi8:c.i≤8) (htr:c.tr<1000) (h1:1≤c.wd) (hHd:headZ o=((1+c.nr:Nat):Int)) (_hRz:recZ o=((c.sl:Nat):Int)) (n1:1≤c.nr) (n4:c.nr≤4) (hrd:c.rd<c.nr) (hs0:c.nr+2≤c.sl) (hs2:c.sl≤16) (hsz:1+c.nr+c.sl*c.wd≤LL) (hA:0≤c.A∧c.A<c.sl) (hq:c.ph≤5) (hq3:c.ph=3→c.i<c.wd):Calls Tryz.prog 89 #[.pointer (some ⟨yb,0,none⟩),.slice (some ⟨lb,B,none⟩) LL CC] w (DidR yb lb cap o w rv (c.cabReadR l).1 (c.cabReadR l).2 (.tuple #[])):=by
 have hm0:1*1≤c.sl*c.wd:=Nat.mul_le_mul (by omega) h1;have hs:1≤c.sl:=by omega
 rcases hph:c.ph with _ | _ | _ | _ | _ | _ | n
 ·have hc:=r_cab_r0 yb lb cap o c rv l B LL CC w h hBB hLL hk hph hs (by omega);refine didr_of _ _ _ _ _ ?_ hc;unfold Kc.cabReadR;try dsimp only
  split <;> first | (exfalso;omega) | (exfalso;exact absurd hph (by assumption)) | rfl
 ·have hc:=r_cab_r1 yb lb cap o c rv l B LL CC w h hBB hLL hk hph hs (by omega) (by omega);refine didr_of _ _ _ _ _ ?_ hc;unfold Kc.cabReadR;try dsimp only
  split <;> first | (exfalso;omega) | (exfalso;exact absurd hph (by assumption)) | rfl
 ·by_cases hx:c.rdm l 0%(c.sl:Int)=c.A
  ·have hc:=r_cab_r2_same yb lb cap o c rv l B LL CC w h hBB hLL hk hph hs (by omega) htr hx;refine didr_of _ _ _ _ _ ?_ hc;unfold Kc.cabReadR;try dsimp only
   split <;> first | (exfalso;omega) | (exfalso;exact absurd hph (by assumption)) | rfl | (rw[if_pos hx];first | done | rfl)
  ·by_cases hy:c.cap≤c.tr+1
   ·have hc:=r_cab_r2_last yb lb cap o c rv l B LL CC w h hBB hLL hk hph hs (by omega) htr hx hy;refine didr_of _ _ _ _ _ ?_ hc;unfold Kc.cabReadR;try dsimp only
    split <;> first | (exfalso;omega) | (exfalso;exact absurd hph (by assumption)) | rfl | (rw[if_neg hx,if_pos hy];first | done | rfl) | (rw[if_pos hy,if_neg hx];first | done | rfl) | (rw[if_neg hx];first | done | rfl) | (rw[if_pos hy];first | done | rfl)
   ·have hc:=r_cab_r2_again yb lb cap o c rv l B LL CC w h hBB hLL hk hph hs (by omega) htr hx hy;refine didr_of _ _ _ _ _ ?_ hc;unfold Kc.cabReadR;try dsimp only
    split <;> first | (exfalso;omega) | (exfalso;exact absurd hph (by assumption)) | rfl | (rw[if_neg hx,if_neg hy];first | done | rfl) | (rw[if_neg hy,if_neg hx];first | done | rfl) | (rw[if_neg hx];first | done | rfl) | (rw[if_neg hy];first | done | rfl)
 ·have hi:=hq3 hph;have hsl:=slot_lt (k:=c.A.toNat) (n:=c.sl) (by omega) hi;have hc:=r_cab_r3 yb lb cap o c rv l B LL CC w h hBB hLL hk hph hHd (fun q=>by rw[hwr q];exact hi) hrl (by omega) (by omega) hs (by omega) ⟨hA.1,by omega⟩;refine didr_of _ _ _ _ _ ?_ hc;unfold Kc.cabReadR;try dsimp only
  split <;> first | (exfalso;omega) | (exfalso;exact absurd hph (by assumption)) | rfl
 ·have hc:=r_cab_r4 yb lb cap o c rv l B LL CC w h hBB hLL hk hph hs (by omega) (by omega);refine didr_of _ _ _ _ _ ?_ hc;unfold Kc.cabReadR;try dsimp only
  split <;> first | (exfalso;omega) | (exfalso;exact absurd hph (by assumption)) | rfl
 ·have hc:=r_cab_r5 yb lb cap o c rv l B LL CC w h hBB hLL hk hph hs (by omega) (by omega);refine didr_of _ _ _ _ _ ?_ hc;unfold Kc.cabReadR;try dsimp only
  split <;> first | (exfalso;omega) | (exfalso;exact absurd hph (by assumption)) | rfl
 ·omega
theorem r_fifoPut (B LL CC:Nat) (w:World) (h:SR w yb lb cap o c rv l) (hBB:c.base=B) (hLL:B+LL=l.length) (hk:isK o.k=true) (hop:(c.op==3)=true) (hwr:c.wr=true→c.rc.length=c.wd) (hrl:c.rc.length≤1000000) (hi8:c.i≤8) (_htr:c.tr<1000) (_h1:1≤c.wd) (hHd:headZ o=((2:Nat):Int)) (hs:1≤c.sl) (hsz:2+c.sl*c.wd≤LL) (hq:c.ph≤3) (hq1:c.ph=2→c.i<c.wd):Calls Tryz.prog 90 #[.pointer (some ⟨yb,0,none⟩),.slice (some ⟨lb,B,none⟩) LL CC,.bool true] w (DidR yb lb cap o w rv (c.fifoR' l).1 (c.fifoR' l).2 (.tuple #[])):=by
 rcases hph:c.ph with _ | _ | _ | _ | n
 ·have hc:=r_fifo_p0 yb lb cap o c rv l B LL CC w h hBB hLL hk hph hs (by omega);refine didr_of _ _ _ _ _ ?_ hc;unfold Kc.fifoR';try dsimp only
  try simp only[hop,if_true,Bool.false_eq_true,if_false,Bool.true_and,Bool.false_and,Bool.not_true,decide_eq_true_eq]
  split <;> first | (exfalso;omega) | (exfalso;exact absurd hph (by assumption)) | rfl
 ·by_cases hx:Kc.gapR (c.rdm l 0) c.A (2*(c.sl:Int))≥(c.sl:Int)
  ·have hc:=r_fifo_p1_stop yb lb cap o c rv l B LL CC w h hBB hLL hk hph hs (by omega) hx;refine didr_of _ _ _ _ _ ?_ hc;unfold Kc.fifoR';try dsimp only
   try simp only[hop,if_true,Bool.false_eq_true,if_false,Bool.true_and,Bool.false_and,Bool.not_true,decide_eq_true_eq]
   split <;> first | (exfalso;omega) | (exfalso;exact absurd hph (by assumption)) | rfl | (rw[if_pos hx];first | done | rfl)
  ·have hc:=r_fifo_p1_go yb lb cap o c rv l B LL CC w h hBB hLL hk hph hs (by omega) hx;refine didr_of _ _ _ _ _ ?_ hc;unfold Kc.fifoR';try dsimp only
   try simp only[hop,if_true,Bool.false_eq_true,if_false,Bool.true_and,Bool.false_and,Bool.not_true,decide_eq_true_eq]
   split <;> first | (exfalso;omega) | (exfalso;exact absurd hph (by assumption)) | rfl | (rw[if_neg hx];first | done | rfl)
 ·have hi:=hq1 hph;have ha0:=Int.emod_nonneg c.A (show(c.sl:Int)≠0 by omega);have ha1:=Int.emod_lt_of_pos c.A (show(0:Int)<(c.sl:Int) by omega);have hsl:=slot_lt (k:=(c.A%c.sl).toNat) (n:=c.sl) (by omega) hi;have hc:=r_fifo_p2 yb lb cap o c rv l B LL CC w h hBB hLL hk hph hHd (fun q=>by rw[hwr q];exact hi) hrl (by omega) (by omega) hs;refine didr_of _ _ _ _ _ ?_ hc;unfold Kc.fifoR';try dsimp only
  try simp only[hop,if_true,Bool.false_eq_true,if_false,Bool.true_and,Bool.false_and,Bool.not_true,decide_eq_true_eq]
  split <;> first | (exfalso;omega) | (exfalso;exact absurd hph (by assumption)) | rfl
 ·have hc:=r_fifo_p3 yb lb cap o c rv l B LL CC w h hBB hLL hk hph hs (by omega);refine didr_of _ _ _ _ _ ?_ hc;unfold Kc.fifoR';try dsimp only
  try simp only[hop,if_true,Bool.false_eq_true,if_false,Bool.true_and,Bool.false_and,Bool.not_true,decide_eq_true_eq]
  split <;> first | (exfalso;omega) | (exfalso;exact absurd hph (by assumption)) | rfl
 ·omega
theorem r_fifoTake (B LL CC:Nat) (w:World) (h:SR w yb lb cap o c rv l) (hBB:c.base=B) (hLL:B+LL=l.length) (hk:isK o.k=true) (hop:(c.op==3)=false) (hwr:c.wr=true→c.rc.length=c.wd) (hrl:c.rc.length≤1000000) (hi8:c.i≤8) (_htr:c.tr<1000) (_h1:1≤c.wd) (hHd:headZ o=((2:Nat):Int)) (hs:1≤c.sl) (hsz:2+c.sl*c.wd≤LL) (hq:c.ph≤3) (hq1:c.ph=2→c.i<c.wd):Calls Tryz.prog 90 #[.pointer (some ⟨yb,0,none⟩),.slice (some ⟨lb,B,none⟩) LL CC,.bool false] w (DidR yb lb cap o w rv (c.fifoR' l).1 (c.fifoR' l).2 (.tuple #[])):=by
 rcases hph:c.ph with _ | _ | _ | _ | n
 ·have hc:=r_fifo_t0 yb lb cap o c rv l B LL CC w h hBB hLL hk hph hs (by omega);refine didr_of _ _ _ _ _ ?_ hc;unfold Kc.fifoR';try dsimp only
  try simp only[hop,Bool.false_eq_true,if_false,Bool.true_and,Bool.false_and,Bool.not_false,decide_eq_true_eq]
  split <;> first | (exfalso;omega) | (exfalso;exact absurd hph (by assumption)) | rfl
 ·by_cases hx:Kc.gapR c.A (c.rdm l 1) (2*(c.sl:Int))=0
  ·have hc:=r_fifo_t1_stop yb lb cap o c rv l B LL CC w h hBB hLL hk hph hs (by omega) hx;refine didr_of _ _ _ _ _ ?_ hc;unfold Kc.fifoR';try dsimp only
   try simp only[hop,Bool.false_eq_true,if_false,Bool.true_and,Bool.false_and,Bool.not_false,decide_eq_true_eq]
   split <;> first | (exfalso;omega) | (exfalso;exact absurd hph (by assumption)) | rfl | (rw[if_pos hx];first | done | rfl)
  ·have hc:=r_fifo_t1_go yb lb cap o c rv l B LL CC w h hBB hLL hk hph hs (by omega) hx;refine didr_of _ _ _ _ _ ?_ hc;unfold Kc.fifoR';try dsimp only
   try simp only[hop,Bool.false_eq_true,if_false,Bool.true_and,Bool.false_and,Bool.not_false,decide_eq_true_eq]
   split <;> first | (exfalso;omega) | (exfalso;exact absurd hph (by assumption)) | rfl | (rw[if_neg hx];first | done | rfl)
 ·have hi:=hq1 hph;have ha0:=Int.emod_nonneg c.A (show(c.sl:Int)≠0 by omega);have ha1:=Int.emod_lt_of_pos c.A (show(0:Int)<(c.sl:Int) by omega);have hsl:=slot_lt (k:=(c.A%c.sl).toNat) (n:=c.sl) (by omega) hi;have hc:=r_fifo_t2 yb lb cap o c rv l B LL CC w h hBB hLL hk hph hHd (fun q=>by rw[hwr q];exact hi) hrl (by omega) (by omega) hs;refine didr_of _ _ _ _ _ ?_ hc;unfold Kc.fifoR';try dsimp only
  try simp only[hop,Bool.false_eq_true,if_false,Bool.true_and,Bool.false_and,Bool.not_false,decide_eq_true_eq]
  split <;> first | (exfalso;omega) | (exfalso;exact absurd hph (by assumption)) | rfl
 ·have hc:=r_fifo_t3 yb lb cap o c rv l B LL CC w h hBB hLL hk hph hs (by omega);refine didr_of _ _ _ _ _ ?_ hc;unfold Kc.fifoR';try dsimp only
  try simp only[hop,Bool.false_eq_true,if_false,Bool.true_and,Bool.false_and,Bool.not_false,decide_eq_true_eq]
  split <;> first | (exfalso;omega) | (exfalso;exact absurd hph (by assumption)) | rfl
 ·omega
end
end Go.Proofs.YtolmpehgeinlkaaGreatDoor
