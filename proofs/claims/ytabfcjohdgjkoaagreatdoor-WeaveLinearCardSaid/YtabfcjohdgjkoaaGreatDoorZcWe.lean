/- What is wrong of what is to be done, by the document. -/
import Derived.Test.YtabfcjohdgjkoaaGreatDoorZcWd
import Derived.Test.YtabfcjohdgjkoaaGreatDoorZcShK
namespace Go.Proofs.YtabfcjohdgjkoaaGreatDoor
open Go.RowKit
theorem pY {o:Ob} {k:Nat}:∀ {l:List Td},gE o k l=0→∀ t ∈ l,t.op=iR o k∧(t.r.length:Int)=nB o k
 | [],_,_,m=>by cases m
 | u::l,h,t,m=>by
  unfold gE at h
  by_cases q:pq o k u=0
  ·rw[if_pos q] at h
   rcases List.mem_cons.1 m with rfl | m
   ·unfold pq at q
    by_cases a:t.op≠iR o k
    ·rw[if_pos a] at q;omega
    ·rw[if_neg a] at q
     by_cases b:(t.r.length:Int)≠nB o k
     ·rw[if_pos b] at q;omega
     ·exact⟨by omega,by omega⟩
   ·exact pY h t m
  ·rw[if_neg q] at h;exact absurd h q
theorem l6 {o:Ob}:∀ {ls:List (List Td)} {k:Nat},iV o k ls=0→∀ (j:Nat) (l:List Td),ls[j]?=some l→∀ t ∈ l,t.op=iR o (k+j)∧(t.r.length:Int)=nB o (k+j)
 | [],_,_,j,l,e=>by simp at e
 | a::ls,k,h,j,l,e=>by
  unfold iV at h
  by_cases q:gE o k a=0
  ·rw[if_pos q] at h
   rcases j with _ | j
   ·obtain rfl:a=l:=by simpa using e
    exact pY q
   ·have:=l6 h j l (by simpa using e);rw[show k+(j+1)=k+1+j by omega];exact this
  ·rw[if_neg q] at h;exact absurd h q
theorem dR {o:Ob} {ls:List (List Td)} (h:dE o ls=0):bD o∧(ls.length:Int)=1+o.nr∧iV o 0 ls=0:=by
 unfold dE at h
 by_cases q:bD o∧(ls.length:Int)=1+o.nr
 ·rw[if_pos q] at h;exact⟨q.1,q.2,h⟩
 ·rw[if_neg q] at h;omega
theorem pW {o:Ob} {ls:List (List Td)} (h:dE o ls=0) {k:Nat} {l:List Td} (hl:ls[k]?=some l) {t:Td} (ht:t ∈ l):fM o 0 t.op (yp k) t.r.length=0:=by
 obtain⟨hR,hn,hf⟩:=dR h;obtain⟨h1,h2⟩:=l6 hf k l hl t ht;have hk:=(List.getElem?_eq_some_iff.1 hl).1;rw[Nat.zero_add] at h1 h2;have hz:=nE hR
 have bY:1≤aB o:=by
  obtain⟨a,b,c,d,e⟩:=hz;have:=Int.mul_nonneg (a:=iY o) (b:=o.wd) (by omega) (by omega);omega
 have pu:oA o.k≠oB o.k:=by
  rcases ba hR with q | q | q | q | q | q <;> (have:=q.1;unfold oA oB mr;rw[this];decide)
 unfold fM ql iR nB yp at *;rw[if_neg (by omega)]
 by_cases q:k=0
 ·rw[if_pos q] at h1 h2 ⊢;rw[if_pos h1,if_neg (by omega),if_neg (by omega)]
 ·rw[if_neg q] at h1 h2 ⊢;rw[h1,if_neg (fun e=>pu e.symm),if_pos rfl,if_neg (by omega),if_neg (by omega)]
theorem oG {o:Ob} {l:List Int} (h:bD o) (hl:o.ni=l.length):((aW o l).length:Int)=aB o:=by
 unfold aW;rw[if_pos h];have hb:=uy h hl;have hz:=ny o;rw[jP (by rw[ll];omega),ll];omega
structure Lm.Good (o:Ob) (j:Nat) (L:Lm):Prop where
 inv:L.InvL (eg o) L.mem.length
 call:L.CallOk
 left:∀ (k:Nat) (p:Pr),L.ps[k]?=some p→∀ t ∈ p.left,fM o 0 t.op (yp k) t.r.length=0∧t.r.length≤1000
 cn:L.calls.length≤j
 now:L.now≤j
 rl:∀ x ∈ L.calls,x.r.length≤1000
 up:L.Up
def gC (ls:List (List Td)) (m:List Int):Lm:=⟨ls.map fun l=>⟨l,none,0⟩,m,[],0⟩
theorem Lm.Good.start {o:Ob} {ls:List (List Td)} {m:List Int} (h:dE o ls=0) (hm:(m.length:Int)=aB o) (hr:∀ l ∈ ls,∀ t ∈ l,t.r.length≤1000∧W32 t.r):Lm.Good o 0 (gC ls m):=by
 have hg:∀ (k:Nat) (p:Pr),(gC ls m).ps[k]?=some p→∃ l,ls[k]?=some l∧p=⟨l,none,0⟩:=fun k p e=>by
  unfold gC at e;rw[List.getElem?_map] at e;cases q:ls[k]? with
  | none=>rw[q] at e;cases e
  | some l=>rw[q] at e;exact⟨l,rfl,(Option.some.inj e).symm⟩
 refine⟨⟨fun k p c e hc=>?_,fun k p t e ht=>?_⟩,fun k p c e hc=>?_,fun k p e t ht=>?_,Nat.zero_le _,Nat.zero_le _,fun x hx=>(by cases hx),⟨List.Pairwise.nil,fun x hx=>by cases hx⟩⟩
 ·obtain⟨l,_,rfl⟩:=hg k p e;cases hc
 ·obtain⟨l,hl,rfl⟩:=hg k p e;have h0:=pW h hl ht;refine⟨(ux h0 (hr l (List.mem_of_getElem? hl) t ht).2 (by omega)).1,rfl,rfl,?_⟩;show(aB o).toNat=m.length;omega
 ·obtain⟨l,_,rfl⟩:=hg k p e;cases hc
 ·obtain⟨l,hl,rfl⟩:=hg k p e;exact⟨pW h hl ht,(hr l (List.mem_of_getElem? hl) t ht).1⟩
theorem Lm.one_some {bg:Nat→Td→Kc} {st:Kc→List Int→Kc × List Int} {L L':Lm} {k:Nat} {p:Pr} (h:Lm.one bg st L k p=some L'):∃ L1 ts c q,Lm.beg bg L k p=some (L1,⟨ts,some c,q⟩)∧L'=Lm.go st L1 k ⟨ts,some c,q⟩ c:=by
 unfold Lm.one at h
 split at h
 ·rename_i L1 ts c q e;exact⟨L1,ts,c,q,e,(Option.some.inj h).symm⟩
 ·cases h
theorem Lm.beg_some {bg:Nat→Td→Kc} {L L1:Lm} {k:Nat} {p p1:Pr} (h:Lm.beg bg L k p=some (L1,p1)):(L1=L∧p1=p)∨∃ t ts,p.left=t::ts∧p1=⟨ts,some (bg k t),L.calls.length⟩∧L1={ L with ps:=L.ps.set k p1,calls:=L.calls++[⟨k,0,t.op,t.r,0,L.now,-1⟩] }:=by
 unfold Lm.beg at h
 split at h
 ·split at h
  ·cases h
  ·rename_i t ts e;cases h;exact .inr ⟨t,ts,e,rfl,rfl⟩
 ·cases h;exact .inl ⟨rfl,rfl⟩
theorem Lm.Good.more {o:Ob} {j i:Nat} {L:Lm} (h:L.Good o j) (hi:j≤i):L.Good o i:=⟨h.inv,h.call,h.left,Nat.le_trans h.cn hi,Nat.le_trans h.now hi,h.rl,h.up⟩
theorem Lm.Good.one {o:Ob} {j:Nat} {L L':Lm} {k:Nat} {p:Pr} (h:L.Good o j) (hw:W32 L.mem) (hp:L.ps[k]?=some p) (h1:Lm.one (eg o) Kc.step L k p=some L'):L'.Good o (j+1)∧L'.mem.length=L.mem.length:=by
 have hk:=(List.getElem?_eq_some_iff.1 hp).1;have hI:=h.inv.one hw hp h1;have hU:=h.up.one h1;obtain⟨L1,ts,c,q,hb,rfl⟩:=Lm.one_some h1;have iO:=Lm.beg_call h.call hp hb c rfl
 have bf:(Lm.go Kc.step L1 k ⟨ts,some c,q⟩ c).calls.length=L1.calls.length:=by
  unfold Lm.go;dsimp only
  split
  ·simp
  ·rfl
 have sF:L1.mem=L.mem∧L1.calls.length≤L.calls.length+1∧L.calls.length≤L1.calls.length:=by
  rcases Lm.beg_some hb with ⟨rfl,_⟩ | ⟨t,ts',_,_,rfl⟩
  ·exact⟨rfl,by omega,Nat.le_refl _⟩
  ·exact⟨rfl,by simp,by simp⟩
 have xn:(Lm.go Kc.step L1 k ⟨ts,some c,q⟩ c).mem.length=L.mem.length:=by
  show((Kc.step c L1.mem).2).length=_;rw[jB,sF.1]
 have bV:∀ x ∈ L1.calls,x.r.length≤1000:=by
  rcases Lm.beg_some hb with ⟨rfl,_⟩ | ⟨t,ts',hl,_,rfl⟩
  ·exact h.rl
  ·intro x hx
   rcases List.mem_append.1 hx with hx | hx
   ·exact h.rl x hx
   ·rw[List.mem_singleton.1 hx];exact(h.left k p hp t (by rw[hl];exact List.mem_cons_self)).2
 have di:∀ x ∈ (Lm.go Kc.step L1 k ⟨ts,some c,q⟩ c).calls,x.r.length≤1000:=fun x hx=>by
  have K8:k<L1.ps.length:=by
   rcases Lm.beg_some hb with ⟨rfl,_⟩ | ⟨t,ts',_,_,rfl⟩
   ·exact hk
   ·simpa using hk
  obtain⟨hv,_⟩:=hI.op k ⟨ts,some (Kc.step c L1.mem).1,q⟩ (Kc.step c L1.mem).1 (by unfold Lm.go;simp[K8]) rfl;have h1:=hv.gen.rcl;have h2:=hv.st;unfold Lm.go at hx;dsimp only at hx
  split at hx
  ·obtain⟨i,hi⟩:=List.getElem?_of_mem hx;rw[List.getElem?_modify] at hi;cases hy:L1.calls[i]? with
   | none=>rw[hy] at hi;split at hi <;> cases hi
   | some y=>
    rw[hy] at hi;have sL:=bV y (List.mem_of_getElem? hy);obtain rfl:=Option.some.inj hi
    by_cases e:q=i
    ·simp only[if_pos e];unfold dQ;dsimp only
     split
     ·exact sL
     ·omega
    ·simp only[if_neg e];exact sL
  ·exact bV x hx
 refine⟨⟨by rw[xn];exact hI,fun i p' d e hd=>?_,fun i p' e t ht=>?_,by rw[bf];have:=h.cn;omega,by show L1.now+1≤j+1;have:=h.now;have:=iO.2;omega,di,hU⟩,xn⟩
 ·rw[bf]
  rcases bz e with ⟨rfl,rfl⟩ | ⟨eZ,e⟩
  ·exact iO.1
  ·rcases Lm.beg_some hb with ⟨rfl,_⟩ | ⟨t,ts',_,hq,rfl⟩
   ·exact h.call i p' d e hd
   ·rcases bz e with ⟨e',_⟩ | ⟨_,e⟩
    ·exact absurd e' eZ
    ·have:=h.call i p' d e hd;have:=sF.2.2;omega
 ·rcases bz e with ⟨rfl,rfl⟩ | ⟨eZ,e⟩
  ·rcases Lm.beg_some hb with ⟨rfl,hq⟩ | ⟨t',ts',hl,hq,rfl⟩
   ·exact h.left i p hp t (by rw[← hq];exact ht)
   ·cases hq;exact h.left i p hp t (by rw[hl];exact List.mem_cons_of_mem _ ht)
  ·rcases Lm.beg_some hb with ⟨rfl,_⟩ | ⟨t',ts',_,hq,rfl⟩
   ·exact h.left i p' e t ht
   ·rcases bz e with ⟨e',_⟩ | ⟨_,e⟩
    ·exact absurd e' eZ
    ·exact h.left i p' e t ht
theorem Lm.Good.turn {o:Ob} {j:Nat} {L:Lm} (h:L.Good o j) (hw:W32 L.mem) (k:Int):(Lm.turn (eg o) Kc.step L k).Good o (j+1)∧(Lm.turn (eg o) Kc.step L k).mem.length=L.mem.length:=by
 have no:L.Good o (j+1)∧L.mem.length=L.mem.length:=⟨h.more (by omega),rfl⟩;unfold Lm.turn Lm.turn?
 by_cases hk:k<0
 ·rw[if_pos hk];exact no
 ·rw[if_neg hk];cases hp:L.ps[k.toNat]? with
  | none=>exact no
  | some p=>
   cases h1:Lm.one (eg o) Kc.step L k.toNat p with
   | none=>dsimp only;rw[h1];exact no
   | some L'=>dsimp only;rw[h1];exact h.one hw hp h1
def Lm.GoodTo (o:Ob) (L0:Lm) (ks:List Int) (j:Nat):Prop:=∀ i,i≤j→(Lm.run (eg o) Kc.step L0 (ks.take i)).Good o i∧(Lm.run (eg o) Kc.step L0 (ks.take i)).mem.length=L0.mem.length∧(i<j→W32 (Lm.run (eg o) Kc.step L0 (ks.take i)).mem)
theorem Lm.run_snoc {bg:Nat→Td→Kc} {st:Kc→List Int→Kc × List Int} {L:Lm} {ks:List Int} {j:Nat} {k:Int} (h:ks[j]?=some k):Lm.run bg st L (ks.take (j+1))=Lm.turn bg st (Lm.run bg st L (ks.take j)) k:=by
 unfold Lm.run;rw[List.take_add_one,h,List.foldl_append];rfl
theorem Lm.GoodTo.next {o:Ob} {L0:Lm} {ks:List Int} {j:Nat} {k:Int} (h:Lm.GoodTo o L0 ks j) (hk:ks[j]?=some k) (hw:W32 (Lm.run (eg o) Kc.step L0 (ks.take j)).mem):Lm.GoodTo o L0 ks (j+1):=fun i hi=>by
 by_cases q:i≤j
 ·obtain⟨a,b,c⟩:=h i q;refine⟨a,b,fun _=>?_⟩
  by_cases e:i<j
  ·exact c e
  ·obtain rfl:i=j:=by omega
   exact hw
 ·obtain rfl:i=j+1:=by omega
  rw[Lm.run_snoc hk];obtain⟨a,b,_⟩:=h j (Nat.le_refl _);obtain⟨c,d⟩:=a.turn hw k;exact⟨c,d.trans b,fun q=>absurd q (Nat.lt_irrefl _)⟩
open Go.Lib (hid)
attribute [local go_sem] Oper.semAt_some
set_option maxHeartbeats 4000000
set_option maxRecDepth 100000
theorem Br (o:Ob) (ho:o.Ok) (A:Option Addr) (n' cap:Nat) (w:World) (h:¬ (bD o∧(n':Int)=1+o.nr)):Calls Tryz.prog 8 #[.agg (af o),.slice A n' cap] w fun e w'=>e=.returned (.int .i64 1)∧Below w.heap.size w w':=by
 have hn:=RowB.new w (af o) 26;have hB:=bK w (.cells (af o) 26);obtain⟨n,aI⟩:∃ n,w.heap.size=n:=⟨_,rfl⟩;rw[aI] at hn hB;have qx:=hid fun W=>oO o ho W
 have HN:=hid hn;have HB:=hid hB;unfold af at qx HN HB;rw[aI]
 by_cases hr:bD o
 ·have hl:¬ (n':Int)=1+o.nr:=fun q=>h ⟨hr,q⟩
  rw[decide_eq_true hr] at qx;have d1:((n':Int) != (o.nr:Int)+1)=true:=by simp;omega
  have hw:IntKind.i64.wrap ((o.nr:Int)+1)=(o.nr:Int)+1:=ag (by omega) (by have:=ho.nr1;omega);clear hn hB h hr hl ho;unfold af;go_enter Tryz.func8,Tryz.ntmps8;go_wp2_with fail;refine(qx.out _).mono ?_;rintro e w1 ⟨rfl,hb⟩;have bV:=HN.out.kept hb;have c7:=bV.at 7 (.slice o.R o.nr o.cr);have bT:=hid (eC HB.out hb);clear hb bV;go_wp2_with fail;go_ret;exact⟨rfl,bT.out⟩
 ·rw[decide_eq_false hr] at qx;clear hn hB h hr ho;unfold af;go_enter Tryz.func8,Tryz.ntmps8;go_wp2_with fail;refine(qx.out _).mono ?_;rintro e w1 ⟨rfl,hb⟩;have bT:=hid (eC HB.out hb);clear hb;go_wp2_with fail;go_ret;exact⟨rfl,bT.out⟩
theorem Bs (o:Ob) (ho:o.Ok) (A:Option Addr) (cap:Nat) (gs:List PG) (w:World) (hin:ProcsIn w w.heap.size A gs) (bf:gs.length≤1000) (iy:∀ g ∈ gs,g.ts.length≤1000) (gB:∀ g ∈ gs,∀ t ∈ g.ts,t.r.length≤1000) (hr:bD o) (hl:(gs.length:Int)=1+o.nr):
  Calls Tryz.prog 8 #[.agg (af o),.slice A gs.length cap] w fun e w'=>e=.returned (.int .i64 (iV o 0 (cV gs)))∧Below w.heap.size w w':=by
 have hn:=RowB.new w (af o) 26;have hB:=bK w (.cells (af o) 26);obtain⟨n,aI⟩:∃ n,w.heap.size=n:=⟨_,rfl⟩;rw[aI] at hn hB;have qx:=hid fun W=>oO o ho W
 have HN:=hid hn;have HB:=hid hB;unfold af at qx HN HB;have CY:=hid hin;have CG:=hid iy;have Nj:=hid gB;have CZ:=hid bf
 have hk:mr o.k=true:=by
  rcases ba hr with q | q | q | q | q | q <;> (rw[q.1];rfl)
 have Qd:=hid fun W=>te o.k W hk
 have P2:=hid fun W=>uG o.k W hk
 rw[aI];rw[decide_eq_true hr] at qx;have d1:((gs.length:Int) != (o.nr:Int)+1)=false:=by simp;omega
 have hw:IntKind.i64.wrap ((o.nr:Int)+1)=(o.nr:Int)+1:=ag (by omega) (by have:=ho.nr1;omega);clear hn hB hr hl ho hin iy gB bf hk;unfold af;go_enter Tryz.func8,Tryz.ntmps8;go_wp2_with fail;refine(qx.out _).mono ?_;rintro e w1 ⟨rfl,hb⟩;have bV:=HN.out.kept hb;have c7:=bV.at 7 (.slice o.R o.nr o.cr);have bT:=hid (eC HB.out hb);have i9:=hid bV;have wG:=hid (CY.out.below (by rw[aI];exact bT.out) (show w.heap.size≤w1.heap.size by have:=bT.out.size;omega));clear hb bV;go_wp2_with fail;clear c7 d1 hw
 go_loopw [23] (fun j wr=>∃ i:Nat,i≤gs.length∧j=.int .i64 (i:Int)∧iV o i ((cV gs).drop i)=iV o 0 (cV gs)∧Below w1.heap.size w1 wr) (fun j _=>gs.length - (intOf j).toNat)
 case atStart=>exact⟨0,Nat.zero_le _,rfl,rfl,Below.refl _ _⟩
 case round=>
  obtain⟨i,hi,rfl,hf,hb⟩:=hrel
  by_cases aJ:i<gs.length
  ·have hd:decide ((i:Int)<(gs.length:Int))=true:=decide_eq_true (by omega);obtain⟨g,hg⟩:∃ g,gs[i]?=some g:=⟨_,List.getElem?_eq_getElem aJ⟩;have hin:=wG.out.below hb hb.size;obtain⟨pb,po,hA,Im,cJ⟩:=hin.hd i g hg;have hx:wr.cell? ⟨pb,po+i,none⟩=some (.slice g.A g.ts.length g.c):=by simpa [Hs] using cJ 0 _ rfl
   have K5:=List.mem_of_getElem? hg;have HG:=hid hg;have CW:=hid K5;have HF:=hid hf;have Fu:=hid hb;have HI:=hid aJ;have px:(0:Int)≤(i:Int):=by omega
   have ul:(i:Int)<(gs.length:Int):=by omega
   subst hA;clear hin cJ K5 hg hf hb Im hi;go_wp2_with fail
   go_loopw [30] (fun j wr=>∃ q:Nat,q≤g.ts.length∧j=.int .i64 (q:Int)∧gE o i ((g.ts.map TV.td).drop q)=gE o i (g.ts.map TV.td)∧Below w1.heap.size w1 wr) (fun j _=>g.ts.length - (intOf j).toNat)
   case atStart=>exact⟨0,Nat.zero_le _,rfl,rfl,Fu.out⟩
   case round=>
    obtain⟨q,hq,rfl,hf,hb⟩:=hrel
    by_cases hlq:q<g.ts.length
    ·have qU:decide ((q:Int)<(g.ts.length:Int))=true:=decide_eq_true (by omega);obtain⟨t,ht⟩:∃ t,g.ts[q]?=some t:=⟨_,List.getElem?_eq_getElem hlq⟩;have hin:=wG.out.below hb hb.size;obtain⟨tb,to,hA,Gk,oh⟩:=hin.sl g CW.out q t ht;have kx:wr.cell? ⟨tb,to+q*2,none⟩=some (.int .i64 t.op):=by simpa [tvE] using oh 0 _ rfl
     have lM:wr.cell? ⟨tb,to+q*2+1,none⟩=some (.slice t.A t.r.length t.c):=by simpa [tvE,Nat.add_assoc] using oh 1 _ rfl
     have kK:(0:Int)≤(q:Int):=by omega
     have fr:(q:Int)<(g.ts.length:Int):=by omega
     have lS:=hid hf;have rX:=hid (show(g.ts.map TV.td)[q]?=some t.td by rw[List.getElem?_map,ht];rfl);have nm:=hb.alloc hb.size (.cells #[.int .i64 t.op,.slice t.A t.r.length t.c] 42);have z7:=RowB.new wr #[.int .i64 t.op,.slice t.A t.r.length t.c] 42;have Rs:=(i9.out.kept hb).kept ((Below.refl _ wr).alloc (Nat.le_refl _) (.cells #[.int .i64 t.op,.slice t.A t.r.length t.c] 42));obtain⟨m,hm⟩:∃ m,wr.heap.size=m:=⟨_,rfl⟩;rw[hm] at z7;have mT:=hid nm;have tR:=hid z7;have yw:=hid Rs;have Jj:=hid hlq;have JJ:IntKind.i64.wrap ((q:Int)+1)=(q:Int)+1:=ag (by omega) (by have:=CG.out g CW.out;omega);rw[hA];clear hin oh Gk hf hb nm z7 Rs ht hq;go_wp2_with fail;clear kx lM hm;generalize (wr.alloc (.cells #[.int .i64 t.op,.slice t.A t.r.length t.c] 42))=w5 at mT tR yw ⊢;have iA:=hid (mT.out.trans ((Below.refl w5.heap.size w5).drew.mono mT.out.size));have Jh:=hid (tR.out.kept (Below.refl w5.heap.size w5).drew);have J6:=hid (yw.out.kept (Below.refl w5.heap.size w5).drew);refine fg (S:=(fun w':World=>w'.cell? ⟨n,0,none⟩=some (.int .i64 o.k)∧w'.cell? ⟨m,0,none⟩=some (.int .i64 t.op))) ⟨(J6.out.cell 0).trans rfl,(Jh.out.cell 0).trans rfl⟩ fun w6 bq hHeld=>?_
     rw[bq] at iA Jh J6;clear bq;have y1:=Jh.out.at 1 (.slice t.A t.r.length t.c);have y2:=J6.out.at 1 (.int .i64 o.wd)
     by_cases hz:i=0
     ·have z1:((i:Int)==0)=true:=by simp;omega
      have z2:decide ((0:Int)<(i:Int))=false:=decide_eq_false (by omega);have z3:decide (0<i)=false:=decide_eq_false (by omega);have z4:(i==0)=true:=by simp;omega
      have HZ:=hid hz;clear hz
      by_cases e1:t.op=oA o.k
      ·have f1:(t.op != oA o.k)=false:=by simpa using e1
       have qv:=hid e1;clear e1;refine ai 0 1 2 3 ?_;refine bv 4 5 ?_;refine aX 6 ?_;refine aV 7 (fun K hK=>?_)
       ·go_simp;refine(Qd.out _).mono ?_;rintro ex wx ⟨rfl,hw⟩;rw[hw];clear hw;refine kH hK hHeld fun hHeld=>?_
        clear hK K;refine ai 8 9 10 11 ?_;refine bv 12 13 ?_;refine jZ 14 15 16 17 ?_;refine tD 18 19 ?_;refine bv 20 21 ?_;refine aY ?_;clear hHeld
        by_cases e2:(t.r.length:Int)=o.wd
        ·have f2:((t.r.length:Int) != o.wd)=false:=by simpa using e2
         have wD:=hid e2;clear e2;go_wp2_with fail;go_roundw
         case rel=>exact⟨q+1,by have:=Jj.out;omega,by go_num,by rw[← lS.out,hX rX.out,if_pos (qL (show t.op=iR o i by unfold iR;rw[if_pos HZ.out];exact qv.out) (show(t.r.length:Int)=nB o i by unfold nB;rw[if_pos HZ.out];exact wD.out))],iA.out⟩
         case measure=>simp[intOf];omega
        ·have f2:((t.r.length:Int) != o.wd)=true:=by simpa using e2
         have wD:=hid e2;clear e2;go_wp2_with fail;go_ret;exact⟨by rw[gH HF.out (fi HG.out) lS.out rX.out (qM (show t.op=iR o i by unfold iR;rw[if_pos HZ.out];exact qv.out) (show(t.r.length:Int)≠nB o i by unfold nB;rw[if_pos HZ.out];exact wD.out)) (by omega)];rfl,by have q:=bT.out;exact q.trans (iA.out.mono (by have:=q.size;omega))⟩
      ·have f1:(t.op != oA o.k)=true:=by simpa using e1
       have qv:=hid e1;clear e1;refine ai 0 1 2 3 ?_;refine bv 4 5 ?_;refine aX 6 ?_;refine aV 7 (fun K hK=>?_)
       ·go_simp;refine(Qd.out _).mono ?_;rintro ex wx ⟨rfl,hw⟩;rw[hw];clear hw;refine kH hK hHeld fun hHeld=>?_
        clear hK K;refine bv 8 9 ?_;refine aX 10 ?_;refine jZ 11 12 13 14 ?_;refine jZ 15 16 17 18 ?_;refine tD 19 20 ?_;refine aX 21 ?_;refine aY ?_;clear hHeld;go_wp2_with fail;go_ret;exact⟨by rw[gH HF.out (fi HG.out) lS.out rX.out (qN (show t.op≠iR o i by unfold iR;rw[if_pos HZ.out];exact qv.out)) (by omega)];rfl,by have q:=bT.out;exact q.trans (iA.out.mono (by have:=q.size;omega))⟩
     ·have z1:((i:Int)==0)=false:=by simp;omega
      have z2:decide ((0:Int)<(i:Int))=true:=decide_eq_true (by omega);have z3:decide (0<i)=true:=decide_eq_true (by omega);have z4:(i==0)=false:=by simp;omega
      have HZ:=hid hz;clear hz
      by_cases e1:t.op=oB o.k
      ·have f1:(t.op != oB o.k)=false:=by simpa using e1
       have qv:=hid e1;clear e1;refine bv 0 1 ?_;refine aX 2 ?_;refine jZ 3 4 5 6 ?_;refine tD 7 8 ?_;refine ai 9 10 11 12 ?_;refine ai 13 14 15 16 ?_;refine aX 17 ?_;refine aV 18 (fun K hK=>?_)
       ·go_simp;refine(P2.out _).mono ?_;rintro ex wx ⟨rfl,hw⟩;rw[hw];clear hw;refine kH hK hHeld fun hHeld=>?_
        clear hK K;refine bv 19 20 ?_;refine aX 21 ?_;refine aY ?_;clear hHeld
        by_cases e2:(t.r.length:Int)=0
        ·have f2:decide ((0:Int)<(t.r.length:Int))=false:=decide_eq_false (by omega);have f3:decide (0<t.r.length)=false:=decide_eq_false (by omega);have wD:=hid e2;clear e2;go_wp2_with fail;go_roundw
         case rel=>exact⟨q+1,by have:=Jj.out;omega,by go_num,by rw[← lS.out,hX rX.out,if_pos (qL (show t.op=iR o i by unfold iR;rw[if_neg HZ.out];exact qv.out) (show(t.r.length:Int)=nB o i by unfold nB;rw[if_neg HZ.out];exact wD.out))],iA.out⟩
         case measure=>simp[intOf];omega
        ·have f2:decide ((0:Int)<(t.r.length:Int))=true:=decide_eq_true (by omega);have f3:decide (0<t.r.length)=true:=decide_eq_true (by omega);have wD:=hid e2;clear e2;go_wp2_with fail;go_ret;exact⟨by rw[gH HF.out (fi HG.out) lS.out rX.out (qM (show t.op=iR o i by unfold iR;rw[if_neg HZ.out];exact qv.out) (show(t.r.length:Int)≠nB o i by unfold nB;rw[if_neg HZ.out];exact wD.out)) (by omega)];rfl,by have q:=bT.out;exact q.trans (iA.out.mono (by have:=q.size;omega))⟩
      ·have f1:(t.op != oB o.k)=true:=by simpa using e1
       have qv:=hid e1;clear e1;refine bv 0 1 ?_;refine aX 2 ?_;refine jZ 3 4 5 6 ?_;refine tD 7 8 ?_;refine ai 9 10 11 12 ?_;refine ai 13 14 15 16 ?_;refine aX 17 ?_;refine aV 18 (fun K hK=>?_)
       ·go_simp;refine(P2.out _).mono ?_;rintro ex wx ⟨rfl,hw⟩;rw[hw];clear hw;refine kH hK hHeld fun hHeld=>?_
        clear hK K;refine bv 19 20 ?_;refine aX 21 ?_;refine aY ?_;clear hHeld;go_wp2_with fail;go_ret;exact⟨by rw[gH HF.out (fi HG.out) lS.out rX.out (qN (show t.op≠iR o i by unfold iR;rw[if_neg HZ.out];exact qv.out)) (by omega)];rfl,by have q:=bT.out;exact q.trans (iA.out.mono (by have:=q.size;omega))⟩
    ·have qU:decide ((q:Int)<(g.ts.length:Int))=false:=decide_eq_false (by omega);have Ix:IntKind.i64.wrap ((i:Int)+1)=(i:Int)+1:=ag (by omega) (by have:=HI.out;have:=CZ.out;omega);have lS:=hid (show gE o i (g.ts.map TV.td)=0 by rw[← hf,List.drop_eq_nil_of_le (by rw[List.length_map];omega)];rfl);have mT:=hid hb;clear hf hb hq;go_wp2_with fail;exact⟨⟨i+1,by have:=HI.out;omega,by go_num,by rw[← HF.out,jH (fi HG.out),if_pos lS.out],mT.out⟩,by have:=HI.out;simp[intOf];omega⟩
  ·have hd:decide ((i:Int)<(gs.length:Int))=false:=decide_eq_false (by omega);have HF:=hid (show iV o 0 (cV gs)=0 by rw[← hf,List.drop_eq_nil_of_le (by unfold cV;rw[List.length_map];omega)];rfl);have mT:=hid hb;clear hf hb hi;go_wp2_with fail;go_ret;exact⟨by rw[HF.out];rfl,by have q:=bT.out;exact q.trans (mT.out.mono (by have:=q.size;omega))⟩
theorem th (o:Ob) (ho:o.Ok) (A:Option Addr) (cap:Nat) (gs:List PG) (w:World) (hin:ProcsIn w w.heap.size A gs) (bf:gs.length≤1000) (iy:∀ g ∈ gs,g.ts.length≤1000) (gB:∀ g ∈ gs,∀ t ∈ g.ts,t.r.length≤1000):
  Calls Tryz.prog 8 #[.agg (af o),.slice A gs.length cap] w fun e w'=>e=.returned (.int .i64 (dE o (cV gs)))∧Below w.heap.size w w':=by
 have hl:(cV gs).length=gs.length:=by unfold cV;rw[List.length_map]
 unfold dE;rw[hl]
 by_cases h:bD o∧(gs.length:Int)=1+o.nr
 ·rw[if_pos h];exact Bs o ho A cap gs w hin bf iy gB h.1 h.2
 ·rw[if_neg h];exact Br o ho A gs.length cap w h
end Go.Proofs.YtabfcjohdgjkoaaGreatDoor
