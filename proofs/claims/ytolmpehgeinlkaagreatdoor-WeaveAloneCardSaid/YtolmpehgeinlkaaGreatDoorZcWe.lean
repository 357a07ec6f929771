/- What is wrong of what is to be done, by the document. -/
import Derived.Test.YtolmpehgeinlkaaGreatDoorZcWd
import Derived.Test.YtolmpehgeinlkaaGreatDoorZcShJ
import Derived.Test.YtolmpehgeinlkaaGreatDoorZcShK
import Derived.Test.YtolmpehgeinlkaaGreatDoorZcShE
namespace Go.Proofs.YtolmpehgeinlkaaGreatDoor
open Go.RowKit
theorem fltL_zero {o:Ob} {k:Nat}:∀ {l:List Td},fltL o k l=0→∀ t ∈ l,t.op=opK o k∧(t.r.length:Int)=wdK o k
 | [],_,_,m=>by cases m
 | u::l,h,t,m=>by
  unfold fltL at h
  by_cases q:flt1 o k u=0
  ·rw[if_pos q] at h
   rcases List.mem_cons.1 m with rfl | m
   ·unfold flt1 at q
    by_cases a:t.op≠opK o k
    ·rw[if_pos a] at q;omega
    ·rw[if_neg a] at q
     by_cases b:(t.r.length:Int)≠wdK o k
     ·rw[if_pos b] at q;omega
     ·exact⟨by omega,by omega⟩
   ·exact fltL_zero h t m
  ·rw[if_neg q] at h;exact absurd h q
theorem fltP_zero {o:Ob}:∀ {ls:List (List Td)} {k:Nat},fltP o k ls=0→∀ (j:Nat) (l:List Td),ls[j]?=some l→∀ t ∈ l,t.op=opK o (k+j)∧(t.r.length:Int)=wdK o (k+j)
 | [],_,_,j,l,e=>by simp at e
 | a::ls,k,h,j,l,e=>by
  unfold fltP at h
  by_cases q:fltL o k a=0
  ·rw[if_pos q] at h
   rcases j with _ | j
   ·obtain rfl:a=l:=by simpa using e
    exact fltL_zero q
   ·have:=fltP_zero h j l (by simpa using e);rw[show k+(j+1)=k+1+j by omega];exact this
  ·rw[if_neg q] at h;exact absurd h q
theorem fault_zero {o:Ob} {ls:List (List Td)} (h:faultP o ls=0):anyR o∧(ls.length:Int)=1+o.nr∧fltP o 0 ls=0:=by
 unfold faultP at h
 by_cases q:anyR o∧(ls.length:Int)=1+o.nr
 ·rw[if_pos q] at h;exact⟨q.1,q.2,h⟩
 ·rw[if_neg q] at h;omega
theorem fault_beg {o:Ob} {ls:List (List Td)} (h:faultP o ls=0) {k:Nat} {l:List Td} (hl:ls[k]?=some l) {t:Td} (ht:t ∈ l):begE o 0 t.op (rdK k) t.r.length=0:=by
 obtain⟨hR,hn,hf⟩:=fault_zero h;obtain⟨h1,h2⟩:=fltP_zero hf k l hl t ht;have hk:=(List.getElem?_eq_some_iff.1 hl).1;rw[Nat.zero_add] at h1 h2;have hz:=any_bd hR
 have hsz:1≤sizeZ o:=by
  obtain⟨a,b,c,d,e⟩:=hz;have:=Int.mul_nonneg (a:=recZ o) (b:=o.wd) (by omega) (by omega);omega
 have hab:oA o.k≠oB o.k:=by
  rcases any_cases hR with q | q | q | q | q | q <;> (have:=q.1;unfold oA oB isK;rw[this];decide)
 unfold begE mbE opK wdK rdK at *;rw[if_neg (by omega)]
 by_cases q:k=0
 ·rw[if_pos q] at h1 h2 ⊢;rw[if_pos h1,if_neg (by omega),if_neg (by omega)]
 ·rw[if_neg q] at h1 h2 ⊢;rw[h1,if_neg (fun e=>hab e.symm),if_pos rfl,if_neg (by omega),if_neg (by omega)]
theorem layZ_len {o:Ob} {l:List Int} (h:anyR o) (hl:o.ni=l.length):((layZ o l).length:Int)=sizeZ o:=by
 unfold layZ;rw[if_pos h];have hb:=lay_bd h hl;have hz:=size_bd o;rw[spl_len (by rw[layB_len];omega),layB_len];omega
structure Lm.Good (o:Ob) (j:Nat) (L:Lm):Prop where
 inv:L.InvL (bgO o) L.mem.length
 call:L.CallOk
 left:∀ (k:Nat) (p:Pr),L.ps[k]?=some p→∀ t ∈ p.left,begE o 0 t.op (rdK k) t.r.length=0∧t.r.length≤1000
 cn:L.calls.length≤j
 now:L.now≤j
 rl:∀ x ∈ L.calls,x.r.length≤1000
 up:L.Up
def lm0 (ls:List (List Td)) (m:List Int):Lm:=⟨ls.map fun l=>⟨l,none,0⟩,m,[],0⟩
theorem Lm.Good.start {o:Ob} {ls:List (List Td)} {m:List Int} (h:faultP o ls=0) (hm:(m.length:Int)=sizeZ o) (hr:∀ l ∈ ls,∀ t ∈ l,t.r.length≤1000∧W32 t.r):Lm.Good o 0 (lm0 ls m):=by
 have hg:∀ (k:Nat) (p:Pr),(lm0 ls m).ps[k]?=some p→∃ l,ls[k]?=some l∧p=⟨l,none,0⟩:=fun k p e=>by
  unfold lm0 at e;rw[List.getElem?_map] at e;cases q:ls[k]? with
  | none=>rw[q] at e;cases e
  | some l=>rw[q] at e;exact⟨l,rfl,(Option.some.inj e).symm⟩
 refine⟨⟨fun k p c e hc=>?_,fun k p t e ht=>?_⟩,fun k p c e hc=>?_,fun k p e t ht=>?_,Nat.zero_le _,Nat.zero_le _,fun x hx=>(by cases hx),⟨List.Pairwise.nil,fun x hx=>by cases hx⟩⟩
 ·obtain⟨l,_,rfl⟩:=hg k p e;cases hc
 ·obtain⟨l,hl,rfl⟩:=hg k p e;have h0:=fault_beg h hl ht;refine⟨(kc0_ok h0 (hr l (List.mem_of_getElem? hl) t ht).2 (by omega)).1,rfl,rfl,?_⟩;show(sizeZ o).toNat=m.length;omega
 ·obtain⟨l,_,rfl⟩:=hg k p e;cases hc
 ·obtain⟨l,hl,rfl⟩:=hg k p e;exact⟨fault_beg h hl ht,(hr l (List.mem_of_getElem? hl) t ht).1⟩
theorem Lm.one_some {bg:Nat→Td→Kc} {st:Kc→List Int→Kc × List Int} {L L':Lm} {k:Nat} {p:Pr} (h:Lm.one bg st L k p=some L'):∃ L1 ts c q,Lm.beg bg L k p=some (L1,⟨ts,some c,q⟩)∧L'=Lm.go st L1 k ⟨ts,some c,q⟩ c:=by
 unfold Lm.one at h
 split at h
 ·rename_i L1 ts c q e;exact⟨L1,ts,c,q,e,(Option.some.inj h).symm⟩
 ·cases h
theorem Lm.beg_some {bg:Nat→Td→Kc} {L L1:Lm} {k:Nat} {p p1:Pr} (h:Lm.beg bg L k p=some (L1,p1)):(L1=L∧p1=p)∨∃ t ts,p.left=t::ts∧p1=⟨ts,some (bg k t),L.calls.length⟩∧L1={ L with ps:=L.ps.set k p1,calls:=L.calls++[⟨k,0,t.op,t.r,0,L.now,-1⟩] }:=by
 unfold Lm.beg at h
 split at h
 ·split at h
  ·cases h
  ·rename_i t ts e;cases h;exact .inr ⟨t,ts,e,rfl,rfl⟩
 ·cases h;exact .inl ⟨rfl,rfl⟩
theorem Lm.Good.more {o:Ob} {j i:Nat} {L:Lm} (h:L.Good o j) (hi:j≤i):L.Good o i:=⟨h.inv,h.call,h.left,Nat.le_trans h.cn hi,Nat.le_trans h.now hi,h.rl,h.up⟩
theorem Lm.Good.one {o:Ob} {j:Nat} {L L':Lm} {k:Nat} {p:Pr} (h:L.Good o j) (hw:W32 L.mem) (hp:L.ps[k]?=some p) (h1:Lm.one (bgO o) Kc.step L k p=some L'):L'.Good o (j+1)∧L'.mem.length=L.mem.length:=by
 have hk:=(List.getElem?_eq_some_iff.1 hp).1;have hI:=h.inv.one hw hp h1;have hU:=h.up.one h1;obtain⟨L1,ts,c,q,hb,rfl⟩:=Lm.one_some h1;have hcall:=Lm.beg_call h.call hp hb c rfl
 have hlen:(Lm.go Kc.step L1 k ⟨ts,some c,q⟩ c).calls.length=L1.calls.length:=by
  unfold Lm.go;dsimp only
  split
  ·simp
  ·rfl
 have hmem:L1.mem=L.mem∧L1.calls.length≤L.calls.length+1∧L.calls.length≤L1.calls.length:=by
  rcases Lm.beg_some hb with ⟨rfl,_⟩ | ⟨t,ts',_,_,rfl⟩
  ·exact⟨rfl,by omega,Nat.le_refl _⟩
  ·exact⟨rfl,by simp,by simp⟩
 have hml:(Lm.go Kc.step L1 k ⟨ts,some c,q⟩ c).mem.length=L.mem.length:=by
  show((Kc.step c L1.mem).2).length=_;rw[step_len,hmem.1]
 have hr1:∀ x ∈ L1.calls,x.r.length≤1000:=by
  rcases Lm.beg_some hb with ⟨rfl,_⟩ | ⟨t,ts',hl,_,rfl⟩
  ·exact h.rl
  ·intro x hx
   rcases List.mem_append.1 hx with hx | hx
   ·exact h.rl x hx
   ·rw[List.mem_singleton.1 hx];exact(h.left k p hp t (by rw[hl];exact List.mem_cons_self)).2
 have hrl:∀ x ∈ (Lm.go Kc.step L1 k ⟨ts,some c,q⟩ c).calls,x.r.length≤1000:=fun x hx=>by
  have hkl:k<L1.ps.length:=by
   rcases Lm.beg_some hb with ⟨rfl,_⟩ | ⟨t,ts',_,_,rfl⟩
   ·exact hk
   ·simpa using hk
  obtain⟨hv,_⟩:=hI.op k ⟨ts,some (Kc.step c L1.mem).1,q⟩ (Kc.step c L1.mem).1 (by unfold Lm.go;simp[hkl]) rfl;have h1:=hv.gen.rcl;have h2:=hv.st;unfold Lm.go at hx;dsimp only at hx
  split at hx
  ·obtain⟨i,hi⟩:=List.getElem?_of_mem hx;rw[List.getElem?_modify] at hi;cases hy:L1.calls[i]? with
   | none=>rw[hy] at hi;split at hi <;> cases hi
   | some y=>
    rw[hy] at hi;have hy1:=hr1 y (List.mem_of_getElem? hy);obtain rfl:=Option.some.inj hi
    by_cases e:q=i
    ·simp only[if_pos e];unfold endC;dsimp only
     split
     ·exact hy1
     ·omega
    ·simp only[if_neg e];exact hy1
  ·exact hr1 x hx
 refine⟨⟨by rw[hml];exact hI,fun i p' d e hd=>?_,fun i p' e t ht=>?_,by rw[hlen];have:=h.cn;omega,by show L1.now+1≤j+1;have:=h.now;have:=hcall.2;omega,hrl,hU⟩,hml⟩
 ·rw[hlen]
  rcases set_get e with ⟨rfl,rfl⟩ | ⟨hne,e⟩
  ·exact hcall.1
  ·rcases Lm.beg_some hb with ⟨rfl,_⟩ | ⟨t,ts',_,hq,rfl⟩
   ·exact h.call i p' d e hd
   ·rcases set_get e with ⟨e',_⟩ | ⟨_,e⟩
    ·exact absurd e' hne
    ·have:=h.call i p' d e hd;have:=hmem.2.2;omega
 ·rcases set_get e with ⟨rfl,rfl⟩ | ⟨hne,e⟩
  ·rcases Lm.beg_some hb with ⟨rfl,hq⟩ | ⟨t',ts',hl,hq,rfl⟩
   ·exact h.left i p hp t (by rw[← hq];exact ht)
   ·cases hq;exact h.left i p hp t (by rw[hl];exact List.mem_cons_of_mem _ ht)
  ·rcases Lm.beg_some hb with ⟨rfl,_⟩ | ⟨t',ts',_,hq,rfl⟩
   ·exact h.left i p' e t ht
   ·rcases set_get e with ⟨e',_⟩ | ⟨_,e⟩
    ·exact absurd e' hne
    ·exact h.left i p' e t ht
theorem Lm.Good.turn {o:Ob} {j:Nat} {L:Lm} (h:L.Good o j) (hw:W32 L.mem) (k:Int):(Lm.turn (bgO o) Kc.step L k).Good o (j+1)∧(Lm.turn (bgO o) Kc.step L k).mem.length=L.mem.length:=by
 have no:L.Good o (j+1)∧L.mem.length=L.mem.length:=⟨h.more (by omega),rfl⟩;unfold Lm.turn Lm.turn?
 by_cases hk:k<0
 ·rw[if_pos hk];exact no
 ·rw[if_neg hk];cases hp:L.ps[k.toNat]? with
  | none=>exact no
  | some p=>
   cases h1:Lm.one (bgO o) Kc.step L k.toNat p with
   | none=>dsimp only;rw[h1];exact no
   | some L'=>dsimp only;rw[h1];exact h.one hw hp h1
def Lm.GoodTo (o:Ob) (L0:Lm) (ks:List Int) (j:Nat):Prop:=∀ i,i≤j→(Lm.run (bgO o) Kc.step L0 (ks.take i)).Good o i∧(Lm.run (bgO o) Kc.step L0 (ks.take i)).mem.length=L0.mem.length∧(i<j→W32 (Lm.run (bgO o) Kc.step L0 (ks.take i)).mem)
theorem Lm.run_snoc {bg:Nat→Td→Kc} {st:Kc→List Int→Kc × List Int} {L:Lm} {ks:List Int} {j:Nat} {k:Int} (h:ks[j]?=some k):Lm.run bg st L (ks.take (j+1))=Lm.turn bg st (Lm.run bg st L (ks.take j)) k:=by
 unfold Lm.run;rw[List.take_add_one,h,List.foldl_append];rfl
theorem Lm.GoodTo.next {o:Ob} {L0:Lm} {ks:List Int} {j:Nat} {k:Int} (h:Lm.GoodTo o L0 ks j) (hk:ks[j]?=some k) (hw:W32 (Lm.run (bgO o) Kc.step L0 (ks.take j)).mem):Lm.GoodTo o L0 ks (j+1):=fun i hi=>by
 by_cases q:i≤j
 ·obtain⟨a,b,c⟩:=h i q;refine⟨a,b,fun _=>?_⟩
  by_cases e:i<j
  ·exact c e
  ·obtain rfl:i=j:=by omega
   exact hw
 ·obtain rfl:i=j+1:=by omega
  rw[Lm.run_snoc hk];obtain⟨a,b,_⟩:=h j (Nat.le_refl _);obtain⟨c,d⟩:=a.turn hw k;exact⟨c,d.trans b,fun q=>absurd q (Nat.lt_irrefl _)⟩
end Go.Proofs.YtolmpehgeinlkaaGreatDoor

namespace Go.Proofs.YtolmpehgeinlkaaGreatDoor
open Go.RowKit
open Go.Lib (hid)
attribute [local go_sem] Oper.semAt_some
set_option maxHeartbeats 4000000
set_option maxRecDepth 100000
theorem rfault_1 (o:Ob) (ho:o.Ok) (A:Option Addr) (n' cap:Nat) (w:World) (h:¬ (anyR o∧(n':Int)=1+o.nr)):Calls Tryz.prog 9 #[.agg (obA o),.slice A n' cap] w fun e w'=>e=.returned (.int .i64 1)∧Below w.heap.size w w':=by
 have hn:=RowB.new w (obA o) 26;have hB:=(Below.refl w.heap.size w).alloc (Nat.le_refl _) (.cells (obA o) 26);obtain⟨n,hn0⟩:∃ n,w.heap.size=n:=⟨_,rfl⟩;rw[hn0] at hn hB;have HSH:=hid fun W=>r14Right_o o ho W
 have HN:=hid hn;have HB:=hid hB;unfold obA at HSH HN HB;rw[hn0]
 by_cases hr:anyR o
 ·have hl:¬ (n':Int)=1+o.nr:=fun q=>h ⟨hr,q⟩
  rw[decide_eq_true hr] at HSH;have d1:((n':Int) != (o.nr:Int)+1)=true:=by simp;omega
  have hw:IntKind.i64.wrap ((o.nr:Int)+1)=(o.nr:Int)+1:=sh_wrap (by omega) (by have:=ho.nr1;omega);clear hn hB h hr hl ho;unfold obA;go_enter Tryz.func9,Tryz.ntmps9;go_wp2_with fail;refine(HSH.out _).mono ?_;rintro e w1 ⟨rfl,hb⟩;have hr1:=HN.out.kept hb;have c7:=hr1.at 7 (.slice o.R o.nr o.cr);have HB1:=hid (HB.out.trans (hb.mono (by have:=HB.out.size;omega)));clear hb hr1;go_wp2_with fail;go_ret;exact⟨rfl,HB1.out⟩
 ·rw[decide_eq_false hr] at HSH;clear hn hB h hr ho;unfold obA;go_enter Tryz.func9,Tryz.ntmps9;go_wp2_with fail;refine(HSH.out _).mono ?_;rintro e w1 ⟨rfl,hb⟩;have HB1:=hid (HB.out.trans (hb.mono (by have:=HB.out.size;omega)));clear hb;go_wp2_with fail;go_ret;exact⟨rfl,HB1.out⟩
theorem rfault_2 (o:Ob) (ho:o.Ok) (A:Option Addr) (cap:Nat) (gs:List PG) (w:World) (hin:ProcsIn w w.heap.size A gs) (hlen:gs.length≤1000) (hts:∀ g ∈ gs,g.ts.length≤1000) (hrs:∀ g ∈ gs,∀ t ∈ g.ts,t.r.length≤1000) (hr:anyR o) (hl:(gs.length:Int)=1+o.nr):
  Calls Tryz.prog 9 #[.agg (obA o),.slice A gs.length cap] w fun e w'=>e=.returned (.int .i64 (fltP o 0 (tds gs)))∧Below w.heap.size w w':=by
 have hn:=RowB.new w (obA o) 26;have hB:=(Below.refl w.heap.size w).alloc (Nat.le_refl _) (.cells (obA o) 26);obtain⟨n,hn0⟩:∃ n,w.heap.size=n:=⟨_,rfl⟩;rw[hn0] at hn hB;have HSH:=hid fun W=>r14Right_o o ho W
 have HN:=hid hn;have HB:=hid hB;unfold obA at HSH HN HB;have HIN:=hid hin;have HTS:=hid hts;have HRS:=hid hrs;have HLE:=hid hlen
 have hk:isK o.k=true:=by
  rcases any_cases hr with q | q | q | q | q | q <;> (rw[q.1];rfl)
 have HWR:=hid fun W=>rWrites_any o.k W hk
 have HRD:=hid fun W=>rReads_any o.k W hk
 rw[hn0];rw[decide_eq_true hr] at HSH;have d1:((gs.length:Int) != (o.nr:Int)+1)=false:=by simp;omega
 have hw:IntKind.i64.wrap ((o.nr:Int)+1)=(o.nr:Int)+1:=sh_wrap (by omega) (by have:=ho.nr1;omega);clear hn hB hr hl ho hin hts hrs hlen hk;unfold obA;go_enter Tryz.func9,Tryz.ntmps9;go_wp2_with fail;refine(HSH.out _).mono ?_;rintro e w1 ⟨rfl,hb⟩;have hr1:=HN.out.kept hb;have c7:=hr1.at 7 (.slice o.R o.nr o.cr);have HB1:=hid (HB.out.trans (hb.mono (by have:=HB.out.size;omega)));have HN1:=hid hr1;have HIN1:=hid (HIN.out.below (by rw[hn0];exact HB1.out) (show w.heap.size≤w1.heap.size by have:=HB1.out.size;omega));clear hb hr1;go_wp2_with fail;clear c7 d1 hw
 go_loopw [23] (fun j wr=>∃ i:Nat,i≤gs.length∧j=.int .i64 (i:Int)∧fltP o i ((tds gs).drop i)=fltP o 0 (tds gs)∧Below w1.heap.size w1 wr) (fun j _=>gs.length - (intOf j).toNat)
 case atStart=>exact⟨0,Nat.zero_le _,rfl,rfl,Below.refl _ _⟩
 case round=>
  obtain⟨i,hi,rfl,hf,hb⟩:=hrel
  by_cases hlt:i<gs.length
  ·have hd:decide ((i:Int)<(gs.length:Int))=true:=decide_eq_true (by omega);obtain⟨g,hg⟩:∃ g,gs[i]?=some g:=⟨_,List.getElem?_eq_getElem hlt⟩;have hin:=HIN1.out.below hb hb.size;obtain⟨pb,po,hA,hpb,hcell⟩:=hin.hd i g hg;have hx:wr.cell? ⟨pb,po+i,none⟩=some (.slice g.A g.ts.length g.c):=by simpa [hdE] using hcell 0 _ rfl
   have hgm:=List.mem_of_getElem? hg;have HG:=hid hg;have HGM:=hid hgm;have HF:=hid hf;have HBW:=hid hb;have HI:=hid hlt;have hi0:(0:Int)≤(i:Int):=by omega
   have hi1:(i:Int)<(gs.length:Int):=by omega
   subst hA;clear hin hcell hgm hg hf hb hpb hi;go_wp2_with fail
   go_loopw [30] (fun j wr=>∃ q:Nat,q≤g.ts.length∧j=.int .i64 (q:Int)∧fltL o i ((g.ts.map TV.td).drop q)=fltL o i (g.ts.map TV.td)∧Below w1.heap.size w1 wr) (fun j _=>g.ts.length - (intOf j).toNat)
   case atStart=>exact⟨0,Nat.zero_le _,rfl,rfl,HBW.out⟩
   case round=>
    obtain⟨q,hq,rfl,hf,hb⟩:=hrel
    by_cases hlq:q<g.ts.length
    ·have hd2:decide ((q:Int)<(g.ts.length:Int))=true:=decide_eq_true (by omega);obtain⟨t,ht⟩:∃ t,g.ts[q]?=some t:=⟨_,List.getElem?_eq_getElem hlq⟩;have hin:=HIN1.out.below hb hb.size;obtain⟨tb,to,hA,htb,hct⟩:=hin.sl g HGM.out q t ht;have hx0:wr.cell? ⟨tb,to+q*2,none⟩=some (.int .i64 t.op):=by simpa [tvE] using hct 0 _ rfl
     have hx1:wr.cell? ⟨tb,to+q*2+1,none⟩=some (.slice t.A t.r.length t.c):=by simpa [tvE,Nat.add_assoc] using hct 1 _ rfl
     have hq0:(0:Int)≤(q:Int):=by omega
     have hq1:(q:Int)<(g.ts.length:Int):=by omega
     have HFQ:=hid hf;have HTQ:=hid (show(g.ts.map TV.td)[q]?=some t.td by rw[List.getElem?_map,ht];rfl);have hb5:=hb.alloc hb.size (.cells #[.int .i64 t.op,.slice t.A t.r.length t.c] 45);have hn5:=RowB.new wr #[.int .i64 t.op,.slice t.A t.r.length t.c] 45;have hnk:=(HN1.out.kept hb).kept ((Below.refl _ wr).alloc (Nat.le_refl _) (.cells #[.int .i64 t.op,.slice t.A t.r.length t.c] 45));obtain⟨m,hm⟩:∃ m,wr.heap.size=m:=⟨_,rfl⟩;rw[hm] at hn5;have HB5:=hid hb5;have HN5:=hid hn5;have HK5:=hid hnk;have HQL:=hid hlq;have hwq:IntKind.i64.wrap ((q:Int)+1)=(q:Int)+1:=sh_wrap (by omega) (by have:=HTS.out g HGM.out;omega);rw[hA];clear hin hct htb hf hb hb5 hn5 hnk ht hq;go_wp2_with fail;clear hx0 hx1 hm;generalize (wr.alloc (.cells #[.int .i64 t.op,.slice t.A t.r.length t.c] 45))=w5 at HB5 HN5 HK5 ⊢;have HBD:=hid (HB5.out.trans ((Below.refl w5.heap.size w5).drew.mono HB5.out.size));have HND:=hid (HN5.out.kept (Below.refl w5.heap.size w5).drew);have HKD:=hid (HK5.out.kept (Below.refl w5.heap.size w5).drew);refine rgn (S:=(fun w':World=>w'.cell? ⟨n,0,none⟩=some (.int .i64 o.k)∧w'.cell? ⟨m,0,none⟩=some (.int .i64 t.op))) ⟨(HKD.out.cell 0).trans rfl,(HND.out.cell 0).trans rfl⟩ fun w6 hw9 hHeld=>?_
     rw[hw9] at HBD HND HKD;clear hw9;have y1:=HND.out.at 1 (.slice t.A t.r.length t.c);have y2:=HKD.out.at 1 (.int .i64 o.wd)
     by_cases hz:i=0
     ·have z1:((i:Int)==0)=true:=by simp;omega
      have z2:decide ((0:Int)<(i:Int))=false:=decide_eq_false (by omega);have z3:decide (0<i)=false:=decide_eq_false (by omega);have z4:(i==0)=true:=by simp;omega
      have HZ:=hid hz;clear hz
      by_cases e1:t.op=oA o.k
      ·have f1:(t.op != oA o.k)=false:=by simpa using e1
       have HE1:=hid e1;clear e1;refine tk4 0 1 2 3 ?_;refine tk2 4 5 ?_;refine tkH 6 ?_;refine clH 7 (fun K hK=>?_)
       ·go_simp;refine(HWR.out _).mono ?_;rintro ex wx ⟨rfl,hw⟩;rw[hw];clear hw;refine kH hK hHeld fun hHeld=>?_
        clear hK K;refine tk4 8 9 10 11 ?_;refine tk2 12 13 ?_;refine sk4 14 15 16 17 ?_;refine sk2 18 19 ?_;refine tk2 20 21 ?_;refine dnH ?_;clear hHeld
        by_cases e2:(t.r.length:Int)=o.wd
        ·have f2:((t.r.length:Int) != o.wd)=false:=by simpa using e2
         have HE2:=hid e2;clear e2;go_wp2_with fail;go_roundw
         case rel=>exact⟨q+1,by have:=HQL.out;omega,by go_num,by rw[← HFQ.out,fltL_drop HTQ.out,if_pos (flt1_0 (show t.op=opK o i by unfold opK;rw[if_pos HZ.out];exact HE1.out) (show(t.r.length:Int)=wdK o i by unfold wdK;rw[if_pos HZ.out];exact HE2.out))],HBD.out⟩
         case measure=>simp[intOf];omega
        ·have f2:((t.r.length:Int) != o.wd)=true:=by simpa using e2
         have HE2:=hid e2;clear e2;go_wp2_with fail;go_ret;exact⟨by rw[flt_ret HF.out (tds_get HG.out) HFQ.out HTQ.out (flt1_4 (show t.op=opK o i by unfold opK;rw[if_pos HZ.out];exact HE1.out) (show(t.r.length:Int)≠wdK o i by unfold wdK;rw[if_pos HZ.out];exact HE2.out)) (by omega)];rfl,by have q:=HB1.out;exact q.trans (HBD.out.mono (by have:=q.size;omega))⟩
      ·have f1:(t.op != oA o.k)=true:=by simpa using e1
       have HE1:=hid e1;clear e1;refine tk4 0 1 2 3 ?_;refine tk2 4 5 ?_;refine tkH 6 ?_;refine clH 7 (fun K hK=>?_)
       ·go_simp;refine(HWR.out _).mono ?_;rintro ex wx ⟨rfl,hw⟩;rw[hw];clear hw;refine kH hK hHeld fun hHeld=>?_
        clear hK K;refine tk2 8 9 ?_;refine tkH 10 ?_;refine sk4 11 12 13 14 ?_;refine sk4 15 16 17 18 ?_;refine sk2 19 20 ?_;refine tkH 21 ?_;refine dnH ?_;clear hHeld;go_wp2_with fail;go_ret;exact⟨by rw[flt_ret HF.out (tds_get HG.out) HFQ.out HTQ.out (flt1_9 (show t.op≠opK o i by unfold opK;rw[if_pos HZ.out];exact HE1.out)) (by omega)];rfl,by have q:=HB1.out;exact q.trans (HBD.out.mono (by have:=q.size;omega))⟩
     ·have z1:((i:Int)==0)=false:=by simp;omega
      have z2:decide ((0:Int)<(i:Int))=true:=decide_eq_true (by omega);have z3:decide (0<i)=true:=decide_eq_true (by omega);have z4:(i==0)=false:=by simp;omega
      have HZ:=hid hz;clear hz
      by_cases e1:t.op=oB o.k
      ·have f1:(t.op != oB o.k)=false:=by simpa using e1
       have HE1:=hid e1;clear e1;refine tk2 0 1 ?_;refine tkH 2 ?_;refine sk4 3 4 5 6 ?_;refine sk2 7 8 ?_;refine tk4 9 10 11 12 ?_;refine tk4 13 14 15 16 ?_;refine tkH 17 ?_;refine clH 18 (fun K hK=>?_)
       ·go_simp;refine(HRD.out _).mono ?_;rintro ex wx ⟨rfl,hw⟩;rw[hw];clear hw;refine kH hK hHeld fun hHeld=>?_
        clear hK K;refine tk2 19 20 ?_;refine tkH 21 ?_;refine dnH ?_;clear hHeld
        by_cases e2:(t.r.length:Int)=0
        ·have f2:decide ((0:Int)<(t.r.length:Int))=false:=decide_eq_false (by omega);have f3:decide (0<t.r.length)=false:=decide_eq_false (by omega);have HE2:=hid e2;clear e2;go_wp2_with fail;go_roundw
         case rel=>exact⟨q+1,by have:=HQL.out;omega,by go_num,by rw[← HFQ.out,fltL_drop HTQ.out,if_pos (flt1_0 (show t.op=opK o i by unfold opK;rw[if_neg HZ.out];exact HE1.out) (show(t.r.length:Int)=wdK o i by unfold wdK;rw[if_neg HZ.out];exact HE2.out))],HBD.out⟩
         case measure=>simp[intOf];omega
        ·have f2:decide ((0:Int)<(t.r.length:Int))=true:=decide_eq_true (by omega);have f3:decide (0<t.r.length)=true:=decide_eq_true (by omega);have HE2:=hid e2;clear e2;go_wp2_with fail;go_ret;exact⟨by rw[flt_ret HF.out (tds_get HG.out) HFQ.out HTQ.out (flt1_4 (show t.op=opK o i by unfold opK;rw[if_neg HZ.out];exact HE1.out) (show(t.r.length:Int)≠wdK o i by unfold wdK;rw[if_neg HZ.out];exact HE2.out)) (by omega)];rfl,by have q:=HB1.out;exact q.trans (HBD.out.mono (by have:=q.size;omega))⟩
      ·have f1:(t.op != oB o.k)=true:=by simpa using e1
       have HE1:=hid e1;clear e1;refine tk2 0 1 ?_;refine tkH 2 ?_;refine sk4 3 4 5 6 ?_;refine sk2 7 8 ?_;refine tk4 9 10 11 12 ?_;refine tk4 13 14 15 16 ?_;refine tkH 17 ?_;refine clH 18 (fun K hK=>?_)
       ·go_simp;refine(HRD.out _).mono ?_;rintro ex wx ⟨rfl,hw⟩;rw[hw];clear hw;refine kH hK hHeld fun hHeld=>?_
        clear hK K;refine tk2 19 20 ?_;refine tkH 21 ?_;refine dnH ?_;clear hHeld;go_wp2_with fail;go_ret;exact⟨by rw[flt_ret HF.out (tds_get HG.out) HFQ.out HTQ.out (flt1_9 (show t.op≠opK o i by unfold opK;rw[if_neg HZ.out];exact HE1.out)) (by omega)];rfl,by have q:=HB1.out;exact q.trans (HBD.out.mono (by have:=q.size;omega))⟩
    ·have hd2:decide ((q:Int)<(g.ts.length:Int))=false:=decide_eq_false (by omega);have hwi:IntKind.i64.wrap ((i:Int)+1)=(i:Int)+1:=sh_wrap (by omega) (by have:=HI.out;have:=HLE.out;omega);have HFQ:=hid (show fltL o i (g.ts.map TV.td)=0 by rw[← hf,List.drop_eq_nil_of_le (by rw[List.length_map];omega)];rfl);have HB5:=hid hb;clear hf hb hq;go_wp2_with fail;exact⟨⟨i+1,by have:=HI.out;omega,by go_num,by rw[← HF.out,fltP_drop (tds_get HG.out),if_pos HFQ.out],HB5.out⟩,by have:=HI.out;simp[intOf];omega⟩
  ·have hd:decide ((i:Int)<(gs.length:Int))=false:=decide_eq_false (by omega);have HF:=hid (show fltP o 0 (tds gs)=0 by rw[← hf,List.drop_eq_nil_of_le (by unfold tds;rw[List.length_map];omega)];rfl);have HB5:=hid hb;clear hf hb hi;go_wp2_with fail;go_ret;exact⟨by rw[HF.out];rfl,by have q:=HB1.out;exact q.trans (HB5.out.mono (by have:=q.size;omega))⟩
theorem rfault_o (o:Ob) (ho:o.Ok) (A:Option Addr) (cap:Nat) (gs:List PG) (w:World) (hin:ProcsIn w w.heap.size A gs) (hlen:gs.length≤1000) (hts:∀ g ∈ gs,g.ts.length≤1000) (hrs:∀ g ∈ gs,∀ t ∈ g.ts,t.r.length≤1000):
  Calls Tryz.prog 9 #[.agg (obA o),.slice A gs.length cap] w fun e w'=>e=.returned (.int .i64 (faultP o (tds gs)))∧Below w.heap.size w w':=by
 have hl:(tds gs).length=gs.length:=by unfold tds;rw[List.length_map]
 unfold faultP;rw[hl]
 by_cases h:anyR o∧(gs.length:Int)=1+o.nr
 ·rw[if_pos h];exact rfault_2 o ho A cap gs w hin hlen hts hrs h.1 h.2
 ·rw[if_neg h];exact rfault_1 o ho A gs.length cap w h
end Go.Proofs.YtolmpehgeinlkaaGreatDoor
