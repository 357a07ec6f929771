/- A step leaves as many words: of no program text. -/
import Derived.Test.YtabfcjohdgjkoaaGreatDoorZcG
namespace Go.Proofs.YtabfcjohdgjkoaaGreatDoor
namespace Kc
theorem oP {c:Kc} {l:List Int} (hw:W32 l) (j:Nat):0≤c.rdm l j∧c.rdm l j<4294967296:=by
 unfold rdm;rw[List.getD_eq_getElem?_getD];cases h:l[c.base+j]? with
 | none=>exact⟨Int.le_refl _,by show(0:Int)<_;omega⟩
 | some z=>exact hw.get h
structure Gen (s:Nat) (c:Kc):Prop where
 tr:c.tr+s≤c.steps
 i8:c.i≤8
 rcl:c.rc.length+s≤8+c.steps
 w32:W32 c.rc
 wrl:c.wr=true→c.over=false→c.rc.length=c.wd
section
variable {s:Nat} {c:Kc} {l:List Int}
theorem Gen.less (h:Gen (s+1) c):Gen s c:=⟨by have:=h.tr;omega,h.i8,by have:=h.rcl;omega,h.w32,h.wrl⟩
theorem Gen.go (h:Gen s c) (p:Nat):Gen s (c.go p):=⟨h.tr,Nat.zero_le _,h.rcl,h.w32,h.wrl⟩
theorem Gen.A (h:Gen s c) (a:Int):Gen s { c with A:=a }:=⟨h.tr,h.i8,h.rcl,h.w32,h.wrl⟩
theorem Gen.B (h:Gen s c) (a:Int):Gen s { c with B:=a }:=⟨h.tr,h.i8,h.rcl,h.w32,h.wrl⟩
theorem Gen.u (h:Gen s c) (a:Nat→Bool):Gen s { c with used:=a }:=⟨h.tr,h.i8,h.rcl,h.w32,h.wrl⟩
theorem Gen.mark (h:Gen s c) (a:Int):Gen s (c.mark a):=h.u _
theorem Gen.i (h:Gen s c) {j:Nat} (hj:j≤8):Gen s { c with i:=j }:=⟨h.tr,hj,h.rcl,h.w32,h.wrl⟩
theorem Gen.fin (h:Gen s c) (k:Int):Gen s (c.fin k):=by
 refine⟨h.tr,h.i8,?_,?_,fun _ h=>absurd h (by simp[Kc.fin])⟩
 ·unfold Kc.fin;dsimp only
  split
  ·have:=h.rcl;simp;omega
  ·exact h.rcl
 ·unfold Kc.fin;dsimp only
  split
  ·exact fun _ h=>by cases h
  ·exact h.w32
theorem Gen.fail0 (h:Gen (s+1) c) (hw:c.wr=false):Gen s { c with tr:=c.tr+1,rc:=[],ph:=0,i:=0 }:=
 ⟨by have:=h.tr;show c.tr+1+s≤c.steps;omega,Nat.zero_le _,by have:=h.rcl;show 0+s≤8+c.steps;omega,(fun _ h=>by cases h),fun q=>by rw[show Kc.wr { c with tr:=c.tr+1,rc:=[],ph:=0,i:=0 }=c.wr from rfl,hw] at q;cases q⟩
theorem Gen.wst (h:Gen (s+1) c) (hl:W32 l) {frm:Nat} (hi:c.i<c.wd) (h8:c.wd≤8):Gen s (c.wst l frm):=by
 refine⟨by have:=h.tr;show c.tr+s≤c.steps;omega,by show c.i+1≤8;omega,?_,?_,?_⟩
 ·have:=h.rcl;unfold Kc.wst;dsimp only
  split
  ·omega
  ·rw[List.length_append];simp;omega
 ·unfold Kc.wst;dsimp only
  split
  ·exact h.w32
  ·intro x hx
   rcases List.mem_append.1 hx with q | q
   ·exact h.w32 x q
   ·rw[List.mem_singleton.1 q];exact oP hl _
 ·intro q ho;have hw:c.wr=true:=q;unfold Kc.wst;dsimp only;rw[if_pos hw];exact h.wrl hw ho
end
def D1 (c:Kc):Prop:=(0≤c.A∧c.A≤1)∧(0≤c.B∧c.B≤1)∧(c.over=false→((c.op==2)=true→c.ph≤4∧(c.ph=2→c.i<c.wd))∧((c.op==2)=false→c.ph≤3∧(c.ph=3→c.i<c.wd)))
theorem Pb {c:Kc} {l:List Int} (hg:Gen 1 c) (hd:D1 c) (ho:c.over=false) (hl:W32 l) (h1:1≤c.wd) (h8:c.wd≤8):Gen 0 (c.four l).1∧D1 (c.four l).1:=by
 obtain⟨hA,hB,hp⟩:=hd;obtain⟨fm,ge⟩:=hp ho;unfold four;cases h2:(c.op==2)
 ·obtain⟨hq,vX⟩:=ge h2;simp only[Bool.false_eq_true,if_false]
  rcases ae:c.ph with _ | _ | _ | _ | n
  ·refine⟨((hg.A _).go 1).less,⟨by show 0≤c.rdm l 0%2;omega,by show c.rdm l 0%2≤1;omega⟩,hB,fun _=>⟨fun h=>absurd (h2.symm.trans h) (by decide),fun _=>⟨by show 1≤3;omega,fun h=>absurd (show(1:Nat)=3 from h) (by decide)⟩⟩⟩
  ·refine⟨(hg.go 2).less,hA,hB,fun _=>⟨fun h=>absurd (h2.symm.trans h) (by decide),fun _=>⟨by show 2≤3;omega,fun h=>absurd (show(2:Nat)=3 from h) (by decide)⟩⟩⟩
  ·refine⟨((hg.B _).go 3).less,hA,⟨by show 0≤c.rdm l (2+c.A.toNat)%2;omega,by show c.rdm l (2+c.A.toNat)%2≤1;omega⟩,fun _=>⟨fun h=>absurd (h2.symm.trans h) (by decide),fun _=>⟨by show 3≤3;omega,fun _=>h1⟩⟩⟩
  ·have hi:=vX ae;have k8:=hg.wst (s:=0) (frm:=4+(2*c.A+c.B).toNat*c.wd) hl hi h8;simp only;rw[word_eq];dsimp only
   split
   ·exact⟨k8.fin 0,hA,hB,fun h=>absurd (show true=false from h) (by decide)⟩
   ·exact⟨k8,hA,hB,fun _=>⟨fun h=>absurd (h2.symm.trans h) (by decide),fun _=>⟨hq,fun _=>by show c.i+1<c.wd;omega⟩⟩⟩
  ·omega
 ·obtain⟨hq,vX⟩:=fm h2;simp only[if_true]
  rcases ae:c.ph with _ | _ | _ | _ | _ | n
  ·refine⟨((hg.A _).go 1).less,⟨(mw _).1,(mw _).2⟩,hB,fun _=>⟨fun _=>⟨by show 1≤4;omega,fun h=>absurd (show(1:Nat)=2 from h) (by decide)⟩,fun h=>absurd (h2.symm.trans h) (by decide)⟩⟩
  ·refine⟨((hg.B _).go 2).less,hA,⟨(mw _).1,(mw _).2⟩,fun _=>⟨fun _=>⟨by show 2≤4;omega,fun _=>h1⟩,fun h=>absurd (h2.symm.trans h) (by decide)⟩⟩
  ·have hi:=vX ae;have k8:=hg.wst (s:=0) (frm:=4+(2*c.A+c.B).toNat*c.wd) hl hi h8;simp only;rw[word_eq];dsimp only
   split
   ·exact⟨k8.go 3,hA,hB,fun _=>⟨fun _=>⟨by show 3≤4;omega,fun h=>absurd (show(3:Nat)=2 from h) (by decide)⟩,fun h=>absurd (h2.symm.trans h) (by decide)⟩⟩
   ·exact⟨k8,hA,hB,fun _=>⟨fun _=>⟨hq,fun _=>by show c.i+1<c.wd;omega⟩,fun h=>absurd (h2.symm.trans h) (by decide)⟩⟩
  ·refine⟨(hg.go 4).less,hA,hB,fun _=>⟨fun _=>⟨by show 4≤4;omega,fun h=>absurd (show(4:Nat)=2 from h) (by decide)⟩,fun h=>absurd (h2.symm.trans h) (by decide)⟩⟩
  ·exact⟨(hg.fin 0).less,hA,hB,fun h=>absurd (show true=false from h) (by decide)⟩
  ·omega
def Few (c:Kc) (n:Nat):Prop:=∃ S:List Int,S.length≤n∧∀ k:Nat,c.used k=true→(k:Int) ∈ S
theorem Few.mark {c:Kc} {n:Nat} (h:Few c n) (s:Int):Few (c.mark s) (n+1):=by
 obtain⟨S,hS,hu⟩:=h;refine⟨min s 20::S,by simp;omega,fun k hk=>?_⟩;unfold Kc.mark at hk;simp only[Bool.or_eq_true,decide_eq_true_eq] at hk
 rcases hk with q | q
 ·exact List.mem_cons_of_mem _ (hu k q)
 ·rw[q];exact List.mem_cons_self
theorem Few.more {c:Kc} {n m:Nat} (h:Few c n) (hm:n≤m):Few c m:=by
 obtain⟨S,hS,hu⟩:=h;exact⟨S,by omega,hu⟩
theorem Few.free {c:Kc} {n:Nat} (h:Few c n) (hn:n<20):0≤c.free∧c.free≤n:=by
 obtain⟨S,hS,hu⟩:=h;obtain⟨k,hk,hf⟩:=some_free (n+1) S (by omega)
 have hv:c.used k=false:=by
  cases e:c.used k
  ·rfl
  ·have:=hu k e;rw[List.all_eq_true] at hf;have:=hf _ this;simp at this
 have:=(Kc.free_is (c:=c) (v:=c.used) (R:=n+1) (by omega) (fun _ _=>rfl) ⟨k,hk,hv⟩).2;omega
def D2 (c:Kc):Prop:=(0≤c.A∧c.A<4294967296)∧(0≤c.B∧c.B≤c.nr+1)∧(c.over=false→((c.op==2)=true→c.ph≤4∧(c.ph=0→c.i=0)∧(c.ph≤1→Few c c.i)∧(c.ph=1→c.i<c.nr)∧(c.ph=2→c.i<c.wd)∧(c.ph=4→c.i<c.nr))∧((c.op==2)=false→c.ph≤4∧(c.ph=4→c.i<c.wd)))
theorem Pc {c:Kc} {l:List Int} (hg:Gen 1 c) (hd:D2 c) (ho:c.over=false) (hl:W32 l) (h1:1≤c.wd) (h8:c.wd≤8) (n1:1≤c.nr) (n4:c.nr≤4):Gen 0 (c.chen l).1∧D2 (c.chen l).1:=by
 obtain⟨hA,hB,hp⟩:=hd;obtain⟨fm,ge⟩:=hp ho;unfold chen;cases h2:(c.op==2)
 ·obtain⟨hq,Aj⟩:=ge h2;simp only[Bool.false_eq_true,if_false]
  rcases ae:c.ph with _ | _ | _ | _ | _ | n
  ·exact⟨(hg.go 1).less,hA,hB,fun _=>⟨(fun h=>absurd (h2.symm.trans h) (by decide)),fun _=>⟨by show 1≤4;omega,(fun h=>absurd (show(1:Nat)=4 from h) (by decide))⟩⟩⟩
  ·exact⟨((hg.A _).go 2).less,oP hl 0,hB,fun _=>⟨(fun h=>absurd (h2.symm.trans h) (by decide)),fun _=>⟨by show 2≤4;omega,(fun h=>absurd (show(2:Nat)=4 from h) (by decide))⟩⟩⟩
  ·exact⟨(hg.go 3).less,hA,hB,fun _=>⟨(fun h=>absurd (h2.symm.trans h) (by decide)),fun _=>⟨by show 3≤4;omega,(fun h=>absurd (show(3:Nat)=4 from h) (by decide))⟩⟩⟩
  ·have jU:=Int.emod_nonneg (c.rdm l (1+c.rd)) (show(c.nr:Int)+2≠0 by omega);have aq:=Int.emod_lt_of_pos (c.rdm l (1+c.rd)) (show(0:Int)<(c.nr:Int)+2 by omega);exact⟨((hg.B _).go 4).less,hA,⟨jU,by show _%((c.nr:Int)+2)≤(c.nr:Int)+1;omega⟩,fun _=>⟨(fun h=>absurd (h2.symm.trans h) (by decide)),fun _=>⟨by show 4≤4;omega,fun _=>h1⟩⟩⟩
  ·have hi:=Aj ae;have k8:=hg.wst (s:=0) (frm:=1+c.nr+c.B.toNat*c.wd) hl hi h8;simp only;rw[word_eq];dsimp only
   split
   ·exact⟨k8.fin 0,hA,hB,(fun h=>absurd (show true=false from h) (by decide))⟩
   ·exact⟨k8,hA,hB,fun _=>⟨(fun h=>absurd (h2.symm.trans h) (by decide)),fun _=>⟨hq,fun _=>by show c.i+1<c.wd;omega⟩⟩⟩
  ·omega
 ·obtain⟨hq,kK,Io,fr,sI,Aj⟩:=fm h2;simp only[if_true]
  rcases ae:c.ph with _ | _ | _ | _ | _ | n
  ·have h0:=kK ae;have hF:=Io (by omega);exact⟨((hg.A _).go 1).less,oP hl 0,hB,fun _=>⟨fun _=>⟨by show 1≤4;omega,fun _=>rfl,fun _=>(by rw[h0] at hF;exact hF),fun _=>n1,(fun h=>absurd (show(1:Nat)=2 from h) (by decide)),(fun h=>absurd (show(1:Nat)=4 from h) (by decide))⟩,(fun h=>absurd (h2.symm.trans h) (by decide))⟩⟩
  ·have hi:=fr ae;have hF:=(Io (by omega)).mark (c.rdm l (1+c.i));simp only
   split
   ·have NC:=hF.mark c.A;have m7:=Few.free (c:=({ c.mark (c.rdm l (1+c.i)) with i:=c.i+1 }:Kc).mark c.A) (n:=c.i+1+1) NC (by omega);refine⟨((((hg.mark _).i (j:=c.i+1) (by omega)).mark _).B _ |>.go 2).less,hA,⟨m7.1,?_⟩,fun _=>⟨fun _=>⟨by show 2≤4;omega,(fun h=>absurd (show(2:Nat)=0 from h) (by decide)),fun h=>absurd (show 2≤1 from h) (by decide),(fun h=>absurd (show(2:Nat)=1 from h) (by decide)),fun _=>h1,(fun h=>absurd (show(2:Nat)=4 from h) (by decide))⟩,(fun h=>absurd (h2.symm.trans h) (by decide))⟩⟩;have h3:=m7.2;show _≤((c.nr:Nat):Int)+1;exact Int.le_trans h3 (by omega)
   ·refine⟨((hg.mark _).i (j:=c.i+1) (by omega)).less,hA,hB,fun _=>⟨fun _=>⟨hq,fun h=>absurd (ae.symm.trans h) (by decide),fun _=>hF,fun _=>by show c.i+1<c.nr;omega,fun h=>absurd (ae.symm.trans h) (by decide),fun h=>absurd (ae.symm.trans h) (by decide)⟩,(fun h=>absurd (h2.symm.trans h) (by decide))⟩⟩
  ·have hi:=sI ae;have k8:=hg.wst (s:=0) (frm:=1+c.nr+c.B.toNat*c.wd) hl hi h8;simp only;rw[word_eq];dsimp only
   split
   ·exact⟨k8.go 3,hA,hB,fun _=>⟨fun _=>⟨by show 3≤4;omega,(fun h=>absurd (show(3:Nat)=0 from h) (by decide)),fun h=>absurd (show 3≤1 from h) (by decide),(fun h=>absurd (show(3:Nat)=1 from h) (by decide)),(fun h=>absurd (show(3:Nat)=2 from h) (by decide)),(fun h=>absurd (show(3:Nat)=4 from h) (by decide))⟩,(fun h=>absurd (h2.symm.trans h) (by decide))⟩⟩
   ·exact⟨k8,hA,hB,fun _=>⟨fun _=>⟨hq,fun h=>absurd (ae.symm.trans h) (by decide),fun h=>absurd (Nat.le_trans (Nat.le_of_eq ae.symm) h) (by decide),fun h=>absurd (ae.symm.trans h) (by decide),fun _=>by show c.i+1<c.wd;omega,fun h=>absurd (ae.symm.trans h) (by decide)⟩,(fun h=>absurd (h2.symm.trans h) (by decide))⟩⟩
  ·exact⟨(hg.go 4).less,hA,hB,fun _=>⟨fun _=>⟨by show 4≤4;omega,(fun h=>absurd (show(4:Nat)=0 from h) (by decide)),fun h=>absurd (show 4≤1 from h) (by decide),(fun h=>absurd (show(4:Nat)=1 from h) (by decide)),(fun h=>absurd (show(4:Nat)=2 from h) (by decide)),fun _=>n1⟩,(fun h=>absurd (h2.symm.trans h) (by decide))⟩⟩
  ·have hi:=Aj ae;have e:({ c with ph:=0+1+1+1+1,i:=c.i+1 }:Kc)={ c with i:=c.i+1 }:=by rw[← ae]
   simp only;rw[e]
   split
   ·exact⟨((hg.i (j:=c.i+1) (by omega)).fin 0).less,hA,hB,(fun h=>absurd (show true=false from h) (by decide))⟩
   ·exact⟨(hg.i (j:=c.i+1) (by omega)).less,hA,hB,fun _=>⟨fun _=>⟨hq,fun h=>absurd (ae.symm.trans h) (by decide),fun h=>absurd (Nat.le_trans (Nat.le_of_eq ae.symm) h) (by decide),fun h=>absurd (ae.symm.trans h) (by decide),fun h=>absurd (ae.symm.trans h) (by decide),fun _=>by show c.i+1<c.nr;omega⟩,(fun h=>absurd (h2.symm.trans h) (by decide))⟩⟩
  ·omega
def D3 (c:Kc):Prop:=(0≤c.A∧c.A<4294967296)∧c.B=0∧(c.over=false→((c.op==2)=true→c.ph≤3∧(c.ph=2→c.i<c.wd))∧((c.op==2)=false→c.ph≤2∧(c.ph=1→c.i<c.wd)))
theorem Pd {c:Kc} {l:List Int} (hg:Gen 1 c) (hd:D3 c) (ho:c.over=false) (hl:W32 l) (h1:1≤c.wd) (h8:c.wd≤8) (aU:c.op=2∨c.op=1):Gen 0 (c.seq l).1∧D3 (c.seq l).1:=by
 obtain⟨hA,hB,hp⟩:=hd;obtain⟨fm,ge⟩:=hp ho;unfold seq;cases h2:(c.op==2)
 ·obtain⟨hq,fr⟩:=ge h2
  have hw:c.wr=false:=by
   unfold wr;rw[h2,Bool.false_or]
   rcases aU with q | q
   ·rw[q] at h2;cases h2
   ·rw[q];rfl
  simp only[Bool.false_eq_true,if_false]
  rcases ae:c.ph with _ | _ | _ | n
  ·simp only
   split
   ·rw[eD];have zO:=(hg.A (c.rdm l 0)).fail0 hw
    split
    ·exact⟨zO.fin 1,oP hl 0,hB,(fun h=>absurd (show true=false from h) (by decide))⟩
    ·exact⟨zO,oP hl 0,hB,fun _=>⟨(fun h=>absurd (h2.symm.trans h) (by decide)),fun _=>⟨by show 0≤2;omega,(fun h=>absurd (show(0:Nat)=1 from h) (by decide))⟩⟩⟩
   ·exact⟨((hg.A _).go 1).less,oP hl 0,hB,fun _=>⟨(fun h=>absurd (h2.symm.trans h) (by decide)),fun _=>⟨by show 1≤2;omega,fun _=>h1⟩⟩⟩
  ·have hi:=fr ae;have k8:=hg.wst (s:=0) (frm:=1) hl hi h8;simp only;rw[word_eq];dsimp only
   split
   ·exact⟨k8.go 2,hA,hB,fun _=>⟨(fun h=>absurd (h2.symm.trans h) (by decide)),fun _=>⟨by show 2≤2;omega,(fun h=>absurd (show(2:Nat)=1 from h) (by decide))⟩⟩⟩
   ·exact⟨k8,hA,hB,fun _=>⟨(fun h=>absurd (h2.symm.trans h) (by decide)),fun _=>⟨hq,fun _=>by show c.i+1<c.wd;omega⟩⟩⟩
  ·simp only
   split
   ·exact⟨(hg.fin 0).less,hA,hB,(fun h=>absurd (show true=false from h) (by decide))⟩
   ·rw[eD];have zO:=hg.fail0 hw
    split
    ·exact⟨zO.fin 1,hA,hB,(fun h=>absurd (show true=false from h) (by decide))⟩
    ·exact⟨zO,hA,hB,fun _=>⟨(fun h=>absurd (h2.symm.trans h) (by decide)),fun _=>⟨by show 0≤2;omega,(fun h=>absurd (show(0:Nat)=1 from h) (by decide))⟩⟩⟩
  ·omega
 ·obtain⟨hq,sI⟩:=fm h2;simp only[if_true]
  rcases ae:c.ph with _ | _ | _ | _ | n
  ·exact⟨((hg.A _).go 1).less,oP hl 0,hB,fun _=>⟨fun _=>⟨by show 1≤3;omega,(fun h=>absurd (show(1:Nat)=2 from h) (by decide))⟩,(fun h=>absurd (h2.symm.trans h) (by decide))⟩⟩
  ·exact⟨(hg.go 2).less,hA,hB,fun _=>⟨fun _=>⟨by show 2≤3;omega,fun _=>h1⟩,(fun h=>absurd (h2.symm.trans h) (by decide))⟩⟩
  ·have hi:=sI ae;have k8:=hg.wst (s:=0) (frm:=1) hl hi h8;simp only;rw[word_eq];dsimp only
   split
   ·exact⟨k8.go 3,hA,hB,fun _=>⟨fun _=>⟨by show 3≤3;omega,(fun h=>absurd (show(3:Nat)=2 from h) (by decide))⟩,(fun h=>absurd (h2.symm.trans h) (by decide))⟩⟩
   ·exact⟨k8,hA,hB,fun _=>⟨fun _=>⟨hq,fun _=>by show c.i+1<c.wd;omega⟩,(fun h=>absurd (h2.symm.trans h) (by decide))⟩⟩
  ·exact⟨(hg.fin 0).less,hA,hB,(fun h=>absurd (show true=false from h) (by decide))⟩
  ·omega
def D4 (c:Kc):Prop:=(0≤c.A∧c.A<c.sl*1048576)∧c.B=0∧(c.over=false→c.ph≤2∧(c.ph=1→c.i<c.wd))
theorem Pe {c:Kc} {l:List Int} (hg:Gen 1 c) (hd:D4 c) (ho:c.over=false) (hl:W32 l) (h1:1≤c.wd) (h8:c.wd≤8) (hs:0<c.sl) (aU:c.op=2∨c.op=1):Gen 0 (c.ring l).1∧D4 (c.ring l).1:=by
 obtain⟨hA,hB,hp⟩:=hd;obtain⟨hq,fr⟩:=hp ho;have KF:=Bu (c:=c) (l:=l) hs hA.1 hA.2;have hS:=jN c l
 have key:Gen 0 (c.ring l).1∧(c.ring l).1.B=0∧((c.ring l).1.over=false→(c.ring l).1.ph≤2∧((c.ring l).1.ph=1→(c.ring l).1.i<c.wd)):=by
  unfold ring;simp only
  rcases ae:c.ph with _ | _ | _ | n
  ·exact⟨((hg.A _).go 1).less,hB,fun _=>⟨by show 1≤2;omega,fun _=>h1⟩⟩
  ·have hi:=fr ae;have k8:=hg.wst (s:=0) (frm:=1+(c.A%c.sl).toNat*c.wd) hl hi h8;simp only;rw[word_eq];dsimp only
   split
   ·exact⟨k8.go 2,hB,fun _=>⟨by show 2≤2;omega,(fun h=>absurd (show(2:Nat)=1 from h) (by decide))⟩⟩
   ·exact⟨k8,hB,fun _=>⟨hq,fun _=>by show c.i+1<c.wd;omega⟩⟩
  ·simp only;cases h2:(c.op==2)
   ·have hw:c.wr=false:=by
     unfold wr;rw[h2,Bool.false_or]
     rcases aU with q | q
     ·rw[q] at h2;cases h2
     ·rw[q];rfl
    simp only[Bool.false_eq_true,if_false]
    split
    ·exact⟨(hg.fin 0).less,hB,(fun h=>absurd (show true=false from h) (by decide))⟩
    ·rw[eD];have zO:=hg.fail0 hw
     split
     ·exact⟨zO.fin 1,hB,(fun h=>absurd (show true=false from h) (by decide))⟩
     ·exact⟨zO,hB,fun _=>⟨by show 0≤2;omega,(fun h=>absurd (show(0:Nat)=1 from h) (by decide))⟩⟩
   ·simp only[if_true];exact⟨(hg.fin 0).less,hB,(fun h=>absurd (show true=false from h) (by decide))⟩
  ·omega
 refine⟨key.1,⟨KF.1,?_⟩,key.2.1,?_⟩
 ·rw[hS.2.2.2.1];exact KF.2
 ·rw[hS.2.1];exact key.2.2
def D5 (c:Kc):Prop:=(0≤c.A∧c.A<c.sl)∧(0≤c.B∧c.B≤16)∧(c.over=false→((c.op==2)=true→c.B<c.sl∧c.ph≤3∧(c.ph=0→c.i=0)∧(c.ph≤1→Few c c.i)∧(c.ph=1→c.i<c.nr)∧(c.ph=2→c.i<c.wd))∧((c.op==2)=false→c.ph≤4∧(c.ph=3→c.i<c.wd)))
theorem Pf {c:Kc} {l:List Int} (hg:Gen 1 c) (hd:D5 c) (ho:c.over=false) (hl:W32 l) (h1:1≤c.wd) (h8:c.wd≤8) (n1:1≤c.nr) (n4:c.nr≤4) (hs:c.nr+2≤c.sl) (cO:c.sl≤16) (aU:c.op=2∨c.op=1):Gen 0 (c.cab l).1∧D5 (c.cab l).1:=by
 obtain⟨hA,hB,hp⟩:=hd;obtain⟨fm,ge⟩:=hp ho;have z0:=Int.emod_nonneg (c.rdm l 0) (show(c.sl:Int)≠0 by omega);have z1:=Int.emod_lt_of_pos (c.rdm l 0) (show(0:Int)<(c.sl:Int) by omega);unfold cab;simp only;cases h2:(c.op==2)
 ·obtain⟨hq,vX⟩:=ge h2
  have hw:c.wr=false:=by
   unfold wr;rw[h2,Bool.false_or]
   rcases aU with q | q
   ·rw[q] at h2;cases h2
   ·rw[q];rfl
  simp only[Bool.false_eq_true,if_false]
  rcases ae:c.ph with _ | _ | _ | _ | _ | n
  ·exact⟨((hg.A _).go 1).less,⟨z0,z1⟩,hB,fun _=>⟨(fun h=>absurd (h2.symm.trans h) (by decide)),fun _=>⟨by show 1≤4;omega,(fun h=>absurd (show(1:Nat)=3 from h) (by decide))⟩⟩⟩
  ·exact⟨(hg.go 2).less,hA,hB,fun _=>⟨(fun h=>absurd (h2.symm.trans h) (by decide)),fun _=>⟨by show 2≤4;omega,(fun h=>absurd (show(2:Nat)=3 from h) (by decide))⟩⟩⟩
  ·simp only
   split
   ·exact⟨(hg.go 3).less,hA,hB,fun _=>⟨(fun h=>absurd (h2.symm.trans h) (by decide)),fun _=>⟨by show 3≤4;omega,fun _=>h1⟩⟩⟩
   ·rw[eD];have zO:=hg.fail0 hw
    split
    ·exact⟨(zO.B 1).go 4,hA,⟨by show(0:Int)≤1;omega,by show(1:Int)≤16;omega⟩,fun _=>⟨(fun h=>absurd (h2.symm.trans h) (by decide)),fun _=>⟨by show 4≤4;omega,(fun h=>absurd (show(4:Nat)=3 from h) (by decide))⟩⟩⟩
    ·exact⟨zO,hA,hB,fun _=>⟨(fun h=>absurd (h2.symm.trans h) (by decide)),fun _=>⟨by show 0≤4;omega,(fun h=>absurd (show(0:Nat)=3 from h) (by decide))⟩⟩⟩
  ·have hi:=vX ae;have k8:=hg.wst (s:=0) (frm:=1+c.nr+c.A.toNat*c.wd) hl hi h8;simp only;rw[word_eq];dsimp only
   split
   ·exact⟨k8.go 4,hA,hB,fun _=>⟨(fun h=>absurd (h2.symm.trans h) (by decide)),fun _=>⟨by show 4≤4;omega,(fun h=>absurd (show(4:Nat)=3 from h) (by decide))⟩⟩⟩
   ·exact⟨k8,hA,hB,fun _=>⟨(fun h=>absurd (h2.symm.trans h) (by decide)),fun _=>⟨hq,fun _=>by show c.i+1<c.wd;omega⟩⟩⟩
  ·exact⟨(hg.fin c.B).less,hA,hB,(fun h=>absurd (show true=false from h) (by decide))⟩
  ·omega
 ·obtain⟨KG,hq,kK,Io,fr,sI⟩:=fm h2;simp only[if_true]
  rcases ae:c.ph with _ | _ | _ | _ | n
  ·have h0:=kK ae;have hF:=Io (by omega);exact⟨((hg.A _).go 1).less,⟨z0,z1⟩,hB,fun _=>⟨fun _=>⟨KG,by show 1≤3;omega,fun _=>rfl,fun _=>(by rw[h0] at hF;exact hF),fun _=>n1,(fun h=>absurd (show(1:Nat)=2 from h) (by decide))⟩,(fun h=>absurd (h2.symm.trans h) (by decide))⟩⟩
  ·have hi:=fr ae;have Qz:=Io (by omega);simp only;obtain⟨c0,dl⟩:∃ x,(if 0<c.rdm l (1+c.i) then c.mark (c.rdm l (1+c.i) - 1) else c)=x:=⟨_,rfl⟩
   have hk:Gen 1 c0∧Few c0 (c.i+1)∧c0.A=c.A∧c0.B=c.B∧c0.over=c.over∧c0.op=c.op∧c0.ph=c.ph∧c0.nr=c.nr∧c0.wd=c.wd∧c0.sl=c.sl:=by
    rw[← dl]
    split
    ·exact⟨hg.mark _,Qz.mark _,rfl,rfl,rfl,rfl,rfl,rfl,rfl,rfl⟩
    ·exact⟨hg,Qz.more (by omega),rfl,rfl,rfl,rfl,rfl,rfl,rfl,rfl⟩
   rw[dl];obtain⟨Q8,hF,eA,eB,eo,ep,eph,en,ew,es⟩:=hk;have FV:(c0.op==2)=true:=by rw[ep];exact h2
   split
   ·have NC:=hF.mark c.A;have m7:=Few.free (c:=({ c0 with i:=c.i+1 }:Kc).mark c.A) (n:=c.i+1+1) NC (by omega);have aO:(({ c0 with i:=c.i+1 }:Kc).mark c.A).free<(c.sl:Int):=Int.lt_of_le_of_lt m7.2 (by omega);refine⟨(((Q8.i (j:=c.i+1) (by omega)).mark _).B _ |>.go 2).less,?_,⟨m7.1,Int.le_trans m7.2 (by omega)⟩,fun _=>⟨fun _=>⟨?_,by show 2≤3;omega,(fun h=>absurd (show(2:Nat)=0 from h) (by decide)),fun h=>absurd (show 2≤1 from h) (by decide),(fun h=>absurd (show(2:Nat)=1 from h) (by decide)),fun _=>?_⟩,fun h=>absurd (FV.symm.trans h) (by decide)⟩⟩
    ·show 0≤c0.A∧c0.A<(c0.sl:Int);rw[eA,es];exact hA
    ·show(({ c0 with i:=c.i+1 }:Kc).mark c.A).free<(c0.sl:Int);rw[es];exact aO
    ·show 0<c0.wd;omega
   ·refine⟨(Q8.i (j:=c.i+1) (by omega)).less,?_,?_,fun _=>⟨fun _=>⟨?_,?_,fun h=>absurd (ae.symm.trans (eph.symm.trans h)) (by decide),fun _=>hF,fun _=>?_,fun h=>absurd (ae.symm.trans (eph.symm.trans h)) (by decide)⟩,fun h=>absurd (FV.symm.trans h) (by decide)⟩⟩
    ·show 0≤c0.A∧c0.A<(c0.sl:Int);rw[eA,es];exact hA
    ·show 0≤c0.B∧c0.B≤16;rw[eB];exact hB
    ·show c0.B<(c0.sl:Int);rw[eB,es];exact KG
    ·show c0.ph≤3;omega
    ·show c.i+1<c0.nr;omega
  ·have hi:=sI ae;have k8:=hg.wst (s:=0) (frm:=1+c.nr+c.B.toNat*c.wd) hl hi h8;simp only;rw[word_eq];dsimp only
   split
   ·exact⟨k8.go 3,hA,hB,fun _=>⟨fun _=>⟨KG,by show 3≤3;omega,(fun h=>absurd (show(3:Nat)=0 from h) (by decide)),fun h=>absurd (show 3≤1 from h) (by decide),(fun h=>absurd (show(3:Nat)=1 from h) (by decide)),(fun h=>absurd (show(3:Nat)=2 from h) (by decide))⟩,(fun h=>absurd (h2.symm.trans h) (by decide))⟩⟩
   ·exact⟨k8,hA,hB,fun _=>⟨fun _=>⟨KG,hq,fun h=>absurd (ae.symm.trans h) (by decide),fun h=>absurd (Nat.le_trans (Nat.le_of_eq ae.symm) h) (by decide),fun h=>absurd (ae.symm.trans h) (by decide),fun _=>by show c.i+1<c.wd;omega⟩,(fun h=>absurd (h2.symm.trans h) (by decide))⟩⟩
  ·exact⟨(hg.fin 0).less,hA,hB,(fun h=>absurd (show true=false from h) (by decide))⟩
  ·omega
def D6 (c:Kc):Prop:=(0≤c.A∧c.A<2*c.sl)∧c.B=0∧(c.over=false→c.ph≤3∧(c.ph=2→c.i<c.wd))
theorem Pg {c:Kc} {l:List Int} (hg:Gen 1 c) (hd:D6 c) (ho:c.over=false) (hl:W32 l) (h1:1≤c.wd) (h8:c.wd≤8) (hs:0<c.sl):Gen 0 (c.fifo l).1∧D6 (c.fifo l).1:=by
 obtain⟨hA,hB,hp⟩:=hd;obtain⟨hq,sI⟩:=hp ho;have KF:=za (c:=c) (l:=l) hs hA.1 hA.2;have hS:=jM c l
 have key:Gen 0 (c.fifo l).1∧(c.fifo l).1.B=0∧((c.fifo l).1.over=false→(c.fifo l).1.ph≤3∧((c.fifo l).1.ph=2→(c.fifo l).1.i<c.wd)):=by
  unfold fifo;simp only
  rcases ae:c.ph with _ | _ | _ | _ | n
  ·exact⟨((hg.A _).go 1).less,hB,fun _=>⟨by show 1≤3;omega,(fun h=>absurd (show(1:Nat)=2 from h) (by decide))⟩⟩
  ·simp only;have N9:Gen 0 (c.go 2)∧(c.go 2).B=0∧((c.go 2).over=false→(c.go 2).ph≤3∧((c.go 2).ph=2→(c.go 2).i<c.wd)):=⟨(hg.go 2).less,hB,fun _=>⟨by show 2≤3;omega,fun _=>h1⟩⟩;have S2:∀ k,Gen 0 (c.fin k)∧(c.fin k).B=0∧((c.fin k).over=false→(c.fin k).ph≤3∧((c.fin k).ph=2→(c.fin k).i<c.wd)):=fun k=>⟨(hg.fin k).less,hB,(fun h=>absurd (show true=false from h) (by decide))⟩
   repeat' split
   all_goals first
    | exact N9
    | exact S2 _
  ·have hi:=sI ae;have k8:=hg.wst (s:=0) (frm:=2+(c.A%c.sl).toNat*c.wd) hl hi h8;simp only;rw[word_eq];dsimp only
   split
   ·exact⟨k8.go 3,hB,fun _=>⟨by show 3≤3;omega,(fun h=>absurd (show(3:Nat)=2 from h) (by decide))⟩⟩
   ·exact⟨k8,hB,fun _=>⟨hq,fun _=>by show c.i+1<c.wd;omega⟩⟩
  ·exact⟨(hg.fin 0).less,hB,(fun h=>absurd (show true=false from h) (by decide))⟩
  ·omega
 refine⟨key.1,⟨KF.1,?_⟩,key.2.1,?_⟩
 ·rw[hS.2.2.2.1];exact KF.2
 ·rw[hS.2.1];exact key.2.2
end Kc
namespace Kc
structure Sta (c:Kc):Prop where
 kd:c.kd=1∨c.kd=2∨c.kd=3∨c.kd=4∨c.kd=5∨c.kd=6
 wd1:1≤c.wd
 wd8:c.wd≤8
 nr1:1≤c.nr
 nr4:c.nr≤4
 op5:c.kd≠6→c.op=2∨c.op=1
 op6:c.kd=6→c.op=3∨c.op=4
 rd:c.rd<c.nr
 s1:c.kd=1→c.size=4+4*c.wd
 s2:c.kd=2→c.size=1+c.nr+(c.nr+2)*c.wd
 s3:c.kd=3→c.size=1+c.wd
 s4:c.kd=4→c.size=1+c.sl*c.wd
 s5:c.kd=5→c.size=1+c.nr+c.sl*c.wd
 s6:c.kd=6→c.size=2+c.sl*c.wd
 sl4:c.kd=4→2≤c.sl
 sl5:c.kd=5→c.nr+2≤c.sl
 sl6:c.kd=6→1≤c.sl
 sl16:c.sl≤16
 cap1:c.kd=3∨c.kd=4∨c.kd=5→1≤c.cap
 cap16:c.cap≤16
theorem Sta.same {c d:Kc} (h:Sta c) (hs:Same { c with steps:=c.steps+1 } d):Sta d:=by
 obtain⟨e1,e2,e3,e4,e5,e6,e7,e8,e9,e10⟩:=hs
 exact⟨by rw[e1];exact h.kd,by rw[e2];exact h.wd1,by rw[e2];exact h.wd8,by rw[e3];exact h.nr1,by rw[e3];exact h.nr4,by rw[e1,e6];exact h.op5,by rw[e1,e6];exact h.op6,by rw[e7,e3];exact h.rd,
  by rw[e1,e9,e2];exact h.s1,by rw[e1,e9,e2,e3];exact h.s2,by rw[e1,e9,e2];exact h.s3,by rw[e1,e9,e2,e4];exact h.s4,by rw[e1,e9,e2,e3,e4];exact h.s5,by rw[e1,e9,e2,e4];exact h.s6,
  by rw[e1,e4];exact h.sl4,by rw[e1,e3,e4];exact h.sl5,by rw[e1,e4];exact h.sl6,by rw[e4];exact h.sl16,by rw[e1,e5];exact h.cap1,by rw[e5];exact h.cap16⟩
structure Inv (c:Kc):Prop where
 sta:Sta c
 gen:Gen 0 c
 d1:c.kd=1→D1 c
 d2:c.kd=2→D2 c
 d3:c.kd=3→D3 c
 d4:c.kd=4→D4 c
 d5:c.kd=5→D5 c
 d6:c.kd=6→D6 c
 st:c.steps+c.left≤200
theorem Gen.up {c:Kc} (h:Gen 0 c):Gen 1 { c with steps:=c.steps+1 }:=⟨by have:=h.tr;show c.tr+1≤c.steps+1;omega,h.i8,by have:=h.rcl;show c.rc.length+1≤8+(c.steps+1);omega,h.w32,h.wrl⟩
theorem Inv.step {c:Kc} {l:List Int} (h:Inv c) (ho:c.over=false) (hl:W32 l):Inv (c.step l).1:=by
 obtain⟨ov,Gi⟩:=left_step (l:=l) ho h.sta.wd1 h.sta.nr1 h.sta.cap1
 have du:(c.step l).1.steps+(c.step l).1.left≤200:=by
  have h1:(c.step l).1.steps=c.steps+1:=Gi.2.2.2.2.2.2.2.2.2;have:=h.st;omega
 have hk:(c.step l).1.kd=c.kd:=Gi.1;have hu:=h.gen.up;have S:=h.sta
 have fin:∀ (k:Int),c.kd=k→Gen 0 (c.step l).1→(k=1→D1 (c.step l).1)→(k=2→D2 (c.step l).1)→(k=3→D3 (c.step l).1)→(k=4→D4 (c.step l).1)→(k=5→D5 (c.step l).1)→(k=6→D6 (c.step l).1)→Inv (c.step l).1:=fun k zU hg a1 a2 a3 a4 a5 a6=>by
  rw[zU] at hk;exact⟨S.same Gi,hg,fun q=>a1 (hk.symm.trans q),fun q=>a2 (hk.symm.trans q),fun q=>a3 (hk.symm.trans q),fun q=>a4 (hk.symm.trans q),fun q=>a5 (hk.symm.trans q),fun q=>a6 (hk.symm.trans q),du⟩
 rcases S.kd with q | q | q | q | q | q
 ·have e:c.step l=Kc.four { c with steps:=c.steps+1 } l:=by simp[Kc.step,q]
  have:=Pb (l:=l) hu (h.d1 q) ho hl S.wd1 S.wd8;rw[e] at fin ⊢;exact fin 1 q this.1 (fun _=>this.2) (fun x=>absurd x (by decide)) (fun x=>absurd x (by decide)) (fun x=>absurd x (by decide)) (fun x=>absurd x (by decide)) (fun x=>absurd x (by decide))
 ·have e:c.step l=Kc.chen { c with steps:=c.steps+1 } l:=by simp[Kc.step,q]
  have:=Pc (l:=l) hu (h.d2 q) ho hl S.wd1 S.wd8 S.nr1 S.nr4;rw[e] at fin ⊢;exact fin 2 q this.1 (fun x=>absurd x (by decide)) (fun _=>this.2) (fun x=>absurd x (by decide)) (fun x=>absurd x (by decide)) (fun x=>absurd x (by decide)) (fun x=>absurd x (by decide))
 ·have e:c.step l=Kc.seq { c with steps:=c.steps+1 } l:=by simp[Kc.step,q]
  have:=Pd (l:=l) hu (h.d3 q) ho hl S.wd1 S.wd8 (S.op5 (by omega));rw[e] at fin ⊢;exact fin 3 q this.1 (fun x=>absurd x (by decide)) (fun x=>absurd x (by decide)) (fun _=>this.2) (fun x=>absurd x (by decide)) (fun x=>absurd x (by decide)) (fun x=>absurd x (by decide))
 ·have e:c.step l=Kc.ring { c with steps:=c.steps+1 } l:=by simp[Kc.step,q]
  have:=Pe (l:=l) hu (h.d4 q) ho hl S.wd1 S.wd8 (Nat.lt_of_lt_of_le (by omega) (S.sl4 q)) (S.op5 (by omega));rw[e] at fin ⊢;exact fin 4 q this.1 (fun x=>absurd x (by decide)) (fun x=>absurd x (by decide)) (fun x=>absurd x (by decide)) (fun _=>this.2) (fun x=>absurd x (by decide)) (fun x=>absurd x (by decide))
 ·have e:c.step l=Kc.cab { c with steps:=c.steps+1 } l:=by simp[Kc.step,q]
  have:=Pf (l:=l) hu (h.d5 q) ho hl S.wd1 S.wd8 S.nr1 S.nr4 (S.sl5 q) S.sl16 (S.op5 (by omega));rw[e] at fin ⊢;exact fin 5 q this.1 (fun x=>absurd x (by decide)) (fun x=>absurd x (by decide)) (fun x=>absurd x (by decide)) (fun x=>absurd x (by decide)) (fun _=>this.2) (fun x=>absurd x (by decide))
 ·have e:c.step l=Kc.fifo { c with steps:=c.steps+1 } l:=by simp[Kc.step,q]
  have:=Pg (l:=l) hu (h.d6 q) ho hl S.wd1 S.wd8 (Nat.lt_of_lt_of_le (by omega) (S.sl6 q));rw[e] at fin ⊢;exact fin 6 q this.1 (fun x=>absurd x (by decide)) (fun x=>absurd x (by decide)) (fun x=>absurd x (by decide)) (fun x=>absurd x (by decide)) (fun x=>absurd x (by decide)) (fun _=>this.2)
theorem inv_start {kd:Int} {wd nr sl cap:Nat} {op:Int} {rd base size:Nat} {rc:List Int} (hS:Sta (start kd wd nr sl cap op rd base size rc)) (hw:W32 rc) (bV:(op=2∨op=3)→rc.length=wd) (av:¬ (op=2∨op=3)→rc=[]):Inv (start kd wd nr sl cap op rd base size rc):=by
 have ay:wd≤8:=hS.wd8;have ic:cap≤16:=hS.cap16;have aS:nr≤4:=hS.nr4;have O4:1≤wd:=hS.wd1;have To:1≤nr:=hS.nr1
 have bf:rc.length≤8:=by
  by_cases h:op=2∨op=3
  ·rw[bV h];exact ay
  ·rw[av h];exact Nat.zero_le _
 have hl:(start kd wd nr sl cap op rd base size rc).left≤200:=by
  have:=left_start (kd:=kd) (wd:=wd) (nr:=nr) (sl:=sl) (cap:=cap) (op:=op) (rd:=rd) (base:=base) (size:=size) (rc:=rc) hS.cap1;refine Nat.le_trans this ?_;unfold most;have hm:cap*(wd+2)≤16*10:=Nat.mul_le_mul ic (by omega)
  repeat' split
  all_goals omega
 refine⟨hS,⟨Nat.zero_le _,Nat.zero_le _,?_,hw,fun h _=>?_⟩,fun _=>?_,fun _=>?_,fun _=>?_,fun q=>?_,fun q=>?_,fun q=>?_,?_⟩
 ·show rc.length+0≤8+0;omega
 ·have h':(op==2 || op==3)=true:=h;exact bV (by simpa using h')
 ·exact⟨⟨Int.le_refl _,by show(0:Int)≤1;omega⟩,⟨Int.le_refl _,by show(0:Int)≤1;omega⟩,fun _=>⟨fun _=>⟨Nat.zero_le _,fun h=>absurd (show(0:Nat)=2 from h) (by decide)⟩,fun _=>⟨Nat.zero_le _,fun h=>absurd (show(0:Nat)=3 from h) (by decide)⟩⟩⟩
 ·exact⟨⟨Int.le_refl _,by show(0:Int)<_;omega⟩,⟨Int.le_refl _,by show(0:Int)≤(nr:Int)+1;omega⟩,fun _=>⟨fun _=>⟨Nat.zero_le _,fun _=>rfl,fun _=>⟨[],Nat.le_refl _,fun _ h=>absurd (show false=true from h) (by decide)⟩,fun h=>absurd (show(0:Nat)=1 from h) (by decide),fun h=>absurd (show(0:Nat)=2 from h) (by decide),fun h=>absurd (show(0:Nat)=4 from h) (by decide)⟩,fun _=>⟨Nat.zero_le _,fun h=>absurd (show(0:Nat)=4 from h) (by decide)⟩⟩⟩
 ·exact⟨⟨Int.le_refl _,by show(0:Int)<_;omega⟩,rfl,fun _=>⟨fun _=>⟨Nat.zero_le _,fun h=>absurd (show(0:Nat)=2 from h) (by decide)⟩,fun _=>⟨Nat.zero_le _,fun h=>absurd (show(0:Nat)=1 from h) (by decide)⟩⟩⟩
 ·have hs:2≤sl:=hS.sl4 q;exact⟨⟨Int.le_refl _,by show(0:Int)<(sl:Int)*1048576;omega⟩,rfl,fun _=>⟨Nat.zero_le _,fun h=>absurd (show(0:Nat)=1 from h) (by decide)⟩⟩
 ·have hs:nr+2≤sl:=hS.sl5 q;exact⟨⟨Int.le_refl _,by show(0:Int)<(sl:Int);omega⟩,⟨Int.le_refl _,by show(0:Int)≤16;omega⟩,fun _=>⟨fun _=>⟨by show(0:Int)<(sl:Int);omega,Nat.zero_le _,fun _=>rfl,fun _=>⟨[],Nat.le_refl _,fun _ h=>absurd (show false=true from h) (by decide)⟩,fun h=>absurd (show(0:Nat)=1 from h) (by decide),fun h=>absurd (show(0:Nat)=2 from h) (by decide)⟩,fun _=>⟨Nat.zero_le _,fun h=>absurd (show(0:Nat)=3 from h) (by decide)⟩⟩⟩
 ·have hs:1≤sl:=hS.sl6 q;exact⟨⟨Int.le_refl _,by show(0:Int)<2*(sl:Int);omega⟩,rfl,fun _=>⟨Nat.zero_le _,fun h=>absurd (show(0:Nat)=2 from h) (by decide)⟩⟩
 ·show 0+_≤200;omega
end Kc
theorem jB (c:Kc) (l:List Int):(c.step l).2.length=l.length:=by
 have hw:∀ (c:Kc) (l:List Int) (j:Nat) (v:Int),(c.wrm l j v).length=l.length:=fun c l j v=>by unfold Kc.wrm;simp
 have Iy:∀ (c:Kc) (l:List Int) (f:Nat) (g:Kc→Kc),(c.word l f g).2.length=l.length:=fun c l f g=>by
  unfold Kc.word;dsimp only
  split
  ·exact hw _ _ _ _
  ·rfl
 have h1:∀ c:Kc,(c.four l).2.length=l.length:=fun c=>by
  unfold Kc.four
  repeat' split
  all_goals first | rfl | exact hw _ _ _ _ | exact Iy _ _ _ _
 have h2:∀ c:Kc,(c.chen l).2.length=l.length:=fun c=>by
  unfold Kc.chen;dsimp only
  repeat' split
  all_goals first | rfl | exact hw _ _ _ _ | exact Iy _ _ _ _
 have h3:∀ c:Kc,(c.seq l).2.length=l.length:=fun c=>by
  unfold Kc.seq;dsimp only
  repeat' split
  all_goals first | rfl | exact hw _ _ _ _ | exact Iy _ _ _ _
 have h4:∀ c:Kc,(c.ring l).2.length=l.length:=fun c=>by
  unfold Kc.ring;dsimp only
  repeat' split
  all_goals first | rfl | exact hw _ _ _ _ | exact Iy _ _ _ _
 have h5:∀ c:Kc,(c.cab l).2.length=l.length:=fun c=>by
  unfold Kc.cab;dsimp only
  repeat' split
  all_goals first | rfl | exact hw _ _ _ _ | exact Iy _ _ _ _
 have h6:∀ c:Kc,(c.fifo l).2.length=l.length:=fun c=>by
  unfold Kc.fifo;dsimp only
  repeat' split
  all_goals first | rfl | exact hw _ _ _ _ | exact Iy _ _ _ _
 unfold Kc.step;dsimp only
 repeat' split
 all_goals first | exact h1 _ | exact h2 _ | exact h3 _ | exact h4 _ | exact h5 _ | exact h6 _
end Go.Proofs.YtabfcjohdgjkoaaGreatDoor
