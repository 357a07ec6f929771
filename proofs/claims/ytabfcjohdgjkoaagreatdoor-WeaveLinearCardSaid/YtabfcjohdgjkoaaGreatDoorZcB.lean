/- One step of an operation: the document's and the program's, of any kind: of no program text. -/
import Derived.Test.YtabfcjohdgjkoaaGreatDoorZcA
namespace Go.Proofs.YtabfcjohdgjkoaaGreatDoor
structure Kc where
 kd:Int
 wd:Nat
 nr:Nat
 sl:Nat
 cap:Nat
 op:Int
 rd:Nat
 ph:Nat
 i:Nat
 tr:Nat
 A:Int
 B:Int
 used:Nat→Bool
 rc:List Int
 base:Nat
 size:Nat
 code:Int
 steps:Nat
 over:Bool
abbrev Km:=Kc × List Int
namespace Kc
def wr (c:Kc):Bool:=c.op==2 || c.op==3
def rdm (c:Kc) (l:List Int) (k:Nat):Int:=l.getD (c.base+k) 0
def wrm (c:Kc) (l:List Int) (k:Nat) (v:Int):List Int:=l.set (c.base+k) v
def go (c:Kc) (p:Nat):Kc:={ c with ph:=p,i:=0 }
def fin (c:Kc) (k:Int):Kc:={ c with over:=true,code:=k,rc:=if k != 0 || c.wr then [] else c.rc }
def word (c:Kc) (l:List Int) (frm:Nat) (last:Kc→Kc):Km:=
 let c1:=if c.wr then c else { c with rc:=c.rc++[c.rdm l (frm+c.i)] }
 let l1:=if c.wr then c.wrm l (frm+c.i) (c.rc.getD c.i 0) else l
 let c2:={ c1 with i:=c.i+1 }
 (if c.i+1≥c.wd then last c2 else c2,l1)
def fail (c:Kc) (last:Kc→Kc):Kc:=
 let c1:={ c with tr:=c.tr+1,rc:=[],ph:=0,i:=0 }
 if c.tr+1≥c.cap then last c1 else c1
def mark (c:Kc) (s:Int):Kc:={ c with used:=fun k=>c.used k || decide ((k:Int)=min s 20) }
def free (c:Kc):Int:=(((List.range 64).find? fun k=>!c.used k).getD 0:Nat)
def one (v:Int):Int:=(v+1)%2
def inc (v m:Int):Int:=if v+1<m then v+1 else 0
def gap (a b m:Int):Int:=if a≤b then b - a else b+m - a
def four (c:Kc) (l:List Int):Km:=
 if c.op==2 then
  match c.ph with
  | 0=>(({ c with A:=one (c.rdm l 1) }:Kc).go 1,l)
  | 1=>(({ c with B:=one (c.rdm l (2+c.A.toNat)) }:Kc).go 2,l)
  | 2=>c.word l (4+(2*c.A+c.B).toNat*c.wd) (·.go 3)
  | 3=>(c.go 4,c.wrm l (2+c.A.toNat) c.B)
  | _=>(c.fin 0,c.wrm l 0 c.A)
 else
  match c.ph with
  | 0=>(({ c with A:=c.rdm l 0%2 }:Kc).go 1,l)
  | 1=>(c.go 2,c.wrm l 1 c.A)
  | 2=>(({ c with B:=c.rdm l (2+c.A.toNat)%2 }:Kc).go 3,l)
  | _=>c.word l (4+(2*c.A+c.B).toNat*c.wd) (·.fin 0)
def chen (c:Kc) (l:List Int):Km:=
 let none:Int:=c.nr+2
 let frm:=1+c.nr+c.B.toNat*c.wd
 if c.op==2 then
  match c.ph with
  | 0=>(({ c with A:=c.rdm l 0 }:Kc).go 1,l)
  | 1=>
   let c1:={ c.mark (c.rdm l (1+c.i)) with i:=c.i+1 }
   if c.i+1≥c.nr then (let c2:=c1.mark c.A;({ c2 with B:=c2.free }:Kc).go 2,l) else (c1,l)
  | 2=>c.word l frm (·.go 3)
  | 3=>(c.go 4,c.wrm l 0 c.B)
  | _=>
   let l1:=if c.rdm l (1+c.i)=none then c.wrm l (1+c.i) c.B else l
   let c1:={ c with i:=c.i+1 }
   (if c.i+1≥c.nr then c1.fin 0 else c1,l1)
 else
  let own:=1+c.rd
  match c.ph with
  | 0=>(c.go 1,c.wrm l own none)
  | 1=>(({ c with A:=c.rdm l 0 }:Kc).go 2,l)
  | 2=>(c.go 3,if c.rdm l own=none then c.wrm l own c.A else l)
  | 3=>(({ c with B:=c.rdm l own%none }:Kc).go 4,l)
  | _=>c.word l frm (·.fin 0)
def seq (c:Kc) (l:List Int):Km:=
 if c.op==2 then
  match c.ph with
  | 0=>(({ c with A:=c.rdm l 0 }:Kc).go 1,l)
  | 1=>(c.go 2,c.wrm l 0 ((c.A+1)%4294967296))
  | 2=>c.word l 1 (·.go 3)
  | _=>(c.fin 0,c.wrm l 0 ((c.A+2)%4294967296))
 else
  match c.ph with
  | 0=>
   let c1:={ c with A:=c.rdm l 0 }
   (if c.rdm l 0%2=1 then c1.fail (·.fin 1) else c1.go 1,l)
  | 1=>c.word l 1 (·.go 2)
  | _=>(if c.rdm l 0=c.A then c.fin 0 else c.fail (·.fin 1),l)
def ring (c:Kc) (l:List Int):Km:=
 let m:Int:=c.sl*1048576
 let frm:=1+(c.A%c.sl).toNat*c.wd
 match c.ph with
 | 0=>(({ c with A:=if c.op==2 then inc (c.rdm l 0%m) m else c.rdm l 0%m }:Kc).go 1,l)
 | 1=>c.word l frm (·.go 2)
 | _=>
  if c.op==2 then (c.fin 0,c.wrm l 0 c.A)
  else (if gap c.A (c.rdm l 0%m) m<c.sl - 1 then c.fin 0 else c.fail (·.fin 1),l)
def cab (c:Kc) (l:List Int):Km:=
 let newest:=c.rdm l 0%c.sl
 if c.op==2 then
  match c.ph with
  | 0=>(({ c with A:=newest }:Kc).go 1,l)
  | 1=>
   let c0:=if 0<c.rdm l (1+c.i) then c.mark (c.rdm l (1+c.i) - 1) else c
   let c1:={ c0 with i:=c.i+1 }
   if c.i+1≥c.nr then (let c2:=c1.mark c.A;({ c2 with B:=c2.free }:Kc).go 2,l) else (c1,l)
  | 2=>c.word l (1+c.nr+c.B.toNat*c.wd) (·.go 3)
  | _=>(c.fin 0,c.wrm l 0 c.B)
 else
  let own:=1+c.rd
  match c.ph with
  | 0=>(({ c with A:=newest }:Kc).go 1,l)
  | 1=>(c.go 2,c.wrm l own ((c.A+1)%4294967296))
  | 2=>(if newest=c.A then c.go 3 else c.fail fun c1=>({ c1 with B:=1 }:Kc).go 4,l)
  | 3=>c.word l (1+c.nr+c.A.toNat*c.wd) (·.go 4)
  | _=>(c.fin c.B,c.wrm l own 0)
def fifo (c:Kc) (l:List Int):Km:=
 let m:Int:=2*c.sl
 let put:=c.op==3
 let own:=if put then 1 else 0
 let frm:=2+(c.A%c.sl).toNat*c.wd
 match c.ph with
 | 0=>(({ c with A:=c.rdm l own%m }:Kc).go 1,l)
 | 1=>
  if put then (if gap (c.rdm l 0%m) c.A m≥c.sl then c.fin 2 else c.go 2,l)
  else (if c.rdm l 1%m=c.A then c.fin 3 else c.go 2,l)
 | 2=>c.word l frm (·.go 3)
 | _=>(c.fin 0,c.wrm l own (inc c.A m))
def can (c:Kc) (l:List Int):Bool:=!c.over&&decide (c.base≤l.length∧c.size≤l.length - c.base)
def step (c:Kc) (l:List Int):Km:=
 let c1:={ c with steps:=c.steps+1 }
 if c.kd=1 then c1.four l else if c.kd=2 then c1.chen l else if c.kd=3 then c1.seq l else if c.kd=4 then c1.ring l else if c.kd=5 then c1.cab l else c1.fifo l
end Kc
namespace Kc
def leftFour (c:Kc):Nat:=
 if c.op==2 then (match c.ph with | 0=>c.wd+4 | 1=>c.wd+3 | 2=>(c.wd - c.i - 1)+3 | 3=>2 | _=>1)
 else (match c.ph with | 0=>c.wd+3 | 1=>c.wd+2 | 2=>c.wd+1 | _=>(c.wd - c.i - 1)+1)
def leftChen (c:Kc):Nat:=
 if c.op==2 then (match c.ph with | 0=>c.wd+2*c.nr+2 | 1=>(c.nr - c.i - 1)+1+c.wd+1+c.nr | 2=>(c.wd - c.i - 1)+2+c.nr | 3=>c.nr+1 | _=>(c.nr - c.i - 1)+1)
 else (match c.ph with | 0=>c.wd+4 | 1=>c.wd+3 | 2=>c.wd+2 | 3=>c.wd+1 | _=>(c.wd - c.i - 1)+1)
def leftSeq (c:Kc):Nat:=
 if c.op==2 then (match c.ph with | 0=>c.wd+3 | 1=>c.wd+2 | 2=>(c.wd - c.i - 1)+2 | _=>1)
 else (c.cap - c.tr - 1)*(c.wd+2)+(match c.ph with | 0=>c.wd+2 | 1=>(c.wd - c.i - 1)+2 | _=>1)
def leftRing (c:Kc):Nat:=
 (if c.op==2 then 0 else (c.cap - c.tr - 1)*(c.wd+2))+(match c.ph with | 0=>c.wd+2 | 1=>(c.wd - c.i - 1)+2 | _=>1)
def leftCab (c:Kc):Nat:=
 if c.op==2 then (match c.ph with | 0=>c.wd+c.nr+2 | 1=>(c.nr - c.i - 1)+1+c.wd+1 | 2=>(c.wd - c.i - 1)+2 | _=>1)
 else (match c.ph with | 0=>3*(c.cap - c.tr - 1)+c.wd+4 | 1=>3*(c.cap - c.tr - 1)+c.wd+3 | 2=>3*(c.cap - c.tr - 1)+c.wd+2 | 3=>(c.wd - c.i - 1)+2 | _=>1)
def leftFifo (c:Kc):Nat:=match c.ph with | 0=>c.wd+3 | 1=>c.wd+2 | 2=>(c.wd - c.i - 1)+2 | _=>1
def left (c:Kc):Nat:=
 if c.over then 0 else if c.kd=1 then c.leftFour else if c.kd=2 then c.leftChen else if c.kd=3 then c.leftSeq else if c.kd=4 then c.leftRing else if c.kd=5 then c.leftCab else c.leftFifo
theorem dM (c:Kc) (l:List Int) (frm:Nat) (last:Kc→Kc):∃ X l',c.word l frm last=(if c.wd≤c.i+1 then last { c with rc:=X,i:=c.i+1 } else { c with rc:=X,i:=c.i+1 },l'):=by
 unfold word;cases h:c.wr
 ·exact⟨_,_,rfl⟩
 ·exact⟨c.rc,_,rfl⟩
theorem eD (c:Kc) (last:Kc→Kc):c.fail last=if c.cap≤c.tr+1 then last { c with tr:=c.tr+1,rc:=[],ph:=0,i:=0 } else { c with tr:=c.tr+1,rc:=[],ph:=0,i:=0 }:=rfl
def lQ (f:Kc→Nat) (c d:Kc):Prop:=d.over=true∨f d<f c
theorem xx {c:Kc} {l:List Int} (hw:1≤c.wd):lQ leftFour c (c.four l).1:=by
 unfold four lQ;cases ho:c.op==2
 ·rcases hp:c.ph with _ | _ | _ | n
  ·right;simp[go,leftFour,ho,hp]
  ·right;simp[go,leftFour,ho,hp]
  ·right;simp[go,leftFour,ho,hp];omega
  ·simp only[Bool.false_eq_true,if_false];obtain⟨X,l',e⟩:=dM c l (4+(2*c.A+c.B).toNat*c.wd) (·.fin 0);rw[e];split
   ·left;rfl
   ·right;simp[leftFour,ho,hp];omega
 ·rcases hp:c.ph with _ | _ | _ | _ | n
  ·right;simp[go,leftFour,ho,hp]
  ·right;simp[go,leftFour,ho,hp];omega
  ·simp only[if_true];obtain⟨X,l',e⟩:=dM c l (4+(2*c.A+c.B).toNat*c.wd) (·.go 3);rw[e];split
   ·right;simp[go,leftFour,ho,hp]
   ·right;simp[leftFour,ho,hp];omega
  ·right;simp[go,leftFour,ho,hp]
  ·left;rfl
theorem xw {c:Kc} {l:List Int} (hw:1≤c.wd):lQ leftFifo c (c.fifo l).1:=by
 unfold fifo lQ
 rcases hp:c.ph with _ | _ | _ | n
 ·right;simp[go,leftFifo,hp]
 ·simp only
  split <;> split <;> first
   | (left;rfl)
   | (right;simp[go,leftFifo,hp];omega)
 ·simp only;obtain⟨X,l',e⟩:=dM c l (2+(c.A%c.sl).toNat*c.wd) (·.go 3);rw[e];split
  ·right;simp[go,leftFifo,hp]
  ·right;simp[leftFifo,hp];omega
 ·left;rfl
theorem AH {c:Kc} {l:List Int} (hw:1≤c.wd) (_hc:1≤c.cap):lQ leftSeq c (c.seq l).1:=by
 have hf:c.op≠2→∀ c1:Kc,c1.cap=c.cap→c1.tr=c.tr→c1.wd=c.wd→c1.op=c.op→(c1.fail (·.fin 1)).over=true∨(c1.fail (·.fin 1)).leftSeq<(c.cap - c.tr - 1)*(c.wd+2)+1:=by
  intro h2 c1 h h' Nu h3;rw[eD,h,h']
  split
  ·left;rfl
  ·right
   have e:c.cap - c.tr - 1=(c.cap - (c.tr+1) - 1)+1:=by omega
   simp only[leftSeq,Nu,h3];rw[if_neg (by simpa using h2),e,Nat.add_mul,Nat.one_mul];omega
 unfold seq lQ;cases ho:c.op==2
 ·have h2:c.op≠2:=by simpa using ho
  rcases hp:c.ph with _ | _ | n
  ·simp only[Bool.false_eq_true,if_false]
   split
   ·rcases hf h2 { c with A:=c.rdm l 0 } rfl rfl rfl rfl with h | h
    ·exact Or.inl h
    ·right;refine Nat.lt_of_lt_of_le h ?_
     simp[leftSeq,ho,hp]
   ·right;simp[go,leftSeq,ho,hp];omega
  ·simp only[Bool.false_eq_true,if_false];obtain⟨X,l',e⟩:=dM c l 1 (·.go 2);rw[e];split
   ·right;simp[go,leftSeq,ho,hp]
   ·right;simp[leftSeq,ho,hp];omega
  ·simp only[Bool.false_eq_true,if_false]
   split
   ·left;rfl
   ·rcases hf h2 c rfl rfl rfl rfl with h | h
    ·exact Or.inl h
    ·right;refine Nat.lt_of_lt_of_le h ?_
     simp[leftSeq,ho,hp]
 ·rcases hp:c.ph with _ | _ | _ | n
  ·right;simp[go,leftSeq,ho,hp]
  ·right;simp[go,leftSeq,ho,hp];omega
  ·simp only[if_true];obtain⟨X,l',e⟩:=dM c l 1 (·.go 3);rw[e];split
   ·right;simp[go,leftSeq,ho,hp]
   ·right;simp[leftSeq,ho,hp];omega
  ·left;rfl
theorem xy {c:Kc} {l:List Int} (hw:1≤c.wd) (_hc:1≤c.cap):lQ leftRing c (c.ring l).1:=by
 have hf:c.op≠2→∀ c1:Kc,c1.cap=c.cap→c1.tr=c.tr→c1.wd=c.wd→c1.op=c.op→(c1.fail (·.fin 1)).over=true∨(c1.fail (·.fin 1)).leftRing<(c.cap - c.tr - 1)*(c.wd+2)+1:=by
  intro h2 c1 h h' Nu h3;rw[eD,h,h']
  split
  ·left;rfl
  ·right
   have e:c.cap - c.tr - 1=(c.cap - (c.tr+1) - 1)+1:=by omega
   simp only[leftRing,Nu,h3];rw[if_neg (by simpa using h2),e,Nat.add_mul,Nat.one_mul];omega
 unfold ring lQ
 rcases hp:c.ph with _ | _ | n
 ·right;simp[go,leftRing,hp];omega
 ·simp only;obtain⟨X,l',e⟩:=dM c l (1+(c.A%c.sl).toNat*c.wd) (·.go 2);rw[e];split
  ·right;simp[go,leftRing,hp]
  ·right;simp[leftRing,hp];omega
 ·simp only;cases ho:c.op==2
  ·have h2:c.op≠2:=by simpa using ho
   simp only[Bool.false_eq_true,if_false]
   split
   ·left;rfl
   ·rcases hf h2 c rfl rfl rfl rfl with h | h
    ·exact Or.inl h
    ·right;refine Nat.lt_of_lt_of_le h ?_
     simp[leftRing,ho,hp]
  ·left;rfl
theorem xv {c:Kc} {l:List Int} (hw:1≤c.wd) (hn:1≤c.nr):lQ leftChen c (c.chen l).1:=by
 unfold chen lQ;cases ho:c.op==2
 ·rcases hp:c.ph with _ | _ | _ | _ | n
  ·right;simp[go,leftChen,ho,hp]
  ·right;simp[go,leftChen,ho,hp]
  ·right;simp[go,leftChen,ho,hp]
  ·right;simp[go,leftChen,ho,hp];omega
  ·simp only[Bool.false_eq_true,if_false];obtain⟨X,l',e⟩:=dM c l (1+c.nr+c.B.toNat*c.wd) (·.fin 0);rw[e];split
   ·left;rfl
   ·right;simp[leftChen,ho,hp];omega
 ·rcases hp:c.ph with _ | _ | _ | _ | n
  ·right;simp[go,leftChen,ho,hp];omega
  ·simp only[if_true]
   split
   ·right;simp[go,mark,leftChen,ho,hp];omega
   ·right;simp[mark,leftChen,ho,hp];omega
  ·simp only[if_true];obtain⟨X,l',e⟩:=dM c l (1+c.nr+c.B.toNat*c.wd) (·.go 3);rw[e];split
   ·right;simp[go,leftChen,ho,hp];omega
   ·right;simp[leftChen,ho,hp];omega
  ·right;simp[go,leftChen,ho,hp];omega
  ·simp only[if_true]
   split
   ·left;rfl
   ·right;simp[leftChen,ho,hp];omega
theorem AF {c:Kc} {l:List Int} (hw:1≤c.wd) (hn:1≤c.nr) (_hc:1≤c.cap):lQ leftCab c (c.cab l).1:=by
 unfold cab lQ;cases ho:c.op==2
 ·rcases hp:c.ph with _ | _ | _ | _ | n
  ·right;simp[go,leftCab,ho,hp]
  ·right;simp[go,leftCab,ho,hp]
  ·simp only[Bool.false_eq_true,if_false]
   split
   ·right;simp[go,leftCab,ho,hp];omega
   ·rw[eD];split
    ·right;simp[go,leftCab,ho,hp]
    ·right;simp[leftCab,ho,hp];omega
  ·simp only[Bool.false_eq_true,if_false];obtain⟨X,l',e⟩:=dM c l (1+c.nr+c.A.toNat*c.wd) (·.go 4);rw[e];split
   ·right;simp[go,leftCab,ho,hp]
   ·right;simp[leftCab,ho,hp];omega
  ·left;rfl
 ·rcases hp:c.ph with _ | _ | _ | n
  ·right;simp[go,leftCab,ho,hp];omega
  ·simp only[if_true]
   by_cases hr:0<c.rdm l (1+c.i)
   ·simp only[hr,if_true]
    split
    ·right;simp[go,mark,leftCab,ho,hp];omega
    ·right;simp[mark,leftCab,ho,hp];simp at *;omega
   ·simp only[hr,if_false]
    split
    ·right;simp[go,mark,leftCab,ho,hp];omega
    ·right;simp[leftCab,ho,hp];omega
  ·simp only[if_true];obtain⟨X,l',e⟩:=dM c l (1+c.nr+c.B.toNat*c.wd) (·.go 3);rw[e];split
   ·right;simp[go,leftCab,ho,hp]
   ·right;simp[leftCab,ho,hp];omega
  ·left;rfl
def Same (c d:Kc):Prop:=d.kd=c.kd∧d.wd=c.wd∧d.nr=c.nr∧d.sl=c.sl∧d.cap=c.cap∧d.op=c.op∧d.rd=c.rd∧d.base=c.base∧d.size=c.size∧d.steps=c.steps
theorem Same.rfl (c:Kc):Same c c:=⟨.refl _,.refl _,.refl _,.refl _,.refl _,.refl _,.refl _,.refl _,.refl _,.refl _⟩
theorem gg {c:Kc} {l:List Int} {frm:Nat} {last:Kc→Kc} (h:∀ d,Same c d→Same c (last d)):Same c (c.word l frm last).1:=by
 obtain⟨X,l',e⟩:=dM c l frm last;rw[e];split
 ·exact h _ (Same.rfl c)
 ·exact Same.rfl c
theorem mB {c c1:Kc} {last:Kc→Kc} (h1:Same c c1) (h:∀ d,Same c d→Same c (last d)):Same c (c1.fail last):=by
 rw[eD];split
 ·exact h _ h1
 ·exact h1
theorem qo (c:Kc) (l:List Int):Same c (c.four l).1:=by
 unfold four
 split <;> split <;> first
  | exact Same.rfl c
  | exact gg fun d h=>h
theorem mA (c:Kc) (l:List Int):Same c (c.chen l).1:=by
 unfold chen;simp only
 split <;> split <;> first
  | exact Same.rfl c
  | exact gg fun d h=>h
  | (split <;> exact Same.rfl c)
theorem tt (c:Kc) (l:List Int):Same c (c.seq l).1:=by
 unfold seq;simp only
 split <;> split <;> first
  | exact Same.rfl c
  | exact gg fun d h=>h
  | (split <;> first | exact Same.rfl c | exact mB (Same.rfl c) fun d h=>h)
theorem jN (c:Kc) (l:List Int):Same c (c.ring l).1:=by
 unfold ring;simp only
 split
 ·exact Same.rfl c
 ·exact gg fun d h=>h
 ·split
  ·exact Same.rfl c
  ·simp only;split
   ·exact Same.rfl c
   ·exact mB (Same.rfl c) fun d h=>h
theorem oT (c:Kc) (l:List Int):Same c (c.cab l).1:=by
 unfold cab;simp only
 split <;> split <;> first
  | exact Same.rfl c
  | exact gg fun d h=>h
  | (simp only;split <;> first | exact Same.rfl c | exact mB (Same.rfl c) fun d h=>h)
  | (split <;> split <;> exact Same.rfl c)
theorem jM (c:Kc) (l:List Int):Same c (c.fifo l).1:=by
 unfold fifo;simp only
 split
 ·exact Same.rfl c
 ·split <;> split <;> exact Same.rfl c
 ·exact gg fun d h=>h
 ·exact Same.rfl c
theorem left_step {c:Kc} {l:List Int} (ho:c.over=false) (hw:1≤c.wd) (hn:1≤c.nr) (hc:c.kd=3∨c.kd=4∨c.kd=5→1≤c.cap):
  (c.step l).1.left<c.left∧Same { c with steps:=c.steps+1 } (c.step l).1:=by
 have hS:Same { c with steps:=c.steps+1 } (c.step l).1:=by
  unfold step;simp only
  repeat' split
  all_goals first
   | exact qo _ l
   | exact mA _ l
   | exact tt _ l
   | exact jN _ l
   | exact oT _ l
   | exact jM _ l
 refine⟨?_,hS⟩;have hk:(c.step l).1.kd=c.kd:=hS.1
 have key:∀ f:Kc→Nat,(∀ d:Kc,d.over=false→d.kd=c.kd→d.left=f d)→(∀ d:Kc,0<f d)→lQ f { c with steps:=c.steps+1 } (c.step l).1→f { c with steps:=c.steps+1 }=f c→(c.step l).1.left<c.left:=by
  intro f hf h0 hd he;rw[hf c ho rfl];cases dg:(c.step l).1.over
  ·rw[hf _ dg hk]
   rcases hd with h | h
   ·rw[dg] at h;exact absurd h (by decide)
   ·rw[he] at h;exact h
  ·unfold left;rw[dg,if_pos rfl];exact h0 c
 by_cases h1:c.kd=1
 ·refine key leftFour (fun d h h'=>by simp[left,h,h',h1]) (fun d=>by unfold leftFour;split <;> split <;> omega) ?_ rfl;have e:c.step l=Kc.four { c with steps:=c.steps+1 } l:=by simp[step,h1]
  rw[e];exact xx hw
 by_cases h2:c.kd=2
 ·refine key leftChen (fun d h h'=>by simp[left,h,h',h2]) (fun d=>by unfold leftChen;split <;> split <;> omega) ?_ rfl;have e:c.step l=Kc.chen { c with steps:=c.steps+1 } l:=by simp[step,h2]
  rw[e];exact xv hw hn
 by_cases h3:c.kd=3
 ·refine key leftSeq (fun d h h'=>by simp[left,h,h',h3]) (fun d=>by unfold leftSeq;split <;> split <;> omega) ?_ rfl;have e:c.step l=Kc.seq { c with steps:=c.steps+1 } l:=by simp[step,h3]
  rw[e];exact AH hw (hc (Or.inl h3))
 by_cases h4:c.kd=4
 ·refine key leftRing (fun d h h'=>by simp[left,h,h',h4]) (fun d=>by unfold leftRing;split <;> split <;> omega) ?_ rfl;have e:c.step l=Kc.ring { c with steps:=c.steps+1 } l:=by simp[step,h4]
  rw[e];exact xy hw (hc (Or.inr (Or.inl h4)))
 by_cases h5:c.kd=5
 ·refine key leftCab (fun d h h'=>by simp[left,h,h',h5]) (fun d=>by unfold leftCab;split <;> split <;> omega) ?_ rfl;have e:c.step l=Kc.cab { c with steps:=c.steps+1 } l:=by simp[step,h5]
  rw[e];exact AF hw hn (hc (Or.inr (Or.inr h5)))
 ·refine key leftFifo (fun d h h'=>by simp[left,h,h',h1,h2,h3,h4,h5]) (fun d=>by unfold leftFifo;split <;> omega) ?_ rfl;have e:c.step l=Kc.fifo { c with steps:=c.steps+1 } l:=by simp[step,h1,h2,h3,h4,h5]
  rw[e];exact xw hw
def start (kd:Int) (wd nr sl cap:Nat) (op:Int) (rd base size:Nat) (rc:List Int):Kc:=
 { kd:=kd,wd:=wd,nr:=nr,sl:=sl,cap:=cap,op:=op,rd:=rd,ph:=0,i:=0,tr:=0,A:=0,B:=0,used:=fun _=>false,rc:=rc,base:=base,size:=size,code:=0,steps:=0,over:=false }
def most (kd:Int) (wd nr cap:Nat) (op:Int):Nat:=
 if kd=1 then (if op=2 then wd+4 else wd+3)
 else if kd=2 then (if op=2 then wd+2*nr+2 else wd+4)
 else if kd=3 then (if op=2 then wd+3 else cap*(wd+2))
 else if kd=4 then (if op=2 then wd+2 else cap*(wd+2))
 else if kd=5 then (if op=2 then wd+nr+2 else 3*cap+wd+1)
 else wd+3
theorem AG {c:Kc} (ho:c.over=false) (hp:c.ph=0) (ht:c.tr=0) (hc:c.kd=3∨c.kd=4∨c.kd=5→1≤c.cap):c.left≤most c.kd c.wd c.nr c.cap c.op:=by
 have hm:1≤c.cap→(c.cap - 0 - 1)*(c.wd+2)+(c.wd+2)=c.cap*(c.wd+2):=by
  intro h;obtain⟨k,e⟩:∃ k,c.cap=k+1:=⟨c.cap - 1,by omega⟩;rw[e,Nat.add_mul,Nat.one_mul];rfl
 unfold left most;rw[ho,if_neg (by decide)]
 by_cases h1:c.kd=1
 ·rw[if_pos h1,if_pos h1]
  by_cases h:c.op=2 <;> simp[leftFour,h,hp]
 rw[if_neg h1,if_neg h1]
 by_cases h2:c.kd=2
 ·rw[if_pos h2,if_pos h2]
  by_cases h:c.op=2 <;> simp[leftChen,h,hp]
 rw[if_neg h2,if_neg h2]
 by_cases h3:c.kd=3
 ·rw[if_pos h3,if_pos h3];have:=hm (hc (Or.inl h3))
  by_cases h:c.op=2
  ·simp[leftSeq,h,hp]
  ·simp only[leftSeq,hp,ht];rw[if_neg (by simpa using h),if_neg h,this];exact Nat.le_refl _
 rw[if_neg h3,if_neg h3]
 by_cases h4:c.kd=4
 ·rw[if_pos h4,if_pos h4];have:=hm (hc (Or.inr (Or.inl h4)))
  by_cases h:c.op=2
  ·simp[leftRing,h,hp]
  ·simp only[leftRing,hp,ht];rw[if_neg (by simpa using h),if_neg h,this];exact Nat.le_refl _
 rw[if_neg h4,if_neg h4]
 by_cases h5:c.kd=5
 ·rw[if_pos h5,if_pos h5];have:=hc (Or.inr (Or.inr h5))
  by_cases h:c.op=2
  ·simp[leftCab,h,hp]
  ·simp[leftCab,h,hp,ht];omega
 rw[if_neg h5,if_neg h5];simp[leftFifo,hp]
theorem left_start {kd:Int} {wd nr sl cap:Nat} {op:Int} {rd base size:Nat} {rc:List Int} (hc:kd=3∨kd=4∨kd=5→1≤cap):
  (start kd wd nr sl cap op rd base size rc).left≤most kd wd nr cap op:=
 AG (c:=start kd wd nr sl cap op rd base size rc) rfl rfl rfl hc
def runs (pk:Nat→List Int→List Int):Nat→Nat→Km→Km
 | 0,_,x=>x
 | n+1,t,x=>if x.1.over then x else runs pk n (t+1) (x.1.step (pk t x.2))
end Kc
namespace Kc
def pt (a b m:Int):Int:=(b%m+m - a%m)%m
def Eo (a m:Int):Int:=(a+1)%m
theorem kq {a b m:Int} (ha:0≤a) (Ju:a<m) (hb:0≤b) (DY:b<m):gap a b m=pt a b m:=by
 unfold gap pt;rw[Int.emod_eq_of_lt hb DY,Int.emod_eq_of_lt ha Ju]
 split
 ·rw[show b+m - a=(b - a)+m by omega,Int.add_emod_right,Int.emod_eq_of_lt (by omega) (by omega)]
 ·rw[Int.emod_eq_of_lt (by omega) (by omega)]
theorem vK {a b m:Int} (hm:0<m) (ha:0≤a) (Ju:a<m):gap a (b%m) m=pt a b m:=by
 rw[kq ha Ju (Int.emod_nonneg _ (by omega)) (Int.emod_lt_of_pos _ hm)];unfold pt;rw[Int.emod_emod]
theorem zl {a b m:Int} (hm:0<m) (hb:0≤b) (DY:b<m):gap (a%m) b m=pt a b m:=by
 rw[kq (Int.emod_nonneg _ (by omega)) (Int.emod_lt_of_pos _ hm) hb DY];unfold pt;rw[Int.emod_emod]
theorem mq {a m:Int} (ha:0≤a) (Ju:a<m):inc a m=Eo a m:=by
 unfold inc Eo
 split
 ·rw[Int.emod_eq_of_lt (by omega) (by omega)]
 ·rw[show a+1=m by omega,Int.emod_self]
def ringR' (c:Kc) (l:List Int):Km:=
 let m:Int:=c.sl*1048576
 match c.ph with
 | 0=>(({ c with A:=if c.op==2 then Eo (c.rdm l 0%m) m else c.rdm l 0%m }:Kc).go 1,l)
 | 1=>c.word l (1+(c.A%c.sl).toNat*c.wd) (·.go 2)
 | _=>
  if c.op==2 then (c.fin 0,c.wrm l 0 c.A)
  else (if pt c.A (c.rdm l 0) m+1<c.sl then c.fin 0 else c.fail (·.fin 1),l)
theorem EP {c:Kc} {l:List Int} (hs:0<c.sl) (hA:0≤c.A) (pZ:c.A<c.sl*1048576):c.ring l=c.ringR' l:=by
 have hm:(0:Int)<c.sl*1048576:=by omega
 unfold ring ringR';simp only;rw[vK hm hA pZ,mq (Int.emod_nonneg _ (by omega)) (Int.emod_lt_of_pos _ hm)];have e:∀ g:Int,(g<(c.sl:Int) - 1)=(g+1<(c.sl:Int)):=fun g=>propext (by omega)
 simp only[e]
 all_goals generalize c.ph=p
 all_goals rcases p with _ | _ | p <;> rfl
def fifoR' (c:Kc) (l:List Int):Km:=
 let m:Int:=2*c.sl
 let put:=c.op==3
 let own:=if put then 1 else 0
 match c.ph with
 | 0=>(({ c with A:=c.rdm l own%m }:Kc).go 1,l)
 | 1=>
  let g:=if put then pt (c.rdm l 0) c.A m else pt c.A (c.rdm l 1) m
  (if put&&decide (g≥c.sl) then c.fin 2 else if !put&&decide (g=0) then c.fin 3 else c.go 2,l)
 | 2=>c.word l (2+(c.A%c.sl).toNat*c.wd) (·.go 3)
 | _=>(c.fin 0,c.wrm l own (Eo c.A m))
theorem zm {a b m:Int} (hm:0<m) (ha:0≤a) (Ju:a<m):pt a b m=0↔b%m=a:=by
 have hb:=Int.emod_nonneg b (show m≠0 by omega);have DY:=Int.emod_lt_of_pos b hm;rw[← vK hm ha Ju];unfold gap
 split <;> omega
theorem Dl {c:Kc} {l:List Int} (hs:0<c.sl) (hA:0≤c.A) (pZ:c.A<2*c.sl):c.fifo l=c.fifoR' l:=by
 have hm:(0:Int)<2*c.sl:=by omega
 unfold fifo fifoR';simp only;rw[mq hA pZ,zl hm hA pZ]
 all_goals generalize c.ph=p
 rcases p with _ | _ | _ | p
 ·rfl
 ·cases c.op==3
  ·simp only[Bool.false_eq_true,if_false,Bool.false_and,Bool.not_false,Bool.true_and,decide_eq_true_eq,zm hm hA pZ]
  ·simp only[if_true,Bool.true_and,decide_eq_true_eq,Bool.not_true,Bool.false_and,Bool.false_eq_true,if_false]
 ·rfl
 ·rfl
def cabReadR (c:Kc) (l:List Int):Km:=
 let newest:=c.rdm l 0%c.sl
 let own:=1+c.rd
 match c.ph with
 | 0=>(({ c with A:=newest }:Kc).go 1,l)
 | 1=>(c.go 2,c.wrm l own ((c.A+1)%4294967296))
 | 2=>(if newest=c.A then c.go 3 else c.fail (·.go 5),l)
 | 3=>c.word l (1+c.nr+c.A.toNat*c.wd) (·.go 4)
 | 4=>(c.fin 0,c.wrm l own 0)
 | _=>(c.fin 1,c.wrm l own 0)
def cabRow (c:Kc):Kc:=if c.B=1 then { c with ph:=5,B:=0 } else c
theorem G3 {c:Kc} {l:List Int} (h2:(c.op==2)=false) (hp:c.ph≤4) (hB:c.B=0∨(c.B=1∧c.ph=4)):
  c.cabRow.cabReadR l=((c.cab l).1.cabRow,(c.cab l).2):=by
 rcases hB with hB | ⟨hB,h4⟩
 ·have e:c.cabRow=c:=by unfold cabRow;rw[hB];rfl
  rw[e];unfold cab cabReadR;simp only[h2,Bool.false_eq_true,if_false]
  rcases hq:c.ph with _ | _ | _ | _ | _ | n
  ·simp[cabRow,go,hB]
  ·simp[cabRow,go,hB]
  ·simp only[Prod.mk.injEq,and_true]
   split
   ·simp[cabRow,go,hB]
   ·rw[eD,eD];split <;> simp[cabRow,go,hB]
  ·simp only
   obtain⟨X,l',e'⟩:∃ X l',∀ last:Kc→Kc,c.word l (1+c.nr+c.A.toNat*c.wd) last=(if c.wd≤c.i+1 then last { c with rc:=X,i:=c.i+1 } else { c with rc:=X,i:=c.i+1 },l'):=by
    unfold word;cases c.wr
    ·exact⟨_,_,fun _=>rfl⟩
    ·exact⟨c.rc,_,fun _=>rfl⟩
   rw[e' (·.go 4)]
   split <;> simp[cabRow,go,hB]
  ·simp[cabRow,fin,hB]
  ·omega
 ·have e:c.cabRow={ c with ph:=5,B:=0 }:=by unfold cabRow;rw[hB];rfl
  rw[e];unfold cab cabReadR;simp only[h2,Bool.false_eq_true,if_false,h4];simp[cabRow,fin,hB,wr,wrm]
def jF (v:Nat→Bool):Int:=(((List.range 20).find? fun k=>!v k).getD 0:Nat)
def dK (R:Nat) (v:Nat→Bool) (s:Int):Nat→Bool:=fun k=>v k || (decide ((k:Int)=s)&&decide (s<R))
theorem LV {v:Nat→Bool}:∀ {R:Nat},(∃ k,k<R∧v k=false)→∃ k,k<R∧v k=false∧∀ j,j<k→v j=true:=by
 intro R
 induction R with
 | zero=>rintro⟨k,h,_⟩;omega
 | succ R ih=>
  rintro⟨k,hk,hv⟩
  by_cases h:∃ k,k<R∧v k=false
  ·obtain⟨j,a,b,d⟩:=ih h;exact⟨j,by omega,b,d⟩
  ·have S9:k=R:=by
    by_cases e:k<R
    ·exact absurd ⟨k,e,hv⟩ h
    ·omega
   subst S9;refine⟨k,hk,hv,fun j hj=>?_⟩;cases e:v j
   ·exact absurd ⟨j,hj,e⟩ h
   ·rfl
theorem nT {v:Nat→Bool} {n k:Nat} (hk:k<n) (hv:v k=false) (h:∀ j,j<k→v j=true):(List.range n).find? (fun k=>!v k)=some k:=by
 rw[List.find?_range_eq_some];refine⟨by simp[hv],List.mem_range.mpr hk,fun j hj=>?_⟩;simp[h j hj]
theorem free_is {c:Kc} {v:Nat→Bool} {R:Nat} (hR:R≤20) (h:∀ k,k<R→c.used k=v k) (Hx:∃ k,k<R∧v k=false):c.free=jF v∧0≤c.free∧c.free<R:=by
 obtain⟨k,hk,hv,hl⟩:=LV Hx;have e1:(List.range 64).find? (fun k=>!c.used k)=some k:=nT (by omega) (by rw[h k hk];exact hv) (fun j hj=>by rw[h j (by omega)];exact hl j hj);have e2:(List.range 20).find? (fun k=>!v k)=some k:=nT (by omega) hv hl;unfold free jF;rw[e1,e2];refine⟨rfl,?_,?_⟩
 ·show(0:Int)≤(k:Int);omega
 ·show(k:Int)<(R:Int);omega
theorem nu {c:Kc} {v:Nat→Bool} {R:Nat} {s:Int} (hR:R≤20) (h:∀ k,k<R→c.used k=v k):∀ k,k<R→(c.mark s).used k=dK R v s k:=by
 intro k hk;unfold mark dK;simp only[h k hk]
 congr 1
 rw[← Bool.decide_and,decide_eq_decide];omega
theorem G0:∀ (R:Nat) (ms:List Int),(∀ k,k<R→(k:Int) ∈ ms)→R≤ms.length:=by
 intro R
 induction R with
 | zero=>intro ms _;omega
 | succ R ih=>
  intro ms h;have hm:=h R (by omega);have h1:=ih (ms.erase (R:Int)) (fun k hk=>(List.mem_erase_of_ne (by omega)).mpr (h k (by omega)));rw[List.length_erase_of_mem hm] at h1;have:=List.length_pos_of_mem hm;omega
theorem some_free:∀ (R:Nat) (ms:List Int),ms.length<R→∃ k,k<R∧ms.all (fun s=>!decide ((k:Int)=s))=true:=by
 intro R ms h
 by_cases hx:∃ k,k<R∧ms.all (fun s=>!decide ((k:Int)=s))=true
 ·exact hx
 ·exfalso
  have eS:∀ k,k<R→(k:Int) ∈ ms:=by
   intro k hk
   by_cases hm:(k:Int) ∈ ms
   ·exact hm
   ·refine absurd ⟨k,hk,?_⟩ hx;rw[List.all_eq_true];intro s hs;simp only[Bool.not_eq_true',decide_eq_false_iff_not];intro e;exact hm (e ▸ hs)
  have:=G0 R ms eS;omega
end Kc
namespace Kc
def chenWriteR (c:Kc) (l:List Int):Km:=
 match c.ph with
 | 0=>(({ c with used:=dK (c.nr+2) c.used (c.rdm l 0) }:Kc).go 1,l)
 | 1=>
  let c1:={ c with used:=dK (c.nr+2) c.used (c.rdm l (1+c.i)),i:=c.i+1 }
  (if c.nr≤c.i+1 then ({ c1 with B:=jF c1.used }:Kc).go 2 else c1,l)
 | 2=>c.word l (1+c.nr+c.B.toNat*c.wd) (·.go 3)
 | 3=>(c.go 4,c.wrm l 0 c.B)
 | _=>
  let l1:=if c.rdm l (1+c.i)=(c.nr:Int)+2 then c.wrm l (1+c.i) c.B else l
  let c1:={ c with i:=c.i+1 }
  (if c.nr≤c.i+1 then c1.fin 0 else c1,l1)
structure Rw (R:Nat) (c:Kc) (v:Nat→Bool):Prop where
 h0:c.ph=0→∀ k,k<R→c.used k=false∧v k=false
 h1:c.ph=1→c.i<c.nr∧∃ ms:List Int,ms.length≤c.i∧(∀ k,k<R→c.used k=ms.any fun s=>decide ((k:Int)=s))∧∀ k,k<R→v k=(c.used k || decide ((k:Int)=c.A))
def asR (c:Kc) (v:Nat→Bool):Kc:={ c with used:=v,A:=0 }
theorem tu {R:Nat} {c:Kc} {v:Nat→Bool} {s:Int} (hR:R≤20) (hn:c.nr+2≤R) (hp:c.ph=1) (h:Rw R c v):
  ((c.mark s).mark c.A).free=jF (dK R v s):=by
 obtain⟨hi,ms,hl,hu,hv⟩:=h.h1 hp;have hm:=nu (c:=c) (v:=c.used) (R:=R) (s:=s) hR fun _ _=>rfl
 have rO:=nu (c:=c.mark s) (v:=dK R c.used s) (R:=R) (s:=c.A) hR hm
 have hq:∀ k,k<R→((c.mark s).mark c.A).used k=dK R v s k:=by
  intro k hk;rw[rO k hk];unfold dK;rw[hv k hk]
  have e:(decide ((k:Int)=c.A)&&decide (c.A<(R:Int)))=decide ((k:Int)=c.A):=by
   rw[← Bool.decide_and,decide_eq_decide];omega
  rw[e,Bool.or_assoc,Bool.or_assoc,Bool.or_comm (decide ((k:Int)=c.A))]
 refine(free_is hR hq ?_).1;obtain⟨k,hk,hf⟩:=some_free R (s::c.A::ms) (by simp only[List.length_cons];omega);refine⟨k,hk,?_⟩;simp only[List.all_cons,Bool.and_eq_true,Bool.not_eq_true',List.all_eq_true,decide_eq_false_iff_not] at hf;unfold dK;rw[hv k hk,hu k hk];simp only[Bool.or_eq_false_iff,decide_eq_false_iff_not,Bool.and_eq_false_iff,List.any_eq_false,decide_eq_true_eq];exact⟨⟨fun x hx=>hf.2.2 x hx,hf.2.1⟩,Or.inl hf.1⟩
theorem wA {R:Nat} {c:Kc} {v:Nat→Bool} {s:Int} (hR:R≤20) (hp:c.ph=1) (hi:c.i+1<c.nr) (h:Rw R c v):
  Rw R { c.mark s with i:=c.i+1 } (dK R v s):=by
 obtain⟨_,ms,hl,hu,hv⟩:=h.h1 hp;have hm:=nu (c:=c) (v:=c.used) (R:=R) (s:=s) hR fun _ _=>rfl
 refine⟨fun h0=>absurd (h0.symm.trans hp) (by decide),fun _=>⟨hi,s::ms,by simp only[List.length_cons];omega,fun k hk=>?_,fun k hk=>?_⟩⟩
 ·show(c.mark s).used k=_;rw[hm k hk];unfold dK;rw[hu k hk,List.any_cons]
  have e:(decide ((k:Int)=s)&&decide (s<(R:Int)))=decide ((k:Int)=s):=by
   rw[← Bool.decide_and,decide_eq_decide];omega
  rw[e,Bool.or_comm]
 ·show dK R v s k=((c.mark s).used k || decide ((k:Int)=c.A));rw[hm k hk];unfold dK;rw[hv k hk,Bool.or_assoc,Bool.or_assoc,Bool.or_comm (decide ((k:Int)=c.A))]
theorem Cx {c:Kc} {l:List Int} {frm:Nat} {last:Kc→Kc} (h:c.wr=true):c.word l frm last=(if c.wd≤c.i+1 then last { c with i:=c.i+1 } else { c with i:=c.i+1 },c.wrm l (frm+c.i) (c.rc.getD c.i 0)):=by
 unfold word;rw[h];rfl
theorem wC {c:Kc} {l:List Int} {frm:Nat} {p:Nat} {v:Nat→Bool} (h:c.wr=true):(c.asR v).word l frm (·.go p)=(((c.word l frm (·.go p)).1).asR v,(c.word l frm (·.go p)).2):=by
 rw[Cx h,Cx (c:=c.asR v) h];have e:(c.asR v).wd=c.wd:=rfl;have e2:(c.asR v).i=c.i:=rfl;rw[e,e2]
 by_cases hi:c.wd≤c.i+1
 ·rw[if_pos hi,if_pos hi];rfl
 ·rw[if_neg hi,if_neg hi];rfl
theorem jQ {c:Kc} {l:List Int} {frm:Nat} {p:Nat}:(c.word l frm (·.go p)).1.ph=p∨(c.word l frm (·.go p)).1.ph=c.ph:=by
 obtain⟨X,l',e⟩:=dM c l frm (·.go p);rw[e];split
 ·exact Or.inl rfl
 ·exact Or.inr rfl
theorem C7 {c:Kc} {v:Nat→Bool} {l:List Int} (h2:(c.op==2)=true) (hr:c.nr≤4) (hn:1≤c.nr) (h:Rw (c.nr+2) c v):
  ∃ v',(c.asR v).chenWriteR l=((c.chen l).1.asR v',(c.chen l).2)∧Rw (c.nr+2) (c.chen l).1 v':=by
 have hR:c.nr+2≤20:=by omega
 unfold chen chenWriteR;simp only[h2,if_true];have ep:(c.asR v).ph=c.ph:=rfl;rw[ep]
 rcases hp:c.ph with _ | _ | _ | _ | n
 ·refine⟨dK (c.nr+2) v (c.rdm l 0),rfl,⟨fun h0=>absurd h0 (by simp[go]),fun _=>⟨hn,[],Nat.le_refl _,fun k hk=>?_,fun k hk=>?_⟩⟩⟩
  ·exact(h.h0 hp k hk).1
  ·show dK (c.nr+2) v (c.rdm l 0) k=(c.used k || decide ((k:Int)=c.rdm l 0));unfold dK;rw[(h.h0 hp k hk).1,(h.h0 hp k hk).2,← Bool.decide_and,Bool.false_or,Bool.false_or,decide_eq_decide];omega
 ·refine⟨dK (c.nr+2) v (c.rdm l (1+c.i)),?_,?_⟩
  ·have hf:=tu (s:=c.rdm l (1+c.i)) hR (Nat.le_refl _) hp h
   by_cases hi:c.nr≤c.i+1
   ·simp only[ge_iff_le,hi,if_true,asR,go];simp only[mark,free] at hf;simp only[mark,free,hf];rfl
   ·simp only[ge_iff_le,hi,if_false,asR,go,mark,hp] <;> rfl
  ·by_cases hi:c.nr≤c.i+1
   ·simp only[ge_iff_le,hi,if_true];exact⟨fun h0=>absurd h0 (by simp[go]),fun h0=>absurd h0 (by simp[go])⟩
   ·simp only[ge_iff_le,hi,if_false];exact wA hR hp (by omega) h
 ·refine⟨v,wC (by unfold wr;rw[h2];rfl),⟨fun h0=>?_,fun h0=>?_⟩⟩
  ·rcases jQ (c:=c) (l:=l) (frm:=1+c.nr+c.B.toNat*c.wd) (p:=3) with e | e
   ·exact absurd (e.symm.trans h0) (by decide)
   ·exact absurd (hp.symm.trans (e.symm.trans h0)) (by decide)
  ·rcases jQ (c:=c) (l:=l) (frm:=1+c.nr+c.B.toNat*c.wd) (p:=3) with e | e
   ·exact absurd (e.symm.trans h0) (by decide)
   ·exact absurd (hp.symm.trans (e.symm.trans h0)) (by decide)
 ·exact⟨v,rfl,⟨fun h0=>absurd h0 (by simp[go]),fun h0=>absurd h0 (by simp[go])⟩⟩
 ·refine⟨v,?_,?_⟩
  ·by_cases hi:c.nr≤c.i+1
   ·simp only[ge_iff_le,hi,if_true,asR];rfl
   ·simp only[ge_iff_le,hi,if_false,asR];rfl
  ·by_cases hi:c.nr≤c.i+1
   ·simp only[ge_iff_le,hi,if_true];exact⟨fun h0=>absurd (show n+1+1+1+1=0 from h0) (by omega),fun h0=>absurd (show n+1+1+1+1=1 from h0) (by omega)⟩
   ·simp only[ge_iff_le,hi,if_false];exact⟨fun h0=>absurd (show n+1+1+1+1=0 from h0) (by omega),fun h0=>absurd (show n+1+1+1+1=1 from h0) (by omega)⟩
theorem xV {R:Nat} {c:Kc} {v:Nat→Bool} (hR:R≤20) (hn:c.nr+2≤R) (hp:c.ph=1) (h:Rw R c v):
  (c.mark c.A).free=jF v:=by
 obtain⟨hi,ms,hl,hu,hv⟩:=h.h1 hp;have hm:=nu (c:=c) (v:=c.used) (R:=R) (s:=c.A) hR fun _ _=>rfl
 have hq:∀ k,k<R→(c.mark c.A).used k=v k:=by
  intro k hk;rw[hm k hk,hv k hk];unfold dK
  have e:(decide ((k:Int)=c.A)&&decide (c.A<(R:Int)))=decide ((k:Int)=c.A):=by
   rw[← Bool.decide_and,decide_eq_decide];omega
  rw[e]
 refine(free_is hR hq ?_).1;obtain⟨k,hk,hf⟩:=some_free R (c.A::ms) (by simp only[List.length_cons];omega);refine⟨k,hk,?_⟩;simp only[List.all_cons,Bool.and_eq_true,Bool.not_eq_true',List.all_eq_true,decide_eq_false_iff_not] at hf;rw[hv k hk,hu k hk];simp only[Bool.or_eq_false_iff,decide_eq_false_iff_not,List.any_eq_false,decide_eq_true_eq];exact⟨fun x hx=>hf.2 x hx,hf.1⟩
theorem Bz {R:Nat} {c:Kc} {v:Nat→Bool} (hp:c.ph=1) (hi:c.i+1<c.nr) (h:Rw R c v):
  Rw R { c with i:=c.i+1 } v:=by
 obtain⟨_,ms,hl,hu,hv⟩:=h.h1 hp;exact⟨fun h0=>absurd (h0.symm.trans hp) (by decide),fun _=>⟨hi,ms,Nat.le_succ_of_le hl,hu,hv⟩⟩
def cabWriteR (c:Kc) (l:List Int):Km:=
 match c.ph with
 | 0=>(({ c with used:=dK c.sl c.used (c.rdm l 0%c.sl) }:Kc).go 1,l)
 | 1=>
  let c1:={ c with used:=if 0<c.rdm l (1+c.i) then dK c.sl c.used (c.rdm l (1+c.i) - 1) else c.used,i:=c.i+1 }
  (if c.nr≤c.i+1 then ({ c1 with B:=jF c1.used }:Kc).go 2 else c1,l)
 | 2=>c.word l (1+c.nr+c.B.toNat*c.wd) (·.go 3)
 | _=>(c.fin 0,c.wrm l 0 c.B)
theorem qA {c:Kc} {v:Nat→Bool} {l:List Int} (h2:(c.op==2)=true) (hr:c.nr+2≤c.sl) (hR:c.sl≤20) (hn:1≤c.nr) (h:Rw c.sl c v):
  ∃ v',(c.asR v).cabWriteR l=((c.cab l).1.asR v',(c.cab l).2)∧Rw c.sl (c.cab l).1 v':=by
 unfold cab cabWriteR;simp only[h2,if_true];have ep:(c.asR v).ph=c.ph:=rfl;rw[ep]
 rcases hp:c.ph with _ | _ | _ | n
 ·refine⟨dK c.sl v (c.rdm l 0%c.sl),rfl,⟨fun h0=>absurd h0 (by simp[go]),fun _=>⟨hn,[],Nat.le_refl _,fun k hk=>?_,fun k hk=>?_⟩⟩⟩
  ·exact(h.h0 hp k hk).1
  ·show dK c.sl v (c.rdm l 0%c.sl) k=(c.used k || decide ((k:Int)=c.rdm l 0%c.sl));unfold dK;rw[(h.h0 hp k hk).1,(h.h0 hp k hk).2,← Bool.decide_and,Bool.false_or,Bool.false_or,decide_eq_decide];omega
 ·have er:(c.asR v).rdm l (1+(c.asR v).i)=c.rdm l (1+c.i):=rfl;have ei:(c.asR v).i=c.i:=rfl;have en:(c.asR v).nr=c.nr:=rfl;rw[er,ei,en]
  by_cases hz:0<c.rdm l (1+c.i)
  ·simp only[hz,if_true];refine⟨dK c.sl v (c.rdm l (1+c.i) - 1),?_,?_⟩
   ·have hf:=tu (s:=c.rdm l (1+c.i) - 1) hR hr hp h
    by_cases hi:c.nr≤c.i+1
    ·simp only[ge_iff_le,hi,if_true,asR,go];simp only[mark,free] at hf;simp only[mark,free,hf] <;> rfl
    ·simp only[ge_iff_le,hi,if_false,asR,go,mark,hp] <;> rfl
   ·by_cases hi:c.nr≤c.i+1
    ·simp only[ge_iff_le,hi,if_true];exact⟨fun h0=>absurd h0 (by simp[go]),fun h0=>absurd h0 (by simp[go])⟩
    ·simp only[ge_iff_le,hi,if_false];exact wA hR hp (by omega) h
  ·simp only[hz,if_false];refine⟨v,?_,?_⟩
   ·have hf:=xV hR hr hp h
    by_cases hi:c.nr≤c.i+1
    ·simp only[ge_iff_le,hi,if_true,asR,go];simp only[mark,free] at hf;simp only[mark,free,hf] <;> rfl
    ·simp only[ge_iff_le,hi,if_false,asR,go,mark,hp] <;> rfl
   ·by_cases hi:c.nr≤c.i+1
    ·simp only[ge_iff_le,hi,if_true];exact⟨fun h0=>absurd h0 (by simp[go]),fun h0=>absurd h0 (by simp[go])⟩
    ·simp only[ge_iff_le,hi,if_false];exact Bz hp (by omega) h
 ·refine⟨v,wC (by unfold wr;rw[h2];rfl),⟨fun h0=>?_,fun h0=>?_⟩⟩
  ·rcases jQ (c:=c) (l:=l) (frm:=1+c.nr+c.B.toNat*c.wd) (p:=3) with e | e
   ·exact absurd (e.symm.trans h0) (by decide)
   ·exact absurd (hp.symm.trans (e.symm.trans h0)) (by decide)
  ·rcases jQ (c:=c) (l:=l) (frm:=1+c.nr+c.B.toNat*c.wd) (p:=3) with e | e
   ·exact absurd (e.symm.trans h0) (by decide)
   ·exact absurd (hp.symm.trans (e.symm.trans h0)) (by decide)
 ·exact⟨v,rfl,⟨fun h0=>absurd (hp.symm.trans (show c.ph=0 from h0)) (by omega),fun h0=>absurd (hp.symm.trans (show c.ph=1 from h0)) (by omega)⟩⟩
theorem Cw {c:Kc} {l:List Int} {frm:Nat} {last:Kc→Kc} (h:∀ d:Kc,(last d).A=d.A):(c.word l frm last).1.A=c.A:=by
 obtain⟨X,l',e⟩:=dM c l frm last;rw[e];split
 ·rw[h]
 ·rfl
theorem Bu {c:Kc} {l:List Int} (hs:0<c.sl) (hA:0≤c.A) (pZ:c.A<c.sl*1048576):0≤(c.ring l).1.A∧(c.ring l).1.A<c.sl*1048576:=by
 have hm:(0:Int)<c.sl*1048576:=by omega
 have h0:=Int.emod_nonneg (c.rdm l 0) (show(c.sl:Int)*1048576≠0 by omega);have h1:=Int.emod_lt_of_pos (c.rdm l 0) hm;unfold ring;simp only
 split
 ·simp only[go]
  split
  ·unfold inc;split <;> omega
  ·exact⟨h0,h1⟩
 ·rw[Cw (last:=(·.go 2)) fun d=>rfl];exact⟨hA,pZ⟩
 ·split
  ·exact⟨hA,pZ⟩
  ·simp only
   split
   ·exact⟨hA,pZ⟩
   ·rw[eD];split <;> exact⟨hA,pZ⟩
theorem za {c:Kc} {l:List Int} (hs:0<c.sl) (hA:0≤c.A) (pZ:c.A<2*c.sl):0≤(c.fifo l).1.A∧(c.fifo l).1.A<2*c.sl:=by
 have hm:(0:Int)<2*c.sl:=by omega
 unfold fifo;simp only
 split
 ·exact⟨Int.emod_nonneg _ (by omega),Int.emod_lt_of_pos _ hm⟩
 ·split <;> split <;> exact⟨hA,pZ⟩
 ·rw[Cw (last:=(·.go 3)) fun d=>rfl];exact⟨hA,pZ⟩
 ·exact⟨hA,pZ⟩
theorem yU {c:Kc} {l:List Int} (h2:(c.op==2)=false) (hp:c.ph≤4) (hB:c.B=0∨(c.B=1∧c.ph=4)):
  (c.cab l).1.ph≤4∧((c.cab l).1.B=0∨((c.cab l).1.B=1∧(c.cab l).1.ph=4)):=by
 have FX:c.ph≠4→c.B=0:=fun h=>hB.elim id fun h'=>absurd h'.2 h
 unfold cab;simp only[h2,Bool.false_eq_true,if_false]
 rcases hq:c.ph with _ | _ | _ | _ | n
 ·exact⟨by simp[go],Or.inl (FX (by omega))⟩
 ·exact⟨by simp[go],Or.inl (FX (by omega))⟩
 ·simp only;have h0:=FX (by omega)
  split
  ·exact⟨by simp[go],Or.inl h0⟩
  ·rw[eD];split
   ·exact⟨by simp[go],Or.inr ⟨rfl,rfl⟩⟩
   ·exact⟨by simp,Or.inl h0⟩
 ·simp only;have h0:=FX (by omega);obtain⟨X,l',e⟩:=dM c l (1+c.nr+c.A.toNat*c.wd) (·.go 4);rw[e];split
  ·exact⟨by simp[go],Or.inl h0⟩
  ·exact⟨hp,Or.inl h0⟩
 ·exact⟨hp,hB⟩
end Kc
namespace Kc
def stepR (c:Kc) (l:List Int):Km:=
 let c1:={ c with steps:=c.steps+1 }
 if c.kd=1 then c1.four l
 else if c.kd=2 then (if c.op==2 then c1.chenWriteR l else c1.chen l)
 else if c.kd=3 then c1.seq l
 else if c.kd=4 then c1.ringR' l
 else if c.kd=5 then (if c.op==2 then c1.cabWriteR l else c1.cabReadR l)
 else c1.fifoR' l
def Rel (c d:Kc):Prop:=
 if c.kd=2∧c.op=2 then ∃ v,d=c.asR v∧Rw (c.nr+2) c v
 else if c.kd=5∧c.op=2 then ∃ v,d=c.asR v∧Rw c.sl c v
 else if c.kd=5 then d=c.cabRow∧c.ph≤4∧(c.B=0∨(c.B=1∧c.ph=4))
 else d=c∧(c.kd=4→0≤c.A∧c.A<c.sl*1048576)∧(c.kd=6→0≤c.A∧c.A<2*c.sl)
def Fit (c:Kc):Prop:=
 (c.kd=1∨c.kd=2∨c.kd=3∨c.kd=4∨c.kd=5∨c.kd=6)∧1≤c.nr∧c.nr≤4∧(c.kd=4∨c.kd=5∨c.kd=6→0<c.sl)∧(c.kd=5→c.nr+2≤c.sl∧c.sl≤16)
theorem jz {c:Kc} (h2:c.kd≠2∨c.op≠2) (h5:c.kd≠5) (h4:c.kd=4→0≤c.A∧c.A<c.sl*1048576) (h6:c.kd=6→0≤c.A∧c.A<2*c.sl):Rel c c:=by
 unfold Rel;rw[if_neg (by omega),if_neg (by omega),if_neg h5];exact⟨rfl,h4,h6⟩
theorem uJ {c d:Kc} (h2:c.kd≠2∨c.op≠2) (h5:c.kd≠5) (h:Rel c d):d=c∧(c.kd=4→0≤c.A∧c.A<c.sl*1048576)∧(c.kd=6→0≤c.A∧c.A<2*c.sl):=by
 unfold Rel at h
 rwa [if_neg (by omega),if_neg (by omega),if_neg h5] at h
theorem rk {c d:Kc} {l:List Int} (hk:c.kd=1∨c.kd=3) (h:Rel c d):∃ d',d.stepR l=(d',(c.step l).2)∧Rel (c.step l).1 d':=by
 obtain⟨hd,_,_⟩:=uJ (by omega) (by omega) h;subst hd
 rcases hk with hk | hk
 ·have e1:d.step l=Kc.four { d with steps:=d.steps+1 } l:=by unfold step;simp only;rw[if_pos hk]
  have e2:d.stepR l=Kc.four { d with steps:=d.steps+1 } l:=by unfold stepR;simp only;rw[if_pos hk]
  have ek:(Kc.four { d with steps:=d.steps+1 } l).1.kd=1:=(qo { d with steps:=d.steps+1 } l).1.trans hk;rw[e1,e2];exact⟨_,rfl,jz (by omega) (by omega) (by omega) (by omega)⟩
 ·have e1:d.step l=Kc.seq { d with steps:=d.steps+1 } l:=by unfold step;simp only;rw[if_neg (by omega),if_neg (by omega),if_pos hk]
  have e2:d.stepR l=Kc.seq { d with steps:=d.steps+1 } l:=by unfold stepR;simp only;rw[if_neg (by omega),if_neg (by omega),if_pos hk]
  have ek:(Kc.seq { d with steps:=d.steps+1 } l).1.kd=3:=(tt { d with steps:=d.steps+1 } l).1.trans hk;rw[e1,e2];exact⟨_,rfl,jz (by omega) (by omega) (by omega) (by omega)⟩
theorem pD {c d:Kc} {l:List Int} (hk:c.kd=4∨c.kd=6) (hs:0<c.sl) (h:Rel c d):∃ d',d.stepR l=(d',(c.step l).2)∧Rel (c.step l).1 d':=by
 obtain⟨hd,h4,h6⟩:=uJ (by omega) (by omega) h;subst hd
 rcases hk with hk | hk
 ·obtain⟨hA,pZ⟩:=h4 hk;have e1:d.step l=Kc.ring { d with steps:=d.steps+1 } l:=by unfold step;simp only;rw[if_neg (by omega),if_neg (by omega),if_neg (by omega),if_pos hk]
  have e2:d.stepR l=Kc.ringR' { d with steps:=d.steps+1 } l:=by unfold stepR;simp only;rw[if_neg (by omega),if_neg (by omega),if_neg (by omega),if_pos hk]
  have e3:=EP (c:={ d with steps:=d.steps+1 }) (l:=l) hs hA pZ;have ek:(Kc.ring { d with steps:=d.steps+1 } l).1.kd=4:=(jN { d with steps:=d.steps+1 } l).1.trans hk;have es:(Kc.ring { d with steps:=d.steps+1 } l).1.sl=d.sl:=(jN { d with steps:=d.steps+1 } l).2.2.2.1;have eA:=Bu (c:={ d with steps:=d.steps+1 }) (l:=l) hs hA pZ;rw[e1,e2,← e3];exact⟨_,rfl,jz (by omega) (by omega) (fun _=>by rw[es];exact eA) (by omega)⟩
 ·obtain⟨hA,pZ⟩:=h6 hk;have e1:d.step l=Kc.fifo { d with steps:=d.steps+1 } l:=by unfold step;simp only;rw[if_neg (by omega),if_neg (by omega),if_neg (by omega),if_neg (by omega),if_neg (by omega)]
  have e2:d.stepR l=Kc.fifoR' { d with steps:=d.steps+1 } l:=by unfold stepR;simp only;rw[if_neg (by omega),if_neg (by omega),if_neg (by omega),if_neg (by omega),if_neg (by omega)]
  have e3:=Dl (c:={ d with steps:=d.steps+1 }) (l:=l) hs hA pZ;have ek:(Kc.fifo { d with steps:=d.steps+1 } l).1.kd=6:=(jM { d with steps:=d.steps+1 } l).1.trans hk;have es:(Kc.fifo { d with steps:=d.steps+1 } l).1.sl=d.sl:=(jM { d with steps:=d.steps+1 } l).2.2.2.1;have eA:=za (c:={ d with steps:=d.steps+1 }) (l:=l) hs hA pZ;rw[e1,e2,← e3];exact⟨_,rfl,jz (by omega) (by omega) (by omega) (fun _=>by rw[es];exact eA)⟩
theorem xS {c d:Kc} {l:List Int} (hk:c.kd=2∨c.kd=5) (ho:c.op=2) (hn:1≤c.nr) (Ec:c.nr≤4) (h5:c.kd=5→c.nr+2≤c.sl∧c.sl≤16) (h:Rel c d):
  ∃ d',d.stepR l=(d',(c.step l).2)∧Rel (c.step l).1 d':=by
 have hb:(c.op==2)=true:=by simp[ho]
 rcases hk with hk | hk
 ·unfold Rel at h;rw[if_pos ⟨hk,ho⟩] at h;obtain⟨v,hd,hw⟩:=h;subst hd;have e1:c.step l=Kc.chen { c with steps:=c.steps+1 } l:=by unfold step;simp only;rw[if_neg (by omega),if_pos hk]
  have e2:(c.asR v).stepR l=Kc.chenWriteR (Kc.asR { c with steps:=c.steps+1 } v) l:=by
   unfold stepR;simp only;rw[if_neg (show ¬ (c.asR v).kd=1 from by show ¬ c.kd=1;omega),if_pos (show(c.asR v).kd=2 from hk),if_pos (show((c.asR v).op==2)=true from hb)];rfl
  obtain⟨v',e3,nt⟩:=C7 (c:={ c with steps:=c.steps+1 }) (v:=v) (l:=l) hb Ec hn ⟨hw.h0,hw.h1⟩;have hS:=mA { c with steps:=c.steps+1 } l;have ek:(Kc.chen { c with steps:=c.steps+1 } l).1.kd=2:=hS.1.trans hk;have eo:(Kc.chen { c with steps:=c.steps+1 } l).1.op=2:=hS.2.2.2.2.2.1.trans ho;have en:(Kc.chen { c with steps:=c.steps+1 } l).1.nr=c.nr:=hS.2.2.1;rw[e1,e2,e3];refine⟨_,rfl,?_⟩;unfold Rel;rw[if_pos ⟨ek,eo⟩];exact⟨v',rfl,by rw[en];exact nt⟩
 ·unfold Rel at h;rw[if_neg (by omega),if_pos ⟨hk,ho⟩] at h;obtain⟨v,hd,hw⟩:=h;subst hd;have e1:c.step l=Kc.cab { c with steps:=c.steps+1 } l:=by unfold step;simp only;rw[if_neg (by omega),if_neg (by omega),if_neg (by omega),if_neg (by omega),if_pos hk]
  have e2:(c.asR v).stepR l=Kc.cabWriteR (Kc.asR { c with steps:=c.steps+1 } v) l:=by
   have ek:(c.asR v).kd=5:=hk;unfold stepR;simp only;rw[if_neg (by omega),if_neg (by omega),if_neg (by omega),if_neg (by omega),if_pos ek,if_pos (show((c.asR v).op==2)=true from hb)];rfl
  obtain⟨v',e3,nt⟩:=qA (c:={ c with steps:=c.steps+1 }) (v:=v) (l:=l) hb (h5 hk).1 (Nat.le_trans (h5 hk).2 (by decide)) hn ⟨hw.h0,hw.h1⟩;have hS:=oT { c with steps:=c.steps+1 } l;have ek:(Kc.cab { c with steps:=c.steps+1 } l).1.kd=5:=hS.1.trans hk;have eo:(Kc.cab { c with steps:=c.steps+1 } l).1.op=2:=hS.2.2.2.2.2.1.trans ho;have es:(Kc.cab { c with steps:=c.steps+1 } l).1.sl=c.sl:=hS.2.2.2.1;rw[e1,e2,e3];refine⟨_,rfl,?_⟩;unfold Rel;rw[if_neg (by omega),if_pos ⟨ek,eo⟩];exact⟨v',rfl,by rw[es];exact nt⟩
theorem Bp {c d:Kc} {l:List Int} (hk:c.kd=2∨c.kd=5) (ho:c.op≠2) (h:Rel c d):∃ d',d.stepR l=(d',(c.step l).2)∧Rel (c.step l).1 d':=by
 have hb:(c.op==2)=false:=by simp[ho]
 rcases hk with hk | hk
 ·obtain⟨hd,_,_⟩:=uJ (Or.inr ho) (by omega) h;subst hd;have e1:d.step l=Kc.chen { d with steps:=d.steps+1 } l:=by unfold step;simp only;rw[if_neg (by omega),if_pos hk]
  have e2:d.stepR l=Kc.chen { d with steps:=d.steps+1 } l:=by
   unfold stepR;simp only;rw[if_neg (by omega),if_pos hk,hb];rfl
  have hS:=mA { d with steps:=d.steps+1 } l;have ek:(Kc.chen { d with steps:=d.steps+1 } l).1.kd=2:=hS.1.trans hk;have eo:(Kc.chen { d with steps:=d.steps+1 } l).1.op=d.op:=hS.2.2.2.2.2.1;rw[e1,e2];exact⟨_,rfl,jz (Or.inr (by rw[eo];exact ho)) (by omega) (by omega) (by omega)⟩
 ·unfold Rel at h;rw[if_neg (by omega),if_neg (by omega),if_pos hk] at h;obtain⟨hd,hp,hB⟩:=h;subst hd;have e1:c.step l=Kc.cab { c with steps:=c.steps+1 } l:=by unfold step;simp only;rw[if_neg (by omega),if_neg (by omega),if_neg (by omega),if_neg (by omega),if_pos hk]
  have er:c.cabRow.kd=5:=by unfold cabRow;split <;> exact hk
  have eb:(c.cabRow.op==2)=false:=by unfold cabRow;split <;> exact hb
  have ec:({ c.cabRow with steps:=c.cabRow.steps+1 }:Kc)=Kc.cabRow { c with steps:=c.steps+1 }:=by
   unfold cabRow
   by_cases h1:c.B=1
   ·rw[if_pos h1,if_pos h1]
   ·rw[if_neg h1,if_neg h1]
  have e2:c.cabRow.stepR l=Kc.cabReadR (Kc.cabRow { c with steps:=c.steps+1 }) l:=by
   unfold stepR;simp only;rw[if_neg (by omega),if_neg (by omega),if_neg (by omega),if_neg (by omega),if_pos er,eb,ec];rfl
  have e3:=G3 (c:={ c with steps:=c.steps+1 }) (l:=l) hb hp hB;have hK:=yU (c:={ c with steps:=c.steps+1 }) (l:=l) hb hp hB;have hS:=oT { c with steps:=c.steps+1 } l;have ek:(Kc.cab { c with steps:=c.steps+1 } l).1.kd=5:=hS.1.trans hk;have eo:(Kc.cab { c with steps:=c.steps+1 } l).1.op=c.op:=hS.2.2.2.2.2.1;rw[e1,e2,e3];refine⟨_,rfl,?_⟩;unfold Rel;rw[if_neg (by omega),if_neg (by rw[eo];omega),if_pos ek];exact⟨rfl,hK⟩
theorem rel_step {c d:Kc} {l:List Int} (hf:Fit c) (h:Rel c d):∃ d',d.stepR l=(d',(c.step l).2)∧Rel (c.step l).1 d':=by
 obtain⟨hk,hn,Ec,hs,h5⟩:=hf
 by_cases Nv:c.kd=2∨c.kd=5
 ·by_cases ho:c.op=2
  ·exact xS Nv ho hn Ec h5 h
  ·exact Bp Nv ho h
 ·by_cases Ql:c.kd=1∨c.kd=3
  ·exact rk Ql h
  ·exact pD (by omega) (hs (by omega)) h
theorem rel_says {c d:Kc} (h:Rel c d):d.over=c.over∧d.code=c.code∧d.rc=c.rc∧d.steps=c.steps:=by
 unfold Rel at h
 split at h
 ·obtain⟨v,rfl,_⟩:=h;exact⟨rfl,rfl,rfl,rfl⟩
 ·split at h
  ·obtain⟨v,rfl,_⟩:=h;exact⟨rfl,rfl,rfl,rfl⟩
  ·split at h
   ·obtain⟨rfl,_⟩:=h;unfold cabRow;split <;> exact⟨rfl,rfl,rfl,rfl⟩
   ·obtain⟨rfl,_⟩:=h;exact⟨rfl,rfl,rfl,rfl⟩
end Kc
end Go.Proofs.YtabfcjohdgjkoaaGreatDoor
