/- An operation on an object, step by step, as the program does it: of no program text. -/
import Derived.Test.YtgjcniokgdicpaaGreatDoorWalk
namespace Go.Proofs.YtgjcniokgdicpaaGreatDoor

/-- What an operation keeps (kd, wd, nr, sl, cap: its object's kind, width, number of readers, slots, attempts). -/
structure Kc where
  kd : Int
  wd : Nat
  nr : Nat
  sl : Nat
  cap : Nat
  op : Int
  rd : Nat
  ph : Nat
  i : Nat
  tr : Nat
  A : Int
  B : Int
  used : Nat → Bool
  rc : List Int
  base : Nat
  size : Nat
  code : Int
  steps : Nat
  over : Bool
/-- Another one's memory, and what is kept. -/
abbrev Km := Kc × List Int
namespace Kc
def wr (c : Kc) : Bool := c.op == 2 || c.op == 3
def rdm (c : Kc) (l : List Int) (k : Nat) : Int := l.getD (c.base + k) 0
def wrm (c : Kc) (l : List Int) (k : Nat) (v : Int) : List Int := l.set (c.base + k) v
def go (c : Kc) (p : Nat) : Kc := { c with ph := p, i := 0 }
def fin (c : Kc) (k : Int) : Kc := { c with over := true, code := k, rc := if k != 0 || c.wr then [] else c.rc }
/-- The next word of a record that stands from a place on; what is done behind the last one. -/
def word (c : Kc) (l : List Int) (frm : Nat) (last : Kc → Kc) : Km :=
  let c1 := if c.wr then c else { c with rc := c.rc ++ [c.rdm l (frm + c.i)] }
  let l1 := if c.wr then c.wrm l (frm + c.i) (c.rc.getD c.i 0) else l
  let c2 := { c1 with i := c.i + 1 }
  (if c.i + 1 ≥ c.wd then last c2 else c2, l1)
def fail (c : Kc) (last : Kc → Kc) : Kc :=
  let c1 := { c with tr := c.tr + 1, rc := [], ph := 0, i := 0 }
  if c.tr + 1 ≥ c.cap then last c1 else c1
def mark (c : Kc) (s : Int) : Kc := { c with used := fun k => c.used k || decide ((k : Int) = min s 20) }
/-- The least slot that is not in use. -/
def free (c : Kc) : Int := (((List.range 64).find? fun k => !c.used k).getD 0 : Nat)
def one (v : Int) : Int := (v + 1) % 2
def inc (v m : Int) : Int := if v + 1 < m then v + 1 else 0
def gap (a b m : Int) : Int := if a ≤ b then b - a else b + m - a

def four (c : Kc) (l : List Int) : Km :=
  if c.op == 2 then
    match c.ph with
    | 0 => (({ c with A := one (c.rdm l 1) } : Kc).go 1, l)
    | 1 => (({ c with B := one (c.rdm l (2 + c.A.toNat)) } : Kc).go 2, l)
    | 2 => c.word l (4 + (2 * c.A + c.B).toNat * c.wd) (·.go 3)
    | 3 => (c.go 4, c.wrm l (2 + c.A.toNat) c.B)
    | _ => (c.fin 0, c.wrm l 0 c.A)
  else
    match c.ph with
    | 0 => (({ c with A := c.rdm l 0 % 2 } : Kc).go 1, l)
    | 1 => (c.go 2, c.wrm l 1 c.A)
    | 2 => (({ c with B := c.rdm l (2 + c.A.toNat) % 2 } : Kc).go 3, l)
    | _ => c.word l (4 + (2 * c.A + c.B).toNat * c.wd) (·.fin 0)
def chen (c : Kc) (l : List Int) : Km :=
  let none : Int := c.nr + 2
  let frm := 1 + c.nr + c.B.toNat * c.wd
  if c.op == 2 then
    match c.ph with
    | 0 => (({ c with A := c.rdm l 0 } : Kc).go 1, l)
    | 1 =>
      let c1 := { c.mark (c.rdm l (1 + c.i)) with i := c.i + 1 }
      if c.i + 1 ≥ c.nr then (let c2 := c1.mark c.A; ({ c2 with B := c2.free } : Kc).go 2, l) else (c1, l)
    | 2 => c.word l frm (·.go 3)
    | 3 => (c.go 4, c.wrm l 0 c.B)
    | _ =>
      let l1 := if c.rdm l (1 + c.i) = none then c.wrm l (1 + c.i) c.B else l
      let c1 := { c with i := c.i + 1 }
      (if c.i + 1 ≥ c.nr then c1.fin 0 else c1, l1)
  else
    let own := 1 + c.rd
    match c.ph with
    | 0 => (c.go 1, c.wrm l own none)
    | 1 => (({ c with A := c.rdm l 0 } : Kc).go 2, l)
    | 2 => (c.go 3, if c.rdm l own = none then c.wrm l own c.A else l)
    | 3 => (({ c with B := c.rdm l own % none } : Kc).go 4, l)
    | _ => c.word l frm (·.fin 0)
def seq (c : Kc) (l : List Int) : Km :=
  if c.op == 2 then
    match c.ph with
    | 0 => (({ c with A := c.rdm l 0 } : Kc).go 1, l)
    | 1 => (c.go 2, c.wrm l 0 ((c.A + 1) % 4294967296))
    | 2 => c.word l 1 (·.go 3)
    | _ => (c.fin 0, c.wrm l 0 ((c.A + 2) % 4294967296))
  else
    match c.ph with
    | 0 =>
      let c1 := { c with A := c.rdm l 0 }
      (if c.rdm l 0 % 2 = 1 then c1.fail (·.fin 1) else c1.go 1, l)
    | 1 => c.word l 1 (·.go 2)
    | _ => (if c.rdm l 0 = c.A then c.fin 0 else c.fail (·.fin 1), l)
def ring (c : Kc) (l : List Int) : Km :=
  let m : Int := c.sl * 1048576
  let frm := 1 + (c.A % c.sl).toNat * c.wd
  match c.ph with
  | 0 => (({ c with A := if c.op == 2 then inc (c.rdm l 0 % m) m else c.rdm l 0 % m } : Kc).go 1, l)
  | 1 => c.word l frm (·.go 2)
  | _ =>
    if c.op == 2 then (c.fin 0, c.wrm l 0 c.A)
    else (if gap c.A (c.rdm l 0 % m) m < c.sl - 1 then c.fin 0 else c.fail (·.fin 1), l)
def cab (c : Kc) (l : List Int) : Km :=
  let newest := c.rdm l 0 % c.sl
  if c.op == 2 then
    match c.ph with
    | 0 => (({ c with A := newest } : Kc).go 1, l)
    | 1 =>
      let c0 := if 0 < c.rdm l (1 + c.i) then c.mark (c.rdm l (1 + c.i) - 1) else c
      let c1 := { c0 with i := c.i + 1 }
      if c.i + 1 ≥ c.nr then (let c2 := c1.mark c.A; ({ c2 with B := c2.free } : Kc).go 2, l) else (c1, l)
    | 2 => c.word l (1 + c.nr + c.B.toNat * c.wd) (·.go 3)
    | _ => (c.fin 0, c.wrm l 0 c.B)
  else
    let own := 1 + c.rd
    match c.ph with
    | 0 => (({ c with A := newest } : Kc).go 1, l)
    | 1 => (c.go 2, c.wrm l own ((c.A + 1) % 4294967296))
    | 2 => (if newest = c.A then c.go 3 else c.fail fun c1 => ({ c1 with B := 1 } : Kc).go 4, l)
    | 3 => c.word l (1 + c.nr + c.A.toNat * c.wd) (·.go 4)
    | _ => (c.fin c.B, c.wrm l own 0)
def fifo (c : Kc) (l : List Int) : Km :=
  let m : Int := 2 * c.sl
  let put := c.op == 3
  let own := if put then 1 else 0
  let frm := 2 + (c.A % c.sl).toNat * c.wd
  match c.ph with
  | 0 => (({ c with A := c.rdm l own % m } : Kc).go 1, l)
  | 1 =>
    if put then (if gap (c.rdm l 0 % m) c.A m ≥ c.sl then c.fin 2 else c.go 2, l)
    else (if c.rdm l 1 % m = c.A then c.fin 3 else c.go 2, l)
  | 2 => c.word l frm (·.go 3)
  | _ => (c.fin 0, c.wrm l own (inc c.A m))
/-- Whether a step can be made. -/
def can (c : Kc) (l : List Int) : Bool := !c.over && decide (c.base ≤ l.length ∧ c.size ≤ l.length - c.base)
def step (c : Kc) (l : List Int) : Km :=
  let c1 := { c with steps := c.steps + 1 }
  if c.kd = 1 then c1.four l else if c.kd = 2 then c1.chen l else if c.kd = 3 then c1.seq l else if c.kd = 4 then c1.ring l else if c.kd = 5 then c1.cab l else c1.fifo l
end Kc

end Go.Proofs.YtgjcniokgdicpaaGreatDoor
