/- Objects: how they lie; which may be; how many words they have; how long their operations are. -/
import Derived.Test.YtgjcniokgdicpaaGreatDoorWalk
namespace Go.Proofs.YtgjcniokgdicpaaGreatDoor
open Go.RowKit

/-- An object as it is handed on. -/
structure Ob where
  k : Int
  wd : Int
  s : Int
  c : Int
  st : Int
  I : Option Addr
  ni : Nat
  ci : Nat
  wr : Int
  R : Option Addr
  nr : Nat
  cr : Nat
def obA (o : Ob) : Array Value := #[.int .i64 o.k, .int .i64 o.wd, .int .i64 o.s, .int .i64 o.c, .int .u32 o.st, .slice o.I o.ni o.ci, .int .i64 o.wr, .slice o.R o.nr o.cr]
/-- An object in a block. -/
def ObX (w : World) (n : Nat) (o : Ob) : Prop := w.heap[n]? = some (.cells (obA o) 36 (0, 0))
theorem ObX.cells {w : World} {n : Nat} {o : Ob} (h : ObX w n o) : w.cell? ⟨n, 0, none⟩ = some (.int .i64 o.k) ∧ w.cell? ⟨n, 1, none⟩ = some (.int .i64 o.wd) ∧ w.cell? ⟨n, 2, none⟩ = some (.int .i64 o.s) ∧ w.cell? ⟨n, 3, none⟩ = some (.int .i64 o.c) ∧ w.cell? ⟨n, 4, none⟩ = some (.int .u32 o.st) ∧ w.cell? ⟨n, 5, none⟩ = some (.slice o.I o.ni o.ci) ∧ w.cell? ⟨n, 6, none⟩ = some (.int .i64 o.wr) ∧ w.cell? ⟨n, 7, none⟩ = some (.slice o.R o.nr o.cr) := by
  refine ⟨?_, ?_, ?_, ?_, ?_, ?_, ?_, ?_⟩ <;> simp [World.cell?, show w.heap[n]? = _ from h, obA]
theorem ObX.lt {w : World} {n : Nat} {o : Ob} (h : ObX w n o) : n < w.heap.size := (Array.getElem?_eq_some_iff.1 h).1
theorem ObX.kept {w w' : World} {n : Nat} {o : Ob} (h : ObX w n o) (hb : Below w.heap.size w w') : ObX w' n o := (hb.block n h.lt).trans h
theorem ObX.new (w : World) (o : Ob) : ObX (w.alloc (.cells (obA o) 36)) w.heap.size o := heap_alloc_new w _

structure Ob.Ok (o : Ob) : Prop where
  st0 : 0 ≤ o.st
  st1 : o.st < 4294967296
  ni1 : o.ni ≤ 1000000
  nr1 : o.nr ≤ 1000000

def wordsR (o : Ob) (kind init : Int) : Prop := o.k = kind ∧ 1 ≤ o.wd ∧ o.wd ≤ 8 ∧ (o.ni : Int) = init ∧ 1 ≤ o.nr ∧ o.nr ≤ 4
def capsR (o : Ob) : Prop := 1 ≤ o.c ∧ o.c ≤ 16
def fourR (o : Ob) : Prop := wordsR o 1 o.wd ∧ o.s = 0 ∧ o.c = 0 ∧ o.st = 0 ∧ o.nr = 1
def chenR (o : Ob) : Prop := wordsR o 2 o.wd ∧ o.s = 0 ∧ o.c = 0 ∧ o.st = 0
def seqR (o : Ob) : Prop := wordsR o 3 o.wd ∧ o.s = 0 ∧ capsR o ∧ o.st % 2 = 0
def ringR (o : Ob) : Prop := wordsR o 4 o.wd ∧ 2 ≤ o.s ∧ o.s ≤ 16 ∧ capsR o ∧ o.st < o.s * 1048576
def cabR (o : Ob) : Prop := wordsR o 5 o.wd ∧ (o.nr : Int) + 2 ≤ o.s ∧ o.s ≤ 16 ∧ capsR o ∧ o.st = 0
def fifoR (o : Ob) : Prop := wordsR o 6 0 ∧ 1 ≤ o.s ∧ o.s ≤ 16 ∧ o.c = 0 ∧ o.st < 2 * o.s ∧ o.nr = 1
instance (o : Ob) (a b : Int) : Decidable (wordsR o a b) := by unfold wordsR; infer_instance
instance (o : Ob) : Decidable (capsR o) := by unfold capsR; infer_instance
instance (o : Ob) : Decidable (fourR o) := by unfold fourR; infer_instance
instance (o : Ob) : Decidable (chenR o) := by unfold chenR; infer_instance
instance (o : Ob) : Decidable (seqR o) := by unfold seqR; infer_instance
instance (o : Ob) : Decidable (ringR o) := by unfold ringR; infer_instance
instance (o : Ob) : Decidable (cabR o) := by unfold cabR; infer_instance
instance (o : Ob) : Decidable (fifoR o) := by unfold fifoR; infer_instance
def anyR (o : Ob) : Prop := fourR o ∨ chenR o ∨ seqR o ∨ ringR o ∨ cabR o ∨ fifoR o
instance (o : Ob) : Decidable (anyR o) := by unfold anyR; infer_instance
/-- How many words. -/
def sizeZ (o : Ob) : Int :=
  if fourR o then 4 + 4 * o.wd else if chenR o then 1 + o.nr + ((o.nr : Int) + 2) * o.wd else if seqR o then 1 + o.wd else if ringR o then 1 + o.s * o.wd else if cabR o then 1 + o.nr + o.s * o.wd else if fifoR o then 2 + o.s * o.wd else 0
/-- How many steps. -/
def boundZ (o : Ob) (op : Int) : Int :=
  if fourR o then (if op = 2 then o.wd + 4 else if op = 1 then o.wd + 3 else 0)
  else if chenR o then (if op = 2 then o.wd + 2 * o.nr + 2 else if op = 1 then o.wd + 4 else 0)
  else if seqR o then (if op = 2 then o.wd + 3 else if op = 1 then o.c * (o.wd + 2) else 0)
  else if ringR o then (if op = 2 then o.wd + 2 else if op = 1 then o.c * (o.wd + 2) else 0)
  else if cabR o then (if op = 2 then o.wd + o.nr + 2 else if op = 1 then 3 * o.c + o.wd + 1 else 0)
  else if fifoR o then (if op = 3 ∨ op = 4 then o.wd + 3 else 0) else 0
theorem kind_of {o : Ob} : (fourR o → o.k = 1) ∧ (chenR o → o.k = 2) ∧ (seqR o → o.k = 3) ∧ (ringR o → o.k = 4) ∧ (cabR o → o.k = 5) ∧ (fifoR o → o.k = 6) := by
  unfold fourR chenR seqR ringR cabR fifoR wordsR
  exact ⟨fun h => h.1.1, fun h => h.1.1, fun h => h.1.1, fun h => h.1.1, fun h => h.1.1, fun h => h.1.1⟩
theorem sh_wrap {x : Int} (h0 : -9223372036854775808 ≤ x) (h : x < 9223372036854775808) : IntKind.i64.wrap x = x := by
  simp [IntKind.wrap, IntKind.signed, IntKind.bits]
  omega
theorem sh_wrap32 {x : Int} (h0 : 0 ≤ x) (h : x < 4294967296) : IntKind.u32.wrap x = x := by
  simp [IntKind.wrap, IntKind.signed, IntKind.bits]
  omega

end Go.Proofs.YtgjcniokgdicpaaGreatDoor
