/- A queue's finder: its own cells, a spot's cells, tails of slices. -/
import Derived.Test.YtgmmblknaeepbaaZlA
import Derived.Test.YtgmmblknaeepbaaZa
import Derived.IntWalk
namespace Go.Proofs.Ytgmmblknaeepbaa
open Go.RowKit

theorem lheap_set (W : World) (b j : Nat) (v : Value) (n : Nat) (h : n ≠ b) : (W.setCell ⟨b, j, none⟩ v).heap[n]? = W.heap[n]? := by
  show (W.heap.modify b _)[n]? = _
  rw [Array.getElem?_modify, if_neg (fun e => h e.symm)]
theorem lsize_set (W : World) (b j : Nat) (v : Value) : (W.setCell ⟨b, j, none⟩ v).heap.size = W.heap.size := by
  show (W.heap.modify b _).size = _
  rw [Array.size_modify]
theorem lrow_set (W : World) (B : Nat) (vs : Array Value) (T : TypeId) (j : Nat) (v : Value) (h : W.heap[B]? = some (.cells vs T (0, 0))) : (W.setCell ⟨B, j, none⟩ v).heap[B]? = some (.cells (vs.setIfInBounds j v) T (0, 0)) := by
  rw [setCell_eq_setRow W B j _ _ _ _ h]
  exact setRow_heap _ B _ _ _ _ h

def spV (s : Sp) : Value := .agg #[.int .i64 (s.a : Int), .int .i64 (s.b : Int), .int .i64 (s.i : Int), .int .i64 (s.o : Int)]
def SpBox (W : World) (B : Nat) (s : Sp) : Prop := W.heap[B]? = some (.cells #[.int .i64 (s.a : Int), .int .i64 (s.b : Int), .int .i64 (s.i : Int), .int .i64 (s.o : Int)] 48 (0, 0))
def FBox (W : World) (B : Nat) (n : Int) (AP : Option Addr) (lP cP : Nat) (AT : Option Addr) (lT cT : Nat) (AI : Option Addr) (lI cI bm : Nat) (vE : Value) : Prop :=
  W.heap[B]? = some (.cells #[.int .i64 n, .slice AP lP cP, .slice AT lT cT, .slice AI lI cI, .map (some bm), vE] 42 (0, 0))
section
variable {W W' : World} {B : Nat} {s : Sp} {n : Int} {AP AT AI : Option Addr} {lP cP lT cT lI cI bm : Nat} {vE : Value}
theorem row_cell {arr : Array Value} {ty : TypeId} (h : W.heap[B]? = some (.cells arr ty (0, 0))) (j : Nat) : W.cell? ⟨B, j, none⟩ = arr[j]? := by simp [World.cell?, h]
theorem row_frozen {arr : Array Value} {ty : TypeId} (h : W.heap[B]? = some (.cells arr ty (0, 0))) (j : Nat) : W.frozen? ⟨B, j, none⟩ = false := by simp [World.frozen?, h]
theorem row_lt {o : Obj} (h : W.heap[B]? = some o) : B < W.heap.size := (Array.getElem?_eq_some_iff.1 h).1
theorem row_kept {o : Obj} (h : W.heap[B]? = some o) (hb : Below W.heap.size W W') : W'.heap[B]? = some o := (hb.block B (row_lt h)).trans h
theorem row_other {o : Obj} (h : W.heap[B]? = some o) (b j : Nat) (v : Value) (hn : B ≠ b) : (W.setCell ⟨b, j, none⟩ v).heap[B]? = some o := (lheap_set W b j v B hn).trans h
theorem SpBox.cells (h : SpBox W B s) : W.cell? ⟨B, 0, none⟩ = some (.int .i64 (s.a : Int)) ∧ W.cell? ⟨B, 1, none⟩ = some (.int .i64 (s.b : Int)) ∧ W.cell? ⟨B, 2, none⟩ = some (.int .i64 (s.i : Int)) ∧ W.cell? ⟨B, 3, none⟩ = some (.int .i64 (s.o : Int)) := ⟨row_cell h 0, row_cell h 1, row_cell h 2, row_cell h 3⟩
theorem FBox.cells (h : FBox W B n AP lP cP AT lT cT AI lI cI bm vE) : W.cell? ⟨B, 0, none⟩ = some (.int .i64 n) ∧ W.cell? ⟨B, 1, none⟩ = some (.slice AP lP cP) ∧ W.cell? ⟨B, 2, none⟩ = some (.slice AT lT cT) ∧ W.cell? ⟨B, 3, none⟩ = some (.slice AI lI cI) ∧ W.cell? ⟨B, 4, none⟩ = some (.map (some bm)) ∧ W.cell? ⟨B, 5, none⟩ = some vE :=
  ⟨row_cell h 0, row_cell h 1, row_cell h 2, row_cell h 3, row_cell h 4, row_cell h 5⟩
end

/-! ### stores of a whole struct -/
def sset4 (W : World) (B : Nat) (v0 v1 v2 v3 : Value) : World := (((W.setCell ⟨B, 0, none⟩ v0).setCell ⟨B, 1, none⟩ v1).setCell ⟨B, 2, none⟩ v2).setCell ⟨B, 3, none⟩ v3
theorem sset4_row {W : World} {B : Nat} {a0 a1 a2 a3 : Value} {ty : TypeId} (h : W.heap[B]? = some (.cells #[a0, a1, a2, a3] ty (0, 0))) (v0 v1 v2 v3 : Value) : (sset4 W B v0 v1 v2 v3).heap[B]? = some (.cells #[v0, v1, v2, v3] ty (0, 0)) := by
  have h1 := lrow_set W B _ _ 0 v0 h
  have h2 := lrow_set _ B _ _ 1 v1 h1
  have h3 := lrow_set _ B _ _ 2 v2 h2
  have h4 := lrow_set _ B _ _ 3 v3 h3
  simpa [sset4] using h4
theorem sset4_below {N : Nat} {W W' : World} (h : Below N W W') {B : Nat} (hB : N ≤ B) (v0 v1 v2 v3 : Value) : Below N W (sset4 W' B v0 v1 v2 v3) :=
  (((h.setCell (p := ⟨B, 0, none⟩) hB v0).setCell (p := ⟨B, 1, none⟩) hB v1).setCell (p := ⟨B, 2, none⟩) hB v2).setCell (p := ⟨B, 3, none⟩) hB v3
def cset7 (W : World) (B : Nat) (v0 v1 v2 v3 v4 v5 v6 : Value) : World := ((((((W.setCell ⟨B, 0, none⟩ v0).setCell ⟨B, 1, none⟩ v1).setCell ⟨B, 2, none⟩ v2).setCell ⟨B, 3, none⟩ v3).setCell ⟨B, 4, none⟩ v4).setCell ⟨B, 5, none⟩ v5).setCell ⟨B, 6, none⟩ v6
theorem cset7_row {W : World} {B : Nat} {a0 a1 a2 a3 a4 a5 a6 : Value} {ty : TypeId} (h : W.heap[B]? = some (.cells #[a0, a1, a2, a3, a4, a5, a6] ty (0, 0))) (v0 v1 v2 v3 v4 v5 v6 : Value) :
    (cset7 W B v0 v1 v2 v3 v4 v5 v6).heap[B]? = some (.cells #[v0, v1, v2, v3, v4, v5, v6] ty (0, 0)) := by
  have h1 := lrow_set W B _ _ 0 v0 h
  have h2 := lrow_set _ B _ _ 1 v1 h1
  have h3 := lrow_set _ B _ _ 2 v2 h2
  have h4 := lrow_set _ B _ _ 3 v3 h3
  have h5 := lrow_set _ B _ _ 4 v4 h4
  have h6 := lrow_set _ B _ _ 5 v5 h5
  have h7 := lrow_set _ B _ _ 6 v6 h6
  simpa [cset7] using h7
theorem cset7_below {N : Nat} {W W' : World} (h : Below N W W') {B : Nat} (hB : N ≤ B) (v0 v1 v2 v3 v4 v5 v6 : Value) : Below N W (cset7 W' B v0 v1 v2 v3 v4 v5 v6) :=
  ((((((h.setCell (p := ⟨B, 0, none⟩) hB v0).setCell (p := ⟨B, 1, none⟩) hB v1).setCell (p := ⟨B, 2, none⟩) hB v2).setCell (p := ⟨B, 3, none⟩) hB v3).setCell (p := ⟨B, 4, none⟩) hB v4).setCell (p := ⟨B, 5, none⟩) hB v5).setCell (p := ⟨B, 6, none⟩) hB v6

/-! ### tails -/
theorem ClSl.tail {w : World} {B : Nat} {A : Option Addr} {l : List Cl} (hl : ClSl w B A l) {c n : Nat} (hc : l.length ≤ c) (hnl : n ≤ l.length) : ClSl w B (if c = n then A else A.map (·.add (n * 7))) (l.drop n) := by
  intro k x hk
  rw [List.getElem?_drop] at hk
  obtain ⟨b, off, Ar, cr, hA, hlt, hcl, hr⟩ := hl _ x hk
  have := get_lt hk
  rw [if_neg (by omega), hA]
  refine ⟨b, off + n * 7, Ar, cr, by simp [Addr.add_lit], hlt, ?_, hr⟩
  rw [show off + n * 7 + k * 7 = off + (n + k) * 7 by omega]
  exact hcl
theorem slice_calls (A : Option Addr) (M c n : Nat) (h : n ≤ M) (W : World) :
    (Instr.sliceAt 22 (.slice A M c) (some (.int .i64 (n : Int))) none none).run Try.prog W = .ok (.slice (if c = n then A else A.map (·.add (n * 7))) (M - n) (c - n)) W :=
  slice_tail 22 32 7 Try.prog Try.underlying22 (by kernel_rfl) (fun W => by kernel_rfl) A M c n h W

/-! ### what finder.put and finder.take answer -/
def PutR (r : Option Sp) (W : World) (e : Ending) (w' : World) : Prop := ∃ t ok, e = .returned (.tuple #[spV t, .bool ok]) ∧ r = (if ok = true then some t else none) ∧ Below W.heap.size W w'
theorem res_put (tmps : Array Value) (w : World) {b : Nat} {s : Sp} {ok : Bool} (ha : tmps[4]?.getD undef = .pointer (some ⟨b, 0, none⟩)) (hk : tmps[5]?.getD undef = .bool ok) (hbox : SpBox w b s) :
    (results Try.f34 tmps).run Try.prog w = .ok (.tuple #[spV s, .bool ok]) w := by
  obtain ⟨h0, h1, h2, h3⟩ := hbox.cells
  simp [results, ha, hk, h0, h1, h2, h3, go_sem, spV]
theorem res_take (tmps : Array Value) (w : World) {b : Nat} {s : Sp} {ok : Bool} (ha : tmps[4]?.getD undef = .pointer (some ⟨b, 0, none⟩)) (hk : tmps[5]?.getD undef = .bool ok) (hbox : SpBox w b s) :
    (results Try.f35 tmps).run Try.prog w = .ok (.tuple #[spV s, .bool ok]) w := by
  obtain ⟨h0, h1, h2, h3⟩ := hbox.cells
  simp [results, ha, hk, h0, h1, h2, h3, go_sem, spV]

end Go.Proofs.Ytgmmblknaeepbaa
