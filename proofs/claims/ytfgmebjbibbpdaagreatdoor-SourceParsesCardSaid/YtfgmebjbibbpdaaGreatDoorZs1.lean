/- Texts joined: Words for walks over any program: slices that read as lists, rows of the call's own, appends, lists gone through by index. Blocks known whole. A region that draws its order, with a class of worlds that grows narrower on the way. Decimal digits and the pieces of a text: of no program. What a walk keeps of the listed tables. strconv.Itoa, of numbers from 0 on. Slices of strings. Which words are numbers: of no program. Instructions: their lines, and what is read of a line: of no program. Lines of a text: of no program. Instructions as text, and back: of no program. Systems as text: of no program. An instruction in a block of its own. isa: the table of kinds, which instructions are right, words and kinds. isa.shapes: the table. isa.Right, isa.Word, isa.Kind. isa.Word, isa.Kind. -/
import Derived.Test.YtfgmebjbibbpdaaGreatDoorRows
import Derived.WalkKit
import Derived.WalkSpells
import Derived.WalkLawsBesides
import Derived.Lib.Hide
import Derived.Maps.AppendAt
import Derived.Deep.QuietTactic
import Derived.BigQuiet
import Derived.Laws.Tables
import Derived.Below
import Derived.Deep.RegionHeld3
import Derived.Lib.ItoaNum
import Derived.Lib.Join
import Derived.Lib.SlicesS
import Derived.Lib.Walk
import Derived.Lib.ItoaMem
import Derived.Lib.AppendIntMem
import Derived.Test.YtfgmebjbibbpdaaGreatDoorShelf
import Derived.Laws.CopyRow
import Derived.Laws.IdiomStrings
import Derived.IntWalk
import Derived.OpenShut
import Derived.Lib.ConvBytes
namespace Go.Proofs.YtfgmebjbibbpdaaGreatDoor
open Go.RowKit

/-! ### lists gone through by index -/
theorem foldl_snoc {α σ : Type} (f : σ → α → σ) (s : σ) {l : List α} {k : Nat} {e : α} (h : l[k]? = some e) : (l.take (k + 1)).foldl f s = f ((l.take k).foldl f s) e := by
  rw [List.take_add_one, h, List.foldl_append]; rfl
theorem take_snoc {α : Type} {l : List α} {k : Nat} {e : α} (h : l[k]? = some e) : l.take (k + 1) = l.take k ++ [e] := by
  rw [List.take_add_one, h]; rfl
theorem take_all {α : Type} {l : List α} {k : Nat} (h : ¬ k < l.length) : l.take k = l := List.take_of_length_le (by omega)
theorem get_some {α : Type} {l : List α} {k : Nat} (h : k < l.length) : ∃ e, l[k]? = some e := ⟨_, List.getElem?_eq_getElem h⟩
theorem get_lt {α : Type} {l : List α} {k : Nat} {e : α} (h : l[k]? = some e) : k < l.length := (List.getElem?_eq_some_iff.1 h).1
theorem ret_int {k : IntKind} {a b : Int} (h : a = b) : Ending.returned (.int k a) = .returned (.int k b) := by rw [h]
theorem ret_bool {a b : Bool} (h : a = b) : Ending.returned (.bool a) = .returned (.bool b) := by rw [h]
theorem val_int {k : IntKind} {a b : Int} (h : a = b) : Value.int k a = .int k b := by rw [h]

/-! ### how an element lies in cells -/
structure Enc (α : Type) where
  cells : α → List Value
  size : Nat
  len : ∀ x, (cells x).length = size
  one : ∀ x, ∀ u ∈ cells x, u.oneCell' = true
  pos : 0 < size

def Enc.all {α : Type} (E : Enc α) (l : List α) : List Value := l.flatMap E.cells
theorem Enc.all_snoc {α : Type} (E : Enc α) (l : List α) (x : α) : E.all (l ++ [x]) = E.all l ++ E.cells x := by simp [Enc.all]
theorem Enc.all_append {α : Type} (E : Enc α) (l m : List α) : E.all (l ++ m) = E.all l ++ E.all m := by simp [Enc.all]
theorem Enc.all_len {α : Type} (E : Enc α) : ∀ l : List α, (E.all l).length = l.length * E.size
  | [] => by simp [Enc.all]
  | x :: l => by
    have h : (E.all (x :: l)).length = (E.cells x).length + (E.all l).length := by simp [Enc.all]
    rw [h, E.all_len l, E.len, List.length_cons, Nat.add_mul]; omega
theorem Enc.all_get {α : Type} (E : Enc α) : ∀ (l : List α) (k : Nat) (x : α), l[k]? = some x → ∀ j, j < E.size → (E.all l)[k * E.size + j]? = (E.cells x)[j]?
  | y :: l, 0, x, h, j, hj => by
    simp at h; subst h
    simp only [Enc.all, List.flatMap_cons]
    rw [List.getElem?_append_left (by rw [E.len]; omega)]
    congr 1; omega
  | y :: l, k + 1, x, h, j, hj => by
    have ih := E.all_get l k x (by simpa using h) j hj
    simp only [Enc.all, List.flatMap_cons] at ih ⊢
    rw [List.getElem?_append_right (by rw [E.len, Nat.add_mul]; omega), E.len, ← ih]
    congr 1; rw [Nat.add_mul]; omega
theorem Enc.all_one {α : Type} (E : Enc α) (l : List α) : ∀ u ∈ E.all l, u.oneCell' = true := by
  intro u hu
  obtain ⟨x, _, hx⟩ := List.mem_flatMap.1 hu
  exact E.one x u hx

/-- One cell an element. -/
def Enc.of1 {α : Type} (f : α → Value) (h : ∀ x, (f x).oneCell' = true) : Enc α := ⟨fun x => [f x], 1, fun _ => rfl, fun x u hu => by simp at hu; subst hu; exact h x, by omega⟩
def ints (q : IntKind) : Enc Int := Enc.of1 (Value.int q) fun _ => rfl
def strs : Enc ByteArray := Enc.of1 Value.string fun _ => rfl
theorem of1_all {α : Type} (f : α → Value) (h : ∀ x, (f x).oneCell' = true) (l : List α) : (Enc.of1 f h).all l = l.map f := by
  induction l with
  | nil => rfl
  | cons x l ih => simpa [Enc.all, Enc.of1] using ih

/-! ### a slice that reads as a list -/
def SlOf {α : Type} (E : Enc α) (w : World) (B : Nat) (A : Option Addr) (l : List α) : Prop :=
  ∀ k x, l[k]? = some x → ∃ b off, A = some ⟨b, off, none⟩ ∧ b < B ∧ ∀ j u, (E.cells x)[j]? = some u → w.cell? ⟨b, off + (k * E.size + j), none⟩ = some u

section
variable {α : Type} {E : Enc α} {w w' : World} {B B' : Nat} {A : Option Addr} {l : List α}
theorem SlOf.below (h : SlOf E w B A l) (hb : Below B w w') (hB : B ≤ B') : SlOf E w' B' A l := by
  intro k x hk
  obtain ⟨b, off, hA, hlt, hc⟩ := h k x hk
  exact ⟨b, off, hA, by omega, fun j u hu => (hb.cell (p := ⟨b, _, none⟩) hlt).trans (hc j u hu)⟩
theorem SlOf.nil : SlOf E w B A [] := fun k x h => by simp at h
/-- The first k elements. -/
theorem SlOf.take (h : SlOf E w B A l) (n : Nat) : SlOf E w B A (l.take n) := fun k x hk => by
  have hk' : k < n := by
    have := get_lt hk
    simp at this; omega
  exact h k x (by rw [List.getElem?_take_of_lt hk'] at hk; exact hk)
/-- What lies from k on: the address as the walk has it. -/
theorem SlOf.drop (h : SlOf E w B A l) {n cap : Nat} (hn : n ≤ l.length) (hc : l.length ≤ cap) : SlOf E w B (if cap = n then A else A.map (·.add (n * E.size))) (l.drop n) := by
  intro k x hk
  rw [List.getElem?_drop] at hk
  obtain ⟨b, off, hA, hlt, hcl⟩ := h _ x hk
  have := get_lt hk
  rw [if_neg (by omega), hA]
  refine ⟨b, off + n * E.size, by simp [Addr.add_lit], hlt, fun j u hu => ?_⟩
  have h1 : off + n * E.size + (k * E.size + j) = off + ((n + k) * E.size + j) := by rw [Nat.add_mul]; omega
  rw [h1]
  exact hcl j u hu

/-- What the call owns reads as a list. -/
def Own (E : Enc α) (t : TypeId) (base : Nat) (w : World) (v : Value) (l : List α) : Prop := w.ownsRow base t E.size v l.length (E.all l)

theorem Own.nil (t : TypeId) (base : Nat) : Own E t base w (.slice none 0 0) [] := World.ownsRow_nil _ _ _ _
theorem Own.sl {t : TypeId} {base : Nat} {v : Value} (h : Own E t base w v l) : ∃ A c, v = .slice A l.length c ∧ (l.length ≤ c ∧ c ≤ maxLen) ∧ (l = [] ∨ A ≠ none) ∧ SlOf E w w.heap.size A l := by
  rcases h.2 with ⟨rfl, h0⟩ | ⟨g, cap, cur, rfl, hg, hh, hcap, hmax, r⟩
  · have := List.eq_nil_of_length_eq_zero h0
    subst this
    exact ⟨none, 0, rfl, ⟨by simp, by simp [maxLen]⟩, .inl rfl, SlOf.nil⟩
  · refine ⟨_, cap, rfl, ⟨hcap, hmax⟩, .inr (by simp), fun k x hx => ⟨g, 0, rfl, (Array.getElem?_eq_some_iff.1 hh).1, fun j u hu => ?_⟩⟩
    have hc := h.cells (g := g) rfl
    have hj : j < E.size := by rw [← E.len x]; exact get_lt hu
    have := hc (k * E.size + j) u (by rw [E.all_get l k x hx j hj, hu])
    rw [Addr.add_lit] at this
    exact this
theorem Own.below {t : TypeId} {base : Nat} {v : Value} (h : Own E t base w v l) (hb : Below B w w') (hB : w.heap.size ≤ B) : Own E t base w' v l := by
  refine ⟨h.1, ?_⟩
  rcases h.2 with h2 | ⟨g, cap, cur, hv, hg, hh, r⟩
  · exact .inl h2
  · exact .inr ⟨g, cap, cur, hv, hg, (hb.block g (by have := (Array.getElem?_eq_some_iff.1 hh).1; omega)).trans hh, r⟩
theorem Own.alloc {t : TypeId} {base : Nat} {v : Value} (h : Own E t base w v l) (o : Obj) : Own E t base (w.alloc o) v l := World.ownsRow.alloc h o
theorem Own.mono {t : TypeId} {base base' : Nat} {v : Value} (h : Own E t base w v l) (hb : base' ≤ base) : Own E t base' w v l := by
  refine ⟨h.1, ?_⟩
  rcases h.2 with h2 | ⟨g, cap, cur, hv, hg, r⟩
  · exact .inl h2
  · exact .inr ⟨g, cap, cur, hv, by omega, r⟩
end

theorem cells_new (w : World) (cs : Array Value) (t : TypeId) (j : Nat) : (w.alloc (.cells cs t)).cell? ((⟨w.heap.size, 0, none⟩ : Addr).add j) = cs[j]? := by
  rw [Addr.add_lit, cell_of_row _ _ _ cs t (0, 0) (heap_alloc_new w _)]
  simp
theorem cells_new' (w : World) (l : List Value) (cs : Array Value) (t : TypeId) (h : cs.toList = l) : ∀ (j : Nat) (u : Value), l[j]? = some u → (w.alloc (.cells cs t)).cell? ((⟨w.heap.size, 0, none⟩ : Addr).add j) = some u := by
  intro j u hu
  rw [cells_new, ← Array.getElem?_toList, h, hu]

/-- A slice literal: its cells lie in a block of their own. -/
theorem SlOf.new {α : Type} {E : Enc α} (w : World) (cs : Array Value) (t : TypeId) (l : List α) (h : cs.toList = E.all l) : SlOf E (w.alloc (.cells cs t)) (w.heap.size + 1) (some ⟨w.heap.size, 0, none⟩) l := by
  intro k x hk
  refine ⟨_, _, rfl, by omega, fun j u hu => ?_⟩
  have hj : j < E.size := by rw [← E.len x]; exact get_lt hu
  have := cells_new' w (E.all l) cs t h (k * E.size + j) u (by rw [E.all_get l k x hk j hj, hu])
  rw [Addr.add_lit] at this
  exact this

theorem drewN_below {B : Nat} {a w : World} (h : Below B a w) : ∀ n : Nat, Below B a (w.drewN n)
  | _ => ⟨h.os, h.tape, h.output, h.size, h.block⟩

theorem cell_lt {w : World} {a : Addr} {u : Value} (h : w.cell? a = some u) : a.block < w.heap.size := by
  rcases Nat.lt_or_ge a.block w.heap.size with hlt | hge
  · exact hlt
  · unfold World.cell? at h
    rw [Array.getElem?_eq_none hge] at h
    cases h
theorem add_block (a : Addr) (n : Nat) : (a.add n).block = a.block := by unfold Addr.add; split <;> rfl
theorem add_add' (a : Addr) (i j : Nat) : (a.add i).add j = a.add (i + j) := by
  unfold Addr.add
  by_cases hi : i = 0 <;> by_cases hj : j = 0 <;> simp [hi, hj, Nat.add_assoc]

/-! ### append of one element -/
structure ElemTy (P : Program) (t e : TypeId) (size bytes : Nat) : Prop where
  ht : P.underlying t = some (.slice e)
  hi : ∃ i z, P.info? e = some i ∧ i.zero = some z ∧ i.size = size ∧ i.bytes = bytes ∧ z.cells.size = size ∧ 0 < size
theorem ElemTy.of {P : Program} {t e : TypeId} {size bytes : Nat} {z : Value} (ht : P.underlying t = some (.slice e)) (h : (P.info? e).map (fun i => (i.zero, i.size, i.bytes)) = some (some z, size, bytes)) (hz : z.cells.size = size) (hp : 0 < size) : ElemTy P t e size bytes := by
  obtain ⟨i, hi, h1, h2, h3⟩ := info_parts h
  exact ⟨ht, i, z, hi, h1, h2, h3, hz, hp⟩

theorem grown_below {w w1 : World} {base B : Nat} {t : TypeId} {size n : Nat} {v : Value} {xs : List Value} (hown : w.ownsRow base t size v n xs) (hg : w.grownBy w1 v.ownBlock) (hB : B ≤ base) (hs : base ≤ w.heap.size) : Below B w w1 :=
  (Below.refl B w).grown hg (by omega) (fun k hk => by have := (hown.lt k hk).1; omega)

/-- 'out = append(out, x)': x has been laid in a block of its own; out is nil or the call's own. -/
theorem wpList_app1 {P : Program} {w0 : World} {cs : Array Value} {ops : Array Oper} {rest : List Oper} {o : Oper} {a : Act} {Q : Exit → Act → World → Prop} (hgd : o.guard = none) (s x : Operand) (t : TypeId)
    (ho : o.op = .call { callee := .builtin .append, args := #[s, x], argTypes := #[t, t] }) {e : TypeId} {size bytes : Nat} (hT : ElemTy P t e size bytes) (base : Nat)
    {v : Value} {n : Nat} {xs : List Value} (hown : w0.ownsRow base e size v n xs) (hs : a.eval s = v) (hx : a.eval x = .slice (some ⟨w0.heap.size, 0, none⟩) 1 1) (hl : cs.size = size) (h1 : cs.toList.all (fun u => u.oneCell') = true)
    (h63 : n + 1 ≤ maxLen) (hbytes : (n + 1) * bytes ≤ 140737488355328) (hbase : base ≤ w0.heap.size)
    (h : ∀ v' w', w'.ownsRow base e size v' (n + 1) (xs ++ cs.toList) → Below base w0 w' → v' ≠ .slice none 0 0 → wpList P ops Q rest (a.put o.dst v') w') : wpList P ops Q (o :: rest) a (w0.alloc (.cells cs e)) := by
  obtain ⟨ht, i, z, hi, hz, hsize, hby, hzs, hsz⟩ := hT
  refine wpList_append_own_at _ hgd s x t ho base e i z size bytes ht hi hz hsize hby hzs hsz v n xs hs (hown.alloc _) ⟨w0.heap.size, 0, none⟩ 1 1 cs.toList hx (by simpa using hl) (cells_new' _ _ _ _ rfl) (fun u hu => List.all_eq_true.1 h1 u hu) h63 hbytes (by simp; omega) ?_
  intro v' w' h2 h3 h4 _
  exact h v' w' h2 (((Below.refl base w0).alloc hbase _).trans (grown_below (hown.alloc _) h3 (Nat.le_refl _) (by simp; omega))) (fun e => by have := (h4.1 e).2; omega)

/-- The same, said of a list. -/
theorem Own.app {α : Type} {E : Enc α} {t : TypeId} {base : Nat} {w : World} {v : Value} {l : List α} {x : α} {cs : List Value} (h : w.ownsRow base t E.size v (l.length + 1) (E.all l ++ cs)) (hc : cs = E.cells x) : Own E t base w v (l ++ [x]) := by
  subst hc
  unfold Own
  rw [E.all_snoc, List.length_append]
  exact h

/-- 'append(out, x...)' in a region that draws its order; out is nil or the call's own. -/
theorem step_app {P : Program} {w : World} {ops : Array Oper} {o : Oper} {a : Act} {K : Act → World → Prop} {Q : Exit → Act → World → Prop} {E : Prop} (hgd : o.guard = none) (s x : Operand) (t : TypeId)
    (ho : o.op = .call { callee := .builtin .append, args := #[s, x], argTypes := #[t, t] }) {e : TypeId} {size bytes : Nat} (hT : ElemTy P t e size bytes) (base : Nat)
    {v : Value} {n : Nat} {xs : List Value} (hown : w.ownsRow base e size v n xs) (hs : a.eval s = v) {ad : Addr} {m c : Nat} {news : List Value} (hnews : ∀ j u, news[j]? = some u → w.cell? (ad.add j) = some u) (hx : a.eval x = .slice (some ad) m c) (hl : news.length = m * size) (h1 : ∀ u ∈ news, u.oneCell' = true)
    (h63 : n + m ≤ maxLen) (hbytes : (n + m) * bytes ≤ 140737488355328) (hbase : base ≤ w.heap.size)
    (h : ∀ v' w', w'.ownsRow base e size v' (n + m) (xs ++ news) → Below base w w' → (v' = .slice none 0 0 ↔ v = .slice none 0 0 ∧ m = 0) → K (a.put o.dst v') w') : if Region.wanted o (yielded ops a.tmps) = true then Oper.wp P o a w K Q else E := by
  have hw : Region.wanted o (yielded ops a.tmps) = true := by simp [Region.wanted, hgd]
  rw [if_pos hw]
  obtain ⟨ht, i, z, hi, hz, hsize, hby, hzs, hsz⟩ := hT
  obtain ⟨v', w', hr, h2, h3, h4, h5⟩ := run_append_own_at (P := P) w base t o.type e i z size bytes ht hi hz hsize hby hzs hsz v n xs hown ad m c news hl hnews h1 h63 hbytes hbase
  unfold Oper.wp execOp
  simp only [ho, resolve, invoke, builtin, Sem.run_bind, Sem.run_pure, Result.andThen_ok, List.map_toArray, List.map_cons, List.map_nil, hs, hx, hr]
  exact h v' w' h2 (grown_below hown h3 (Nat.le_refl _) hbase) h4

/-! ### a region that draws its order, whose calls may make memory: one walk, in a class of worlds -/
theorem wp_region_class {P : Program} {ι : Type} {W : ι → World} {id : Nat} {Q : Exit → Act → World → Prop} {a : Act} {w : World} {l : List Oper} {i0 : ι} (h0 : w.drew = W i0) (hm : P.follows .mixedOrders = true) (hB : Region.lexB .any l.toArray = true)
    (h : wpQuiet P l.toArray (fun w' => ∃ i, w' = W i) (fun a' => ∀ w', (∃ i, w' = W i) → Q .normal a' w') l a) : (Code.region id l.toArray true).wp P Q a w :=
  wp_region_quiet (C := fun w' => ∃ i, w' = W i) hm hB ⟨i0, h0⟩ (by simpa using h)
theorem class_of (w : World) : ∃ (ι : Type) (W : ι → World) (i0 : ι), w.drew = W i0 ∧ (∀ i, Below w.heap.size w (W i)) ∧ (∀ i x, Below (W i).heap.size (W i) x → ∃ j, x = W j) :=
  ⟨{ x : World // Below w.heap.size w x }, Subtype.val, ⟨w.drew, (Below.refl _ _).drew⟩, rfl, fun i => i.2, fun i x h => ⟨⟨x, i.2.trans (h.mono i.2.size)⟩, rfl⟩⟩
theorem class_call {P : Program} {ι : Type} {W : ι → World} {i : ι} {f : FuncId} {args : Array Value} {v : Value} (hcov : ∀ i x, Below (W i).heap.size (W i) x → ∃ j, x = W j)
    (h : Calls P f args (W i) fun e w' => e = .returned v ∧ Below (W i).heap.size (W i) w') : Calls P f args (W i) fun e w' => e = .returned v ∧ ∃ j, w' = W j :=
  h.mono fun _ w' ⟨he, hb⟩ => ⟨he, hcov i w' hb⟩

end Go.Proofs.YtfgmebjbibbpdaaGreatDoor

namespace Go.Proofs.YtfgmebjbibbpdaaGreatDoor
open Go.RowKit

def RowB (w : World) (n : Nat) (arr : Array Value) (t : TypeId) : Prop := w.heap[n]? = some (.cells arr t (0, 0))
theorem RowB.lt {w : World} {n : Nat} {arr : Array Value} {t : TypeId} (h : RowB w n arr t) : n < w.heap.size := (Array.getElem?_eq_some_iff.1 h).1
theorem RowB.new (w : World) (arr : Array Value) (t : TypeId) : RowB (w.alloc (.cells arr t)) w.heap.size arr t := heap_alloc_new w _
theorem RowB.kept {w w' : World} {n : Nat} {arr : Array Value} {t : TypeId} (h : RowB w n arr t) (hb : Below w.heap.size w w') : RowB w' n arr t := (hb.block n h.lt).trans h
theorem RowB.below {w w' : World} {n N : Nat} {arr : Array Value} {t : TypeId} (h : RowB w n arr t) (hb : Below N w w') (hn : n < N) : RowB w' n arr t := (hb.block n hn).trans h
theorem RowB.row {w : World} {n : Nat} {arr cells : Array Value} {t : TypeId} (h : RowB w n arr t) : RowB (w.setRow n cells) n cells t := setRow_heap w n arr cells t _ h
theorem RowB.far {w : World} {n g : Nat} {arr cells : Array Value} {t : TypeId} (h : RowB w n arr t) (hn : n ≠ g) : RowB (w.setRow g cells) n arr t := (setRow_other _ _ _ _ hn).trans h
theorem RowB.cell {w : World} {n : Nat} {arr : Array Value} {t : TypeId} (h : RowB w n arr t) (j : Nat) : w.cell? ⟨n, j, none⟩ = arr[j]? := by simp [World.cell?, show w.heap[n]? = _ from h]
theorem RowB.frozen {w : World} {n : Nat} {arr : Array Value} {t : TypeId} (h : RowB w n arr t) (j : Nat) : w.frozen? ⟨n, j, none⟩ = false := by simp [World.frozen?, show w.heap[n]? = _ from h]
theorem RowB.set {w : World} {n : Nat} {arr : Array Value} {t : TypeId} (h : RowB w n arr t) (j : Nat) (v : Value) : RowB (w.setCell ⟨n, j, none⟩ v) n (arr.setIfInBounds j v) t := by
  unfold RowB
  rw [setCell_eq_setRow w n j _ _ _ _ h]
  exact setRow_heap _ n _ _ _ _ h
theorem heap_set (W : World) (b j : Nat) (v : Value) (n : Nat) (h : n ≠ b) : (W.setCell ⟨b, j, none⟩ v).heap[n]? = W.heap[n]? := by
  show (W.heap.modify b _)[n]? = _
  rw [Array.getElem?_modify, if_neg (fun e => h e.symm)]
theorem size_set (W : World) (b j : Nat) (v : Value) : (W.setCell ⟨b, j, none⟩ v).heap.size = W.heap.size := by
  show (W.heap.modify b _).size = _
  rw [Array.size_modify]
theorem RowB.other {w : World} {n : Nat} {arr : Array Value} {t : TypeId} (h : RowB w n arr t) (b j : Nat) (v : Value) (hn : n ≠ b) : RowB (w.setCell ⟨b, j, none⟩ v) n arr t := (heap_set w b j v n hn).trans h
theorem below_set1 {N : Nat} {W W' : World} (h : Below N W W') (B j : Nat) (hB : N ≤ B) (v : Value) : Below N W (W'.setCell ⟨B, j, none⟩ v) := h.setCell (p := ⟨B, j, none⟩) hB v
theorem own_slice {w : World} {base size n : Nat} {t : TypeId} {v : Value} {xs : List Value} (h : w.ownsRow base t size v n xs) : ∃ A c, v = .slice A n c := by
  rcases h.2 with ⟨h2, h3⟩ | ⟨g, cap, cur, hv, _⟩
  · exact ⟨_, _, by rw [h2, h3]⟩
  · exact ⟨_, _, hv⟩

end Go.Proofs.YtfgmebjbibbpdaaGreatDoor

namespace Go.Proofs.YtfgmebjbibbpdaaGreatDoor
open Go.RowKit

theorem wpAnyH_strong {P : Program} {ops : Array Oper} {Q : Exit → Act → World → Prop} {md : Region.Mode} {S S' : World → Prop} (hS : ∀ w, S' w → S w) : ∀ (fuel : Nat) (listed : Array Bool) (a : Act) (w : World),
    wpAnyH P md ops Q S' fuel listed a w → wpAnyH P md ops Q S fuel listed a w
  | 0, _, _, _, h => h
  | fuel + 1, _, _, _, h => ⟨h.1, fun i hi => wpOp_mono (fun a' w' h' => ⟨hS w' h'.1, wpAnyH_strong hS fuel _ a' w' h'.2⟩) (h.2 i hi)⟩

/-- A region whose ways all end alike, but for a number and the world. -/
theorem region_to {P : Program} {id : Nat} {ops : Array Oper} {b : Bool} {a : Act} {w : World} {Q : Exit → Act → World → Prop} (A : Nat → Act) (X : Nat → World → Prop)
    (h : (Code.region id ops b).wp P (fun e a w => e = .normal ∧ ∃ nb, a = A nb ∧ X nb w) a w) (hq : ∀ nb w, X nb w → Q .normal (A nb) w) : (Code.region id ops b).wp P Q a w :=
  Code.wp_mono (fun e a w ⟨he, nb, ha, hx⟩ => by
    subst he ha
    exact hq nb w hx) h

/-- An operation that neither calls nor writes is taken. -/
theorem tkH {P : Program} {ops : Array Oper} {Q : Exit → Act → World → Prop} {md : Region.Mode} {S : World → Prop} (i : Nat) {oi : Oper} {v : Value} {fuel : Nat} {listed : Array Bool} {a : Act} {w : World}
    (h : wpAnyH P md ops Q S fuel (listed.setIfInBounds i true) (a.put oi.dst v) w)
    (hi : ops[i]? = some oi := by ((simp only [List.getElem?_toArray, List.getElem?_cons_succ, List.getElem?_cons_zero]); rfl))
    (hs : Region.noSelect ops = true := by kernel_rfl) (hf : Region.free md ops listed i = true := by kernel_rfl) (hr : (Region.ready md ops listed).contains i = true := by kernel_rfl)
    (hQ : ∀ c a w, Q (.panic c) (a.put oi.dst v) w → Q (.panic c) a w := by first | exact fun _ _ _ h => h | exact fun _ _ _ h => by cases h.1)
    (hy : YieldsIf P ops S oi v a := by (refine Or.inl ⟨rfl, ?_⟩; (intro wq hSq; (try dsimp only at hSq); go_simp); (try with_reducible rfl))) (hS : S w := by assumption) : wpAnyH P md ops Q S (fuel + 1) listed a w :=
  wpAnyH_take hi hs hf hr hQ hy hS h

end Go.Proofs.YtfgmebjbibbpdaaGreatDoor

namespace Go.Proofs.YtfgmebjbibbpdaaGreatDoor
open Go.RowKit

/-- The pieces between all the c's. -/
def pcs (c : UInt8) : List UInt8 → List (List UInt8)
  | [] => [[]]
  | x :: l => if x = c then [] :: pcs c l else (x :: (pcs c l).headD []) :: (pcs c l).tail
theorem pcs_ne (c : UInt8) (l : List UInt8) : pcs c l ≠ [] := by
  cases l with
  | nil => simp [pcs]
  | cons x l => unfold pcs; split <;> simp
theorem pcs_none (c : UInt8) (l : List UInt8) (h : ∀ k : Nat, l[k]? ≠ some c) : pcs c l = [l] := by
  induction l with
  | nil => rfl
  | cons x l ih =>
    have hx : x ≠ c := fun e => h 0 (by simp [e])
    have := ih (fun k hk => h (k + 1) (by simpa using hk))
    simp [pcs, hx, this]
theorem pcs_some (c : UInt8) (l : List UInt8) (o : Nat) (h : l[o]? = some c) (h2 : ∀ k : Nat, k < o → l[k]? ≠ some c) : pcs c l = l.take o :: pcs c (l.drop (o + 1)) := by
  induction l generalizing o with
  | nil => simp at h
  | cons x l ih =>
    cases o with
    | zero =>
      have hx : x = c := by simpa using h
      simp [pcs, hx]
    | succ o =>
      have hx : x ≠ c := fun e => h2 0 (by omega) (by simp [e])
      have := ih o (by simpa using h) (fun k hk hk' => h2 (k + 1) (by omega) (by simpa using hk'))
      simp [pcs, hx, this]

theorem ext_take (r : ByteArray) (o : Nat) : (⟨(r.data.toList.take o).toArray⟩ : ByteArray) = r.extract 0 o := by
  apply ByteArray.ext
  rw [ByteArray.data_extract, ← Array.toList_inj, Array.toList_extract]
  simp [List.extract_eq_take_drop]
theorem ext_drop (r : ByteArray) (o : Nat) : (r.extract o r.size).data.toList = r.data.toList.drop o := by
  rw [ByteArray.data_extract, Array.toList_extract]
  have : r.data.toList.length = r.size := Array.length_toList
  rw [List.extract_eq_take_drop, List.take_of_length_le (by rw [List.length_drop]; omega)]
def digB (x : UInt8) : Bool := decide (48 ≤ x.toNat) && decide (x.toNat ≤ 57)
def dv (l : List UInt8) : Nat := l.foldl (fun n x => 10 * n + (x.toNat - 48)) 0
theorem dv_snoc (l : List UInt8) (x : UInt8) : dv (l ++ [x]) = 10 * dv l + (x.toNat - 48) := by simp [dv]
theorem dv_lt {l : List UInt8} (h : l.all digB = true) : dv l < 10 ^ l.length := by
  have key : ∀ (n : Nat) (l : List UInt8), l.length = n → l.all digB = true → dv l < 10 ^ n := by
    intro n
    induction n with
    | zero => intro l hl _; rw [List.eq_nil_of_length_eq_zero hl]; simp [dv]
    | succ n ih =>
      intro l hl h
      have hne : l ≠ [] := fun e => by rw [e] at hl; cases hl
      rw [← List.dropLast_concat_getLast hne] at h ⊢
      rw [List.all_append, Bool.and_eq_true] at h
      have h1 := ih l.dropLast (by rw [List.length_dropLast]; omega) h.1
      have h2 := h.2
      simp [digB] at h2
      rw [dv_snoc, Nat.pow_succ]
      omega
  exact key _ l rfl h

/-- A number's numeral. -/
def numS (u : Nat) : ByteArray := ⟨(Lib.decDigits u).toArray⟩

theorem pcs_len (c : UInt8) (l : List UInt8) : (pcs c l).length ≤ l.length + 1 := by
  induction l with
  | nil => simp [pcs]
  | cons x l ih =>
    have := List.length_pos_iff.2 (pcs_ne c l)
    unfold pcs
    split <;> simp <;> omega
theorem numS_small {u : Nat} (h : u < 10) : numS u = ⟨#[UInt8.ofNat (48 + u)]⟩ := by unfold numS; rw [Lib.decDigits, dif_pos h]
theorem numS_big {u : Nat} (h : ¬u < 10) : numS u = numS (u / 10) ++ ⟨#[UInt8.ofNat (48 + u % 10)]⟩ := by
  unfold numS
  rw [Lib.decDigits, dif_neg h]
  apply ByteArray.ext
  simp

theorem wrap_u32 {x : Int} (h0 : 0 ≤ x) (h : x < 4294967296) : IntKind.u32.wrap x = x := by
  simp [IntKind.wrap, IntKind.signed, IntKind.bits]
  omega
theorem wrap_u8 {x : Int} (h0 : 0 ≤ x) (h : x < 256) : IntKind.u8.wrap x = x := by
  simp [IntKind.wrap, IntKind.signed, IntKind.bits]
  omega
theorem join_snoc (xs : List (List UInt8)) (x sep : List UInt8) (h : xs ≠ []) : Lib.join (xs ++ [x]) sep = Lib.join xs sep ++ sep ++ x := by
  cases xs with
  | nil => exact (h rfl).elim
  | cons y ys =>
    rw [List.cons_append, Lib.join_cons, Lib.join_cons]
    simp [Lib.joinTail]
theorem snoc_ind {P : List UInt8 → Prop} (h0 : P []) (h : ∀ l x, P l → P (l ++ [x])) (l : List UInt8) : P l := by
  have key : ∀ (n : Nat) (l : List UInt8), l.length = n → P l := by
    intro n
    induction n with
    | zero => intro l hl; rw [List.eq_nil_of_length_eq_zero hl]; exact h0
    | succ n ih =>
      intro l hl
      have hne : l ≠ [] := fun e => by rw [e] at hl; cases hl
      rw [← List.dropLast_concat_getLast hne]
      exact h _ _ (ih _ (by rw [List.length_dropLast]; omega))
  exact key _ l rfl

theorem dd_small {u : Nat} (h : u < 10) : Lib.decDigits u = [UInt8.ofNat (48 + u)] := by rw [Lib.decDigits, dif_pos h]
theorem dd_big {u : Nat} (h : ¬u < 10) : Lib.decDigits u = Lib.decDigits (u / 10) ++ [UInt8.ofNat (48 + u % 10)] := by rw [Lib.decDigits, dif_neg h]
theorem of48 {d : Nat} (h : d < 10) : (UInt8.ofNat (48 + d)).toNat = 48 + d := by rw [UInt8.toNat_ofNat']; omega
theorem dd_dv (n : Nat) : ∀ u, u < n → dv (Lib.decDigits u) = u := by
  induction n with
  | zero => intro u h; omega
  | succ n ih =>
    intro u h
    by_cases h10 : u < 10
    · rw [dd_small h10]
      have := of48 h10
      simp only [dv, List.foldl_cons, List.foldl_nil, this]
      omega
    · rw [dd_big h10, dv_snoc, ih (u / 10) (by omega), of48 (by omega)]
      omega
theorem dd_all (n : Nat) : ∀ u, u < n → (Lib.decDigits u).all digB = true := by
  induction n with
  | zero => intro u h; omega
  | succ n ih =>
    intro u h
    by_cases h10 : u < 10
    · rw [dd_small h10]
      simp only [List.all_cons, List.all_nil, Bool.and_true, digB, of48 h10]
      simp
      omega
    · rw [dd_big h10, List.all_append, ih (u / 10) (by omega)]
      simp only [List.all_cons, List.all_nil, Bool.and_true, Bool.true_and, digB, of48 (show u % 10 < 10 by omega)]
      simp
      omega
theorem dd_ne (u : Nat) : Lib.decDigits u ≠ [] := by
  by_cases h10 : u < 10
  · rw [dd_small h10]; simp
  · rw [dd_big h10]; simp
theorem headD_app {p q : List UInt8} (h : p ≠ []) : (p ++ q).headD 0 = p.headD 0 := by
  cases p with
  | nil => exact (h rfl).elim
  | cons a r => rfl
theorem dd_head (n : Nat) : ∀ u, u < n → 1 ≤ u → (Lib.decDigits u).headD 0 ≠ 48 := by
  induction n with
  | zero => intro u h; omega
  | succ n ih =>
    intro u h h1
    by_cases h10 : u < 10
    · rw [dd_small h10]
      intro e
      have := congrArg UInt8.toNat e
      simp only [List.headD_cons] at this
      rw [of48 h10] at this
      have h48 : (48 : UInt8).toNat = 48 := rfl
      omega
    · rw [dd_big h10, headD_app (dd_ne _)]
      exact ih (u / 10) (by omega) (by omega)
theorem dd_len (k : Nat) : ∀ u, u < 10 ^ (k + 1) → (Lib.decDigits u).length ≤ k + 1 := by
  induction k with
  | zero => intro u h; rw [dd_small (by simpa using h)]; simp
  | succ k ih =>
    intro u h
    by_cases h10 : u < 10
    · rw [dd_small h10]; simp
    · rw [dd_big h10, List.length_append, List.length_singleton]
      have := ih (u / 10) (by rw [Nat.pow_succ] at h; omega)
      omega
theorem dv_pos (p : List UInt8) : p ≠ [] → p.all digB = true → p.headD 0 ≠ 48 → 1 ≤ dv p := by
  refine snoc_ind (P := fun p => p ≠ [] → p.all digB = true → p.headD 0 ≠ 48 → 1 ≤ dv p) (fun h => (h rfl).elim) (fun l x ih _ ha hh => ?_) p
  rw [List.all_append, Bool.and_eq_true] at ha
  rw [dv_snoc]
  by_cases hl : l = []
  · subst hl
    have h2 := ha.2
    simp [digB] at h2
    have : x.toNat ≠ 48 := fun e => hh (by simpa using UInt8.toNat_inj.1 (show x.toNat = (48 : UInt8).toNat from e))
    omega
  · have := ih hl ha.1 (by rwa [headD_app hl] at hh)
    omega
theorem canon (p : List UInt8) : p ≠ [] → p.all digB = true → ¬(1 < p.length ∧ p.headD 0 = 48) → Lib.decDigits (dv p) = p := by
  refine snoc_ind (P := fun p => p ≠ [] → p.all digB = true → ¬(1 < p.length ∧ p.headD 0 = 48) → Lib.decDigits (dv p) = p) (fun h => (h rfl).elim) (fun l x ih _ ha hh => ?_) p
  rw [List.all_append, Bool.and_eq_true] at ha
  have h2 := ha.2
  simp [digB] at h2
  have hx : UInt8.ofNat (48 + (x.toNat - 48)) = x := by
    apply UInt8.toNat_inj.1
    rw [of48 (by omega)]
    omega
  rw [dv_snoc]
  by_cases hl : l = []
  · subst hl
    have e : 10 * dv [] + (x.toNat - 48) = x.toNat - 48 := by simp [dv]
    rw [e, dd_small (by omega), hx]
    rfl
  · have hlen := List.length_pos_iff.2 hl
    have hh2 : l.headD 0 ≠ 48 := fun e => hh ⟨by rw [List.length_append, List.length_singleton]; omega, by rw [headD_app hl]; exact e⟩
    have h1 := dv_pos l hl ha.1 hh2
    rw [dd_big (by omega), show (10 * dv l + (x.toNat - 48)) / 10 = dv l by omega, show (10 * dv l + (x.toNat - 48)) % 10 = x.toNat - 48 by omega, hx, ih hl ha.1 (fun h => hh2 h.2)]
theorem pcs_sep (c : UInt8) (y l : List UInt8) (h : ∀ b ∈ y, b ≠ c) : pcs c (y ++ c :: l) = y :: pcs c l := by
  rw [pcs_some c _ y.length (by simp) (fun k hk e => by
    rw [List.getElem?_append_left hk] at e
    exact h c (List.mem_of_getElem? e) rfl)]
  simp
theorem pcs_join (ws : List (List UInt8)) (hne : ws ≠ []) (h : ∀ p ∈ ws, ∀ b ∈ p, b ≠ 32) : pcs 32 (Lib.join ws [32]) = ws := by
  induction ws with
  | nil => exact (hne rfl).elim
  | cons y r ih =>
    cases r with
    | nil =>
      rw [Lib.join_one]
      exact pcs_none 32 y (fun k e => h y (by simp) 32 (List.mem_of_getElem? e) rfl)
    | cons z r =>
      have e : Lib.join (y :: z :: r) [32] = y ++ 32 :: Lib.join (z :: r) [32] := by
        rw [Lib.join_cons, Lib.join_cons]
        simp [Lib.joinTail]
      rw [e, pcs_sep 32 _ _ (h y (by simp)), ih (by simp) (fun p hp => h p (by simp [hp]))]
theorem join_pcs (l : List UInt8) : Lib.join (pcs 32 l) [32] = l := by
  induction l with
  | nil => simp [pcs, Lib.join]
  | cons x l ih =>
    have hn := pcs_ne 32 l
    unfold pcs
    cases hp : pcs 32 l with
    | nil => exact (hn hp).elim
    | cons p ps =>
      rw [hp, Lib.join_cons] at ih
      split
      · rename_i hx
        subst hx
        rw [Lib.join_cons]
        simp only [Lib.joinTail, List.map_cons, List.flatten_cons] at ih ⊢
        simpa using ih
      · rw [Lib.join_cons]
        simp [ih]


end Go.Proofs.YtfgmebjbibbpdaaGreatDoor

namespace Go.Proofs.YtfgmebjbibbpdaaGreatDoor
open Go.RowKit Go.Sort Go.Lib

theorem lt_grow {w : World} {B : Nat} (k : Nat) (os : Array Obj) (hB : B ≤ w.heap.size) : Below B w (grow (w.drewN k) os) := by
  refine ⟨rfl, rfl, rfl, ?_, fun i hi => ?_⟩
  · show w.heap.size ≤ (w.heap ++ os).size
    rw [Array.size_append]; omega
  · show (w.heap ++ os)[i]? = w.heap[i]?
    rw [Array.getElem?_append_left (by omega)]


def Tab (w : World) : Prop := Lib.TabIs Tryz.prog w "internal/strconv.uint64pow10" .u64 Lib.pow10Tab
theorem Tab.below {w w' : World} (h : Tab w) (hb : Below w.heap.size w w') : Tab w' := Lib.tabBelow_of_tabIs h w' hb

end Go.Proofs.YtfgmebjbibbpdaaGreatDoor

namespace Go.Proofs.YtfgmebjbibbpdaaGreatDoor
open Go.RowKit Go.Sort Go.Lib

theorem itoa_any (n : Int) (w : World) (h0 : 0 ≤ n) (h1 : n ≤ 9223372036854775807) (hT : Tab w) :
    Calls Tryz.prog 76 #[.int .i64 n] w fun e w' => e = .returned (.string (numS n.toNat)) ∧ Below w.heap.size w w' :=
  (Tryz.strconv_Itoa n (by omega) h1 w hT).mono fun e w' ⟨he, k, os, hw⟩ => by
    subst he hw
    refine ⟨?_, lt_grow k os (Nat.le_refl _)⟩
    unfold Lib.itoa numS
    rw [if_neg (by omega)]

end Go.Proofs.YtfgmebjbibbpdaaGreatDoor

namespace Go.Proofs.YtfgmebjbibbpdaaGreatDoor
open Go.RowKit

theorem strTy : ElemTy Tryz.prog 70 9 1 16 := ElemTy.of (z := .string ByteArray.empty) Tryz.underlying70 (by kernel_rfl) rfl (by omega)

end Go.Proofs.YtfgmebjbibbpdaaGreatDoor

namespace Go.Proofs.YtfgmebjbibbpdaaGreatDoor
open Go.RowKit

def headB (l : List UInt8) : Bool := decide (l.length ≠ 0 ∧ l.length ≤ 10 ∧ ¬(1 < l.length ∧ l.headD 0 = 48))
def numB (l : List UInt8) : Bool := headB l && (l.all digB && decide (dv l < 4294967296))
theorem numB_head {l : List UInt8} (h : ¬(l.length ≠ 0 ∧ l.length ≤ 10 ∧ ¬(1 < l.length ∧ l.headD 0 = 48))) : numB l = false := by
  have : headB l = false := decide_eq_false h
  unfold numB
  rw [this]
  rfl
theorem numB_dig {l : List UInt8} {k : Nat} {x : UInt8} (hx : l[k]? = some x) (hd : ¬(48 ≤ x.toNat ∧ x.toNat ≤ 57)) : numB l = false := by
  have : l.all digB = false := by
    rw [List.all_eq_false]
    refine ⟨x, List.mem_of_getElem? hx, ?_⟩
    simp only [digB, Bool.and_eq_true, decide_eq_true_eq]
    exact hd
  unfold numB
  rw [this]
  simp
theorem numB_all {l : List UInt8} (h : headB l = true) (ha : l.all digB = true) : numB l = decide ((dv l : Int) < 4294967296) := by
  unfold numB
  rw [h, ha, Bool.true_and, Bool.true_and]
  exact decide_eq_decide.2 (by omega)

end Go.Proofs.YtfgmebjbibbpdaaGreatDoor

namespace Go.Proofs.YtfgmebjbibbpdaaGreatDoor
open Go.RowKit

structure Ins where
  op : Int
  a : Int
  b : Int
  c : Int
  n : Int
  deriving DecidableEq

def Ins.ok (e : Ins) : Prop := (Lit.int .i64 e.op).wf = true ∧ (Lit.int .i64 e.a).wf = true ∧ (Lit.int .i64 e.b).wf = true ∧ (Lit.int .i64 e.c).wf = true ∧ (Lit.int .u32 e.n).wf = true
def Ins.cells (e : Ins) : List Value := [.int .i64 e.op, .int .i64 e.a, .int .i64 e.b, .int .i64 e.c, .int .u32 e.n]
def Ins.zero : Ins := ⟨0, 0, 0, 0, 0⟩
def insE : Enc Ins := ⟨Ins.cells, 5, fun _ => rfl, fun x u hu => by
  simp only [Ins.cells, List.mem_cons, List.not_mem_nil, or_false] at hu
  rcases hu with rfl | rfl | rfl | rfl | rfl <;> rfl, by omega⟩
theorem u32_of {n : Int} (h : (Lit.int .u32 n).wf = true) : 0 ≤ n ∧ n < 4294967296 := by
  simp [Lit.wf, IntKind.min, IntKind.max, IntKind.signed, IntKind.bits] at h
  omega
theorem u32_to {n : Int} (h0 : 0 ≤ n) (h : n < 4294967296) : (Lit.int .u32 n).wf = true := by
  simp [Lit.wf, IntKind.min, IntKind.max, IntKind.signed, IntKind.bits]
  omega
theorem i64_to {n : Int} (h0 : -1000000000000 ≤ n) (h : n < 1000000000000) : (Lit.int .i64 n).wf = true := by
  simp [Lit.wf, IntKind.min, IntKind.max, IntKind.signed, IntKind.bits]
  omega

def InSl (w : World) (B : Nat) (A : Option Addr) (l : List Ins) : Prop := SlOf insE w B A l ∧ ∀ e ∈ l, e.ok
theorem InSl.below {w w' : World} {B B' : Nat} {A : Option Addr} {l : List Ins} (h : InSl w B A l) (hb : Below B w w') (hB : B ≤ B') : InSl w' B' A l := ⟨h.1.below hb hB, h.2⟩
theorem InSl.get {w : World} {B : Nat} {A : Option Addr} {l : List Ins} (h : InSl w B A l) {k : Nat} {e : Ins} (hk : l[k]? = some e) : e.ok ∧ ∃ b off, A = some ⟨b, off, none⟩ ∧ b < B ∧
    w.cell? ⟨b, off + k * 5, none⟩ = some (.int .i64 e.op) ∧
    w.cell? ⟨b, off + k * 5 + 1, none⟩ = some (.int .i64 e.a) ∧
    w.cell? ⟨b, off + k * 5 + 2, none⟩ = some (.int .i64 e.b) ∧
    w.cell? ⟨b, off + k * 5 + 3, none⟩ = some (.int .i64 e.c) ∧
    w.cell? ⟨b, off + k * 5 + 4, none⟩ = some (.int .u32 e.n) := by
  obtain ⟨b, off, hA, hlt, hc⟩ := h.1 k e hk
  exact ⟨h.2 e (List.mem_of_getElem? hk), b, off, hA, hlt, hc 0 _ rfl, hc 1 _ rfl, hc 2 _ rfl, hc 3 _ rfl, hc 4 _ rfl⟩

/-! ### kinds -/
structure Sh where
  w : List UInt8
  a : Int
  b : Int
  c : Int
  n : Int
def shs : List Sh := [⟨[110, 111, 112], 0, 0, 0, 0⟩, ⟨[115, 101, 116], 1, 0, 0, 6⟩, ⟨[109, 111, 118, 101], 1, 1, 0, 0⟩,
  ⟨[97, 100, 100], 1, 1, 1, 0⟩, ⟨[115, 117, 98], 1, 1, 1, 0⟩, ⟨[109, 117, 108], 1, 1, 1, 0⟩, ⟨[97, 110, 100], 1, 1, 1, 0⟩, ⟨[111, 114], 1, 1, 1, 0⟩, ⟨[120, 111, 114], 1, 1, 1, 0⟩, ⟨[108, 101, 115, 115], 1, 1, 1, 0⟩, ⟨[101, 113, 117, 97, 108], 1, 1, 1, 0⟩,
  ⟨[108, 111, 97, 100], 1, 1, 0, 6⟩, ⟨[115, 116, 111, 114, 101], 1, 1, 0, 6⟩, ⟨[99, 97, 115], 1, 1, 1, 6⟩, ⟨[106, 117, 109, 112], 0, 0, 0, 4⟩, ⟨[122, 101, 114, 111], 1, 0, 0, 4⟩, ⟨[98, 97, 99, 107], 0, 0, 3, 4⟩,
  ⟨[114, 101, 97, 100], 1, 2, 0, 5⟩, ⟨[119, 114, 105, 116, 101], 1, 2, 0, 5⟩, ⟨[112, 117, 116], 1, 2, 0, 5⟩, ⟨[116, 97, 107, 101], 1, 2, 0, 5⟩, ⟨[100, 111, 110, 101], 0, 0, 0, 0⟩]
def shOf (op : Int) : Sh := shs.getD op.toNat ⟨[], 0, 0, 0, 0⟩
def known (op : Int) : Bool := decide (0 ≤ op) && decide (op < 22)
def fitB (k n : Int) : Bool := if k = 0 then n == 0 else if k = 1 then decide (0 ≤ n) && decide (n < 8) else if k = 2 then decide (0 ≤ n) && decide (n < 8) else if k = 3 then decide (1 ≤ n) && decide (n ≤ 255) else if k = 4 then decide (n < 64) else if k = 5 then decide (n < 64) else true
def insB (i : Ins) : Bool := known i.op && (fitB (shOf i.op).a i.a && fitB (shOf i.op).b i.b && fitB (shOf i.op).c i.c && fitB (shOf i.op).n i.n)

theorem known_iff {op : Int} : known op = true ↔ 0 ≤ op ∧ op < 22 := by unfold known; rw [Bool.and_eq_true, decide_eq_true_iff, decide_eq_true_iff]
theorem known_cases {op : Int} (h : known op = true) : op = 0 ∨ op = 1 ∨ op = 2 ∨ (3 ≤ op ∧ op ≤ 10) ∨ op = 11 ∨ op = 12 ∨ op = 13 ∨ op = 14 ∨ op = 15 ∨ op = 16 ∨ (17 ≤ op ∧ op ≤ 20) ∨ op = 21 := by
  have := known_iff.1 h
  omega
/-- All kinds, by their numbers. -/
theorem op_all {P : Int → Prop} (h : ∀ k : Nat, k < 22 → P k) (op : Int) (hk : known op = true) : P op := by
  have := known_iff.1 hk
  have h2 := h op.toNat (by omega)
  rwa [show ((op.toNat : Nat) : Int) = op by omega] at h2

/-- A kind's operands. -/
def opsL (i : Ins) : List (List UInt8 × Int) :=
  if i.op = 1 then [([114], i.a), ([], i.n)]
  else if i.op = 2 then [([114], i.a), ([114], i.b)]
  else if 3 ≤ i.op ∧ i.op ≤ 10 then [([114], i.a), ([114], i.b), ([114], i.c)]
  else if i.op = 11 ∨ i.op = 12 then [([114], i.a), ([114], i.b), ([], i.n)]
  else if i.op = 13 then [([114], i.a), ([114], i.b), ([114], i.c), ([], i.n)]
  else if i.op = 14 then [([], i.n)]
  else if i.op = 15 then [([114], i.a), ([], i.n)]
  else if i.op = 16 then [([], i.n), ([], i.c)]
  else if 17 ≤ i.op ∧ i.op ≤ 20 then [([114], i.a), ([111], i.b), ([], i.n)]
  else []
def partL (p : List UInt8 × Int) : List UInt8 := p.1 ++ Lib.decDigits p.2.toNat
def partsL (i : Ins) : List (List UInt8) := (shOf i.op).w :: (opsL i).map partL
def lineL (i : Ins) : List UInt8 := Lib.join (partsL i) [32]
def lineS (i : Ins) : ByteArray := ⟨(lineL i).toArray⟩

/-! ### what a line may be of -/
def trimRO (l : List UInt8) : List UInt8 := l.dropWhile fun x => x == 114 || x == 111
def numI (l : List UInt8) : Int := if numB l = true then (dv l : Int) else 0
def wordAt (ps : List (List UInt8)) (k : Nat) : Int := if k < ps.length then numI (trimRO (ps.getD k [])) else 0
def kindOf (w : List UInt8) : Int := ((shs.findIdx? fun s => s.w == w).getD 0 : Nat)
def guessL (ps : List (List UInt8)) : Ins :=
  let op := kindOf (ps.getD 0 [])
  if op = 16 then ⟨op, 0, 0, wordAt ps 2, wordAt ps 1⟩
  else if op = 14 then ⟨op, 0, 0, 0, wordAt ps 1⟩
  else if op = 1 ∨ op = 15 then ⟨op, wordAt ps 1, 0, 0, wordAt ps 2⟩
  else if op = 2 then ⟨op, wordAt ps 1, wordAt ps 2, 0, 0⟩
  else if 3 ≤ op ∧ op ≤ 10 then ⟨op, wordAt ps 1, wordAt ps 2, wordAt ps 3, 0⟩
  else if op = 13 then ⟨op, wordAt ps 1, wordAt ps 2, wordAt ps 3, wordAt ps 4⟩
  else if op ≠ 0 ∧ op ≠ 21 then ⟨op, wordAt ps 1, wordAt ps 2, 0, wordAt ps 3⟩
  else ⟨op, 0, 0, 0, 0⟩
def guess (s : List UInt8) : Ins := guessL (pcs 32 s)
def readI (s : List UInt8) : Option Ins := if insB (guess s) = true ∧ lineL (guess s) = s then some (guess s) else none

theorem numI_bd (l : List UInt8) : 0 ≤ numI l ∧ numI l < 4294967296 := by
  unfold numI
  split
  · rename_i h
    unfold numB headB at h
    simp only [Bool.and_eq_true, decide_eq_true_iff] at h
    omega
  · omega
theorem wordAt_bd (ps : List (List UInt8)) (k : Nat) : 0 ≤ wordAt ps k ∧ wordAt ps k < 4294967296 := by
  unfold wordAt
  split
  · exact numI_bd _
  · omega

/-! ### the line's parts come back -/
theorem dd_numB {u : Nat} (h : u < 4294967296) : numB (Lib.decDigits u) = true := by
  have h1 := dd_len 9 u (by omega)
  have h2 := dd_all (u + 1) u (by omega)
  have h3 := dd_dv (u + 1) u (by omega)
  have h4 := dd_ne u
  have h5 : ¬(1 < (Lib.decDigits u).length ∧ (Lib.decDigits u).headD 0 = 48) := by
    rintro ⟨g1, g2⟩
    by_cases hu : 1 ≤ u
    · exact dd_head (u + 1) u (by omega) hu g2
    · rw [dd_small (show u < 10 by omega)] at g1
      simp at g1
  unfold numB headB
  simp only [h2, h3, decide_eq_true h, Bool.and_true, decide_eq_true_iff]
  exact ⟨fun e => h4 (List.eq_nil_of_length_eq_zero e), h1, h5⟩
theorem dd_numI {z : Int} (h0 : 0 ≤ z) (h : z < 4294967296) : numI (Lib.decDigits z.toNat) = z := by
  unfold numI
  rw [if_pos (dd_numB (by omega)), dd_dv (z.toNat + 1) _ (by omega)]
  omega
theorem trim_dd (u : Nat) : trimRO (Lib.decDigits u) = Lib.decDigits u := by
  unfold trimRO
  cases h : Lib.decDigits u with
  | nil => rfl
  | cons x r =>
    have := List.all_eq_true.1 (dd_all (u + 1) u (by omega)) x (by rw [h]; simp)
    unfold digB at this
    simp only [Bool.and_eq_true, decide_eq_true_iff] at this
    have h1 : (x == 114) = false := by rw [beq_eq_false_iff_ne]; rintro rfl; simp at this
    have h2 : (x == 111) = false := by rw [beq_eq_false_iff_ne]; rintro rfl; simp at this
    rw [List.dropWhile_cons, h1, h2]
    rfl
def letterB (l : List UInt8) : Prop := l = [] ∨ l = [114] ∨ l = [111]
theorem part_num {l : List UInt8} (hl : letterB l) {z : Int} (h0 : 0 ≤ z) (h : z < 4294967296) : numI (trimRO (partL (l, z))) = z := by
  have : trimRO (partL (l, z)) = Lib.decDigits z.toNat := by
    rcases hl with rfl | rfl | rfl
    · exact trim_dd _
    · show trimRO (114 :: Lib.decDigits z.toNat) = _
      unfold trimRO
      rw [List.dropWhile_cons, if_pos (by decide)]
      exact trim_dd _
    · show trimRO (111 :: Lib.decDigits z.toNat) = _
      unfold trimRO
      rw [List.dropWhile_cons, if_pos (by decide)]
      exact trim_dd _
  rw [this, dd_numI h0 h]
theorem opsL_letter (i : Ins) : ∀ p ∈ opsL i, letterB p.1 := by
  intro p hp
  unfold opsL at hp
  repeat' split at hp
  all_goals
    simp only [List.mem_cons, List.not_mem_nil, or_false] at hp
  all_goals
    first
      | exact hp.elim
      | (rcases hp with rfl | rfl | rfl | rfl <;> simp [letterB])
      | (rcases hp with rfl | rfl | rfl <;> simp [letterB])
      | (rcases hp with rfl | rfl <;> simp [letterB])
      | (subst hp; simp [letterB])
theorem dd_not (c : UInt8) (hc : digB c = false) (u : Nat) : ∀ b ∈ Lib.decDigits u, b ≠ c := fun b hb e => by
  have := List.all_eq_true.1 (dd_all (u + 1) u (by omega)) b hb
  rw [e, hc] at this
  cases this
theorem sh_not (c : UInt8) (h : (shs.all fun s => s.w.all fun b => b != c) = true) (op : Int) : ∀ b ∈ (shOf op).w, b ≠ c := fun b hb e => by
  unfold shOf at hb
  rw [List.getD_eq_getElem?_getD] at hb
  cases hw : shs[op.toNat]? with
  | none => rw [hw] at hb; cases hb
  | some x =>
    rw [hw] at hb
    have := List.all_eq_true.1 (List.all_eq_true.1 h x (List.mem_of_getElem? hw)) b hb
    rw [e] at this
    simp at this
theorem parts_not (c : UInt8) (hc : digB c = false) (h1 : c ≠ 114) (h2 : c ≠ 111) (h : (shs.all fun s => s.w.all fun b => b != c) = true) (i : Ins) : ∀ p ∈ partsL i, ∀ b ∈ p, b ≠ c := by
  intro p hp
  unfold partsL at hp
  rcases List.mem_cons.1 hp with rfl | hp
  · exact sh_not c h _
  · obtain ⟨q, hq, rfl⟩ := List.mem_map.1 hp
    intro b hb
    unfold partL at hb
    rcases List.mem_append.1 hb with hb | hb
    · rcases opsL_letter i q hq with e | e | e <;> rw [e] at hb
      · cases hb
      · rw [List.mem_singleton.1 hb]; exact fun e => h1 e.symm
      · rw [List.mem_singleton.1 hb]; exact fun e => h2 e.symm
    · exact dd_not c hc _ b hb
theorem line_pcs (i : Ins) : pcs 32 (lineL i) = partsL i := pcs_join _ (by simp [partsL]) (parts_not 32 (by decide) (by decide) (by decide) (by decide) i)
theorem kind_word (op : Int) (h : known op = true) : kindOf (shOf op).w = op := by
  refine op_all (P := fun op => kindOf (shOf op).w = op) ?_ op h
  decide

/-- Its numbers, of a right one. -/
theorem ins_bd {i : Ins} (h : insB i = true) (hn : i.ok) : known i.op = true ∧ fitB (shOf i.op).a i.a = true ∧ fitB (shOf i.op).b i.b = true ∧ fitB (shOf i.op).c i.c = true ∧ fitB (shOf i.op).n i.n = true ∧ 0 ≤ i.n ∧ i.n < 4294967296 := by
  unfold insB at h
  simp only [Bool.and_eq_true] at h
  obtain ⟨h1, ⟨⟨h2, h3⟩, h4⟩, h5⟩ := h
  exact ⟨h1, h2, h3, h4, h5, u32_of hn.2.2.2.2⟩
theorem fit0 {n : Int} (h : fitB 0 n = true) : n = 0 := by simpa [fitB] using h
theorem fit1 {n : Int} (h : fitB 1 n = true) : 0 ≤ n ∧ n < 8 := by simpa [fitB] using h
theorem fit2 {n : Int} (h : fitB 2 n = true) : 0 ≤ n ∧ n < 8 := by simpa [fitB] using h
theorem fit3 {n : Int} (h : fitB 3 n = true) : 1 ≤ n ∧ n ≤ 255 := by simpa [fitB] using h
theorem sh_mid (k : Int) (h : 3 ≤ k ∧ k ≤ 10) : (shOf k).a = 1 ∧ (shOf k).b = 1 ∧ (shOf k).c = 1 ∧ (shOf k).n = 0 := by
  have : k = 3 ∨ k = 4 ∨ k = 5 ∨ k = 6 ∨ k = 7 ∨ k = 8 ∨ k = 9 ∨ k = 10 := by omega
  rcases this with rfl | rfl | rfl | rfl | rfl | rfl | rfl | rfl <;> decide
theorem sh_end (k : Int) (h : 17 ≤ k ∧ k ≤ 20) : (shOf k).a = 1 ∧ (shOf k).b = 2 ∧ (shOf k).c = 0 ∧ (shOf k).n = 5 := by
  have : k = 17 ∨ k = 18 ∨ k = 19 ∨ k = 20 := by omega
  rcases this with rfl | rfl | rfl | rfl <;> decide

/-- The shapes of right ones. -/
inductive Shaped : Ins → Prop
  | none (op) (h : op = 0 ∨ op = 21) : Shaped ⟨op, 0, 0, 0, 0⟩
  | set (op a n) (h : op = 1 ∨ op = 15) (ha : 0 ≤ a ∧ a < 8) : Shaped ⟨op, a, 0, 0, n⟩
  | move (a b) (ha : 0 ≤ a ∧ a < 8) (hb : 0 ≤ b ∧ b < 8) : Shaped ⟨2, a, b, 0, 0⟩
  | three (op a b c) (h : 3 ≤ op ∧ op ≤ 10) (ha : 0 ≤ a ∧ a < 8) (hb : 0 ≤ b ∧ b < 8) (hc : 0 ≤ c ∧ c < 8) : Shaped ⟨op, a, b, c, 0⟩
  | load (op a b n) (h : op = 11 ∨ op = 12) (ha : 0 ≤ a ∧ a < 8) (hb : 0 ≤ b ∧ b < 8) : Shaped ⟨op, a, b, 0, n⟩
  | cas (a b c n) (ha : 0 ≤ a ∧ a < 8) (hb : 0 ≤ b ∧ b < 8) (hc : 0 ≤ c ∧ c < 8) : Shaped ⟨13, a, b, c, n⟩
  | jump (n) : Shaped ⟨14, 0, 0, 0, n⟩
  | back (c n) (hc : 1 ≤ c ∧ c ≤ 255) : Shaped ⟨16, 0, 0, c, n⟩
  | call (op a b n) (h : 17 ≤ op ∧ op ≤ 20) (ha : 0 ≤ a ∧ a < 8) (hb : 0 ≤ b ∧ b < 8) : Shaped ⟨op, a, b, 0, n⟩
theorem shaped {i : Ins} (h : insB i = true) (hn : i.ok) : Shaped i := by
  obtain ⟨hk, ha, hb, hc, hN, n0, n1⟩ := ins_bd h hn
  obtain ⟨op, a, b, c, n⟩ := i
  simp only at hk ha hb hc hN n0 n1
  rcases known_cases hk with rfl | rfl | rfl | ho | rfl | rfl | rfl | rfl | rfl | rfl | ho | rfl
  · obtain rfl := fit0 ha; obtain rfl := fit0 hb; obtain rfl := fit0 hc; obtain rfl := fit0 hN
    exact .none _ (.inl rfl)
  · obtain rfl := fit0 hb; obtain rfl := fit0 hc
    exact .set _ _ _ (.inl rfl) (fit1 ha)
  · obtain rfl := fit0 hc; obtain rfl := fit0 hN
    exact .move _ _ (fit1 ha) (fit1 hb)
  · obtain ⟨e1, e2, e3, e4⟩ := sh_mid op ho
    rw [e1] at ha; rw [e2] at hb; rw [e3] at hc; rw [e4] at hN
    obtain rfl := fit0 hN
    exact .three _ _ _ _ ho (fit1 ha) (fit1 hb) (fit1 hc)
  · obtain rfl := fit0 hc
    exact .load _ _ _ _ (.inl rfl) (fit1 ha) (fit1 hb)
  · obtain rfl := fit0 hc
    exact .load _ _ _ _ (.inr rfl) (fit1 ha) (fit1 hb)
  · exact .cas _ _ _ _ (fit1 ha) (fit1 hb) (fit1 hc)
  · obtain rfl := fit0 ha; obtain rfl := fit0 hb; obtain rfl := fit0 hc
    exact .jump _
  · obtain rfl := fit0 hb; obtain rfl := fit0 hc
    exact .set _ _ _ (.inr rfl) (fit1 ha)
  · obtain rfl := fit0 ha; obtain rfl := fit0 hb
    exact .back _ _ (fit3 hc)
  · obtain ⟨e1, e2, e3, e4⟩ := sh_end op ho
    rw [e1] at ha; rw [e2] at hb; rw [e3] at hc
    obtain rfl := fit0 hc
    exact .call _ _ _ _ ho (fit1 ha) (fit2 hb)
  · obtain rfl := fit0 ha; obtain rfl := fit0 hb; obtain rfl := fit0 hc; obtain rfl := fit0 hN
    exact .none _ (.inr rfl)

theorem at1 (w p : List UInt8) (r : List (List UInt8)) : wordAt (w :: p :: r) 1 = numI (trimRO p) := by simp [wordAt]
theorem at2 (w p q : List UInt8) (r : List (List UInt8)) : wordAt (w :: p :: q :: r) 2 = numI (trimRO q) := by simp [wordAt]
theorem at3 (w p q x : List UInt8) (r : List (List UInt8)) : wordAt (w :: p :: q :: x :: r) 3 = numI (trimRO x) := by simp [wordAt]
theorem at4 (w p q x y : List UInt8) (r : List (List UInt8)) : wordAt (w :: p :: q :: x :: y :: r) 4 = numI (trimRO y) := by simp [wordAt]
theorem lr : letterB [114] := .inr (.inl rfl)
theorem lo : letterB [111] := .inr (.inr rfl)
theorem le : letterB [] := .inl rfl

theorem guess_line {i : Ins} (h : insB i = true) (hn : i.ok) : guess (lineL i) = i := by
  unfold guess
  rw [line_pcs]
  obtain ⟨hk, -, -, -, -, n0, n1⟩ := ins_bd h hn
  have hkw := kind_word _ hk
  cases shaped h hn with
  | none op ho =>
    unfold partsL guessL
    simp only [List.getD_cons_zero, hkw]
    rcases ho with rfl | rfl <;> simp
  | set op a n ho ha =>
    unfold partsL guessL
    simp only [List.getD_cons_zero, hkw]
    rcases ho with rfl | rfl <;> simp [opsL, at1, at2, part_num lr ha.1 (show a < 4294967296 by omega), part_num le n0 n1]
  | move a b ha hb =>
    unfold partsL guessL
    simp only [List.getD_cons_zero, hkw]
    simp [opsL, at1, at2, part_num lr ha.1 (show a < 4294967296 by omega), part_num lr hb.1 (show b < 4294967296 by omega)]
  | three op a b c ho ha hb hc =>
    unfold partsL guessL
    simp only [List.getD_cons_zero, hkw]
    have e1 : ¬ op = 16 := by omega
    have e2 : ¬ op = 14 := by omega
    have e3 : ¬ (op = 1 ∨ op = 15) := by omega
    have e4 : ¬ op = 2 := by omega
    have e5 : ¬ op = 1 := by omega
    have e6 : ¬ op = 15 := by omega
    simp [opsL, e1, e2, e4, e5, e6, ho, at1, at2, at3, part_num lr ha.1 (show a < 4294967296 by omega), part_num lr hb.1 (show b < 4294967296 by omega), part_num lr hc.1 (show c < 4294967296 by omega)]
  | load op a b n ho ha hb =>
    unfold partsL guessL
    simp only [List.getD_cons_zero, hkw]
    rcases ho with rfl | rfl <;> simp [opsL, at1, at2, at3, part_num lr ha.1 (show a < 4294967296 by omega), part_num lr hb.1 (show b < 4294967296 by omega), part_num le n0 n1]
  | cas a b c n ha hb hc =>
    unfold partsL guessL
    simp only [List.getD_cons_zero, hkw]
    simp [opsL, at1, at2, at3, at4, part_num lr ha.1 (show a < 4294967296 by omega), part_num lr hb.1 (show b < 4294967296 by omega), part_num lr hc.1 (show c < 4294967296 by omega), part_num le n0 n1]
  | jump n =>
    unfold partsL guessL
    simp only [List.getD_cons_zero, hkw]
    simp [opsL, at1, part_num le n0 n1]
  | back c n hc =>
    unfold partsL guessL
    simp only [List.getD_cons_zero, hkw]
    simp [opsL, at1, at2, part_num le n0 n1, part_num le (show 0 ≤ c by omega) (show c < 4294967296 by omega)]
  | call op a b n ho ha hb =>
    unfold partsL guessL
    simp only [List.getD_cons_zero, hkw]
    have e1 : ¬ op = 16 := by omega
    have e2 : ¬ op = 14 := by omega
    have e3 : ¬ (op = 1 ∨ op = 15) := by omega
    have e4 : ¬ op = 2 := by omega
    have e5 : ¬ (3 ≤ op ∧ op ≤ 10) := by omega
    have e6 : ¬ op = 13 := by omega
    have e7 : ¬ op = 0 := by omega
    have e8 : ¬ op = 21 := by omega
    have e9 : ¬ op = 1 := by omega
    have e10 : ¬ (op = 11 ∨ op = 12) := by omega
    have e11 : ¬ op = 15 := by omega
    simp [opsL, e1, e2, e4, e5, e6, e7, e8, e9, e10, e11, ho, at1, at2, at3, part_num lr ha.1 (show a < 4294967296 by omega), part_num lo hb.1 (show b < 4294967296 by omega), part_num le n0 n1]

theorem guess_ok (s : List UInt8) : (guess s).ok := by
  have w1 := wordAt_bd (pcs 32 s) 1
  have w2 := wordAt_bd (pcs 32 s) 2
  have w3 := wordAt_bd (pcs 32 s) 3
  have w4 := wordAt_bd (pcs 32 s) 4
  have hk : 0 ≤ kindOf ((pcs 32 s).getD 0 []) ∧ kindOf ((pcs 32 s).getD 0 []) < 100 := by
    unfold kindOf
    refine ⟨Int.natCast_nonneg _, ?_⟩
    cases h : shs.findIdx? fun x => x.w == (pcs 32 s).getD 0 [] with
    | none => decide
    | some k =>
      have := (List.findIdx?_eq_some_iff_getElem.1 h).1
      have h22 : shs.length = 22 := rfl
      show ((k : Nat) : Int) < 100
      omega
  have z : (Lit.int .i64 0).wf = true := by decide
  have zn : (Lit.int .u32 0).wf = true := by decide
  have g : ∀ k, (Lit.int .i64 (wordAt (pcs 32 s) k)).wf = true := fun k => i64_to (by have := wordAt_bd (pcs 32 s) k; omega) (by have := wordAt_bd (pcs 32 s) k; omega)
  have gn : ∀ k, (Lit.int .u32 (wordAt (pcs 32 s) k)).wf = true := fun k => u32_to (wordAt_bd _ _).1 (wordAt_bd _ _).2
  have go : (Lit.int .i64 (kindOf ((pcs 32 s).getD 0 []))).wf = true := i64_to (by omega) (by omega)
  unfold guess guessL Ins.ok
  simp only
  repeat' split
  all_goals (refine ⟨go, ?_, ?_, ?_, ?_⟩ <;> first | exact z | exact zn | exact g _ | exact gn _)

theorem read_line {i : Ins} (h : insB i = true) (hn : i.ok) : readI (lineL i) = some i := by
  unfold readI
  rw [guess_line h hn, if_pos ⟨h, rfl⟩]
theorem readI_some {s : List UInt8} {i : Ins} (h : readI s = some i) : insB i = true ∧ lineL i = s ∧ i.ok := by
  unfold readI at h
  split at h
  · rename_i hc
    injection h with h
    subst h
    exact ⟨hc.1, hc.2, guess_ok s⟩
  · cases h

/-! ### the reference's way: each way to tell its numbers is tried -/
def cands (op a b c n1 n2 n3 n4 : Int) : List Ins := [⟨op, 0, 0, 0, 0⟩, ⟨op, a, 0, 0, n2⟩, ⟨op, a, b, 0, 0⟩, ⟨op, a, b, c, 0⟩, ⟨op, a, b, 0, n3⟩, ⟨op, a, b, c, n4⟩, ⟨op, 0, 0, 0, n1⟩, ⟨op, 0, 0, b, n1⟩]
def fitsS (s : List UInt8) (i : Ins) : Bool := insB i && decide (lineL i = s)
/-- The reference's number of a part: a letter ahead is left out. -/
def dropRO (l : List UInt8) : List UInt8 := if l.headD 0 = 114 ∨ l.headD 0 = 111 then l.tail else l
def rnum (l : List UInt8) : Int := if l.all digB = true ∧ l.length ≤ 10 then ((dv l % 4294967296 : Nat) : Int) else 0
def rAt (ps : List (List UInt8)) (k : Nat) : Int := if k < ps.length then rnum (dropRO (ps.getD k [])) else 0
def rread (s : List UInt8) : Option Ins :=
  match shs.findIdx? fun x => x.w == (pcs 32 s).getD 0 [] with
  | none => none
  | some op => (cands op (rAt (pcs 32 s) 1) (rAt (pcs 32 s) 2) (rAt (pcs 32 s) 3) (rAt (pcs 32 s) 1) (rAt (pcs 32 s) 2) (rAt (pcs 32 s) 3) (rAt (pcs 32 s) 4)).find? (fitsS s)

theorem rpart_num {l : List UInt8} (hl : letterB l) {z : Int} (h0 : 0 ≤ z) (h : z < 4294967296) : rnum (dropRO (partL (l, z))) = z := by
  have hd : dropRO (Lib.decDigits z.toNat) = Lib.decDigits z.toNat := by
    have hne := dd_ne z.toNat
    have h1 : ∀ b ∈ Lib.decDigits z.toNat, b ≠ 114 := dd_not 114 (by decide) _
    have h2 : ∀ b ∈ Lib.decDigits z.toNat, b ≠ 111 := dd_not 111 (by decide) _
    unfold dropRO
    cases hh : Lib.decDigits z.toNat with
    | nil => exact absurd hh hne
    | cons x r =>
      rw [hh] at h1 h2
      rw [if_neg]
      rintro (e | e)
      · exact h1 x (by simp) e
      · exact h2 x (by simp) e
  have : dropRO (partL (l, z)) = Lib.decDigits z.toNat := by
    rcases hl with rfl | rfl | rfl
    · exact hd
    · rfl
    · rfl
  rw [this]
  unfold rnum
  rw [if_pos ⟨dd_all (z.toNat + 1) _ (by omega), dd_len 9 _ (by omega)⟩, dd_dv (z.toNat + 1) _ (by omega)]
  omega
theorem rat1 (w p : List UInt8) (r : List (List UInt8)) : rAt (w :: p :: r) 1 = rnum (dropRO p) := by simp [rAt]
theorem rat2 (w p q : List UInt8) (r : List (List UInt8)) : rAt (w :: p :: q :: r) 2 = rnum (dropRO q) := by simp [rAt]
theorem rat3 (w p q x : List UInt8) (r : List (List UInt8)) : rAt (w :: p :: q :: x :: r) 3 = rnum (dropRO x) := by simp [rAt]
theorem rat4 (w p q x y : List UInt8) (r : List (List UInt8)) : rAt (w :: p :: q :: x :: y :: r) 4 = rnum (dropRO y) := by simp [rAt]
theorem word_find (op : Int) (h : known op = true) : (shs.findIdx? fun x => x.w == (shOf op).w) = some op.toNat := by
  refine op_all (P := fun op => (shs.findIdx? fun x => x.w == (shOf op).w) = some op.toNat) ?_ op h
  decide
theorem rread_has {i : Ins} (h : insB i = true) (hn : i.ok) : i ∈ cands i.op (rAt (partsL i) 1) (rAt (partsL i) 2) (rAt (partsL i) 3) (rAt (partsL i) 1) (rAt (partsL i) 2) (rAt (partsL i) 3) (rAt (partsL i) 4) := by
  obtain ⟨hk, -, -, -, -, n0, n1⟩ := ins_bd h hn
  cases shaped h hn with
  | none op ho => unfold cands; simp
  | set op a n ho ha =>
    unfold partsL cands
    rcases ho with rfl | rfl <;> simp [opsL, rat1, rat2, rpart_num lr ha.1 (show a < 4294967296 by omega), rpart_num le n0 n1]
  | move a b ha hb =>
    unfold partsL cands
    simp [opsL, rat1, rat2, rpart_num lr ha.1 (show a < 4294967296 by omega), rpart_num lr hb.1 (show b < 4294967296 by omega)]
  | three op a b c ho ha hb hc =>
    unfold partsL cands
    have e4 : ¬ op = 2 := by omega
    have e5 : ¬ op = 1 := by omega
    simp [opsL, e4, e5, ho, rat1, rat2, rat3, rpart_num lr ha.1 (show a < 4294967296 by omega), rpart_num lr hb.1 (show b < 4294967296 by omega), rpart_num lr hc.1 (show c < 4294967296 by omega)]
  | load op a b n ho ha hb =>
    unfold partsL cands
    rcases ho with rfl | rfl <;> simp [opsL, rat1, rat2, rat3, rpart_num lr ha.1 (show a < 4294967296 by omega), rpart_num lr hb.1 (show b < 4294967296 by omega), rpart_num le n0 n1]
  | cas a b c n ha hb hc =>
    unfold partsL cands
    simp [opsL, rat1, rat2, rat3, rat4, rpart_num lr ha.1 (show a < 4294967296 by omega), rpart_num lr hb.1 (show b < 4294967296 by omega), rpart_num lr hc.1 (show c < 4294967296 by omega), rpart_num le n0 n1]
  | jump n =>
    unfold partsL cands
    simp [opsL, rat1, rpart_num le n0 n1]
  | back c n hc =>
    unfold partsL cands
    simp [opsL, rat1, rat2, rpart_num le n0 n1, rpart_num le (show 0 ≤ c by omega) (show c < 4294967296 by omega)]
  | call op a b n ho ha hb =>
    unfold partsL cands
    have e1 : ¬ op = 16 := by omega
    have e2 : ¬ op = 14 := by omega
    have e4 : ¬ op = 2 := by omega
    have e5 : ¬ (3 ≤ op ∧ op ≤ 10) := by omega
    have e6 : ¬ op = 13 := by omega
    have e9 : ¬ op = 1 := by omega
    have e10 : ¬ (op = 11 ∨ op = 12) := by omega
    have e11 : ¬ op = 15 := by omega
    simp [opsL, e1, e2, e4, e5, e6, e9, e10, e11, ho, rat1, rat2, rat3, rpart_num lr ha.1 (show a < 4294967296 by omega), rpart_num lo hb.1 (show b < 4294967296 by omega), rpart_num le n0 n1]

theorem rnum_bd (l : List UInt8) : 0 ≤ rnum l ∧ rnum l < 4294967296 := by
  unfold rnum
  split <;> omega
theorem rAt_bd (ps : List (List UInt8)) (k : Nat) : 0 ≤ rAt ps k ∧ rAt ps k < 4294967296 := by
  unfold rAt
  split
  · exact rnum_bd _
  · omega
theorem cands_ok {op a b c n1 n2 n3 n4 : Int} (ho : 0 ≤ op ∧ op < 100) (ha : 0 ≤ a ∧ a < 4294967296) (hb : 0 ≤ b ∧ b < 4294967296) (hc : 0 ≤ c ∧ c < 4294967296) (h1 : 0 ≤ n1 ∧ n1 < 4294967296) (h2 : 0 ≤ n2 ∧ n2 < 4294967296) (h3 : 0 ≤ n3 ∧ n3 < 4294967296) (h4 : 0 ≤ n4 ∧ n4 < 4294967296) :
    ∀ i ∈ cands op a b c n1 n2 n3 n4, i.ok := by
  intro i hi
  have z : (Lit.int .i64 0).wf = true := by decide
  have zn : (Lit.int .u32 0).wf = true := by decide
  have go : (Lit.int .i64 op).wf = true := i64_to (by omega) (by omega)
  have ga : (Lit.int .i64 a).wf = true := i64_to (by omega) (by omega)
  have gb : (Lit.int .i64 b).wf = true := i64_to (by omega) (by omega)
  have gc : (Lit.int .i64 c).wf = true := i64_to (by omega) (by omega)
  unfold cands at hi
  simp only [List.mem_cons, List.not_mem_nil, or_false] at hi
  rcases hi with rfl | rfl | rfl | rfl | rfl | rfl | rfl | rfl
  · exact ⟨go, z, z, z, zn⟩
  · exact ⟨go, ga, z, z, u32_to h2.1 h2.2⟩
  · exact ⟨go, ga, gb, z, zn⟩
  · exact ⟨go, ga, gb, gc, zn⟩
  · exact ⟨go, ga, gb, z, u32_to h3.1 h3.2⟩
  · exact ⟨go, ga, gb, gc, u32_to h4.1 h4.2⟩
  · exact ⟨go, z, z, z, u32_to h1.1 h1.2⟩
  · exact ⟨go, z, z, gb, u32_to h1.1 h1.2⟩

theorem rread_some {s : List UInt8} {i : Ins} (h : rread s = some i) : insB i = true ∧ lineL i = s ∧ i.ok := by
  unfold rread at h
  split at h
  · cases h
  · rename_i op hop
    have h1 := List.find?_some h
    have h2 := List.mem_of_find?_eq_some h
    unfold fitsS at h1
    rw [Bool.and_eq_true, decide_eq_true_iff] at h1
    have h3 := (List.findIdx?_eq_some_iff_getElem.1 hop).1
    have h22 : shs.length = 22 := rfl
    exact ⟨h1.1, h1.2, cands_ok (by omega) (rAt_bd _ _) (rAt_bd _ _) (rAt_bd _ _) (rAt_bd _ _) (rAt_bd _ _) (rAt_bd _ _) (rAt_bd _ _) i h2⟩
theorem rread_line {i : Ins} (h : insB i = true) (hn : i.ok) : rread (lineL i) = some i := by
  have hk := (ins_bd h hn).1
  have h0 := known_iff.1 hk
  have hsome : (rread (lineL i)).isSome = true := by
    unfold rread
    rw [line_pcs]
    have hw : (partsL i).getD 0 [] = (shOf i.op).w := rfl
    rw [hw, word_find _ hk]
    simp only
    rw [List.find?_isSome]
    have e : ((i.op.toNat : Nat) : Int) = i.op := by omega
    rw [e]
    exact ⟨i, rread_has h hn, by unfold fitsS; rw [h, decide_eq_true rfl]; rfl⟩
  obtain ⟨j, hj⟩ := Option.isSome_iff_exists.1 hsome
  obtain ⟨h1, h2, h3⟩ := rread_some hj
  have e1 := guess_line h1 h3
  rw [h2, guess_line h hn] at e1
  rw [hj, ← e1]
theorem read_same (s : List UInt8) : rread s = readI s := by
  cases h : rread s with
  | some i =>
    obtain ⟨h1, h2, h3⟩ := rread_some h
    rw [← h2, read_line h1 h3]
  | none =>
    cases h' : readI s with
    | none => rfl
    | some i =>
      obtain ⟨h1, h2, h3⟩ := readI_some h'
      rw [← h2, rread_line h1 h3] at h
      cases h

def readX (s : List UInt8) : Ins := (readI s).getD Ins.zero
def readOk (s : List UInt8) : Bool := (readI s).isSome
theorem read_cases (s : List UInt8) : (∃ e, readI s = some e ∧ readX s = e ∧ readOk s = true ∧ (insB e = true ∧ e.ok)) ∨ (readI s = none ∧ readOk s = false ∧ readX s = Ins.zero) := by
  rcases h : readI s with _ | e
  · exact .inr ⟨rfl, by unfold readOk; rw [h]; rfl, by unfold readX; rw [h]; rfl⟩
  · obtain ⟨h1, h2, h3⟩ := readI_some h
    exact .inl ⟨e, rfl, by unfold readX; rw [h]; rfl, by unfold readOk; rw [h]; rfl, h1, h3⟩

/-! ### how long a line is -/
theorem jlens_le {xs : List (List UInt8)} {m : Nat} (h : ∀ x ∈ xs, x.length ≤ m) : Lib.lens xs ≤ xs.length * m := by
  induction xs with
  | nil => simp [Lib.lens]
  | cons x xs ih =>
    have h1 := h x (by simp)
    have h2 := ih (fun y hy => h y (by simp [hy]))
    have : Lib.lens (x :: xs) = x.length + Lib.lens xs := by simp [Lib.lens]
    rw [this, List.length_cons, Nat.add_mul]; omega
theorem jn_le {xs : List (List UInt8)} {m : Nat} (h : ∀ x ∈ xs, x.length ≤ m) : (Lib.join xs [32]).length ≤ xs.length * (m + 1) := by
  cases xs with
  | nil => simp [Lib.join]
  | cons x xs =>
    have h1 := h x (by simp)
    have h2 := jlens_le (fun y hy => h y (by simp [hy]) : ∀ y ∈ xs, y.length ≤ m)
    rw [Lib.join_cons, List.length_append, Lib.joinTail_length]
    simp only [List.length_cons, List.length_nil]
    have e1 : (xs.length + 1) * (m + 1) = xs.length * m + xs.length + (m + 1) := by rw [Nat.add_mul, Nat.mul_add]; omega
    rw [e1]
    omega
theorem fields_bd {i : Ins} (h : insB i = true) (hn : i.ok) : (0 ≤ i.a ∧ i.a < 256) ∧ (0 ≤ i.b ∧ i.b < 256) ∧ (0 ≤ i.c ∧ i.c < 256) ∧ (0 ≤ i.n ∧ i.n < 4294967296) := by
  have hN := u32_of hn.2.2.2.2
  cases shaped h hn <;> simp only at hN ⊢ <;> omega
theorem ops_bd {i : Ins} (h : insB i = true) (hn : i.ok) : ∀ p ∈ opsL i, 0 ≤ p.2 ∧ p.2 < 4294967296 := by
  obtain ⟨b1, b2, b3, b4⟩ := fields_bd h hn
  intro p hp
  unfold opsL at hp
  repeat' split at hp
  all_goals
    simp only [List.mem_cons, List.not_mem_nil, or_false] at hp
  all_goals
    first
      | exact hp.elim
      | (rcases hp with rfl | rfl | rfl | rfl <;> simp only <;> omega)
      | (rcases hp with rfl | rfl | rfl <;> simp only <;> omega)
      | (rcases hp with rfl | rfl <;> simp only <;> omega)
      | (subst hp; simp only; omega)
theorem ops_len (i : Ins) : (opsL i).length ≤ 4 := by
  unfold opsL
  repeat' split
  all_goals simp
theorem sh_len (op : Int) : (shOf op).w.length ≤ 5 := by
  unfold shOf
  rw [List.getD_eq_getElem?_getD]
  cases hw : shs[op.toNat]? with
  | none => simp
  | some x =>
    have h : (shs.all fun s => decide (s.w.length ≤ 5)) = true := by decide
    exact of_decide_eq_true (List.all_eq_true.1 h x (List.mem_of_getElem? hw))
theorem lineL_len {i : Ins} (h : insB i = true) (hn : i.ok) : (lineL i).length ≤ 63 := by
  have hp : ∀ x ∈ partsL i, x.length ≤ 11 := by
    intro x hx
    unfold partsL at hx
    rcases List.mem_cons.1 hx with rfl | hx
    · have := sh_len i.op; omega
    · obtain ⟨p, hp, rfl⟩ := List.mem_map.1 hx
      obtain ⟨h0, h1⟩ := ops_bd h hn p hp
      have hd := dd_len 9 p.2.toNat (by omega)
      unfold partL
      rw [List.length_append]
      rcases opsL_letter i p hp with e | e | e <;> rw [e] <;> simp <;> omega
  have := jn_le hp
  have h4 := ops_len i
  have hl : (partsL i).length = (opsL i).length + 1 := by simp [partsL]
  unfold lineL
  omega

end Go.Proofs.YtfgmebjbibbpdaaGreatDoor

namespace Go.Proofs.YtfgmebjbibbpdaaGreatDoor
open Go.RowKit


/-- A text's lines, each with its end, as strings.Lines goes through them. -/
def lns : List UInt8 → List (List UInt8)
  | [] => []
  | x :: l => if x = 10 then [10] :: lns l else (x :: (lns l).headD []) :: (lns l).tail
theorem lns_none (l : List UInt8) (hl : l ≠ []) (h : ∀ k : Nat, l[k]? ≠ some 10) : lns l = [l] := by
  induction l with
  | nil => exact (hl rfl).elim
  | cons x l ih =>
    have hx : x ≠ 10 := fun e => h 0 (by simp [e])
    unfold lns
    rw [if_neg hx]
    by_cases h0 : l = []
    · subst h0; rfl
    · rw [ih h0 (fun k hk => h (k + 1) (by simpa using hk))]
      rfl
theorem lns_some (l : List UInt8) (o : Nat) (h : l[o]? = some 10) (h2 : ∀ k : Nat, k < o → l[k]? ≠ some 10) : lns l = l.take (o + 1) :: lns (l.drop (o + 1)) := by
  induction l generalizing o with
  | nil => simp at h
  | cons x l ih =>
    cases o with
    | zero =>
      have hx : x = 10 := by simpa using h
      simp [lns, hx]
    | succ o =>
      have hx : x ≠ 10 := fun e => h2 0 (by omega) (by simp [e])
      have := ih o (by simpa using h) (fun k hk hk' => h2 (k + 1) (by omega) (by simpa using hk'))
      simp [lns, hx, this]
theorem first_or {c : UInt8} (l : List UInt8) : (∀ k : Nat, l[k]? ≠ some c) ∨ ∃ o : Nat, l[o]? = some c ∧ ∀ k : Nat, k < o → l[k]? ≠ some c := by
  induction l with
  | nil => exact .inl fun k h => by simp at h
  | cons x l ih =>
    by_cases hx : x = c
    · exact .inr ⟨0, by simp [hx], fun k hk => by omega⟩
    · rcases ih with h | ⟨o, h1, h2⟩
      · refine .inl fun k hk => ?_
        cases k with
        | zero => exact hx (by simpa using hk)
        | succ k => exact h k (by simpa using hk)
      · refine .inr ⟨o + 1, by simpa using h1, fun k hk hk' => ?_⟩
        cases k with
        | zero => exact hx (by simpa using hk')
        | succ k => exact h2 k (by omega) (by simpa using hk')

theorem suffix_no (x : List UInt8) (h : ∀ k : Nat, x[k]? ≠ some 10) : Lib.hasSuffix x [10] = false := by
  cases hh : Lib.hasSuffix x [10] with
  | false => rfl
  | true =>
    exfalso
    obtain ⟨t, ht⟩ := List.isSuffixOf_iff_suffix.1 hh
    refine h t.length ?_
    rw [← ht]
    simp
theorem suffix_yes (x : List UInt8) : Lib.hasSuffix (x ++ [10]) [10] = true ∧ Lib.trimSuffix (x ++ [10]) [10] = x := by
  have h : Lib.hasSuffix (x ++ [10]) [10] = true := List.isSuffixOf_iff_suffix.2 ⟨x, rfl⟩
  refine ⟨h, ?_⟩
  unfold Lib.trimSuffix
  rw [if_pos h]
  simp
theorem take_at {l : List UInt8} {o : Nat} {c : UInt8} (h : l[o]? = some c) : l.take (o + 1) = l.take o ++ [c] := by
  rw [List.take_add_one, h]; rfl
theorem lns_line (p r : List UInt8) (h : ∀ k : Nat, p[k]? ≠ some 10) : lns (p ++ [10] ++ r) = (p ++ [10]) :: lns r := by
  rw [lns_some _ p.length (by simp) (fun k hk => by
    rw [List.append_assoc, List.getElem?_append_left hk]
    exact h k)]
  have e : p.length + 1 = (p ++ [10]).length := by simp
  rw [e, List.take_left, List.drop_left]
theorem lns_all (n : Nat) : ∀ s : List UInt8, s.length < n → (lns s).flatten = s := by
  induction n with
  | zero => intro s h; omega
  | succ n ih =>
    intro s hn
    rcases first_or (c := 10) s with h | ⟨o, h1, h2⟩
    · by_cases h0 : s = []
      · subst h0; rfl
      · rw [lns_none s h0 h]; simp
    · have := get_lt h1
      rw [lns_some s o h1 h2, List.flatten_cons, ih _ (by rw [List.length_drop]; omega), List.take_append_drop]

theorem lns_len (l : List UInt8) : (lns l).length ≤ l.length := by
  induction l with
  | nil => simp [lns]
  | cons x l ih =>
    unfold lns
    split
    · simp; omega
    · simp only [List.length_cons, List.length_tail]; omega

end Go.Proofs.YtfgmebjbibbpdaaGreatDoor

namespace Go.Proofs.YtfgmebjbibbpdaaGreatDoor
open Go.RowKit

/-! ### parsed -/
structure Got where
  evs : List Ins
  at_ : Int
  err : Int

/-- As the program parses: line for line. -/
def parseL : List (List UInt8) → List Ins → Got
  | [], out => ⟨out, 0, 0⟩
  | x :: r, out => if Lib.hasSuffix x [10] = true then
      match readI (Lib.trimSuffix x [10]) with
      | none => ⟨[], out.length + 1, 4⟩
      | some e => parseL r (out ++ [e])
    else ⟨[], out.length + 1, 2⟩
/-- As the reference parses: piece for piece. -/
def parseR : List (List UInt8) → List Ins → Got
  | [], out => ⟨out, 0, 0⟩
  | x :: r, out => if r = [] then (if x = [] then ⟨out, 0, 0⟩ else ⟨[], out.length + 1, 2⟩) else
      match readI x with
      | none => ⟨[], out.length + 1, 4⟩
      | some e => parseR r (out ++ [e])
def parseE (s : List UInt8) : Got := parseL (lns s) []

theorem parse_both (n : Nat) : ∀ (s : List UInt8) (out : List Ins), s.length < n → parseR (pcs 10 s) out = parseL (lns s) out := by
  induction n with
  | zero => intro s out h; omega
  | succ n ih =>
    intro s out hn
    rcases first_or (c := 10) s with h | ⟨o, h1, h2⟩
    · rw [pcs_none 10 s h]
      by_cases h0 : s = []
      · subst h0; rfl
      · rw [lns_none s h0 h]
        unfold parseL parseR
        rw [suffix_no s h, if_pos rfl, if_neg h0, if_neg (by decide)]
    · have hlt := get_lt h1
      rw [pcs_some 10 s o h1 h2, lns_some s o h1 h2, take_at h1]
      obtain ⟨e1, e2⟩ := suffix_yes (s.take o)
      unfold parseL parseR
      rw [e1, e2, if_neg (pcs_ne _ _), if_pos rfl]
      cases readI (s.take o) with
      | none => rfl
      | some e => exact ih _ _ (by rw [List.length_drop]; omega)
theorem parseR_E (s : List UInt8) : parseR (pcs 10 s) [] = parseE s := parse_both (s.length + 1) s [] (by omega)

/-! ### printed -/
def textOf (l : List Ins) : List UInt8 := l.flatMap fun e => lineL e ++ [10]
def okAll (l : List Ins) : Bool := l.all insB
theorem textOf_snoc (l : List Ins) (e : Ins) : textOf (l ++ [e]) = textOf l ++ (lineL e ++ [10]) := by simp [textOf]
theorem join_mem (ps : List (List UInt8)) (b : UInt8) (h : b ∈ Lib.join ps [32]) : b = 32 ∨ ∃ p ∈ ps, b ∈ p := by
  cases ps with
  | nil => cases h
  | cons x xs =>
    rw [Lib.join_cons] at h
    rcases List.mem_append.1 h with h | h
    · exact .inr ⟨x, by simp, h⟩
    · unfold Lib.joinTail at h
      obtain ⟨q, hq, hb⟩ := List.mem_flatten.1 h
      obtain ⟨p, hp, rfl⟩ := List.mem_map.1 hq
      rcases List.mem_append.1 hb with hb | hb
      · exact .inl (List.mem_singleton.1 hb)
      · exact .inr ⟨p, by simp [hp], hb⟩
theorem lineL_no (i : Ins) : ∀ k : Nat, (lineL i)[k]? ≠ some 10 := by
  intro k hk
  rcases join_mem _ _ (List.mem_of_getElem? hk) with h | ⟨p, hp, h⟩
  · cases h
  · exact parts_not 10 (by decide) (by decide) (by decide) (by decide) i p hp 10 h rfl
theorem parse_text (l : List Ins) (h : okAll l = true) (hk : ∀ e ∈ l, e.ok) : ∀ out, parseL (lns (textOf l)) out = ⟨out ++ l, 0, 0⟩ := by
  induction l with
  | nil => intro out; simp [textOf, lns, parseL]
  | cons e l ih =>
    intro out
    unfold okAll at h
    rw [List.all_cons, Bool.and_eq_true] at h
    have ht : textOf (e :: l) = lineL e ++ [10] ++ textOf l := by simp [textOf]
    obtain ⟨e1, e2⟩ := suffix_yes (lineL e)
    rw [ht, lns_line _ _ (lineL_no e)]
    unfold parseL
    rw [e1, e2, if_pos rfl, read_line h.1 (hk e (by simp))]
    simp only
    rw [ih h.2 (fun x hx => hk x (by simp [hx]))]
    simp
theorem parsed (ls : List (List UInt8)) : ∀ out, okAll out = true →
    ((parseL ls out).err = 0 ∧ (parseL ls out).at_ = 0 ∧ okAll (parseL ls out).evs = true ∧ textOf (parseL ls out).evs = textOf out ++ ls.flatten) ∨ ((parseL ls out).err ≠ 0 ∧ (parseL ls out).evs = []) := by
  induction ls with
  | nil => intro out h; exact .inl ⟨rfl, rfl, h, by simp [parseL]⟩
  | cons x r ih =>
    intro out h
    unfold parseL
    by_cases hs : Lib.hasSuffix x [10] = true
    · rw [if_pos hs]
      cases hr : readI (Lib.trimSuffix x [10]) with
      | none => exact .inr ⟨by simp, rfl⟩
      | some e =>
        obtain ⟨h1, h2, _⟩ := readI_some hr
        have hx : x = lineL e ++ [10] := by
          obtain ⟨t, ht⟩ := List.isSuffixOf_iff_suffix.1 hs
          rw [← ht] at h2 ⊢
          rw [(suffix_yes t).2] at h2
          rw [h2]
        have hok : okAll (out ++ [e]) = true := by
          unfold okAll at h ⊢
          rw [List.all_append, h, List.all_cons, h1]
          rfl
        rcases ih (out ++ [e]) hok with ⟨g1, g2, g3, g4⟩ | g
        · refine .inl ⟨g1, g2, g3, ?_⟩
          simp only
          rw [g4, textOf_snoc, hx]
          simp
        · exact .inr g
    · rw [if_neg hs]
      exact .inr ⟨by simp, rfl⟩
/-- What is parsed is printed so; where there is an error nothing was parsed. -/
theorem parse_back (s : List UInt8) : ((parseE s).err = 0 ∧ okAll (parseE s).evs = true ∧ textOf (parseE s).evs = s) ∨ ((parseE s).err ≠ 0 ∧ (parseE s).evs = []) := by
  rcases parsed (lns s) [] rfl with ⟨h1, _, h2, h3⟩ | h
  · refine .inl ⟨h1, h2, ?_⟩
    unfold parseE
    rw [h3, lns_all (s.length + 1) s (by omega)]
    rfl
  · exact .inr h
/-- Right events come back from their text. -/
theorem text_back (l : List Ins) (h : okAll l = true) (hk : ∀ e ∈ l, e.ok) : parseE (textOf l) = ⟨l, 0, 0⟩ := by
  unfold parseE
  rw [parse_text l h hk]
  rfl

end Go.Proofs.YtfgmebjbibbpdaaGreatDoor

namespace Go.Proofs.YtfgmebjbibbpdaaGreatDoor
open Go.RowKit

structure Tk where
  kd : Int
  pr : Int
  pe : Int
  off : Int
  dl : Int
  ow : Int
  code : List Ins
structure Oj where
  kd : Int
  wd : Int
  sl : Int
  cp : Int
  st : Int
  ini : List Int
  wr : Int
  rd : List Int
structure Sy where
  ts : List Tk
  os : List Oj

def taskW : List UInt8 := [116, 97, 115, 107]
def endW3 : List UInt8 := [101, 110, 100]
def objW : List UInt8 := [111, 98, 106, 101, 99, 116]
def rdrW : List UInt8 := [114, 101, 97, 100, 101, 114, 115]
def iniW : List UInt8 := [105, 110, 105, 116]
def perW : List UInt8 := [112, 101, 114, 105, 111, 100, 105, 99]
def spoW : List UInt8 := [115, 112, 111, 114, 97, 100, 105, 99]
def tkWs : List (List UInt8) := [[], perW, spoW]
def obWs : List (List UInt8) := [[], [102, 111, 117, 114], [99, 104, 101, 110], [115, 101, 113], [114, 105, 110, 103], [99, 97, 98], [102, 105, 102, 111]]
def dd (n : Int) : List UInt8 := Lib.decDigits n.toNat
def topB (n : Int) : Bool := decide (0 ≤ n) && decide (n ≤ 1099511627776)
theorem topB_iff {n : Int} : topB n = true ↔ 0 ≤ n ∧ n ≤ 1099511627776 := by unfold topB; rw [Bool.and_eq_true, decide_eq_true_iff, decide_eq_true_iff]

/-! ### a task's first line -/
def Tk.five (t : Tk) : List Int := [t.pr, t.pe, t.off, t.dl, t.ow]
def headP (t : Tk) : List (List UInt8) := taskW :: tkWs.getD t.kd.toNat [] :: t.five.map dd
def headL (t : Tk) : List UInt8 := Lib.join (headP t) [32]
def headB1 (t : Tk) : Bool := (t.kd == 1 || t.kd == 2) && t.five.all topB
/-! ### an object's line -/
def Oj.five (o : Oj) : List Int := [o.wd, o.sl, o.cp, o.st, o.wr]
def objP (o : Oj) : List (List UInt8) := objW :: obWs.getD o.kd.toNat [] :: (o.five.map dd ++ rdrW :: (o.rd.map dd ++ iniW :: o.ini.map dd))
def objL (o : Oj) : List UInt8 := Lib.join (objP o) [32]
def objB (o : Oj) : Bool := (decide (1 ≤ o.kd) && decide (o.kd ≤ 6)) && (o.five.all topB && o.rd.all topB)
/-- What a system's object holds besides. -/
def Oj.ok (o : Oj) : Prop := (0 ≤ o.st ∧ o.st < 4294967296) ∧ ∀ z ∈ o.ini, 0 ≤ z ∧ z < 4294967296
def Tk.ok (t : Tk) : Prop := ∀ e ∈ t.code, e.ok

/-! ### numbers -/
/-- A number as the program reads it. -/
def numG (l : List UInt8) : Int := if l.all digB = true ∧ l ≠ [] ∧ l.length ≤ 13 then (dv l : Int) else -1
/-- As the reference reads it. -/
def numR (l : List UInt8) : Int := if l.all digB = true ∧ l.length ≤ 14 then (dv l : Int) else -9
theorem dd_top {z : Int} (h : 0 ≤ z ∧ z ≤ 1099511627776) : (dd z).all digB = true ∧ dd z ≠ [] ∧ (dd z).length ≤ 13 ∧ (dv (dd z) : Int) = z :=
  ⟨dd_all (z.toNat + 1) _ (by omega), dd_ne _, dd_len 12 _ (by omega), by unfold dd; rw [dd_dv (z.toNat + 1) _ (by omega)]; omega⟩
theorem numG_dd {z : Int} (h : 0 ≤ z ∧ z ≤ 1099511627776) : numG (dd z) = z := by
  obtain ⟨h1, h2, h3, h4⟩ := dd_top h
  unfold numG
  rw [if_pos ⟨h1, h2, h3⟩, h4]
theorem numR_dd {z : Int} (h : 0 ≤ z ∧ z ≤ 1099511627776) : numR (dd z) = z := by
  obtain ⟨h1, h2, h3, h4⟩ := dd_top h
  unfold numR
  rw [if_pos ⟨h1, by omega⟩, h4]
theorem dd_no (c : UInt8) (hc : digB c = false) (z : Int) : ∀ b ∈ dd z, b ≠ c := fun b hb e => by
  have := List.all_eq_true.1 (dd_all (z.toNat + 1) z.toNat (by omega)) b hb
  rw [e, hc] at this
  cases this
theorem dds_no (c : UInt8) (hc : digB c = false) (l : List Int) : ∀ p ∈ l.map dd, ∀ b ∈ p, b ≠ c := fun p hp => by
  obtain ⟨z, _, rfl⟩ := List.mem_map.1 hp
  exact dd_no c hc z
theorem getD_no (ws : List (List UInt8)) (c : UInt8) (h : (ws.all fun w => w.all fun b => b != c) = true) (k : Nat) : ∀ b ∈ ws.getD k [], b ≠ c := fun b hb e => by
  rw [List.getD_eq_getElem?_getD] at hb
  cases hk : ws[k]? with
  | none => rw [hk] at hb; cases hb
  | some x =>
    rw [hk] at hb
    have h1 := List.all_eq_true.1 (List.all_eq_true.1 h x (List.mem_of_getElem? hk)) b hb
    rw [e] at h1
    simp at h1
theorem word_no (w : List UInt8) (c : UInt8) (h : (w.all fun b => b != c) = true) : ∀ b ∈ w, b ≠ c := fun b hb e => by
  have h1 := List.all_eq_true.1 h b hb
  rw [e] at h1
  simp at h1
theorem headP_no (c : UInt8) (hc : digB c = false) (h1 : (taskW.all fun b => b != c) = true) (h2 : (tkWs.all fun w => w.all fun b => b != c) = true) (t : Tk) : ∀ p ∈ headP t, ∀ b ∈ p, b ≠ c := by
  intro p hp
  unfold headP at hp
  rcases List.mem_cons.1 hp with rfl | hp
  · exact word_no _ c h1
  · rcases List.mem_cons.1 hp with rfl | hp
    · exact getD_no tkWs c h2 _
    · exact dds_no c hc _ p hp
theorem objP_no (c : UInt8) (hc : digB c = false) (h1 : (objW.all fun b => b != c) = true) (h2 : (obWs.all fun w => w.all fun b => b != c) = true) (h3 : (rdrW.all fun b => b != c) = true) (h4 : (iniW.all fun b => b != c) = true) (o : Oj) : ∀ p ∈ objP o, ∀ b ∈ p, b ≠ c := by
  intro p hp
  unfold objP at hp
  rcases List.mem_cons.1 hp with rfl | hp
  · exact word_no _ c h1
  · rcases List.mem_cons.1 hp with rfl | hp
    · exact getD_no obWs c h2 _
    · rcases List.mem_append.1 hp with hp | hp
      · exact dds_no c hc _ p hp
      · rcases List.mem_cons.1 hp with rfl | hp
        · exact word_no _ c h3
        · rcases List.mem_append.1 hp with hp | hp
          · exact dds_no c hc _ p hp
          · rcases List.mem_cons.1 hp with rfl | hp
            · exact word_no _ c h4
            · exact dds_no c hc _ p hp
theorem head_pcs (t : Tk) : pcs 32 (headL t) = headP t := pcs_join _ (by simp [headP]) (headP_no 32 (by decide) (by decide) (by decide) t)
theorem obj_pcs (o : Oj) : pcs 32 (objL o) = objP o := pcs_join _ (by simp [objP]) (objP_no 32 (by decide) (by decide) (by decide) (by decide) (by decide) o)
theorem join_no {ps : List (List UInt8)} {c : UInt8} (hc : c ≠ 32) (h : ∀ p ∈ ps, ∀ b ∈ p, b ≠ c) : ∀ k : Nat, (Lib.join ps [32])[k]? ≠ some c := by
  intro k hk
  rcases join_mem _ _ (List.mem_of_getElem? hk) with h2 | ⟨p, hp, h2⟩
  · exact hc h2
  · exact h p hp c h2 rfl
theorem headL_no (t : Tk) : ∀ k : Nat, (headL t)[k]? ≠ some 10 := join_no (by decide) (headP_no 10 (by decide) (by decide) (by decide) t)
theorem objL_no (o : Oj) : ∀ k : Nat, (objL o)[k]? ≠ some 10 := join_no (by decide) (objP_no 10 (by decide) (by decide) (by decide) (by decide) (by decide) o)

/-! ### read: a task's first line -/
def idxF (ws : List (List UInt8)) (w : List UInt8) : Int := match ws.findIdx? fun x => x == w with
  | some k => k
  | none => -1
def headC (num : List UInt8 → Int) (kd : Int) (ps : List (List UInt8)) : Tk := ⟨kd, num (ps.getD 2 []), num (ps.getD 3 []), num (ps.getD 4 []), num (ps.getD 5 []), num (ps.getD 6 []), []⟩
theorem tk_eta {t : Tk} (h : t.code = []) : (⟨t.kd, t.pr, t.pe, t.off, t.dl, t.ow, []⟩ : Tk) = t := by
  obtain ⟨a, b, c, d, e, f, g⟩ := t
  simp only at h
  subst h
  rfl
theorem five_top {l : List Int} (h : l.all topB = true) : ∀ z ∈ l, 0 ≤ z ∧ z ≤ 1099511627776 := fun z hz => topB_iff.1 (List.all_eq_true.1 h z hz)
theorem headC_line {num : List UInt8 → Int} (hn : ∀ z : Int, 0 ≤ z ∧ z ≤ 1099511627776 → num (dd z) = z) {t : Tk} (h : headB1 t = true) (hc : t.code = []) : headC num t.kd (headP t) = t := by
  unfold headB1 at h
  rw [Bool.and_eq_true] at h
  have h2 := five_top h.2
  have g : headP t = [taskW, tkWs.getD t.kd.toNat [], dd t.pr, dd t.pe, dd t.off, dd t.dl, dd t.ow] := rfl
  unfold headC
  rw [g]
  simp only [List.getD_cons_succ, List.getD_cons_zero]
  rw [hn _ (h2 t.pr (by simp [Tk.five])), hn _ (h2 t.pe (by simp [Tk.five])), hn _ (h2 t.off (by simp [Tk.five])), hn _ (h2 t.dl (by simp [Tk.five])), hn _ (h2 t.ow (by simp [Tk.five]))]
  exact tk_eta hc
/-- As the program reads it. -/
def tkKd (w : List UInt8) : Int := idxF [perW, spoW] w + 1
def readTG (s : List UInt8) : Option Tk := if (pcs 32 s).length = 7 ∧ headB1 (headC numG (tkKd ((pcs 32 s).getD 1 [])) (pcs 32 s)) = true ∧ headL (headC numG (tkKd ((pcs 32 s).getD 1 [])) (pcs 32 s)) = s then some (headC numG (tkKd ((pcs 32 s).getD 1 [])) (pcs 32 s)) else none
/-- As the reference reads it. -/
def fitT (s : List UInt8) (t : Tk) : Bool := headB1 t && decide (headL t = s)
def readTR (s : List UInt8) : Option Tk := if (pcs 32 s).length = 7 then [headC numR 1 (pcs 32 s), headC numR 2 (pcs 32 s)].find? (fitT s) else none
theorem head_kd {t : Tk} (h : headB1 t = true) : t.kd = 1 ∨ t.kd = 2 := by
  unfold headB1 at h
  simp at h
  omega
theorem tkKd_word {k : Int} (h : k = 1 ∨ k = 2) : tkKd (tkWs.getD k.toNat []) = k := by rcases h with rfl | rfl <;> decide
theorem readTG_line {t : Tk} (h : headB1 t = true) (hc : t.code = []) : readTG (headL t) = some t := by
  have hk : tkKd ((headP t).getD 1 []) = t.kd := tkKd_word (head_kd h)
  unfold readTG
  rw [head_pcs, hk, headC_line (fun z => numG_dd) h hc, if_pos ⟨rfl, h, rfl⟩]
theorem readTG_some {s : List UInt8} {t : Tk} (h : readTG s = some t) : headB1 t = true ∧ headL t = s ∧ t.code = [] := by
  unfold readTG at h
  split at h
  · rename_i hc
    injection h with h
    subst h
    exact ⟨hc.2.1, hc.2.2, rfl⟩
  · cases h
theorem head_inj {t u : Tk} (ht : headB1 t = true) (hu : headB1 u = true) (h : headL t = headL u) : t.kd = u.kd := by
  have h1 : headP t = headP u := by rw [← head_pcs, ← head_pcs, h]
  have h2 : tkWs.getD t.kd.toNat [] = tkWs.getD u.kd.toNat [] := by
    have := congrArg (fun l => l.getD 1 []) h1
    exact this
  rw [← tkKd_word (head_kd ht), ← tkKd_word (head_kd hu), h2]
theorem readTR_line {t : Tk} (h : headB1 t = true) (hc : t.code = []) : readTR (headL t) = some t := by
  unfold readTR
  rw [head_pcs, if_pos (show (headP t).length = 7 from rfl)]
  have hh := headC_line (fun z => numR_dd) h hc
  have hf : fitT (headL t) t = true := by unfold fitT; rw [h]; simp
  rcases head_kd h with hk | hk
  · rw [hk] at hh
    rw [hh, List.find?_cons_of_pos hf]
  · rw [hk] at hh
    rw [hh, List.find?_cons_of_neg, List.find?_cons_of_pos hf]
    intro hq
    unfold fitT at hq
    rw [Bool.and_eq_true, decide_eq_true_iff] at hq
    have := head_inj hq.1 h hq.2
    rw [hk] at this
    cases this
theorem readTR_some {s : List UInt8} {t : Tk} (h : readTR s = some t) : headB1 t = true ∧ headL t = s ∧ t.code = [] := by
  unfold readTR at h
  split at h
  · have h1 := List.find?_some h
    have h2 := List.mem_of_find?_eq_some h
    unfold fitT at h1
    rw [Bool.and_eq_true, decide_eq_true_iff] at h1
    refine ⟨h1.1, h1.2, ?_⟩
    rcases List.mem_cons.1 h2 with rfl | h2
    · rfl
    · rcases List.mem_cons.1 h2 with rfl | h2
      · rfl
      · cases h2
  · cases h
theorem readT_same (s : List UInt8) : readTR s = readTG s := by
  cases h : readTG s with
  | some t =>
    obtain ⟨h1, h2, h3⟩ := readTG_some h
    rw [← h2, readTR_line h1 h3]
  | none =>
    cases h' : readTR s with
    | none => rfl
    | some t =>
      obtain ⟨h1, h2, h3⟩ := readTR_some h'
      rw [← h2, readTG_line h1 h3] at h
      cases h

end Go.Proofs.YtfgmebjbibbpdaaGreatDoor

namespace Go.Proofs.YtfgmebjbibbpdaaGreatDoor
open Go.RowKit

def InBox (W : World) (B : Nat) (e : Ins) : Prop := W.heap[B]? = some (.cells #[.int .i64 e.op, .int .i64 e.a, .int .i64 e.b, .int .i64 e.c, .int .u32 e.n] 73 (0, 0))
section
variable {W W' : World} {B N : Nat} {e : Ins}
theorem InBox.lt (h : InBox W B e) : B < W.heap.size := (Array.getElem?_eq_some_iff.1 h).1
theorem InBox.new (W : World) (e : Ins) : InBox (W.alloc (.cells #[.int .i64 e.op, .int .i64 e.a, .int .i64 e.b, .int .i64 e.c, .int .u32 e.n] 73)) W.heap.size e := heap_alloc_new W _
theorem InBox.cells (h : InBox W B e) : W.cell? ⟨B, 0, none⟩ = some (.int .i64 e.op) ∧ W.cell? ⟨B, 1, none⟩ = some (.int .i64 e.a) ∧ W.cell? ⟨B, 2, none⟩ = some (.int .i64 e.b) ∧ W.cell? ⟨B, 3, none⟩ = some (.int .i64 e.c) ∧ W.cell? ⟨B, 4, none⟩ = some (.int .u32 e.n) := by
  refine ⟨?_, ?_, ?_, ?_, ?_⟩ <;> simp [World.cell?, show W.heap[B]? = _ from h]
theorem InBox.frozen (h : InBox W B e) (j : Nat) : W.frozen? ⟨B, j, none⟩ = false := by simp [World.frozen?, show W.heap[B]? = _ from h]
theorem InBox.below (h : InBox W B e) (hb : Below N W W') (hB : B < N) : InBox W' B e := (hb.block B hB).trans h
theorem InBox.kept (h : InBox W B e) (hb : Below W.heap.size W W') : InBox W' B e := h.below hb h.lt
theorem InBox.set1 (h : InBox W B e) (j : Nat) (v : Value) : (W.setCell ⟨B, j, none⟩ v).heap[B]? = some (.cells ((#[.int .i64 e.op, .int .i64 e.a, .int .i64 e.b, .int .i64 e.c, .int .u32 e.n] : Array Value).setIfInBounds j v) 73 (0, 0)) := by
  have h0 : W.heap[B]? = some (.cells #[.int .i64 e.op, .int .i64 e.a, .int .i64 e.b, .int .i64 e.c, .int .u32 e.n] 73 (0, 0)) := h
  rw [setCell_eq_setRow W B j _ _ _ _ h0]
  exact setRow_heap _ B _ _ _ _ h0
theorem InBox.setO (h : InBox W B e) (v : Int) : InBox (W.setCell ⟨B, 0, none⟩ (.int .i64 v)) B ⟨v, e.a, e.b, e.c, e.n⟩ := h.set1 0 _
theorem InBox.setA (h : InBox W B e) (v : Int) : InBox (W.setCell ⟨B, 1, none⟩ (.int .i64 v)) B ⟨e.op, v, e.b, e.c, e.n⟩ := h.set1 1 _
theorem InBox.setB (h : InBox W B e) (v : Int) : InBox (W.setCell ⟨B, 2, none⟩ (.int .i64 v)) B ⟨e.op, e.a, v, e.c, e.n⟩ := h.set1 2 _
theorem InBox.setC (h : InBox W B e) (v : Int) : InBox (W.setCell ⟨B, 3, none⟩ (.int .i64 v)) B ⟨e.op, e.a, e.b, v, e.n⟩ := h.set1 3 _
theorem InBox.setN (h : InBox W B e) (v : Int) : InBox (W.setCell ⟨B, 4, none⟩ (.int .u32 v)) B ⟨e.op, e.a, e.b, e.c, v⟩ := h.set1 4 _
theorem below_set (h : Below N W W') (B j : Nat) (hB : N ≤ B) (v : Value) : Below N W (W'.setCell ⟨B, j, none⟩ v) := h.setCell (p := ⟨B, j, none⟩) hB v
end

end Go.Proofs.YtfgmebjbibbpdaaGreatDoor

namespace Go.Proofs.YtfgmebjbibbpdaaGreatDoor
open Go.RowKit

def insV (e : Ins) : Value := .agg #[.int .i64 e.op, .int .i64 e.a, .int .i64 e.b, .int .i64 e.c, .int .u32 e.n]

theorem known_any (n : Int) (w : World) : Calls Tryz.prog 77 #[.int .i64 n] w fun e w' => e = .returned (.bool (known n)) ∧ w' = w := by
  rcases h1 : decide (0 ≤ n) with _ | _ <;> rcases h2 : decide (n < 22) with _ | _
  all_goals
    have hr : known n = (decide (0 ≤ n) && decide (n < 22)) := rfl
    rw [h1, h2] at hr
    have hr' := Lib.hid hr
    clear hr
    go_enter Tryz.func77, Tryz.ntmps77
    go_wp2_with fail
    go_ret
    exact ⟨ret_bool (by rw [hr'.out]; rfl), rfl⟩

theorem fits_any (k n : Int) (w : World) (hk : 0 ≤ k ∧ k ≤ 6) : Calls Tryz.prog 79 #[.int .i64 k, .int .i64 n] w fun e w' => e = .returned (.bool (fitB k n)) ∧ w' = w := by
  have hc : k = 0 ∨ k = 1 ∨ k = 2 ∨ k = 3 ∨ k = 4 ∨ k = 5 ∨ k = 6 := by omega
  rcases hc with rfl | rfl | rfl | rfl | rfl | rfl | rfl
  · rcases h1 : (n == 0) with _ | _
    all_goals
      have hr : fitB 0 n = (n == 0) := rfl
      rw [h1] at hr
      have hr' := Lib.hid hr
      clear hr
      go_enter Tryz.func79, Tryz.ntmps79
      go_wp2_with fail
      go_ret
      exact ⟨ret_bool (by rw [hr'.out]), rfl⟩
  · rcases h1 : decide (0 ≤ n) with _ | _ <;> rcases h2 : decide (n < 8) with _ | _
    all_goals
      have hr : fitB 1 n = (decide (0 ≤ n) && decide (n < 8)) := rfl
      rw [h1, h2] at hr
      have hr' := Lib.hid hr
      clear hr
      go_enter Tryz.func79, Tryz.ntmps79
      go_wp2_with fail
      go_ret
      exact ⟨ret_bool (by rw [hr'.out]; rfl), rfl⟩
  · rcases h1 : decide (0 ≤ n) with _ | _ <;> rcases h2 : decide (n < 8) with _ | _
    all_goals
      have hr : fitB 2 n = (decide (0 ≤ n) && decide (n < 8)) := rfl
      rw [h1, h2] at hr
      have hr' := Lib.hid hr
      clear hr
      go_enter Tryz.func79, Tryz.ntmps79
      go_wp2_with fail
      go_ret
      exact ⟨ret_bool (by rw [hr'.out]; rfl), rfl⟩
  · rcases h1 : decide (1 ≤ n) with _ | _ <;> rcases h2 : decide (n ≤ 255) with _ | _
    all_goals
      have hr : fitB 3 n = (decide (1 ≤ n) && decide (n ≤ 255)) := rfl
      rw [h1, h2] at hr
      have hr' := Lib.hid hr
      clear hr
      go_enter Tryz.func79, Tryz.ntmps79
      go_wp2_with fail
      go_ret
      exact ⟨ret_bool (by rw [hr'.out]; rfl), rfl⟩
  · rcases h1 : decide (n < 64) with _ | _
    all_goals
      have hr : fitB 4 n = (decide (n < 64)) := rfl
      rw [h1] at hr
      have hr' := Lib.hid hr
      clear hr
      go_enter Tryz.func79, Tryz.ntmps79
      go_wp2_with fail
      go_ret
      exact ⟨ret_bool (by rw [hr'.out]), rfl⟩
  · rcases h1 : decide (n < 64) with _ | _
    all_goals
      have hr : fitB 5 n = (decide (n < 64)) := rfl
      rw [h1] at hr
      have hr' := Lib.hid hr
      clear hr
      go_enter Tryz.func79, Tryz.ntmps79
      go_wp2_with fail
      go_ret
      exact ⟨ret_bool (by rw [hr'.out]), rfl⟩
  · go_enter Tryz.func79, Tryz.ntmps79
    go_wp2_with fail
    go_ret
    exact ⟨rfl, rfl⟩

/-! ### the table -/
def shU : List (List UInt8 × List UInt8) := [([], []), ([], [97]), ([98], [97]), ([98, 99], [97]), ([98, 99], [97]), ([98, 99], [97]), ([98, 99], [97]), ([98, 99], [97]), ([98, 99], [97]), ([98, 99], [97]), ([98, 99], [97]),
  ([98], [97]), ([97, 98], []), ([97, 98, 99], [97]), ([], []), ([97], []), ([], []), ([], [97]), ([], [97]), ([], [97]), ([], [97]), ([], [])]
theorem three_any (s : ByteArray) (w : World) : Calls Tryz.prog 94 #[.string s] w fun e w' => e = .returned (.agg #[.string s, .int .i64 1, .int .i64 1, .int .i64 1, .int .i64 0, .string ⟨#[98, 99]⟩, .string ⟨#[97]⟩]) ∧
    w' = w.alloc (.cells #[.string s, .int .i64 1, .int .i64 1, .int .i64 1, .int .i64 0, .string ⟨#[98, 99]⟩, .string ⟨#[97]⟩] 128) := by
  go_enter Tryz.func94, Tryz.ntmps94
  go_wp2_with fail
  refine bodyPost_ret (v := .agg #[.string s, .int .i64 1, .int .i64 1, .int .i64 1, .int .i64 0, .string ⟨#[98, 99]⟩, .string ⟨#[97]⟩]) (by simp [results, go_sem]) rfl ?_
  exact ⟨rfl, rfl⟩
theorem call_any (s : ByteArray) (w : World) : Calls Tryz.prog 95 #[.string s] w fun e w' => e = .returned (.agg #[.string s, .int .i64 1, .int .i64 2, .int .i64 0, .int .i64 5, .string ⟨#[]⟩, .string ⟨#[97]⟩]) ∧
    w' = w.alloc (.cells #[.string s, .int .i64 1, .int .i64 2, .int .i64 0, .int .i64 5, .string ⟨#[]⟩, .string ⟨#[97]⟩] 128) := by
  go_enter Tryz.func95, Tryz.ntmps95
  go_wp2_with fail
  refine bodyPost_ret (v := .agg #[.string s, .int .i64 1, .int .i64 2, .int .i64 0, .int .i64 5, .string ⟨#[]⟩, .string ⟨#[97]⟩]) (by simp [results, go_sem]) rfl ?_
  exact ⟨rfl, rfl⟩
end Go.Proofs.YtfgmebjbibbpdaaGreatDoor

namespace Go.Proofs.YtfgmebjbibbpdaaGreatDoor
open Go.RowKit

def shCells (p : Sh × List UInt8 × List UInt8) : List Value := [.string ⟨p.1.w.toArray⟩, .int .i64 p.1.a, .int .i64 p.1.b, .int .i64 p.1.c, .int .i64 p.1.n, .string ⟨p.2.1.toArray⟩, .string ⟨p.2.2.toArray⟩]
def shapesV : Array Value := ((shs.zip shU).flatMap shCells).toArray
theorem below_setRow {N : Nat} {W W' : World} (h : Below N W W') (g : Nat) (cs : Array Value) (hg : N ≤ g) : Below N W (W'.setRow g cs) :=
  ⟨h.1, h.2, h.3, by rw [setRow_size]; exact h.size, fun i hi => (setRow_other _ _ _ _ (by omega)).trans (h.block i hi)⟩
theorem res_shapes (tmps : Array Value) (w : World) {b : Nat} (ha : tmps.getD 0 undef = .pointer (some ⟨b, 0, none⟩)) (hg : w.heap[b]? = some (.cells shapesV 129 (0, 0))) :
    (results Tryz.f78 tmps).run Tryz.prog w = .ok (.agg shapesV) w := by
  have h : Tryz.f78.results = #[.cell 0 129] := rfl
  have h2 := run_loadVar_row (P := Tryz.prog) w b 129 129 shapesV (0, 0) _ hg Tryz.underlying129 rfl (by kernel_rfl)
  unfold results
  rw [h]
  simp only [List.mapM_toArray, List.mapM_cons, List.mapM_nil, ha, asAddr, bind_pure_comp]
  simp [h2]

set_option maxRecDepth 100000 in
set_option maxHeartbeats 2000000 in
theorem shapes_any (w : World) : Calls Tryz.prog 78 #[] w fun e w' => e = .returned (.agg shapesV) ∧ Below w.heap.size w w' := by
  go_enter Tryz.func78, Tryz.ntmps78
  go_wp2_with (first
    | (go_at_call 94; refine (three_any _ _).mono ?_; rintro e w1 ⟨rfl, rfl⟩)
    | (go_at_call 95; refine (call_any ⟨#[116, 97, 107, 101]⟩ _).mono ?_; rintro e w1 ⟨rfl, rfl⟩; rename_i hK1; refine hK1 _ _ ?_; refine wpList_build rfl 128 _ rfl (by kernel_rfl) ?_; refine wpList_build rfl 129 _ rfl (by kernel_rfl) ?_; refine wpList_store_row rfl 129 _ _ rfl w.heap.size shapesV rfl (by kernel_rfl) 129 Tryz.zeroCells129 (by (repeat rw [Below.heap_alloc _ _ _ (by simp only [World.size_alloc]; omega)]); exact heap_alloc_new _ _) (by kernel_rfl) (by kernel_rfl) (by kernel_rfl) ?_)
    | (go_at_call 95; refine (call_any _ _).mono ?_; rintro e w1 ⟨rfl, rfl⟩))
  have hg : ∀ W : World, (∃ o, W.heap[w.heap.size]? = some (.cells o 129 (0, 0))) → (W.setRow w.heap.size shapesV).heap[w.heap.size]? = some (.cells shapesV 129 (0, 0)) := fun W ⟨o, ho⟩ => setRow_heap W _ _ _ _ _ ho
  refine bodyPost_ret (res_shapes _ _ rfl (hg _ ⟨Tryz.zeroCells129, ?_⟩)) rfl ?_
  · (repeat rw [Below.heap_alloc _ _ _ (by simp only [World.size_alloc]; omega)])
    exact heap_alloc_new _ _
  · refine ⟨rfl, ?_⟩
    refine below_setRow ?_ _ _ (Nat.le_refl _)
    repeat (first | exact (Below.refl _ w).alloc (Nat.le_refl _) _ | (refine Below.alloc ?_ (by simp only [World.size_alloc]; omega) _) | refine Below.drew ?_)

/-! ### its rows -/
def shE (op : Int) : Sh × List UInt8 × List UInt8 := (shs.zip shU).getD op.toNat (⟨[], 0, 0, 0, 0⟩, [], [])
theorem shE_sh {op : Int} (h : known op = true) : (shE op).1 = shOf op := by
  refine op_all (P := fun op => (shE op).1 = shOf op) ?_ op h
  intro k hk
  have hc : k = 0 ∨ k = 1 ∨ k = 2 ∨ k = 3 ∨ k = 4 ∨ k = 5 ∨ k = 6 ∨ k = 7 ∨ k = 8 ∨ k = 9 ∨ k = 10 ∨ k = 11 ∨ k = 12 ∨ k = 13 ∨ k = 14 ∨ k = 15 ∨ k = 16 ∨ k = 17 ∨ k = 18 ∨ k = 19 ∨ k = 20 ∨ k = 21 := by omega
  rcases hc with rfl | rfl | rfl | rfl | rfl | rfl | rfl | rfl | rfl | rfl | rfl | rfl | rfl | rfl | rfl | rfl | rfl | rfl | rfl | rfl | rfl | rfl <;> rfl
theorem shape_at (op : Int) (h : known op = true) (W : World) : (Instr.index 129 (.agg shapesV) (.int .i64 op)).run Tryz.prog W = .ok (.agg (shCells (shE op)).toArray) W := by
  refine op_all (P := fun op => (Instr.index 129 (.agg shapesV) (.int .i64 op)).run Tryz.prog W = .ok (.agg (shCells (shE op)).toArray) W) ?_ op h
  intro k hk
  have hc : k = 0 ∨ k = 1 ∨ k = 2 ∨ k = 3 ∨ k = 4 ∨ k = 5 ∨ k = 6 ∨ k = 7 ∨ k = 8 ∨ k = 9 ∨ k = 10 ∨ k = 11 ∨ k = 12 ∨ k = 13 ∨ k = 14 ∨ k = 15 ∨ k = 16 ∨ k = 17 ∨ k = 18 ∨ k = 19 ∨ k = 20 ∨ k = 21 := by omega
  rcases hc with rfl | rfl | rfl | rfl | rfl | rfl | rfl | rfl | rfl | rfl | rfl | rfl | rfl | rfl | rfl | rfl | rfl | rfl | rfl | rfl | rfl | rfl
  all_goals (show _ = _; kernel_rfl)


end Go.Proofs.YtfgmebjbibbpdaaGreatDoor

namespace Go.Proofs.YtfgmebjbibbpdaaGreatDoor
open Go.RowKit

def ShBox (W : World) (B : Nat) (v0 v1 v2 v3 v4 v5 v6 : Value) : Prop := W.heap[B]? = some (.cells #[v0, v1, v2, v3, v4, v5, v6] 128 (0, 0))
section
variable {W W' : World} {B N : Nat} {v0 v1 v2 v3 v4 v5 v6 : Value}
theorem ShBox.lt (h : ShBox W B v0 v1 v2 v3 v4 v5 v6) : B < W.heap.size := (Array.getElem?_eq_some_iff.1 h).1
theorem ShBox.cells (h : ShBox W B v0 v1 v2 v3 v4 v5 v6) : W.cell? ⟨B, 0, none⟩ = some v0 ∧ W.cell? ⟨B, 1, none⟩ = some v1 ∧ W.cell? ⟨B, 2, none⟩ = some v2 ∧ W.cell? ⟨B, 3, none⟩ = some v3 ∧ W.cell? ⟨B, 4, none⟩ = some v4 ∧ W.cell? ⟨B, 5, none⟩ = some v5 ∧ W.cell? ⟨B, 6, none⟩ = some v6 := by
  refine ⟨?_, ?_, ?_, ?_, ?_, ?_, ?_⟩ <;> simp [World.cell?, show W.heap[B]? = _ from h]
theorem ShBox.frozen (h : ShBox W B v0 v1 v2 v3 v4 v5 v6) (j : Nat) : W.frozen? ⟨B, j, none⟩ = false := by simp [World.frozen?, show W.heap[B]? = _ from h]
theorem ShBox.below (h : ShBox W B v0 v1 v2 v3 v4 v5 v6) (hb : Below N W W') (hB : B < N) : ShBox W' B v0 v1 v2 v3 v4 v5 v6 := (hb.block B hB).trans h
theorem ShBox.kept (h : ShBox W B v0 v1 v2 v3 v4 v5 v6) (hb : Below W.heap.size W W') : ShBox W' B v0 v1 v2 v3 v4 v5 v6 := h.below hb h.lt
theorem ShBox.set7 (h : ShBox W B v0 v1 v2 v3 v4 v5 v6) (u0 u1 u2 u3 u4 u5 u6 : Value) : ShBox (((((((W.setCell ⟨B, 0, none⟩ u0).setCell ⟨B, 1, none⟩ u1).setCell ⟨B, 2, none⟩ u2).setCell ⟨B, 3, none⟩ u3).setCell ⟨B, 4, none⟩ u4).setCell ⟨B, 5, none⟩ u5).setCell ⟨B, 6, none⟩ u6) B u0 u1 u2 u3 u4 u5 u6 := by
  have h0 : W.heap[B]? = some (.cells #[v0, v1, v2, v3, v4, v5, v6] 128 (0, 0)) := h
  unfold ShBox
  rw [setCell_eq_setRow _ B 0 _ _ _ _ h0, show (#[v0, v1, v2, v3, v4, v5, v6] : Array Value).setIfInBounds 0 u0 = #[u0, v1, v2, v3, v4, v5, v6] from rfl]
  have h1 := setRow_heap _ B _ (#[u0, v1, v2, v3, v4, v5, v6]) _ _ h0
  rw [setCell_eq_setRow _ B 1 _ _ _ _ h1, show (#[u0, v1, v2, v3, v4, v5, v6] : Array Value).setIfInBounds 1 u1 = #[u0, u1, v2, v3, v4, v5, v6] from rfl]
  have h2 := setRow_heap _ B _ (#[u0, u1, v2, v3, v4, v5, v6]) _ _ h1
  rw [setCell_eq_setRow _ B 2 _ _ _ _ h2, show (#[u0, u1, v2, v3, v4, v5, v6] : Array Value).setIfInBounds 2 u2 = #[u0, u1, u2, v3, v4, v5, v6] from rfl]
  have h3 := setRow_heap _ B _ (#[u0, u1, u2, v3, v4, v5, v6]) _ _ h2
  rw [setCell_eq_setRow _ B 3 _ _ _ _ h3, show (#[u0, u1, u2, v3, v4, v5, v6] : Array Value).setIfInBounds 3 u3 = #[u0, u1, u2, u3, v4, v5, v6] from rfl]
  have h4 := setRow_heap _ B _ (#[u0, u1, u2, u3, v4, v5, v6]) _ _ h3
  rw [setCell_eq_setRow _ B 4 _ _ _ _ h4, show (#[u0, u1, u2, u3, v4, v5, v6] : Array Value).setIfInBounds 4 u4 = #[u0, u1, u2, u3, u4, v5, v6] from rfl]
  have h5 := setRow_heap _ B _ (#[u0, u1, u2, u3, u4, v5, v6]) _ _ h4
  rw [setCell_eq_setRow _ B 5 _ _ _ _ h5, show (#[u0, u1, u2, u3, u4, v5, v6] : Array Value).setIfInBounds 5 u5 = #[u0, u1, u2, u3, u4, u5, v6] from rfl]
  have h6 := setRow_heap _ B _ (#[u0, u1, u2, u3, u4, u5, v6]) _ _ h5
  rw [setCell_eq_setRow _ B 6 _ _ _ _ h6, show (#[u0, u1, u2, u3, u4, u5, v6] : Array Value).setIfInBounds 6 u6 = #[u0, u1, u2, u3, u4, u5, u6] from rfl]
  exact setRow_heap _ B _ _ _ _ h6
theorem below_set7 (h : Below N W W') (hB : N ≤ B) (u0 u1 u2 u3 u4 u5 u6 : Value) : Below N W (((((((W'.setCell ⟨B, 0, none⟩ u0).setCell ⟨B, 1, none⟩ u1).setCell ⟨B, 2, none⟩ u2).setCell ⟨B, 3, none⟩ u3).setCell ⟨B, 4, none⟩ u4).setCell ⟨B, 5, none⟩ u5).setCell ⟨B, 6, none⟩ u6) :=
  below_set (below_set (below_set (below_set (below_set (below_set (below_set h B 0 hB u0) B 1 hB u1) B 2 hB u2) B 3 hB u3) B 4 hB u4) B 5 hB u5) B 6 hB u6
theorem heap_set7 {j : Nat} (hj : j ≠ B) (u0 u1 u2 u3 u4 u5 u6 : Value) : (((((((W.setCell ⟨B, 0, none⟩ u0).setCell ⟨B, 1, none⟩ u1).setCell ⟨B, 2, none⟩ u2).setCell ⟨B, 3, none⟩ u3).setCell ⟨B, 4, none⟩ u4).setCell ⟨B, 5, none⟩ u5).setCell ⟨B, 6, none⟩ u6).heap[j]? = W.heap[j]? := by
  have hk : ∀ (W : World) (i : Nat) (v : Value), (W.setCell ⟨B, i, none⟩ v).heap[j]? = W.heap[j]? := fun W i v => Below.heap_setCell _ _ _ _ hj
  rw [hk, hk, hk, hk, hk, hk, hk]
end

def RgSt (w1 : World) (n : Nat) (e : Ins) (w' : World) : Prop := Below w1.heap.size w1 w' ∧ InBox w' n e ∧ w'.cell? ⟨n, 0, none⟩ = some (.int .i64 e.op)
theorem RgSt.below {w1 w w' : World} {n : Nat} {e : Ins} (h : RgSt w1 n e w) (hb : Below w.heap.size w w') : RgSt w1 n e w' := ⟨h.1.trans (hb.mono h.1.size), h.2.1.kept hb, (h.2.1.kept hb).cells.1⟩
def RgSt2 (w1 : World) (n nb : Nat) (e : Ins) (w' : World) : Prop := RgSt w1 n e w' ∧ ∃ v0 v1 v2 v3 v4 v5 v6, ShBox w' nb v0 v1 v2 v3 v4 v5 v6
theorem RgSt2.below {w1 w w' : World} {n nb : Nat} {e : Ins} (h : RgSt2 w1 n nb e w) (hb : Below w.heap.size w w') : RgSt2 w1 n nb e w' := by
  obtain ⟨h1, v0, v1, v2, v3, v4, v5, v6, h2⟩ := h
  exact ⟨h1.below hb, v0, v1, v2, v3, v4, v5, v6, h2.kept hb⟩
theorem RgSt2.set {w1 w : World} {n nb : Nat} {e : Ins} {v0 v1 v2 v3 v4 v5 v6 : Value} (h : RgSt w1 n e w) (hz : ShBox w nb v0 v1 v2 v3 v4 v5 v6) (hn : n < w1.heap.size) (hnb : w1.heap.size ≤ nb) (u0 u1 u2 u3 u4 u5 u6 : Value) : RgSt2 w1 n nb e (((((((w.setCell ⟨nb, 0, none⟩ u0).setCell ⟨nb, 1, none⟩ u1).setCell ⟨nb, 2, none⟩ u2).setCell ⟨nb, 3, none⟩ u3).setCell ⟨nb, 4, none⟩ u4).setCell ⟨nb, 5, none⟩ u5).setCell ⟨nb, 6, none⟩ u6) :=
  have hb : InBox (((((((w.setCell ⟨nb, 0, none⟩ u0).setCell ⟨nb, 1, none⟩ u1).setCell ⟨nb, 2, none⟩ u2).setCell ⟨nb, 3, none⟩ u3).setCell ⟨nb, 4, none⟩ u4).setCell ⟨nb, 5, none⟩ u5).setCell ⟨nb, 6, none⟩ u6) n e := (heap_set7 (by omega) _ _ _ _ _ _ _).trans h.2.1
  ⟨⟨below_set7 h.1 hnb _ _ _ _ _ _ _, hb, hb.cells.1⟩, _, _, _, _, _, _, _, hz.set7 _ _ _ _ _ _ _⟩

theorem sh_rng {op : Int} (h : known op = true) : (0 ≤ (shOf op).a ∧ (shOf op).a ≤ 6) ∧ (0 ≤ (shOf op).b ∧ (shOf op).b ≤ 6) ∧ (0 ≤ (shOf op).c ∧ (shOf op).c ≤ 6) ∧ (0 ≤ (shOf op).n ∧ (shOf op).n ≤ 6) := by
  refine op_all (P := fun op => (0 ≤ (shOf op).a ∧ (shOf op).a ≤ 6) ∧ (0 ≤ (shOf op).b ∧ (shOf op).b ≤ 6) ∧ (0 ≤ (shOf op).c ∧ (shOf op).c ≤ 6) ∧ (0 ≤ (shOf op).n ∧ (shOf op).n ≤ 6)) ?_ op h
  decide

theorem right_no (e : Ins) (w : World) (h : known e.op = false) : Calls Tryz.prog 57 #[insV e] w fun r w' => r = .returned (.bool false) ∧ Below w.heap.size w w' := by
  obtain ⟨op, a, b, c, m⟩ := e
  unfold insV
  simp only at h ⊢
  go_enter Tryz.func57, Tryz.ntmps57
  go_wp2_with (go_at_call 77; refine (known_any _ _).mono ?_; rintro e w1 ⟨rfl, rfl⟩)
  go_ret
  exact ⟨rfl, (Below.refl _ w).alloc (Nat.le_refl _) _⟩

set_option maxRecDepth 100000 in
set_option maxHeartbeats 4000000 in
theorem right_yes (e : Ins) (w : World) (h : known e.op = true) (hm : 0 ≤ e.n ∧ e.n < 4294967296) : Calls Tryz.prog 57 #[insV e] w fun r w' => r = .returned (.bool (fitB (shOf e.op).a e.a && fitB (shOf e.op).b e.b && fitB (shOf e.op).c e.c && fitB (shOf e.op).n e.n)) ∧ Below w.heap.size w w' := by
  obtain ⟨op, a, b, c, m⟩ := e
  unfold insV
  simp only at h hm ⊢
  have hew : IntKind.i64.wrap m = m := by simp [IntKind.wrap, IntKind.signed, IntKind.bits]; omega
  have hix := fun W => shape_at op h W
  have hsh := shE_sh h
  have hrg := sh_rng h
  unfold shCells at hix
  rw [hsh] at hix
  obtain ⟨S, hS⟩ : ∃ S, shOf op = S := ⟨_, rfl⟩
  rw [hS] at hix hrg ⊢
  obtain ⟨sw, sa, sb, sc, sn⟩ := S
  obtain ⟨us, hus⟩ : ∃ x, (shE op).2.1 = x := ⟨_, rfl⟩
  obtain ⟨ts, hts⟩ : ∃ x, (shE op).2.2 = x := ⟨_, rfl⟩
  rw [hus, hts] at hix
  simp only at hix hrg ⊢
  obtain ⟨ra, rb, rc, rn⟩ := hrg
  clear hsh hS hus hts
  go_enter Tryz.func57, Tryz.ntmps57
  go_wp2_with (go_at_call 77; refine (known_any _ _).mono ?_; rintro e w1 ⟨rfl, rfl⟩)
  have hbx := InBox.new w ⟨op, a, b, c, m⟩
  simp only at hbx
  obtain ⟨w1, hw1⟩ : ∃ x, w.alloc (.cells #[.int .i64 op, .int .i64 a, .int .i64 b, .int .i64 c, .int .u32 m] 73) = x := ⟨_, rfl⟩
  obtain ⟨n, hn⟩ : ∃ n, w.heap.size = n := ⟨_, rfl⟩
  have hs1 : w1.heap.size = n + 1 := by rw [← hw1, World.size_alloc, hn]
  have hb1 : Below n w w1 := by rw [← hw1, ← hn]; exact (Below.refl _ w).alloc (Nat.le_refl _) _
  rw [hw1, hn] at hbx
  rw [hw1]
  simp only [hn]
  clear hw1
  have hSd : RgSt w1 n ⟨op, a, b, c, m⟩ w1.drew := ⟨(Below.refl _ _).drew, hbx, hbx.cells.1⟩
  refine region_to (fun nb => { tmps := #[.agg #[.int .i64 op, .int .i64 a, .int .i64 b, .int .i64 c, .int .u32 m], .pointer (some ⟨n, 0, none⟩), .bool false, .pointer (some ⟨nb, 0, none⟩), .pointer (some ⟨n, 0, none⟩), .int .i64 op, .bool true, .bool false, .agg shapesV, .pointer (some ⟨n, 0, none⟩), .int .i64 op, .agg #[.string ⟨sw.toArray⟩, .int .i64 sa, .int .i64 sb, .int .i64 sc, .int .i64 sn, .string ⟨us.toArray⟩, .string ⟨ts.toArray⟩], undef, undef, undef, undef, undef, undef, undef, undef, undef, undef, undef, undef, undef, undef, undef, undef, undef, undef, undef, undef, undef, undef, undef, undef, undef, undef, undef], defers := [] }) (fun nb w => w1.heap.size ≤ nb ∧ ShBox w nb (.string ⟨sw.toArray⟩) (.int .i64 sa) (.int .i64 sb) (.int .i64 sc) (.int .i64 sn) (.string ⟨us.toArray⟩) (.string ⟨ts.toArray⟩) ∧ InBox w n ⟨op, a, b, c, m⟩ ∧ Below w1.heap.size w1 w) ?reg ?cont
  case reg =>
    refine wp_region_held_drew (S := fun w' => Below w1.heap.size w1 w' ∧ InBox w' n ⟨op, a, b, c, m⟩ ∧ w'.cell? ⟨n, 0, none⟩ = some (.int .i64 op)) (by kernel_rfl) hSd (fun hHeld => ?_)
    generalize w1.drew = wd at hHeld ⊢
    refine wpAnyH_take (i := 1) (oi := ?_) (v := ?_) ?_ (by kernel_rfl) (by kernel_rfl) (by kernel_rfl) ?_ (Or.inl ⟨?_, ?_⟩) (by assumption) ?_
    rotate_left 2
    · (simp only [List.getElem?_toArray, List.getElem?_cons_succ, List.getElem?_cons_zero]; rfl)
    · first | exact fun _ _ _ h => h | exact fun _ _ _ h => by cases h.1
    · rfl
    · ((intro wq hSq; (try dsimp only at hSq); go_simp); (try with_reducible rfl))
    try simp only [Act.put, List.setIfInBounds_toArray, List.set_cons_zero, List.set_cons_succ]
    refine wpAnyH_take (i := 2) (oi := ?_) (v := ?_) ?_ (by kernel_rfl) (by kernel_rfl) (by kernel_rfl) ?_ (Or.inl ⟨?_, ?_⟩) (by assumption) ?_
    rotate_left 2
    · (simp only [List.getElem?_toArray, List.getElem?_cons_succ, List.getElem?_cons_zero]; rfl)
    · first | exact fun _ _ _ h => h | exact fun _ _ _ h => by cases h.1
    · rfl
    · ((intro wq hSq; (try dsimp only at hSq); go_simp); (try with_reducible rfl))
    try simp only [Act.put, List.setIfInBounds_toArray, List.set_cons_zero, List.set_cons_succ]
    refine wpAnyH_ready (rs := [0, 4]) (by kernel_rfl) (by simp) ?_
    refine AllReadyH.cons (o := ?_) ?_ (fun K hK => ?_) ?_
    rotate_left
    · (simp only [List.getElem?_toArray, List.getElem?_cons_zero]; rfl)
    · go_simp
      go_at_call 78
      refine (shapes_any _).mono ?_
      rintro e wx ⟨rfl, hbx⟩
      have hSx := RgSt.below (w1 := w1) (n := n) (e := ⟨op, a, b, c, m⟩) hHeld hbx
      refine hK.out _ _ hSx (fun hHeld => ?_)
      clear hK K
      try simp only [Act.put, List.setIfInBounds_toArray, List.set_cons_zero, List.set_cons_succ]
      refine wpAnyH_take (i := 3) (oi := ?_) (v := ?_) ?_ (by kernel_rfl) (by kernel_rfl) (by kernel_rfl) ?_ (Or.inl ⟨?_, ?_⟩) (by assumption) ?_
      rotate_left 2
      · (simp only [List.getElem?_toArray, List.getElem?_cons_succ, List.getElem?_cons_zero]; rfl)
      · first | exact fun _ _ _ h => h | exact fun _ _ _ h => by cases h.1
      · rfl
      · ((intro wq hSq; (try dsimp only at hSq); go_simp); (try with_reducible rfl))
      try simp only [Act.put, List.setIfInBounds_toArray, List.set_cons_zero, List.set_cons_succ]
      refine wpAnyH_ready (rs := [4]) (by kernel_rfl) (by simp) ?_
      refine AllReadyH.cons (o := ?_) ?_ (fun K hK => ?_) AllReadyH.nil
      rotate_left
      · (simp only [List.getElem?_toArray, List.getElem?_cons_succ, List.getElem?_cons_zero]; rfl)
      go_simp
      have hnew : ShBox ((wx).alloc (.cells #[.string ⟨#[]⟩, .int .i64 0, .int .i64 0, .int .i64 0, .int .i64 0, .string ⟨#[]⟩, .string ⟨#[]⟩] 128)) (wx).heap.size (.string ⟨#[]⟩) (.int .i64 0) (.int .i64 0) (.int .i64 0) (.int .i64 0) (.string ⟨#[]⟩) (.string ⟨#[]⟩) := heap_alloc_new (wx) _
      have hsz := hHeld.1.size
      have hSx := RgSt.below (w1 := w1) (n := n) (e := ⟨op, a, b, c, m⟩) hHeld ((Below.refl _ (wx)).alloc (Nat.le_refl _) (.cells #[.string ⟨#[]⟩, .int .i64 0, .int .i64 0, .int .i64 0, .int .i64 0, .string ⟨#[]⟩, .string ⟨#[]⟩] 128))
      refine hK.out _ _ hSx (fun hHeld => ?_)
      clear hK K
      try simp only [Act.put, List.setIfInBounds_toArray, List.set_cons_zero, List.set_cons_succ]
      obtain ⟨wa, hwa⟩ : ∃ x, (wx).alloc (.cells #[.string ⟨#[]⟩, .int .i64 0, .int .i64 0, .int .i64 0, .int .i64 0, .string ⟨#[]⟩, .string ⟨#[]⟩] 128) = x := ⟨_, rfl⟩
      obtain ⟨nb, hnb⟩ : ∃ x, (wx).heap.size = x := ⟨_, rfl⟩
      rw [hwa, hnb] at hnew
      rw [hwa] at hHeld ⊢
      rw [hnb] at hsz ⊢
      clear hwa hnb
      have hS2 : RgSt2 w1 n nb ⟨op, a, b, c, m⟩ wa := ⟨hHeld, _, _, _, _, _, _, _, hnew⟩
      clear hnew hHeld
      refine wpAnyH_strong (S' := fun w' => (Below w1.heap.size w1 w' ∧ InBox w' n ⟨op, a, b, c, m⟩ ∧ w'.cell? ⟨n, 0, none⟩ = some (.int .i64 op)) ∧ ∃ v0 v1 v2 v3 v4 v5 v6, ShBox w' nb v0 v1 v2 v3 v4 v5 v6) (fun w h => h.1) _ _ _ _ ?_
      have hHeld := hS2
      obtain ⟨hq1, z0, z1, z2, z3, z4, z5, z6, hz⟩ := hHeld
      obtain ⟨b0, b1, b2, b3, b4, b5, b6⟩ := hz.cells
      have f0 := hz.frozen 0
      have f1 := hz.frozen 1
      have f2 := hz.frozen 2
      have f3 := hz.frozen 3
      have f4 := hz.frozen 4
      have f5 := hz.frozen 5
      have f6 := hz.frozen 6
      refine wpAnyH_ready (rs := [5]) (by kernel_rfl) (by simp) ?_
      refine AllReadyH.cons (o := ?_) ?_ (fun K hK => ?_) AllReadyH.nil
      rotate_left
      · (simp only [List.getElem?_toArray, List.getElem?_cons_succ, List.getElem?_cons_zero]; rfl)
      go_simp
      have hSx := RgSt2.set hq1 hz (by omega) hsz (.string ⟨sw.toArray⟩) (.int .i64 sa) (.int .i64 sb) (.int .i64 sc) (.int .i64 sn) (.string ⟨us.toArray⟩) (.string ⟨ts.toArray⟩)
      have hzz := hz.set7 (.string ⟨sw.toArray⟩) (.int .i64 sa) (.int .i64 sb) (.int .i64 sc) (.int .i64 sn) (.string ⟨us.toArray⟩) (.string ⟨ts.toArray⟩)
      refine hK.out _ _ hSx (fun hHeld => ?_)
      clear hK K
      try simp only [Act.put, List.setIfInBounds_toArray, List.set_cons_zero, List.set_cons_succ]
      refine wpAnyH_done (by kernel_rfl) ?_ _
      exact ⟨rfl, nb, rfl, hsz, hzz, hSx.1.2.1, hSx.1.1⟩
    · refine AllReadyH.cons (o := ?_) ?_ (fun K hK => ?_) AllReadyH.nil
      rotate_left
      · (simp only [List.getElem?_toArray, List.getElem?_cons_succ, List.getElem?_cons_zero]; rfl)
      · go_simp
        have hnew : ShBox ((wd).alloc (.cells #[.string ⟨#[]⟩, .int .i64 0, .int .i64 0, .int .i64 0, .int .i64 0, .string ⟨#[]⟩, .string ⟨#[]⟩] 128)) (wd).heap.size (.string ⟨#[]⟩) (.int .i64 0) (.int .i64 0) (.int .i64 0) (.int .i64 0) (.string ⟨#[]⟩) (.string ⟨#[]⟩) := heap_alloc_new (wd) _
        have hsz := hHeld.1.size
        have hSx := RgSt.below (w1 := w1) (n := n) (e := ⟨op, a, b, c, m⟩) hHeld ((Below.refl _ (wd)).alloc (Nat.le_refl _) (.cells #[.string ⟨#[]⟩, .int .i64 0, .int .i64 0, .int .i64 0, .int .i64 0, .string ⟨#[]⟩, .string ⟨#[]⟩] 128))
        refine hK.out _ _ hSx (fun hHeld => ?_)
        clear hK K
        try simp only [Act.put, List.setIfInBounds_toArray, List.set_cons_zero, List.set_cons_succ]
        obtain ⟨wa, hwa⟩ : ∃ x, (wd).alloc (.cells #[.string ⟨#[]⟩, .int .i64 0, .int .i64 0, .int .i64 0, .int .i64 0, .string ⟨#[]⟩, .string ⟨#[]⟩] 128) = x := ⟨_, rfl⟩
        obtain ⟨nb, hnb⟩ : ∃ x, (wd).heap.size = x := ⟨_, rfl⟩
        rw [hwa, hnb] at hnew
        rw [hwa] at hHeld ⊢
        rw [hnb] at hsz ⊢
        clear hwa hnb
        have hS2 : RgSt2 w1 n nb ⟨op, a, b, c, m⟩ wa := ⟨hHeld, _, _, _, _, _, _, _, hnew⟩
        clear hnew hHeld
        refine wpAnyH_strong (S' := fun w' => (Below w1.heap.size w1 w' ∧ InBox w' n ⟨op, a, b, c, m⟩ ∧ w'.cell? ⟨n, 0, none⟩ = some (.int .i64 op)) ∧ ∃ v0 v1 v2 v3 v4 v5 v6, ShBox w' nb v0 v1 v2 v3 v4 v5 v6) (fun w h => h.1) _ _ _ _ ?_
        have hHeld := hS2
        refine wpAnyH_ready (rs := [0]) (by kernel_rfl) (by simp) ?_
        refine AllReadyH.cons (o := ?_) ?_ (fun K hK => ?_) AllReadyH.nil
        rotate_left
        · (simp only [List.getElem?_toArray, List.getElem?_cons_zero]; rfl)
        go_simp
        go_at_call 78
        refine (shapes_any _).mono ?_
        rintro e wx ⟨rfl, hbx⟩
        have hSx := RgSt2.below (w1 := w1) (n := n) (nb := nb) (e := ⟨op, a, b, c, m⟩) hHeld hbx
        refine hK.out _ _ hSx (fun hHeld => ?_)
        clear hK K
        try simp only [Act.put, List.setIfInBounds_toArray, List.set_cons_zero, List.set_cons_succ]
        refine wpAnyH_take (i := 3) (oi := ?_) (v := ?_) ?_ (by kernel_rfl) (by kernel_rfl) (by kernel_rfl) ?_ (Or.inl ⟨?_, ?_⟩) (by assumption) ?_
        rotate_left 2
        · (simp only [List.getElem?_toArray, List.getElem?_cons_succ, List.getElem?_cons_zero]; rfl)
        · first | exact fun _ _ _ h => h | exact fun _ _ _ h => by cases h.1
        · rfl
        · ((intro wq hSq; (try dsimp only at hSq); go_simp); (try with_reducible rfl))
        try simp only [Act.put, List.setIfInBounds_toArray, List.set_cons_zero, List.set_cons_succ]
        obtain ⟨hq1, z0, z1, z2, z3, z4, z5, z6, hz⟩ := hHeld
        obtain ⟨b0, b1, b2, b3, b4, b5, b6⟩ := hz.cells
        have f0 := hz.frozen 0
        have f1 := hz.frozen 1
        have f2 := hz.frozen 2
        have f3 := hz.frozen 3
        have f4 := hz.frozen 4
        have f5 := hz.frozen 5
        have f6 := hz.frozen 6
        refine wpAnyH_ready (rs := [5]) (by kernel_rfl) (by simp) ?_
        refine AllReadyH.cons (o := ?_) ?_ (fun K hK => ?_) AllReadyH.nil
        rotate_left
        · (simp only [List.getElem?_toArray, List.getElem?_cons_succ, List.getElem?_cons_zero]; rfl)
        go_simp
        have hSx := RgSt2.set hq1 hz (by omega) hsz (.string ⟨sw.toArray⟩) (.int .i64 sa) (.int .i64 sb) (.int .i64 sc) (.int .i64 sn) (.string ⟨us.toArray⟩) (.string ⟨ts.toArray⟩)
        have hzz := hz.set7 (.string ⟨sw.toArray⟩) (.int .i64 sa) (.int .i64 sb) (.int .i64 sc) (.int .i64 sn) (.string ⟨us.toArray⟩) (.string ⟨ts.toArray⟩)
        refine hK.out _ _ hSx (fun hHeld => ?_)
        clear hK K
        try simp only [Act.put, List.setIfInBounds_toArray, List.set_cons_zero, List.set_cons_succ]
        refine wpAnyH_done (by kernel_rfl) ?_ _
        exact ⟨rfl, nb, rfl, hsz, hzz, hSx.1.2.1, hSx.1.1⟩
  rintro nb w4 ⟨hnb, hz, hbx4, hb4⟩
  dsimp only
  clear hSd hix
  obtain ⟨c0, c1, c2, c3, c4, c5, c6⟩ := hz.cells
  obtain ⟨d0, d1, d2, d3, d4⟩ := hbx4.cells
  have hbf := hb1.trans (hb4.mono (by omega))
  have hbf' := Lib.hid hbf
  clear hbf hb4 hb1 hz hbx4 hbx
  rcases h1 : fitB sa a with _ | _
  · go_wp2_with (go_at_call 79; refine (fits_any _ _ _ (by assumption)).mono ?_; rintro e w1 ⟨rfl, rfl⟩)
    go_ret
    exact ⟨ret_bool (by simp [*]), by rw [hn]; exact hbf'.out⟩
  rcases h2 : fitB sb b with _ | _
  · go_wp2_with (go_at_call 79; refine (fits_any _ _ _ (by assumption)).mono ?_; rintro e w1 ⟨rfl, rfl⟩)
    go_ret
    exact ⟨ret_bool (by simp [*]), by rw [hn]; exact hbf'.out⟩
  rcases h3 : fitB sc c with _ | _
  · go_wp2_with (go_at_call 79; refine (fits_any _ _ _ (by assumption)).mono ?_; rintro e w1 ⟨rfl, rfl⟩)
    go_ret
    exact ⟨ret_bool (by simp [*]), by rw [hn]; exact hbf'.out⟩
  rcases h4 : fitB sn m with _ | _
  all_goals
    go_wp2_with (go_at_call 79; refine (fits_any _ _ _ (by assumption)).mono ?_; rintro e w1 ⟨rfl, rfl⟩)
    go_ret
    exact ⟨ret_bool (by simp [*]), by rw [hn]; exact hbf'.out⟩

theorem right_any (e : Ins) (w : World) (hm : 0 ≤ e.n ∧ e.n < 4294967296) : Calls Tryz.prog 57 #[insV e] w fun r w' => r = .returned (.bool (insB e)) ∧ Below w.heap.size w w' := by
  unfold insB
  rcases h : known e.op with _ | _
  · exact right_no e w h
  · exact right_yes e w h hm

end Go.Proofs.YtfgmebjbibbpdaaGreatDoor

namespace Go.Proofs.YtfgmebjbibbpdaaGreatDoor
open Go.RowKit

def wordB (op : Int) : ByteArray := ⟨(shOf op).w.toArray⟩
set_option maxRecDepth 100000 in
theorem word_any (op : Int) (w : World) (h : known op = true) : Calls Tryz.prog 58 #[.int .i64 op] w fun r w' => r = .returned (.string (wordB op)) ∧ Below w.heap.size w w' := by
  have hix := fun W => shape_at op h W
  unfold shCells at hix
  rw [shE_sh h] at hix
  have hix' := Lib.hid hix
  obtain ⟨us, hus⟩ : ∃ x, (shE op).2.1 = x := ⟨_, rfl⟩
  obtain ⟨ts, hts⟩ : ∃ x, (shE op).2.2 = x := ⟨_, rfl⟩
  rw [hus, hts] at hix
  unfold wordB
  obtain ⟨S, hS⟩ : ∃ S, shOf op = S := ⟨_, rfl⟩
  rw [hS] at hix ⊢
  obtain ⟨sw, sa, sb, sc, sn⟩ := S
  simp only at hix ⊢
  clear hS hus hts hix'
  have hfd : ∀ W : World, (Instr.field 128 (.agg #[.string ⟨sw.toArray⟩, .int .i64 sa, .int .i64 sb, .int .i64 sc, .int .i64 sn, .string ⟨us.toArray⟩, .string ⟨ts.toArray⟩]) 0).run Tryz.prog W = .ok (.string ⟨sw.toArray⟩) W := fun W => by kernel_rfl
  go_enter Tryz.func58, Tryz.ntmps58
  go_wp2_with (first
    | (go_at_call 77; refine (known_any _ _).mono ?_; rintro e w1 ⟨rfl, rfl⟩)
    | (go_at_call 78; refine (shapes_any _).mono ?_; rintro e w1 ⟨rfl, hb⟩))
  go_ret
  exact ⟨rfl, hb⟩

/-! ### a word's kind -/
def kindFound (w : List UInt8) : Bool := (shs.findIdx? fun s => s.w == w).isSome
theorem kind_hit {w : List UInt8} {k : Nat} (hk : k < 22) (h : ∀ i : Nat, i < k → ((shOf i).w == w) = false) (he : ((shOf k).w == w) = true) : kindOf w = k ∧ kindFound w = true := by
  have hf : shs.findIdx? (fun s => s.w == w) = some k := by
    rw [List.findIdx?_eq_some_iff_getElem]
    refine ⟨hk, ?_, fun j hj => ?_⟩
    · have : shs[k] = shOf k := by
        unfold shOf
        rw [List.getD_eq_getElem?_getD, show ((k : Int)).toNat = k by omega, List.getElem?_eq_getElem hk]
        rfl
      rw [this]; exact he
    · have hj22 : j < shs.length := Nat.lt_trans hj hk
      have : shs[j] = shOf j := by
        unfold shOf
        rw [List.getD_eq_getElem?_getD, show ((j : Int)).toNat = j by omega, List.getElem?_eq_getElem hj22]
        rfl
      rw [this, h j hj]
      simp
  unfold kindOf kindFound
  rw [hf]
  exact ⟨rfl, rfl⟩
theorem kind_miss {w : List UInt8} (h : ∀ i : Nat, i < 22 → ((shOf i).w == w) = false) : kindOf w = 0 ∧ kindFound w = false := by
  have hf : shs.findIdx? (fun s => s.w == w) = none := by
    rw [List.findIdx?_eq_none_iff]
    intro x hx
    obtain ⟨i, hi, rfl⟩ := List.getElem_of_mem hx
    have : shs[i] = shOf i := by
      unfold shOf
      rw [List.getD_eq_getElem?_getD, show ((i : Int)).toNat = i by omega, List.getElem?_eq_getElem hi]
      rfl
    rw [this]
    exact h i hi
  unfold kindOf kindFound
  rw [hf]
  exact ⟨rfl, rfl⟩

set_option maxHeartbeats 1000000 in
theorem kind_any (s : ByteArray) (w : World) : Calls Tryz.prog 85 #[.string s] w fun r w' => r = .returned (.tuple #[.int .i64 (kindOf s.data.toList), .bool (kindFound s.data.toList)]) ∧ Below w.heap.size w w' := by
  obtain ⟨l, hl⟩ : ∃ l, s.data.toList = l := ⟨_, rfl⟩
  rw [hl]
  have hst : s.toList = l := by rw [ByteArray.toList_eq, hl]
  have hst' := Lib.hid hst
  clear hl hst
  go_enter Tryz.func85, Tryz.ntmps85
  go_wp2_with (go_at_call 78; refine (shapes_any _).mono ?_; rintro e w1 ⟨rfl, hb⟩)
  go_loopw [4, 5, 7] (fun _ _ j wr => ∃ k : Nat, k ≤ 22 ∧ j = .int .i64 k ∧ (∀ i : Nat, i < k → ((shOf i).w == l) = false) ∧ Below w.heap.size w wr) (fun _ _ j _ => 22 - (intOf j).toNat)
  case atStart => exact ⟨0, Nat.zero_le _, rfl, fun i hi => absurd hi (Nat.not_lt_zero _), hb⟩
  case round =>
    obtain ⟨k, hk, rfl, hno, hbk⟩ := hrel
    by_cases hlt : k < 22
    · have hkn : known (k : Int) = true := known_iff.2 (by omega)
      have hix := fun W => shape_at (k : Int) hkn W
      unfold shCells at hix
      rw [shE_sh hkn] at hix
      obtain ⟨us, hus⟩ : ∃ x, (shE (k : Int)).2.1 = x := ⟨_, rfl⟩
      obtain ⟨ts, hts⟩ : ∃ x, (shE (k : Int)).2.2 = x := ⟨_, rfl⟩
      rw [hus, hts] at hix
      have hhit := fun he => kind_hit hlt hno he
      have hstep : ((shOf k).w == l) = false → ∀ i : Nat, i < k + 1 → ((shOf i).w == l) = false := fun hf i hi => by
        by_cases hik : i < k
        · exact hno i hik
        · rw [show i = k by omega]; exact hf
      obtain ⟨S, hS⟩ : ∃ S, shOf (k : Int) = S := ⟨_, rfl⟩
      rw [hS] at hix hhit hstep
      obtain ⟨sw, sa, sb, sc, sn⟩ := S
      simp only at hix hhit hstep
      have hhit' := Lib.hid hhit
      have hstep' := Lib.hid hstep
      have hsz := hbk.size
      clear hS hus hts hhit hstep hno hkn
      rcases hq : (sw == l) with _ | _
      · have hc : (sw == s.toList) = false := by rw [hst'.out]; exact hq
        have hq' := Lib.hid hq
        clear hq
        go_wp2_with fail
        go_roundw
        case rel => exact ⟨k + 1, by omega, by go_num, hstep'.out hq'.out, hbk.alloc hsz _⟩
        case measure => simp [intOf]; omega
      · have hc : (sw == s.toList) = true := by rw [hst'.out]; exact hq
        have hq' := Lib.hid hq
        clear hq
        go_wp2_with fail
        go_ret2
        obtain ⟨e1, e2⟩ := hhit'.out hq'.out
        exact ⟨by rw [e1, e2]; rfl, hbk.alloc hsz _⟩
    · have hk22 : k = 22 := by omega
      subst hk22
      have hm := Lib.hid (kind_miss hno)
      clear hno
      go_wp2_with fail
      go_ret2
      exact ⟨by rw [hm.out.1, hm.out.2]; rfl, hbk⟩

end Go.Proofs.YtfgmebjbibbpdaaGreatDoor
