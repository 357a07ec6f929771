/- Words for walks over any program: slices that read as lists, rows of the call's own, appends, lists gone through by index. -/
import Derived.Test.YtgjcniokgdicpaaGreatDoorRows
import Derived.WalkKit
import Derived.WalkSpells
import Derived.WalkLawsBesides
import Derived.Lib.Hide
import Derived.Maps.AppendAt
import Derived.Deep.QuietTactic
import Derived.BigQuiet
namespace Go.Proofs.YtgjcniokgdicpaaGreatDoor
open Go.RowKit

/-! ### lists gone through by index -/
theorem foldl_snoc {α σ : Type} (f : σ → α → σ) (s : σ) {l : List α} {k : Nat} {e : α} (h : l[k]? = some e) : (l.take (k + 1)).foldl f s = f ((l.take k).foldl f s) e := by
  rw [List.take_add_one, h, List.foldl_append]; rfl
theorem take_snoc {α : Type} {l : List α} {k : Nat} {e : α} (h : l[k]? = some e) : l.take (k + 1) = l.take k ++ [e] := by
  rw [List.take_add_one, h]; rfl
theorem take_all {α : Type} {l : List α} {k : Nat} (h : ¬ k < l.length) : l.take k = l := List.take_of_length_le (by omega)
theorem get_some {α : Type} {l : List α} {k : Nat} (h : k < l.length) : ∃ e, l[k]? = some e := ⟨_, List.getElem?_eq_getElem h⟩
theorem get_lt {α : Type} {l : List α} {k : Nat} {e : α} (h : l[k]? = some e) : k < l.length := (List.getElem?_eq_some_iff.1 h).1
theorem ret_int {k : IntKind} {a b : Int} (h : a = b) : Ending.returned (.int k a) = .returned (.int k b) := by rw [h]
theorem ret_bool {a b : Bool} (h : a = b) : Ending.returned (.bool a) = .returned (.bool b) := by rw [h]
theorem val_int {k : IntKind} {a b : Int} (h : a = b) : Value.int k a = .int k b := by rw [h]

/-! ### how an element lies in cells -/
structure Enc (α : Type) where
  cells : α → List Value
  size : Nat
  len : ∀ x, (cells x).length = size
  one : ∀ x, ∀ u ∈ cells x, u.oneCell' = true
  pos : 0 < size

def Enc.all {α : Type} (E : Enc α) (l : List α) : List Value := l.flatMap E.cells
theorem Enc.all_snoc {α : Type} (E : Enc α) (l : List α) (x : α) : E.all (l ++ [x]) = E.all l ++ E.cells x := by simp [Enc.all]
theorem Enc.all_append {α : Type} (E : Enc α) (l m : List α) : E.all (l ++ m) = E.all l ++ E.all m := by simp [Enc.all]
theorem Enc.all_len {α : Type} (E : Enc α) : ∀ l : List α, (E.all l).length = l.length * E.size
  | [] => by simp [Enc.all]
  | x :: l => by
    have h : (E.all (x :: l)).length = (E.cells x).length + (E.all l).length := by simp [Enc.all]
    rw [h, E.all_len l, E.len, List.length_cons, Nat.add_mul]; omega
theorem Enc.all_get {α : Type} (E : Enc α) : ∀ (l : List α) (k : Nat) (x : α), l[k]? = some x → ∀ j, j < E.size → (E.all l)[k * E.size + j]? = (E.cells x)[j]?
  | y :: l, 0, x, h, j, hj => by
    simp at h; subst h
    simp only [Enc.all, List.flatMap_cons]
    rw [List.getElem?_append_left (by rw [E.len]; omega)]
    congr 1; omega
  | y :: l, k + 1, x, h, j, hj => by
    have ih := E.all_get l k x (by simpa using h) j hj
    simp only [Enc.all, List.flatMap_cons] at ih ⊢
    rw [List.getElem?_append_right (by rw [E.len, Nat.add_mul]; omega), E.len, ← ih]
    congr 1; rw [Nat.add_mul]; omega
theorem Enc.all_one {α : Type} (E : Enc α) (l : List α) : ∀ u ∈ E.all l, u.oneCell' = true := by
  intro u hu
  obtain ⟨x, _, hx⟩ := List.mem_flatMap.1 hu
  exact E.one x u hx

/-- One cell an element. -/
def Enc.of1 {α : Type} (f : α → Value) (h : ∀ x, (f x).oneCell' = true) : Enc α := ⟨fun x => [f x], 1, fun _ => rfl, fun x u hu => by simp at hu; subst hu; exact h x, by omega⟩
def ints (q : IntKind) : Enc Int := Enc.of1 (Value.int q) fun _ => rfl
def strs : Enc ByteArray := Enc.of1 Value.string fun _ => rfl
theorem of1_all {α : Type} (f : α → Value) (h : ∀ x, (f x).oneCell' = true) (l : List α) : (Enc.of1 f h).all l = l.map f := by
  induction l with
  | nil => rfl
  | cons x l ih => simpa [Enc.all, Enc.of1] using ih

/-! ### a slice that reads as a list -/
def SlOf {α : Type} (E : Enc α) (w : World) (B : Nat) (A : Option Addr) (l : List α) : Prop :=
  ∀ k x, l[k]? = some x → ∃ b off, A = some ⟨b, off, none⟩ ∧ b < B ∧ ∀ j u, (E.cells x)[j]? = some u → w.cell? ⟨b, off + (k * E.size + j), none⟩ = some u

section
variable {α : Type} {E : Enc α} {w w' : World} {B B' : Nat} {A : Option Addr} {l : List α}
theorem SlOf.below (h : SlOf E w B A l) (hb : Below B w w') (hB : B ≤ B') : SlOf E w' B' A l := by
  intro k x hk
  obtain ⟨b, off, hA, hlt, hc⟩ := h k x hk
  exact ⟨b, off, hA, by omega, fun j u hu => (hb.cell (p := ⟨b, _, none⟩) hlt).trans (hc j u hu)⟩
theorem SlOf.nil : SlOf E w B A [] := fun k x h => by simp at h
/-- The first k elements. -/
theorem SlOf.take (h : SlOf E w B A l) (n : Nat) : SlOf E w B A (l.take n) := fun k x hk => by
  have hk' : k < n := by
    have := get_lt hk
    simp at this; omega
  exact h k x (by rw [List.getElem?_take_of_lt hk'] at hk; exact hk)
/-- What lies from k on: the address as the walk has it. -/
theorem SlOf.drop (h : SlOf E w B A l) {n cap : Nat} (hn : n ≤ l.length) (hc : l.length ≤ cap) : SlOf E w B (if cap = n then A else A.map (·.add (n * E.size))) (l.drop n) := by
  intro k x hk
  rw [List.getElem?_drop] at hk
  obtain ⟨b, off, hA, hlt, hcl⟩ := h _ x hk
  have := get_lt hk
  rw [if_neg (by omega), hA]
  refine ⟨b, off + n * E.size, by simp [Addr.add_lit], hlt, fun j u hu => ?_⟩
  have h1 : off + n * E.size + (k * E.size + j) = off + ((n + k) * E.size + j) := by rw [Nat.add_mul]; omega
  rw [h1]
  exact hcl j u hu

/-- What the call owns reads as a list. -/
def Own (E : Enc α) (t : TypeId) (base : Nat) (w : World) (v : Value) (l : List α) : Prop := w.ownsRow base t E.size v l.length (E.all l)

theorem Own.nil (t : TypeId) (base : Nat) : Own E t base w (.slice none 0 0) [] := World.ownsRow_nil _ _ _ _
theorem Own.sl {t : TypeId} {base : Nat} {v : Value} (h : Own E t base w v l) : ∃ A c, v = .slice A l.length c ∧ (l.length ≤ c ∧ c ≤ maxLen) ∧ (l = [] ∨ A ≠ none) ∧ SlOf E w w.heap.size A l := by
  rcases h.2 with ⟨rfl, h0⟩ | ⟨g, cap, cur, rfl, hg, hh, hcap, hmax, r⟩
  · have := List.eq_nil_of_length_eq_zero h0
    subst this
    exact ⟨none, 0, rfl, ⟨by simp, by simp [maxLen]⟩, .inl rfl, SlOf.nil⟩
  · refine ⟨_, cap, rfl, ⟨hcap, hmax⟩, .inr (by simp), fun k x hx => ⟨g, 0, rfl, (Array.getElem?_eq_some_iff.1 hh).1, fun j u hu => ?_⟩⟩
    have hc := h.cells (g := g) rfl
    have hj : j < E.size := by rw [← E.len x]; exact get_lt hu
    have := hc (k * E.size + j) u (by rw [E.all_get l k x hx j hj, hu])
    rw [Addr.add_lit] at this
    exact this
theorem Own.below {t : TypeId} {base : Nat} {v : Value} (h : Own E t base w v l) (hb : Below B w w') (hB : w.heap.size ≤ B) : Own E t base w' v l := by
  refine ⟨h.1, ?_⟩
  rcases h.2 with h2 | ⟨g, cap, cur, hv, hg, hh, r⟩
  · exact .inl h2
  · exact .inr ⟨g, cap, cur, hv, hg, (hb.block g (by have := (Array.getElem?_eq_some_iff.1 hh).1; omega)).trans hh, r⟩
theorem Own.alloc {t : TypeId} {base : Nat} {v : Value} (h : Own E t base w v l) (o : Obj) : Own E t base (w.alloc o) v l := World.ownsRow.alloc h o
theorem Own.mono {t : TypeId} {base base' : Nat} {v : Value} (h : Own E t base w v l) (hb : base' ≤ base) : Own E t base' w v l := by
  refine ⟨h.1, ?_⟩
  rcases h.2 with h2 | ⟨g, cap, cur, hv, hg, r⟩
  · exact .inl h2
  · exact .inr ⟨g, cap, cur, hv, by omega, r⟩
end

theorem cells_new (w : World) (cs : Array Value) (t : TypeId) (j : Nat) : (w.alloc (.cells cs t)).cell? ((⟨w.heap.size, 0, none⟩ : Addr).add j) = cs[j]? := by
  rw [Addr.add_lit, cell_of_row _ _ _ cs t (0, 0) (heap_alloc_new w _)]
  simp
theorem cells_new' (w : World) (l : List Value) (cs : Array Value) (t : TypeId) (h : cs.toList = l) : ∀ (j : Nat) (u : Value), l[j]? = some u → (w.alloc (.cells cs t)).cell? ((⟨w.heap.size, 0, none⟩ : Addr).add j) = some u := by
  intro j u hu
  rw [cells_new, ← Array.getElem?_toList, h, hu]

/-- A slice literal: its cells lie in a block of their own. -/
theorem SlOf.new {α : Type} {E : Enc α} (w : World) (cs : Array Value) (t : TypeId) (l : List α) (h : cs.toList = E.all l) : SlOf E (w.alloc (.cells cs t)) (w.heap.size + 1) (some ⟨w.heap.size, 0, none⟩) l := by
  intro k x hk
  refine ⟨_, _, rfl, by omega, fun j u hu => ?_⟩
  have hj : j < E.size := by rw [← E.len x]; exact get_lt hu
  have := cells_new' w (E.all l) cs t h (k * E.size + j) u (by rw [E.all_get l k x hk j hj, hu])
  rw [Addr.add_lit] at this
  exact this

theorem drewN_below {B : Nat} {a w : World} (h : Below B a w) : ∀ n : Nat, Below B a (w.drewN n)
  | _ => ⟨h.os, h.tape, h.output, h.size, h.block⟩

theorem cell_lt {w : World} {a : Addr} {u : Value} (h : w.cell? a = some u) : a.block < w.heap.size := by
  rcases Nat.lt_or_ge a.block w.heap.size with hlt | hge
  · exact hlt
  · unfold World.cell? at h
    rw [Array.getElem?_eq_none hge] at h
    cases h
theorem add_block (a : Addr) (n : Nat) : (a.add n).block = a.block := by unfold Addr.add; split <;> rfl
theorem add_add' (a : Addr) (i j : Nat) : (a.add i).add j = a.add (i + j) := by
  unfold Addr.add
  by_cases hi : i = 0 <;> by_cases hj : j = 0 <;> simp [hi, hj, Nat.add_assoc]

/-! ### append of one element -/
structure ElemTy (P : Program) (t e : TypeId) (size bytes : Nat) : Prop where
  ht : P.underlying t = some (.slice e)
  hi : ∃ i z, P.info? e = some i ∧ i.zero = some z ∧ i.size = size ∧ i.bytes = bytes ∧ z.cells.size = size ∧ 0 < size
theorem ElemTy.of {P : Program} {t e : TypeId} {size bytes : Nat} {z : Value} (ht : P.underlying t = some (.slice e)) (h : (P.info? e).map (fun i => (i.zero, i.size, i.bytes)) = some (some z, size, bytes)) (hz : z.cells.size = size) (hp : 0 < size) : ElemTy P t e size bytes := by
  obtain ⟨i, hi, h1, h2, h3⟩ := info_parts h
  exact ⟨ht, i, z, hi, h1, h2, h3, hz, hp⟩

theorem grown_below {w w1 : World} {base B : Nat} {t : TypeId} {size n : Nat} {v : Value} {xs : List Value} (hown : w.ownsRow base t size v n xs) (hg : w.grownBy w1 v.ownBlock) (hB : B ≤ base) (hs : base ≤ w.heap.size) : Below B w w1 :=
  (Below.refl B w).grown hg (by omega) (fun k hk => by have := (hown.lt k hk).1; omega)

/-- 'out = append(out, x)': x has been laid in a block of its own; out is nil or the call's own. -/
theorem wpList_app1 {P : Program} {w0 : World} {cs : Array Value} {ops : Array Oper} {rest : List Oper} {o : Oper} {a : Act} {Q : Exit → Act → World → Prop} (hgd : o.guard = none) (s x : Operand) (t : TypeId)
    (ho : o.op = .call { callee := .builtin .append, args := #[s, x], argTypes := #[t, t] }) {e : TypeId} {size bytes : Nat} (hT : ElemTy P t e size bytes) (base : Nat)
    {v : Value} {n : Nat} {xs : List Value} (hown : w0.ownsRow base e size v n xs) (hs : a.eval s = v) (hx : a.eval x = .slice (some ⟨w0.heap.size, 0, none⟩) 1 1) (hl : cs.size = size) (h1 : cs.toList.all (fun u => u.oneCell') = true)
    (h63 : n + 1 ≤ maxLen) (hbytes : (n + 1) * bytes ≤ 140737488355328) (hbase : base ≤ w0.heap.size)
    (h : ∀ v' w', w'.ownsRow base e size v' (n + 1) (xs ++ cs.toList) → Below base w0 w' → v' ≠ .slice none 0 0 → wpList P ops Q rest (a.put o.dst v') w') : wpList P ops Q (o :: rest) a (w0.alloc (.cells cs e)) := by
  obtain ⟨ht, i, z, hi, hz, hsize, hby, hzs, hsz⟩ := hT
  refine wpList_append_own_at _ hgd s x t ho base e i z size bytes ht hi hz hsize hby hzs hsz v n xs hs (hown.alloc _) ⟨w0.heap.size, 0, none⟩ 1 1 cs.toList hx (by simpa using hl) (cells_new' _ _ _ _ rfl) (fun u hu => List.all_eq_true.1 h1 u hu) h63 hbytes (by simp; omega) ?_
  intro v' w' h2 h3 h4 _
  exact h v' w' h2 (((Below.refl base w0).alloc hbase _).trans (grown_below (hown.alloc _) h3 (Nat.le_refl _) (by simp; omega))) (fun e => by have := (h4.1 e).2; omega)

/-- The same, said of a list. -/
theorem Own.app {α : Type} {E : Enc α} {t : TypeId} {base : Nat} {w : World} {v : Value} {l : List α} {x : α} {cs : List Value} (h : w.ownsRow base t E.size v (l.length + 1) (E.all l ++ cs)) (hc : cs = E.cells x) : Own E t base w v (l ++ [x]) := by
  subst hc
  unfold Own
  rw [E.all_snoc, List.length_append]
  exact h

/-- 'append(out, x...)' in a region that draws its order; out is nil or the call's own. -/
theorem step_app {P : Program} {w : World} {ops : Array Oper} {o : Oper} {a : Act} {K : Act → World → Prop} {Q : Exit → Act → World → Prop} {E : Prop} (hgd : o.guard = none) (s x : Operand) (t : TypeId)
    (ho : o.op = .call { callee := .builtin .append, args := #[s, x], argTypes := #[t, t] }) {e : TypeId} {size bytes : Nat} (hT : ElemTy P t e size bytes) (base : Nat)
    {v : Value} {n : Nat} {xs : List Value} (hown : w.ownsRow base e size v n xs) (hs : a.eval s = v) {ad : Addr} {m c : Nat} {news : List Value} (hnews : ∀ j u, news[j]? = some u → w.cell? (ad.add j) = some u) (hx : a.eval x = .slice (some ad) m c) (hl : news.length = m * size) (h1 : ∀ u ∈ news, u.oneCell' = true)
    (h63 : n + m ≤ maxLen) (hbytes : (n + m) * bytes ≤ 140737488355328) (hbase : base ≤ w.heap.size)
    (h : ∀ v' w', w'.ownsRow base e size v' (n + m) (xs ++ news) → Below base w w' → (v' = .slice none 0 0 ↔ v = .slice none 0 0 ∧ m = 0) → K (a.put o.dst v') w') : if Region.wanted o (yielded ops a.tmps) = true then Oper.wp P o a w K Q else E := by
  have hw : Region.wanted o (yielded ops a.tmps) = true := by simp [Region.wanted, hgd]
  rw [if_pos hw]
  obtain ⟨ht, i, z, hi, hz, hsize, hby, hzs, hsz⟩ := hT
  obtain ⟨v', w', hr, h2, h3, h4, h5⟩ := run_append_own_at (P := P) w base t o.type e i z size bytes ht hi hz hsize hby hzs hsz v n xs hown ad m c news hl hnews h1 h63 hbytes hbase
  unfold Oper.wp execOp
  simp only [ho, resolve, invoke, builtin, Sem.run_bind, Sem.run_pure, Result.andThen_ok, List.map_toArray, List.map_cons, List.map_nil, hs, hx, hr]
  exact h v' w' h2 (grown_below hown h3 (Nat.le_refl _) hbase) h4

/-! ### a region that draws its order, whose calls may make memory: one walk, in a class of worlds -/
theorem wp_region_class {P : Program} {ι : Type} {W : ι → World} {id : Nat} {Q : Exit → Act → World → Prop} {a : Act} {w : World} {l : List Oper} {i0 : ι} (h0 : w.drew = W i0) (hm : P.follows .mixedOrders = true) (hB : Region.lexB .any l.toArray = true)
    (h : wpQuiet P l.toArray (fun w' => ∃ i, w' = W i) (fun a' => ∀ w', (∃ i, w' = W i) → Q .normal a' w') l a) : (Code.region id l.toArray true).wp P Q a w :=
  wp_region_quiet (C := fun w' => ∃ i, w' = W i) hm hB ⟨i0, h0⟩ (by simpa using h)
theorem class_of (w : World) : ∃ (ι : Type) (W : ι → World) (i0 : ι), w.drew = W i0 ∧ (∀ i, Below w.heap.size w (W i)) ∧ (∀ i x, Below (W i).heap.size (W i) x → ∃ j, x = W j) :=
  ⟨{ x : World // Below w.heap.size w x }, Subtype.val, ⟨w.drew, (Below.refl _ _).drew⟩, rfl, fun i => i.2, fun i x h => ⟨⟨x, i.2.trans (h.mono i.2.size)⟩, rfl⟩⟩
theorem class_call {P : Program} {ι : Type} {W : ι → World} {i : ι} {f : FuncId} {args : Array Value} {v : Value} (hcov : ∀ i x, Below (W i).heap.size (W i) x → ∃ j, x = W j)
    (h : Calls P f args (W i) fun e w' => e = .returned v ∧ Below (W i).heap.size (W i) w') : Calls P f args (W i) fun e w' => e = .returned v ∧ ∃ j, w' = W j :=
  h.mono fun _ w' ⟨he, hb⟩ => ⟨he, hcov i w' hb⟩

end Go.Proofs.YtgjcniokgdicpaaGreatDoor
