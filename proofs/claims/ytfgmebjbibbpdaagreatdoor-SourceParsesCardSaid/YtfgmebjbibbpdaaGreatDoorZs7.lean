/- Texts joined: Sources: what a reader holds in memory. Sources: the object of a line. asm.number: the number of a word, behind its letter. asm.guess: the instruction that a line may be of. asm.guess: the instruction that a line may be of, kind for kind. -/
import Derived.Test.YtfgmebjbibbpdaaGreatDoorZs6
import Derived.Test.YtfgmebjbibbpdaaGreatDoorZs4
import Derived.Test.YtfgmebjbibbpdaaGreatDoorZs3
import Derived.OneCell
import Derived.Test.YtfgmebjbibbpdaaGreatDoorZs1
import Derived.Test.YtfgmebjbibbpdaaGreatDoorShelf
import Derived.Shelf.Strings.SlTrimAscii
import Derived.Deep.RegionHeld3
namespace Go.Proofs.YtfgmebjbibbpdaaGreatDoor
open Go.RowKit

/-! ### rows of a type -/
section
variable {α β : Type}
def SlT (E : Enc α) (ty : TypeId) (w : World) (lo N : Nat) (A : Option Addr) (l : List α) : Prop :=
  ∀ k x, l[k]? = some x → ∃ b off cur, A = some ⟨b, off, none⟩ ∧ (lo ≤ b ∧ b < N) ∧ w.heap[b]? = some (.cells cur ty (0, 0)) ∧ ∀ j u, (E.cells x)[j]? = some u → cur[off + (k * E.size + j)]? = some u
/-- Rows of the type stay as they are. -/
def KeepT (lo : Nat) (ty : TypeId) (w w' : World) : Prop := ∀ (b : Nat) (cur : Array Value), lo ≤ b → w.heap[b]? = some (.cells cur ty (0, 0)) → w'.heap[b]? = some (.cells cur ty (0, 0))
theorem KeepT.refl (lo : Nat) (ty : TypeId) (w : World) : KeepT lo ty w w := fun _ _ _ h => h
theorem KeepT.trans {lo : Nat} {ty : TypeId} {w w' w'' : World} (h : KeepT lo ty w w') (h' : KeepT lo ty w' w'') : KeepT lo ty w w'' := fun b cur hl hb => h' b cur hl (h b cur hl hb)
theorem KeepT.below {lo : Nat} {w w' : World} (hb : Below w.heap.size w w') (ty : TypeId) : KeepT lo ty w w' := fun b _ _ h => (hb.block b (Array.getElem?_eq_some_iff.1 h).1).trans h
theorem KeepT.set {lo : Nat} {w : World} {b : Nat} {arr : Array Value} {ty' : TypeId} (h : RowB w b arr ty') {ty : TypeId} (ht : ty' ≠ ty) (j : Nat) (v : Value) : KeepT lo ty w (w.setCell ⟨b, j, none⟩ v) := fun g cur _ hg => by
  rw [heap_set w b j v g ?_]
  · exact hg
  · intro e
    subst e
    have h1 : w.heap[g]? = some (.cells arr ty' (0, 0)) := h
    rw [hg] at h1
    injection h1 with h1
    injection h1 with _ h2
    exact ht h2.symm
theorem KeepT.app {lo : Nat} {w w' : World} {base size n : Nat} {v : Value} {xs : List Value} {ty' : TypeId} (h : w.ownsRow base ty' size v n xs) {ty : TypeId} (ht : ty' ≠ ty) (hk : ∀ k, k < w.heap.size → some k ≠ v.ownBlock → w'.heap[k]? = w.heap[k]?) : KeepT lo ty w w' := fun g cur _ hg => by
  rw [hk g (Array.getElem?_eq_some_iff.1 hg).1 ?_]
  · exact hg
  · intro e
    rcases h.2 with ⟨rfl, _⟩ | ⟨g', cap, cur', rfl, _, hh, _⟩
    · simp [Value.ownBlock] at e
    · obtain rfl : g = g' := by simpa [Value.ownBlock] using e
      rw [hh] at hg
      injection hg with hg
      injection hg with _ h2
      exact ht h2
theorem SlT.keep {E : Enc α} {ty : TypeId} {w w' : World} {lo N N' : Nat} {A : Option Addr} {l : List α} (h : SlT E ty w lo N A l) (hk : KeepT lo ty w w') (hN : N ≤ N') : SlT E ty w' lo N' A l := fun k x hx => by
  obtain ⟨b, off, cur, hA, hb, hh, hc⟩ := h k x hx
  exact ⟨b, off, cur, hA, by omega, hk b cur hb.1 hh, hc⟩
/-- What lies below N, where blocks below N stay as they are. -/
theorem SlT.low {E : Enc α} {ty : TypeId} {w w' : World} {lo N : Nat} {A : Option Addr} {l : List α} (h : SlT E ty w lo N A l) (hk : ∀ b, b < N → w'.heap[b]? = w.heap[b]?) : SlT E ty w' lo N A l := fun k x hx => by
  obtain ⟨b, off, cur, hA, hb, hh, hc⟩ := h k x hx
  exact ⟨b, off, cur, hA, hb, (hk b hb.2).trans hh, hc⟩
theorem SlT.nil (E : Enc α) (ty : TypeId) (w : World) (lo N : Nat) (A : Option Addr) : SlT E ty w lo N A [] := fun k x h => by simp at h
theorem SlT.sl {E : Enc α} {ty : TypeId} {w : World} {lo N : Nat} {A : Option Addr} {l : List α} (h : SlT E ty w lo N A l) : SlOf E w N A l := fun k x hx => by
  obtain ⟨b, off, cur, hA, hb, hh, hc⟩ := h k x hx
  exact ⟨b, off, hA, hb.2, fun j u hu => (RowB.cell (w := w) (n := b) hh _).trans (hc j u hu)⟩
theorem own_keepT {E : Enc α} {ty : TypeId} {w w' : World} {lo base : Nat} {v : Value} {l : List α} (h : Own E ty base w v l) (hk : KeepT lo ty w w') (hlb : lo ≤ base := by first | exact Nat.le_refl _ | assumption) : Own E ty base w' v l := by
  refine ⟨h.1, ?_⟩
  rcases h.2 with h2 | ⟨g, cap, cur, hv, hg, hh, r⟩
  · exact .inl h2
  · exact .inr ⟨g, cap, cur, hv, hg, hk g cur (Nat.le_trans hlb hg) hh, r⟩
theorem Own.slT {E : Enc α} {ty : TypeId} {w : World} {base n c : Nat} {A : Option Addr} {l : List α} (h : Own E ty base w (.slice A n c) l) {lo : Nat} (hlb : lo ≤ base) : SlT E ty w lo w.heap.size A l := fun k x hx => by
  rcases h.2 with ⟨_, h0⟩ | ⟨g, cap, cur, hv, hg, hh, hcap, hmax, hsz, htk⟩
  · rw [List.eq_nil_of_length_eq_zero h0] at hx
    simp at hx
  · injection hv with hA hn hc
    refine ⟨g, 0, cur, hA, ⟨Nat.le_trans hlb hg, (Array.getElem?_eq_some_iff.1 hh).1⟩, hh, fun j u hu => ?_⟩
    have hj : j < E.size := by rw [← E.len x]; exact get_lt hu
    have h1 := E.all_get l k x hx j hj
    rw [hu, ← htk, List.getElem?_take] at h1
    split at h1
    · rw [Nat.zero_add, ← Array.getElem?_toList]; exact h1
    · cases h1
theorem Own.bd {E : Enc α} {ty : TypeId} {w : World} {base n c : Nat} {A : Option Addr} {l : List α} (h : Own E ty base w (.slice A n c) l) : n = l.length ∧ n ≤ c ∧ c ≤ maxLen := by
  obtain ⟨A', c', hv, hc, _, _⟩ := h.sl
  injection hv with h1 h2 h3
  subst h2 h3
  exact ⟨rfl, hc⟩
theorem Own.blk {E : Enc α} {ty : TypeId} {w : World} {base : Nat} {v : Value} {l : List α} (h : Own E ty base w v l) {b : Nat} (hb : v.ownBlock = some b) : base ≤ b ∧ b < w.heap.size := World.ownsRow.lt h b hb
theorem Own.row {E : Enc α} {ty : TypeId} {w : World} {base : Nat} {v : Value} {l : List α} (h : Own E ty base w v l) {b : Nat} (hb : v.ownBlock = some b) : ∃ cur, RowB w b cur ty := by
  rcases h.2 with ⟨e, _⟩ | ⟨g, cap, cur, e, hg, hh, _⟩
  · rw [e] at hb; cases hb
  · rw [e] at hb
    have : g = b := Option.some.inj hb
    subst this
    exact ⟨cur, hh⟩
/-- Element for element. -/
def AllP (R : α → β → Prop) (l : List α) (m : List β) : Prop := l.length = m.length ∧ ∀ (k : Nat) a b, l[k]? = some a → m[k]? = some b → R a b
theorem AllP.nil (R : α → β → Prop) : AllP R [] [] := ⟨rfl, fun k a b h => by simp at h⟩
theorem AllP.imp {R R' : α → β → Prop} {l : List α} {m : List β} (h : AllP R l m) (hi : ∀ a b, R a b → R' a b) : AllP R' l m := ⟨h.1, fun k a b ha hb => hi a b (h.2 k a b ha hb)⟩
theorem AllP.snoc {R : α → β → Prop} {l : List α} {m : List β} {a : α} {b : β} (h : AllP R l m) (hab : R a b) : AllP R (l ++ [a]) (m ++ [b]) := by
  refine ⟨by simp [h.1], fun k x y hx hy => ?_⟩
  by_cases hk : k < l.length
  · rw [List.getElem?_append_left hk] at hx
    rw [List.getElem?_append_left (by rw [← h.1]; exact hk)] at hy
    exact h.2 k x y hx hy
  · rw [List.getElem?_append_right (by omega)] at hx
    rw [List.getElem?_append_right (by rw [← h.1]; omega), ← h.1] at hy
    have hk0 : k - l.length = 0 := by
      have := get_lt hx
      simp at this
      omega
    rw [hk0] at hx hy
    simp at hx hy
    subst hx hy
    exact hab
theorem AllP.get {R : α → β → Prop} {l : List α} {m : List β} (h : AllP R l m) {k : Nat} {b : β} (hb : m[k]? = some b) : ∃ a, l[k]? = some a ∧ R a b := by
  have hk : k < l.length := by rw [h.1]; exact get_lt hb
  exact ⟨l[k], List.getElem?_eq_getElem hk, h.2 k _ b (List.getElem?_eq_getElem hk) hb⟩
end

/-! ### tasks and objects in cells -/
structure Tq where
  kd : Int
  pr : Int
  pe : Int
  off : Int
  dl : Int
  ow : Int
  A : Option Addr
  n : Nat
  c : Nat
structure Oq where
  kd : Int
  wd : Int
  sl : Int
  cp : Int
  st : Int
  I : Option Addr
  ni : Nat
  ci : Nat
  wr : Int
  R : Option Addr
  nr : Nat
  cr : Nat
def Tq.cells (q : Tq) : List Value := [.int .i64 q.kd, .int .i64 q.pr, .int .i64 q.pe, .int .i64 q.off, .int .i64 q.dl, .int .i64 q.ow, .slice q.A q.n q.c]
def Oq.cells (q : Oq) : List Value := [.int .i64 q.kd, .int .i64 q.wd, .int .i64 q.sl, .int .i64 q.cp, .int .u32 q.st, .slice q.I q.ni q.ci, .int .i64 q.wr, .slice q.R q.nr q.cr]
def tqE : Enc Tq := ⟨Tq.cells, 7, fun _ => rfl, fun x u hu => by
  simp only [Tq.cells, List.mem_cons, List.not_mem_nil, or_false] at hu
  rcases hu with rfl | rfl | rfl | rfl | rfl | rfl | rfl <;> rfl, by omega⟩
def oqE : Enc Oq := ⟨Oq.cells, 8, fun _ => rfl, fun x u hu => by
  simp only [Oq.cells, List.mem_cons, List.not_mem_nil, or_false] at hu
  rcases hu with rfl | rfl | rfl | rfl | rfl | rfl | rfl | rfl <;> rfl, by omega⟩
theorem tkTy : ElemTy Tryz.prog 22 46 7 72 := ElemTy.of (z := .agg #[.int .i64 0, .int .i64 0, .int .i64 0, .int .i64 0, .int .i64 0, .int .i64 0, .slice none 0 0]) Tryz.underlying22 (by kernel_rfl) rfl (by omega)
theorem ojTy : ElemTy Tryz.prog 23 42 8 96 := ElemTy.of (z := .agg #[.int .i64 0, .int .i64 0, .int .i64 0, .int .i64 0, .int .u32 0, .slice none 0 0, .int .i64 0, .slice none 0 0]) Tryz.underlying23 (by kernel_rfl) rfl (by omega)
def TqS (q : Tq) (t : Tk) : Prop := q.kd = t.kd ∧ q.pr = t.pr ∧ q.pe = t.pe ∧ q.off = t.off ∧ q.dl = t.dl ∧ q.ow = t.ow
def i64B (z : Int) : Prop := -9223372036854775808 ≤ z ∧ z ≤ 9223372036854775807
structure TqOk (w : World) (lo N : Nat) (q : Tq) (t : Tk) : Prop where
  sc : TqS q t
  n : q.n = t.code.length
  c : q.n ≤ q.c ∧ q.c ≤ maxLen
  code : SlT insE 73 w lo N q.A t.code
  ok : ∀ e ∈ t.code, e.ok
  bd : ∀ z ∈ t.kd :: t.five, i64B z
structure OqOk (w : World) (lo N : Nat) (q : Oq) (o : Oj) : Prop where
  sc : q.kd = o.kd ∧ q.wd = o.wd ∧ q.sl = o.sl ∧ q.cp = o.cp ∧ q.st = o.st ∧ q.wr = o.wr
  ni : q.ni = o.ini.length
  ci : q.ni ≤ q.ci ∧ q.ci ≤ maxLen
  ini : SlT (ints .u32) 38 w lo N q.I o.ini
  wf : ∀ z ∈ o.ini, (Lit.int .u32 z).wf = true
  nr : q.nr = o.rd.length
  cr : q.nr ≤ q.cr ∧ q.cr ≤ maxLen
  rd : SlT (ints .i64) 3 w lo N q.R o.rd
  st : 0 ≤ o.st ∧ o.st < 4294967296
  bd : ∀ z ∈ o.kd :: o.wd :: o.sl :: o.cp :: o.wr :: o.rd, i64B z
theorem TqOk.keep {w w' : World} {lo N N' : Nat} {q : Tq} {t : Tk} (h : TqOk w lo N q t) (hk : KeepT lo 73 w w') (hN : N ≤ N') : TqOk w' lo N' q t := ⟨h.sc, h.n, h.c, h.code.keep hk hN, h.ok, h.bd⟩
theorem TqOk.low {w w' : World} {lo N : Nat} {q : Tq} {t : Tk} (h : TqOk w lo N q t) (hk : ∀ b, b < N → w'.heap[b]? = w.heap[b]?) : TqOk w' lo N q t := ⟨h.sc, h.n, h.c, h.code.low hk, h.ok, h.bd⟩
theorem OqOk.keep {w w' : World} {lo N N' : Nat} {q : Oq} {o : Oj} (h : OqOk w lo N q o) (h1 : KeepT lo 38 w w') (h2 : KeepT lo 3 w w') (hN : N ≤ N') : OqOk w' lo N' q o := ⟨h.sc, h.ni, h.ci, h.ini.keep h1 hN, h.wf, h.nr, h.cr, h.rd.keep h2 hN, h.st, h.bd⟩

/-! ### a reader -/
abbrev tyR : TypeId := 65
abbrev tyT : TypeId := 46
abbrev tyO : TypeId := 42
abbrev tyI : TypeId := 73
/-- No task is open. -/
structure RdC (w : World) (lo rb : Nat) (vt vo : Value) (qs : List Tq) (ps : List Oq) (s : Sy) : Prop where
  hr : RowB w rb #[vt, vo, .bool false] tyR
  ht : Own tqE tyT lo w vt qs
  ho : Own oqE tyO lo w vo ps
  hts : AllP (TqOk w lo w.heap.size) qs s.ts
  hos : AllP (OqOk w lo w.heap.size) ps s.os
/-- What is held of the task that is open. -/
structure OpT (w : World) (N : Nat) (q : Tq) (t : Tk) : Prop where
  sc : TqS q t
  code : Own insE tyI N w (.slice q.A q.n q.c) t.code
  ok : ∀ e ∈ t.code, e.ok
  bd : ∀ z ∈ t.kd :: t.five, i64B z
structure RdO (w : World) (lo rb N : Nat) (vt vo : Value) (qs : List Tq) (q : Tq) (ts : List Tk) (t : Tk) : Prop where
  hN : N ≤ w.heap.size
  hlo : lo ≤ N
  hr : RowB w rb #[vt, vo, .bool true] tyR
  ht : Own tqE tyT lo w vt (qs ++ [q])
  ho : Own oqE tyO lo w vo []
  hts : AllP (TqOk w lo N) qs ts
  hop : OpT w N q t
theorem OpT.closed {w : World} {lo N : Nat} {q : Tq} {t : Tk} (h : OpT w N q t) (hlo : lo ≤ N) : TqOk w lo w.heap.size q t := ⟨h.sc, h.code.bd.1, h.code.bd.2, h.code.slT hlo, h.ok, h.bd⟩
/-- What was there stays; what is new is new. -/
theorem RdC.below {w w' : World} {lo rb : Nat} {vt vo : Value} {qs : List Tq} {ps : List Oq} {s : Sy} (h : RdC w lo rb vt vo qs ps s) (hb : Below w.heap.size w w') : RdC w' lo rb vt vo qs ps s :=
  ⟨h.hr.kept hb, own_keepT h.ht (KeepT.below (lo := lo) hb _), own_keepT h.ho (KeepT.below (lo := lo) hb _), h.hts.imp fun a b h => h.keep (KeepT.below (lo := lo) hb _) hb.size, h.hos.imp fun a b h => h.keep (KeepT.below (lo := lo) hb _) (KeepT.below (lo := lo) hb _) hb.size⟩
theorem RdO.below {w w' : World} {lo rb N : Nat} {vt vo : Value} {qs : List Tq} {q : Tq} {ts : List Tk} {t : Tk} (h : RdO w lo rb N vt vo qs q ts t) (hb : Below w.heap.size w w') : RdO w' lo rb N vt vo qs q ts t :=
  ⟨Nat.le_trans h.hN hb.size, h.hlo, h.hr.kept hb, own_keepT h.ht (KeepT.below (lo := lo) hb _), own_keepT h.ho (KeepT.below (lo := lo) hb _), h.hts.imp fun a b h => h.keep (KeepT.below (lo := lo) hb _) (Nat.le_refl _), ⟨h.hop.sc, own_keepT (lo := lo) h.hop.code (KeepT.below (lo := lo) hb _) h.hlo, h.hop.ok, h.hop.bd⟩⟩
/-- What lies from lo on stays, and the reader's own block. -/
theorem RdC.keep {w w' : World} {lo rb : Nat} {vt vo : Value} {qs : List Tq} {ps : List Oq} {s : Sy} (h : RdC w lo rb vt vo qs ps s) (hr : w'.heap[rb]? = w.heap[rb]?) (hk : ∀ ty, KeepT lo ty w w') (hs : w.heap.size ≤ w'.heap.size) : RdC w' lo rb vt vo qs ps s :=
  ⟨hr.trans h.hr, own_keepT h.ht (hk _), own_keepT h.ho (hk _), h.hts.imp fun a b h => h.keep (hk _) hs, h.hos.imp fun a b h => h.keep (hk _) (hk _) hs⟩
theorem RdO.keep {w w' : World} {lo rb N : Nat} {vt vo : Value} {qs : List Tq} {q : Tq} {ts : List Tk} {t : Tk} (h : RdO w lo rb N vt vo qs q ts t) (hr : w'.heap[rb]? = w.heap[rb]?) (hk : ∀ ty, KeepT lo ty w w') (hs : w.heap.size ≤ w'.heap.size) : RdO w' lo rb N vt vo qs q ts t :=
  ⟨Nat.le_trans h.hN hs, h.hlo, hr.trans h.hr, own_keepT h.ht (hk _), own_keepT h.ho (hk _), h.hts.imp fun a b h => h.keep (hk _) (Nat.le_refl _), ⟨h.hop.sc, own_keepT h.hop.code (hk _) h.hlo, h.hop.ok, h.hop.bd⟩⟩
/-- The open task is closed. -/
theorem RdO.close {w : World} {lo rb N : Nat} {vt vo : Value} {qs : List Tq} {q : Tq} {ts : List Tk} {t : Tk} (h : RdO w lo rb N vt vo qs q ts t) : RdC (w.setCell ⟨rb, 2, none⟩ (.bool false)) lo rb vt vo (qs ++ [q]) [] ⟨ts ++ [t], []⟩ := by
  have k : ∀ ty, tyR ≠ ty → KeepT lo ty w (w.setCell ⟨rb, 2, none⟩ (.bool false)) := fun ty hne => KeepT.set h.hr hne 2 _
  have hs := size_set w rb 2 (.bool false)
  exact ⟨h.hr.set 2 (.bool false), own_keepT h.ht (k _ (by decide)), own_keepT h.ho (k _ (by decide)),
    (h.hts.imp fun a b hab => hab.keep (k _ (by decide)) (by rw [hs]; exact h.hN)).snoc ((h.hop.closed h.hlo).keep (k _ (by decide)) (by rw [hs]; exact Nat.le_refl _)), AllP.nil _⟩
theorem own_setlast {w : World} {lo tb c : Nat} {A : Option Addr} {n : Nat} {vt : Value} {qs : List Tq} {q : Tq} (h : Own tqE tyT lo w vt (qs ++ [q])) (hv : vt.ownBlock = some tb) :
    Own tqE tyT lo (w.setCell ⟨tb, qs.length * 7 + 6, none⟩ (.slice A n c)) vt (qs ++ [⟨q.kd, q.pr, q.pe, q.off, q.dl, q.ow, A, n, c⟩]) := by
  obtain ⟨h1, h2⟩ := h
  refine ⟨by rw [Enc.all_len], ?_⟩
  rcases h2 with ⟨e, _⟩ | ⟨g, cap, cur, hv', hg, hh, hcap, hmax, hsz, htk⟩
  · rw [e] at hv; cases hv
  · rw [hv'] at hv
    have : g = tb := Option.some.inj hv
    subst this
    refine .inr ⟨g, cap, cur.setIfInBounds (qs.length * 7 + 6) (.slice A n c), by rw [hv']; simp, hg, RowB.set hh _ _, by simpa using hcap, hmax, by rw [Array.size_setIfInBounds]; exact hsz, ?_⟩
    have hl : (tqE.all qs).length = qs.length * 7 := tqE.all_len qs
    have e1 : (qs ++ [(⟨q.kd, q.pr, q.pe, q.off, q.dl, q.ow, A, n, c⟩ : Tq)]).length * tqE.size = (qs ++ [q]).length * tqE.size := by simp
    rw [Array.toList_setIfInBounds, e1, List.take_set, htk, Enc.all_append, Enc.all_append, List.set_append_right _ _ (by rw [hl]; omega), hl, show qs.length * 7 + 6 - qs.length * 7 = 6 by omega]
    rfl
/-- An instruction more in the open task. -/
theorem RdO.code {w w1 : World} {lo rb N tb n c : Nat} {A : Option Addr} {vt vo : Value} {qs : List Tq} {q : Tq} {ts : List Tk} {t : Tk} {e : Ins} (h : RdO w lo rb N vt vo qs q ts t) (hrb : rb < lo) (hv : vt.ownBlock = some tb)
    (hw : Own insE tyI N w1 (.slice A n c) (t.code ++ [e])) (hk : ∀ k, k < w.heap.size → some k ≠ (Value.slice q.A q.n q.c).ownBlock → w1.heap[k]? = w.heap[k]?) (hs : w.heap.size ≤ w1.heap.size) (he : e.ok) :
    RdO (w1.setCell ⟨tb, qs.length * 7 + 6, none⟩ (.slice A n c)) lo rb N vt vo qs ⟨q.kd, q.pr, q.pe, q.off, q.dl, q.ow, A, n, c⟩ ts (t.snoc e) := by
  have kt : ∀ ty, tyI ≠ ty → KeepT lo ty w w1 := fun ty hne => KeepT.app h.hop.code hne hk
  have ht1 := own_keepT h.ht (kt tyT (by decide))
  obtain ⟨cur, hcur⟩ := ht1.row hv
  have ks : ∀ ty, tyT ≠ ty → KeepT lo ty w1 (w1.setCell ⟨tb, qs.length * 7 + 6, none⟩ (.slice A n c)) := fun ty hne => KeepT.set hcur hne _ _
  have hz := size_set w1 tb (qs.length * 7 + 6) (.slice A n c)
  have hN := h.hN
  have hlo := h.hlo
  have htb := (ht1.blk hv).1
  have low : ∀ b, b < N → b < w.heap.size → w1.heap[b]? = w.heap[b]? := fun b hb hb2 => hk b hb2 (fun ee => by
    have := h.hop.code.blk ee.symm
    omega)
  have hr1 : RowB w1 rb #[vt, vo, .bool true] tyR := (low rb (by omega) (by omega)).trans h.hr
  refine ⟨by omega, hlo, hr1.other _ _ _ (by omega), own_setlast ht1 hv, own_keepT (own_keepT h.ho (kt _ (by decide))) (ks _ (by decide)), ?_, ⟨h.hop.sc, own_keepT hw (ks _ (by decide)) hlo, ?_, h.hop.bd⟩⟩
  · exact h.hts.imp fun a b hab => (hab.low (fun x hx => low x hx (by omega))).keep (ks _ (by decide)) (Nat.le_refl _)
  · intro x hx
    rcases List.mem_append.1 hx with hx | hx
    · exact h.hop.ok x hx
    · rw [List.mem_singleton.1 hx]; exact he
/-- A task more, which is open. -/
theorem RdC.task {w w1 : World} {lo rb : Nat} {vt vo vt' : Value} {qs : List Tq} {ps : List Oq} {s : Sy} {t : Tk} (h : RdC w lo rb vt vo qs ps s) (hrb : rb < lo) (hlo : lo ≤ w.heap.size) (hos : s.os = []) (hc : t.code = []) (hbd : ∀ z ∈ t.kd :: t.five, i64B z)
    (hw : Own tqE tyT lo w1 vt' (qs ++ [⟨t.kd, t.pr, t.pe, t.off, t.dl, t.ow, none, 0, 0⟩])) (hk : ∀ k, k < w.heap.size → some k ≠ vt.ownBlock → w1.heap[k]? = w.heap[k]?) (hs : w.heap.size ≤ w1.heap.size) :
    RdO ((w1.setCell ⟨rb, 0, none⟩ vt').setCell ⟨rb, 2, none⟩ (.bool true)) lo rb w1.heap.size vt' vo qs ⟨t.kd, t.pr, t.pe, t.off, t.dl, t.ow, none, 0, 0⟩ s.ts t := by
  have kt : ∀ ty, tyT ≠ ty → KeepT lo ty w w1 := fun ty hne => KeepT.app h.ht hne hk
  have hr1 : RowB w1 rb #[vt, vo, .bool false] tyR := (hk rb (by have := h.hr.lt; omega) (fun ee => by have := h.ht.blk ee.symm; omega)).trans h.hr
  have hr2 := hr1.set 0 vt'
  have ks : ∀ ty, tyR ≠ ty → KeepT lo ty w1 ((w1.setCell ⟨rb, 0, none⟩ vt').setCell ⟨rb, 2, none⟩ (.bool true)) := fun ty hne => (KeepT.set hr1 hne 0 vt').trans (KeepT.set hr2 hne 2 _)
  have hps : ps = [] := by
    have := h.hos.1
    rw [hos] at this
    exact List.eq_nil_of_length_eq_zero this
  have ho := h.ho
  rw [hps] at ho
  refine ⟨by rw [size_set, size_set]; exact Nat.le_refl _, by omega, hr2.set 2 (.bool true), own_keepT hw (ks _ (by decide)), own_keepT (own_keepT ho (kt _ (by decide))) (ks _ (by decide)), ?_, ⟨⟨rfl, rfl, rfl, rfl, rfl, rfl⟩, ?_, ?_, hbd⟩⟩
  · exact h.hts.imp fun a b hab => (hab.keep (kt _ (by decide)) hs).keep (ks _ (by decide)) (Nat.le_refl _)
  · rw [hc]; exact Own.nil _ _
  · rw [hc]; intro e he; cases he
/-- An object more. -/
theorem RdC.obj {w w1 : World} {lo rb : Nat} {vt vo vo' : Value} {qs : List Tq} {ps : List Oq} {s : Sy} {q : Oq} {o : Oj} (h : RdC w lo rb vt vo qs ps s) (hrb : rb < lo) (_hlo : lo ≤ w.heap.size) (hq : OqOk w lo w.heap.size q o)
    (hw : Own oqE tyO lo w1 vo' (ps ++ [q])) (hk : ∀ k, k < w.heap.size → some k ≠ vo.ownBlock → w1.heap[k]? = w.heap[k]?) (hs : w.heap.size ≤ w1.heap.size) :
    RdC (w1.setCell ⟨rb, 1, none⟩ vo') lo rb vt vo' qs (ps ++ [q]) ⟨s.ts, s.os ++ [o]⟩ := by
  have kt : ∀ ty, tyO ≠ ty → KeepT lo ty w w1 := fun ty hne => KeepT.app h.ho hne hk
  have hr1 : RowB w1 rb #[vt, vo, .bool false] tyR := (hk rb (by have := h.hr.lt; omega) (fun ee => by have := h.ho.blk ee.symm; omega)).trans h.hr
  have ks : ∀ ty, tyR ≠ ty → KeepT lo ty w1 (w1.setCell ⟨rb, 1, none⟩ vo') := fun ty hne => KeepT.set hr1 hne 1 vo'
  have hz := size_set w1 rb 1 vo'
  refine ⟨hr1.set 1 vo', own_keepT (own_keepT h.ht (kt _ (by decide))) (ks _ (by decide)), own_keepT hw (ks _ (by decide)), ?_, ?_⟩
  · exact h.hts.imp fun a b hab => (hab.keep (kt _ (by decide)) hs).keep (ks _ (by decide)) (by omega)
  · refine AllP.snoc (h.hos.imp fun a b hab => (hab.keep (kt _ (by decide)) (kt _ (by decide)) hs).keep (ks _ (by decide)) (ks _ (by decide)) (by omega)) ?_
    exact (hq.keep (kt _ (by decide)) (kt _ (by decide)) hs).keep (ks _ (by decide)) (ks _ (by decide)) (by omega)

/-! ### what is left as it was -/
structure FrR (lo rb : Nat) (w w' : World) : Prop where
  low : ∀ j, j < lo → j ≠ rb → w'.heap[j]? = w.heap[j]?
  rest : KeepsOthers w w'
  bel : Below rb w w'
theorem FrR.trans {lo rb : Nat} {w w' w'' : World} (h : FrR lo rb w w') (h' : FrR lo rb w' w'') : FrR lo rb w w'' := ⟨fun j h1 h2 => (h'.low j h1 h2).trans (h.low j h1 h2), h.rest.trans h'.rest, h.bel.trans h'.bel⟩
theorem FrR.below {lo rb : Nat} {w w' : World} (hb : Below w.heap.size w w') (hlo : lo ≤ w.heap.size) (hrb : rb ≤ lo) : FrR lo rb w w' :=
  ⟨fun j h1 _ => hb.block j (by omega), ⟨hb.size, fun k o hk _ => (hb.block k (Array.getElem?_eq_some_iff.1 hk).1).trans hk⟩, hb.mono (by omega)⟩
theorem FrR.set {lo rb : Nat} {w : World} {b : Nat} (j : Nat) (v : Value) (hb : b = rb ∨ lo ≤ b) (hrb : rb ≤ lo) : FrR lo rb w (w.setCell ⟨b, j, none⟩ v) :=
  ⟨fun i h1 h2 => heap_set w b j v i (by omega), KeepsOthers.setCell _ _ _, below_set1 (Below.refl _ _) b j (by omega) v⟩
theorem FrR.app {lo rb base size n : Nat} {ty : TypeId} {w w' : World} {v : Value} {xs : List Value} (h : w.ownsRow base ty size v n xs) (hb : Below base w w') (hk : ∀ k, k < w.heap.size → some k ≠ v.ownBlock → w'.heap[k]? = w.heap[k]?) (hlo : lo ≤ base) (hrb : rb ≤ lo) : FrR lo rb w w' := by
  refine ⟨fun j h1 _ => hb.block j (by omega), ⟨hb.size, fun k o hk' ho => ?_⟩, hb.mono (by omega)⟩
  rw [hk k (Array.getElem?_eq_some_iff.1 hk').1 ?_]
  · exact hk'
  · intro e
    rcases h.2 with ⟨rfl, _⟩ | ⟨g, cap, cur, rfl, _, hh, _⟩
    · simp [Value.ownBlock] at e
    · obtain rfl : k = g := by simpa [Value.ownBlock] using e
      rw [hh] at hk'
      cases hk'
      cases ho

/-! ### handed out -/
theorem RdC.tks {w : World} {lo rb : Nat} {vt vo : Value} {qs : List Tq} {ps : List Oq} {s : Sy} (h : RdC w lo rb vt vo qs ps s) : ∃ A c, vt = .slice A s.ts.length c ∧ TkSl w w.heap.size A s.ts := by
  obtain ⟨A, c, hv, hc, _, hs⟩ := h.ht.sl
  rw [h.hts.1] at hv
  refine ⟨A, c, hv, fun k t ht => ?_⟩
  obtain ⟨q, hq, hok⟩ := h.hts.get ht
  obtain ⟨b, off, hA, hb, hcl⟩ := hs k q hq
  obtain ⟨s1, s2, s3, s4, s5, s6⟩ := hok.sc
  refine ⟨b, off, q.A, q.c, hA, hb, ⟨?_, ?_, ?_, ?_, ?_, ?_, ?_⟩, ⟨hok.code.sl, hok.ok⟩, by rw [← hok.n]; exact hok.c, hok.bd⟩
  · rw [← s1]; exact hcl 0 _ rfl
  · rw [← s2]; exact hcl 1 _ rfl
  · rw [← s3]; exact hcl 2 _ rfl
  · rw [← s4]; exact hcl 3 _ rfl
  · rw [← s5]; exact hcl 4 _ rfl
  · rw [← s6]; exact hcl 5 _ rfl
  · rw [← hok.n]; exact hcl 6 _ rfl
theorem RdC.ojs {w : World} {lo rb : Nat} {vt vo : Value} {qs : List Tq} {ps : List Oq} {s : Sy} (h : RdC w lo rb vt vo qs ps s) : ∃ A c, vo = .slice A s.os.length c ∧ OjSl w w.heap.size A s.os := by
  obtain ⟨A, c, hv, hc, _, hs⟩ := h.ho.sl
  rw [h.hos.1] at hv
  refine ⟨A, c, hv, fun k t ht => ?_⟩
  obtain ⟨q, hq, hok⟩ := h.hos.get ht
  obtain ⟨b, off, hA, hb, hcl⟩ := hs k q hq
  obtain ⟨s1, s2, s3, s4, s5, s6⟩ := hok.sc
  refine ⟨b, off, q.I, q.ci, q.R, q.cr, hA, hb, ⟨?_, ?_, ?_, ?_, ?_, ?_, ?_, ?_⟩, ⟨⟨hok.ini.sl, hok.wf⟩, by rw [← hok.ni]; exact hok.ci⟩, ⟨hok.rd.sl, by rw [← hok.nr]; exact hok.cr⟩, hok.st, hok.bd⟩
  · rw [← s1]; exact hcl 0 _ rfl
  · rw [← s2]; exact hcl 1 _ rfl
  · rw [← s3]; exact hcl 2 _ rfl
  · rw [← s4]; exact hcl 3 _ rfl
  · rw [← s5]; exact hcl 4 _ rfl
  · rw [← hok.ni]; exact hcl 5 _ rfl
  · rw [← s6]; exact hcl 6 _ rfl
  · rw [← hok.nr]; exact hcl 7 _ rfl

end Go.Proofs.YtfgmebjbibbpdaaGreatDoor

namespace Go.Proofs.YtfgmebjbibbpdaaGreatDoor
open Go.RowKit
attribute [local go_sem] Oper.semAt_some

theorem row_set8 {w : World} {b : Nat} {t : TypeId} (a0 a1 a2 a3 a4 a5 a6 a7 : Value) (v0 v1 v2 v3 v4 v5 v6 v7 : Value) (h : RowB w b #[a0, a1, a2, a3, a4, a5, a6, a7] t) : RowB ((((((((w.setCell ⟨b, 0, none⟩ v0).setCell ⟨b, 1, none⟩ v1).setCell ⟨b, 2, none⟩ v2).setCell ⟨b, 3, none⟩ v3).setCell ⟨b, 4, none⟩ v4).setCell ⟨b, 5, none⟩ v5).setCell ⟨b, 6, none⟩ v6).setCell ⟨b, 7, none⟩ v7) b #[v0, v1, v2, v3, v4, v5, v6, v7] t := by
  have h8 := (((((((h.set 0 v0).set 1 v1).set 2 v2).set 3 v3).set 4 v4).set 5 v5).set 6 v6).set 7 v7
  simp only [List.setIfInBounds_toArray, List.set_cons_zero, List.set_cons_succ] at h8
  exact h8
theorem below_s8 {N : Nat} {w0 w : World} (h : Below N w0 w) (b : Nat) (hb : N ≤ b) (v0 v1 v2 v3 v4 v5 v6 v7 : Value) : Below N w0 ((((((((w.setCell ⟨b, 0, none⟩ v0).setCell ⟨b, 1, none⟩ v1).setCell ⟨b, 2, none⟩ v2).setCell ⟨b, 3, none⟩ v3).setCell ⟨b, 4, none⟩ v4).setCell ⟨b, 5, none⟩ v5).setCell ⟨b, 6, none⟩ v6).setCell ⟨b, 7, none⟩ v7) :=
  below_set1 (below_set1 (below_set1 (below_set1 (below_set1 (below_set1 (below_set1 (below_set1 h b 0 hb _) b 1 hb _) b 2 hb _) b 3 hb _) b 4 hb _) b 5 hb _) b 6 hb _) b 7 hb _
theorem cell_set8 (w : World) (b : Nat) (v0 v1 v2 v3 v4 v5 v6 v7 : Value) (m j : Nat) (h : m ≠ b) : ((((((((w.setCell ⟨b, 0, none⟩ v0).setCell ⟨b, 1, none⟩ v1).setCell ⟨b, 2, none⟩ v2).setCell ⟨b, 3, none⟩ v3).setCell ⟨b, 4, none⟩ v4).setCell ⟨b, 5, none⟩ v5).setCell ⟨b, 6, none⟩ v6).setCell ⟨b, 7, none⟩ v7).cell? ⟨m, j, none⟩ = w.cell? ⟨m, j, none⟩ := by
  have hk : ∀ (W : World) (i : Nat) (v : Value), (W.setCell ⟨b, i, none⟩ v).cell? ⟨m, j, none⟩ = W.cell? ⟨m, j, none⟩ := fun W i v => World.cell?_setCell_far W ⟨b, i, none⟩ ⟨m, j, none⟩ v (fun e => h e.symm)
  rw [hk, hk, hk, hk, hk, hk, hk, hk]
/-- An object's cells. -/
def ojR (kd wd sl cp st : Int) (I : Option Addr) (ni ci : Nat) (wr : Int) (R : Option Addr) (nr cr : Nat) : Array Value := #[.int .i64 kd, .int .i64 wd, .int .i64 sl, .int .i64 cp, .int .u32 st, .slice I ni ci, .int .i64 wr, .slice R nr cr]
theorem res_robj (tmps : Array Value) (w : World) {b : Nat} {kd wd sl cp st : Int} {I : Option Addr} {ni ci : Nat} {wr : Int} {R : Option Addr} {nr cr : Nat} {x : Bool} (ha : tmps[2]?.getD undef = .pointer (some ⟨b, 0, none⟩)) (hx : tmps[3]?.getD undef = .bool x) (hbox : RowB w b (ojR kd wd sl cp st I ni ci wr R nr cr) 42) :
    (results Tryz.f46 tmps).run Tryz.prog w = .ok (.tuple #[.agg (ojR kd wd sl cp st I ni ci wr R nr cr), .bool x]) w := by
  have h0 := hbox.cell 0
  have h1 := hbox.cell 1
  have h2 := hbox.cell 2
  have h3 := hbox.cell 3
  have h4 := hbox.cell 4
  have h5 := hbox.cell 5
  have h6 := hbox.cell 6
  have h7 := hbox.cell 7
  simp only [ojR, List.getElem?_toArray, List.getElem?_cons_zero, List.getElem?_cons_succ] at h0 h1 h2 h3 h4 h5 h6 h7
  simp [results, ha, hx, h0, h1, h2, h3, h4, h5, h6, h7, go_sem, ojR]
/-- What the region keeps. -/
def RjS (w5 : World) (g off : Nat) (n0 n1 n2 n3 n4 : Int) (w' : World) : Prop :=
  Below w5.heap.size w5 w' ∧ w'.cell? ⟨g, off, none⟩ = some (.int .i64 n0) ∧ w'.cell? ⟨g, off + 1, none⟩ = some (.int .i64 n1) ∧ w'.cell? ⟨g, off + 2, none⟩ = some (.int .i64 n2) ∧ w'.cell? ⟨g, off + 3, none⟩ = some (.int .i64 n3) ∧ w'.cell? ⟨g, off + 4, none⟩ = some (.int .i64 n4)
theorem RjS.below {w5 w w' : World} {g off : Nat} {n0 n1 n2 n3 n4 : Int} (h : RjS w5 g off n0 n1 n2 n3 n4 w) (hb : Below w.heap.size w w') : RjS w5 g off n0 n1 n2 n3 n4 w' := by
  obtain ⟨h1, h3, h4, h5, h6, h7⟩ := h
  have key : ∀ {p : Addr} {u : Value}, w.cell? p = some u → w'.cell? p = some u := fun {p u} hc => (hb.cell (p := p) (cell_lt hc)).trans hc
  exact ⟨h1.trans (hb.mono h1.size), key h3, key h4, key h5, key h6, key h7⟩
theorem RjS.set8 {w5 w : World} {g off nb : Nat} {n0 n1 n2 n3 n4 : Int} (h : RjS w5 g off n0 n1 n2 n3 n4 w) (hn : w5.heap.size ≤ nb) (hg : g < w5.heap.size) (v0 v1 v2 v3 v4 v5 v6 v7 : Value) : RjS w5 g off n0 n1 n2 n3 n4 ((((((((w.setCell ⟨nb, 0, none⟩ v0).setCell ⟨nb, 1, none⟩ v1).setCell ⟨nb, 2, none⟩ v2).setCell ⟨nb, 3, none⟩ v3).setCell ⟨nb, 4, none⟩ v4).setCell ⟨nb, 5, none⟩ v5).setCell ⟨nb, 6, none⟩ v6).setCell ⟨nb, 7, none⟩ v7) := by
  obtain ⟨h1, h3, h4, h5, h6, h7⟩ := h
  refine ⟨below_s8 h1 nb hn _ _ _ _ _ _ _ _, ?_, ?_, ?_, ?_, ?_⟩
  all_goals (rw [cell_set8 _ _ _ _ _ _ _ _ _ _ _ _ (by omega)]; assumption)
/-- A row of numbers stays where the cells of an earlier block are set. -/
theorem own_set8 {b : Nat} {w : World} {v : Value} {l : List Int} (h : Own (ints .i64) 3 (b + 1) w v l) (v0 v1 v2 v3 v4 v5 v6 v7 : Value) : Own (ints .i64) 3 (b + 1) ((((((((w.setCell ⟨b, 0, none⟩ v0).setCell ⟨b, 1, none⟩ v1).setCell ⟨b, 2, none⟩ v2).setCell ⟨b, 3, none⟩ v3).setCell ⟨b, 4, none⟩ v4).setCell ⟨b, 5, none⟩ v5).setCell ⟨b, 6, none⟩ v6).setCell ⟨b, 7, none⟩ v7) v l :=
  own_set (own_set (own_set (own_set (own_set (own_set (own_set (own_set h (Nat.lt_succ_self b) 0 _) (Nat.lt_succ_self b) 1 _) (Nat.lt_succ_self b) 2 _) (Nat.lt_succ_self b) 3 _) (Nat.lt_succ_self b) 4 _) (Nat.lt_succ_self b) 5 _) (Nat.lt_succ_self b) 6 _) (Nat.lt_succ_self b) 7 _
theorem five_of (q : List (List UInt8)) (h : 7 ≤ q.length) : (q.drop 2).take 5 = [q.getD 2 [], q.getD 3 [], q.getD 4 [], q.getD 5 [], q.getD 6 []] := by
  rcases q with _ | ⟨a0, _ | ⟨a1, _ | ⟨a2, _ | ⟨a3, _ | ⟨a4, _ | ⟨a5, _ | ⟨a6, r⟩⟩⟩⟩⟩⟩⟩ <;> first | rfl | simp at h
/-- What reading an object's line answers: where it is one, the object, its words and readers new. -/
def RObjR (l : List UInt8) (w : World) (e : Ending) (w' : World) : Prop := ∃ (kd wd sl cp st : Int) (I : Option Addr) (ni ci : Nat) (wr : Int) (R : Option Addr) (nr cr : Nat), e = .returned (.tuple #[.agg (ojR kd wd sl cp st I ni ci wr R nr cr), .bool (readOG l).isSome]) ∧
  (∀ o, readOG l = some o → o.kd = kd ∧ o.wd = wd ∧ o.sl = sl ∧ o.cp = cp ∧ o.st = st ∧ o.wr = wr ∧ o.ini.length = ni ∧ o.rd.length = nr ∧ OwnW w.heap.size w' (.slice I ni ci) o.ini ∧ Own (ints .i64) 3 w.heap.size w' (.slice R nr cr) o.rd) ∧ Below w.heap.size w w'
set_option maxRecDepth 100000 in
set_option maxHeartbeats 4000000 in
theorem srobj_any (s : ByteArray) (w : World) (hs : s.size ≤ 19000) (hT : Tab w) (hM : Mx w) :
    Calls Tryz.prog 46 #[.string s] w (RObjR s.data.toList w) := by
  obtain ⟨l, hl⟩ : ∃ l, s.data.toList = l := ⟨_, rfl⟩
  have hlen : l.length = s.size := by rw [← hl]; exact Array.length_toList
  obtain ⟨q, hq⟩ : ∃ q, pcs 32 l = q := ⟨_, rfl⟩
  have hsp := fun W hM => split_any s 32 W hM (by omega)
  have hql : q.length ≤ 20001 := by have := pcs_len_le 32 l; rw [hq] at this; omega
  have hqs : ∀ x ∈ q, x.length ≤ 1000000 := fun x hx => by
    have := pcs_mem 32 l x (by rw [hq]; exact hx)
    omega
  have hq0 : 0 < q.length := by
    rw [← hq]
    cases h : pcs 32 l with
    | nil => exact absurd h (pcs_ne 32 l)
    | cons a r => simp
  rw [hl] at hsp ⊢
  rw [hq] at hsp
  have hRD := Lib.hid (show readOG l = if idxF q rdrW = 7 ∧ 7 ≤ idxF q iniW ∧ (0 ≤ numG (q.getD 5 []) ∧ numG (q.getD 5 []) < 4294967296) ∧ objB (candG q) = true ∧ objL (candG q) = l then some (candG q) else none by unfold readOG; rw [hq])
  have hQS := Lib.hid hqs
  have HQ := Lib.hid hq
  have hl' := Lib.hid hl
  have hsp' := Lib.hid hsp
  have HLEN := Lib.hid hlen
  have hir := idxF_bd q rdrW
  have hii := idxF_bd q iniW
  obtain ⟨ir, hIR⟩ : ∃ x, idxF q rdrW = x := ⟨_, rfl⟩
  obtain ⟨ii, hII⟩ : ∃ x, idxF q iniW = x := ⟨_, rfl⟩
  rw [hIR] at hir
  rw [hII] at hii
  have HIR := Lib.hid hIR
  have HII := Lib.hid hII
  clear hsp hq hl hqs hlen hIR hII
  go_enter Tryz.func46, Tryz.ntmps46
  go_wp2_with fail
  have hnew := RowB.new w (ojR 0 0 0 0 0 none 0 0 0 none 0 0) 42
  have hb0 := (Below.refl w.heap.size w).alloc (Nat.le_refl _) (.cells (ojR 0 0 0 0 0 none 0 0 0 none 0 0) 42)
  obtain ⟨w0, hw0⟩ : ∃ x, w.alloc (.cells (ojR 0 0 0 0 0 none 0 0 0 none 0 0) 42) = x := ⟨_, rfl⟩
  rw [hw0] at hnew hb0
  unfold ojR at hw0
  rw [hw0]
  have hs0 : w0.heap.size = w.heap.size + 1 := by rw [← hw0, World.size_alloc]
  obtain ⟨n, hn⟩ : ∃ n, w.heap.size = n := ⟨_, rfl⟩
  rw [hn] at hnew hb0 hs0 ⊢
  refine (hsp'.out _ (hM.below (by rw [hn]; exact hb0))).mono ?_
  rintro e w1 ⟨rfl, hc1, hb1⟩
  rw [hs0] at hc1
  have HX := Lib.hid (hnew.kept hb1)
  have HB1 := Lib.hid (hb0.trans (hb1.mono (by have := hb0.size; omega)))
  have HT1 := Lib.hid (show Tab w1 from hT.below (by rw [hn]; exact HB1.out))
  have HC1 := Lib.hid hc1
  have HI1 := Lib.hid (sindex_any (n + 1) q.length q rdrW w1 rfl (by omega) hc1)
  have HI2 := Lib.hid (sindex_any (n + 1) q.length q iniW w1 rfl (by omega) hc1)
  rw [HIR.out] at HI1
  rw [HII.out] at HI2
  rw [hs0]
  clear hnew hb0 hw0 hb1 hc1 hT hM hs0
  unfold rdrW at HI1
  unfold iniW at HI2
  go_wp2_with fail
  refine HI1.out.mono ?_
  rintro e wx ⟨rfl, hwx⟩
  have hwy := hwx.symm
  clear hwx
  subst hwy
  go_wp2_with fail
  refine HI2.out.mono ?_
  rintro e wx ⟨rfl, hwx⟩
  have hwy := hwx.symm
  clear hwx
  subst hwy
  clear HI1 HI2
  by_cases h7 : ir = 7
  · subst h7
    have t1 : ((7 : Int) != 7) = false := by decide
    by_cases hi7 : ii < 7
    · have t2 : decide (ii < (7 : Int)) = true := decide_eq_true hi7
      have HNO := Lib.hid (show readOG l = none by rw [hRD.out, if_neg (fun h => by have := h.2.1; rw [HII.out] at this; omega)])
      clear hi7 hir hii
      have d0 := HX.out.cell 0
      have d1 := HX.out.cell 1
      have d2 := HX.out.cell 2
      have d3 := HX.out.cell 3
      have d4 := HX.out.cell 4
      have d5 := HX.out.cell 5
      have d6 := HX.out.cell 6
      have d7 := HX.out.cell 7
      unfold ojR at d0 d1 d2 d3 d4 d5 d6 d7
      simp only [List.getElem?_toArray, List.getElem?_cons_zero, List.getElem?_cons_succ] at d0 d1 d2 d3 d4 d5 d6 d7
      have df0 := HX.out.frozen 0
      have df1 := HX.out.frozen 1
      have df2 := HX.out.frozen 2
      have df3 := HX.out.frozen 3
      have df4 := HX.out.frozen 4
      have df5 := HX.out.frozen 5
      have df6 := HX.out.frozen 6
      have df7 := HX.out.frozen 7
      go_wp2_with fail
      unfold ojR at HX
      refine bodyPost_ret (res_robj _ _ rfl rfl (row_set8 _ _ _ _ _ _ _ _ (.int .i64 0) (.int .i64 0) (.int .i64 0) (.int .i64 0) (.int .u32 0) (.slice none 0 0) (.int .i64 0) (.slice none 0 0) HX.out)) rfl ?_
      exact ⟨0, 0, 0, 0, 0, none, 0, 0, 0, none, 0, 0, by rw [HNO.out]; rfl, (fun o ho => by rw [HNO.out] at ho; cases ho), by rw [hn]; exact below_s8 HB1.out n (Nat.le_refl _) _ _ _ _ _ _ _ _⟩
    · have t2 : decide (ii < (7 : Int)) = false := decide_eq_false hi7
      have h8 : 8 ≤ ii := by rw [← HII.out]; exact idx_behind HIR.out (by rw [HII.out]; omega)
      obtain ⟨k, rfl⟩ := Int.eq_ofNat_of_zero_le (show 0 ≤ ii by omega)
      clear hi7
      obtain ⟨qn, hqn⟩ : ∃ x, q.length = x := ⟨_, rfl⟩
      rw [hqn] at hir hii hql hq0 ⊢
      have HQN := Lib.hid hqn
      have g1 : (2 : Int) ≤ (qn : Int) := by omega
      have g2 : (7 : Int) ≤ (qn : Int) := by omega
      clear hqn
      go_wp2_with fail
      have hlb1 : n + 1 < w1.heap.size := by
        obtain ⟨y0, hy0⟩ := get_some (show 0 < q.length by rw [HQN.out]; omega)
        exact cell_lt (HC1.out 0 y0 hy0)
      have h5 := five_of q (by rw [HQN.out]; omega)
      have hsl := Lib.hid (sl_strs (w := w1) (B := w1.heap.size) (b := n + 1) (off := 2) (ps := (q.drop 2).take 5) hlb1 (fun j x hj => by
        have hj2 : q[2 + j]? = some x := by
          rw [List.getElem?_take] at hj
          split at hj
          · rw [List.getElem?_drop] at hj; exact hj
          · cases hj
        exact HC1.out (2 + j) x hj2))
      have hpl : ∀ p ∈ (q.drop 2).take 5, p.length ≤ 1000000 := fun p hp => hQS.out p (List.mem_of_mem_drop (List.mem_of_mem_take hp))
      rw [h5] at hsl hpl
      refine (snumbers_any (some ⟨n + 1, 2, none⟩) (qn - 2) _ w1 (by simp) hpl hsl.out).mono ?_
      rintro e w2 ⟨v, rfl, hown, hb2⟩
      obtain ⟨x2, hx2⟩ : ∃ x, numG (q.getD 2 []) = x := ⟨_, rfl⟩
      obtain ⟨x3, hx3⟩ : ∃ x, numG (q.getD 3 []) = x := ⟨_, rfl⟩
      obtain ⟨x4, hx4⟩ : ∃ x, numG (q.getD 4 []) = x := ⟨_, rfl⟩
      obtain ⟨x5, hx5⟩ : ∃ x, numG (q.getD 5 []) = x := ⟨_, rfl⟩
      obtain ⟨x6, hx6⟩ : ∃ x, numG (q.getD 6 []) = x := ⟨_, rfl⟩
      simp only [List.map_cons, List.map_nil, hx2, hx3, hx4, hx5, hx6] at hown
      obtain ⟨g0, c', rfl, hcl, hne, hnl⟩ := hown.sl
      obtain ⟨g, off, rfl, hg, hg0⟩ := hnl 0 x2 rfl
      have m0 : w2.cell? ⟨g, off, none⟩ = some (.int .i64 x2) := by
        obtain ⟨g', off', he, _, hg1⟩ := hnl 0 x2 rfl
        injection he with he
        injection he with he1 he2 he3
        subst he1 he2
        simpa [ints, Enc.of1] using hg1 0 _ rfl
      have m1 : w2.cell? ⟨g, off + 1, none⟩ = some (.int .i64 x3) := by
        obtain ⟨g', off', he, _, hg1⟩ := hnl 1 x3 rfl
        injection he with he
        injection he with he1 he2 he3
        subst he1 he2
        simpa [ints, Enc.of1] using hg1 0 _ rfl
      have m2 : w2.cell? ⟨g, off + 2, none⟩ = some (.int .i64 x4) := by
        obtain ⟨g', off', he, _, hg1⟩ := hnl 2 x4 rfl
        injection he with he
        injection he with he1 he2 he3
        subst he1 he2
        simpa [ints, Enc.of1] using hg1 0 _ rfl
      have m3 : w2.cell? ⟨g, off + 3, none⟩ = some (.int .i64 x5) := by
        obtain ⟨g', off', he, _, hg1⟩ := hnl 3 x5 rfl
        injection he with he
        injection he with he1 he2 he3
        subst he1 he2
        simpa [ints, Enc.of1] using hg1 0 _ rfl
      have m4 : w2.cell? ⟨g, off + 4, none⟩ = some (.int .i64 x6) := by
        obtain ⟨g', off', he, _, hg1⟩ := hnl 4 x6 rfl
        injection he with he
        injection he with he1 he2 he3
        subst he1 he2
        simpa [ints, Enc.of1] using hg1 0 _ rfl
      have hb5 := numG_bd (q.getD 5 [])
      rw [hx5] at hb5
      have HX2 := Lib.hid (And.intro hx2 (And.intro hx3 (And.intro hx4 (And.intro hx5 hx6))))
      have HT2 := Lib.hid (HT1.out.below hb2)
      have HC2 := Lib.hid (show ∀ (j : Nat) x, q[j]? = some x → w2.cell? ⟨n + 1, j, none⟩ = some (.string ⟨x.toArray⟩) from fun j x hj => (hb2.cell (p := ⟨n + 1, j, none⟩) hlb1).trans (HC1.out j x hj))
      have hlb2 : n + 1 < w2.heap.size := by have := hb2.size; omega
      have hcc : 5 ≤ c' := hcl.1
      have HY := Lib.hid HX
      replace HX := Lib.hid (HX.out.kept hb2)
      have HB2 := Lib.hid (HB1.out.trans (hb2.mono (by omega)))
      replace HB1 := HB2
      have hgb := hg
      clear hown hcl hne hnl hg hg0 h5 hsl hpl hx2 hx3 hx4 hx5 hx6
      rcases hbad : decide (x5 < 0) with _ | _
      · rcases hbad2 : decide ((4294967295 : Int) < x5) with _ | _
        · go_wp2_with fail
          obtain ⟨rdl, hrdl⟩ : ∃ x, ((q.take k).drop 8).map numG = x := ⟨_, rfl⟩
          have hrl : ((q.take k).drop 8).length = k - 8 := by
            have h1 : k ≤ q.length := by rw [HQN.out]; omega
            rw [List.length_drop, List.length_take]; omega
          have HNM := Lib.hid (show ∀ W, Below w2.heap.size w2 W → Calls Tryz.prog 71 #[.slice (some ⟨n + 1, 8, none⟩) (k - 8) (qn - 8)] W fun e w' => ∃ v, e = .returned v ∧ Own (ints .i64) 3 W.heap.size w' v rdl ∧ Below W.heap.size W w' from fun W hW => by
            have h9 := snumbers_any (some ⟨n + 1, 8, none⟩) (qn - 8) ((q.take k).drop 8) W (by rw [hrl]; omega) (fun p hp => hQS.out p (List.mem_of_mem_take (List.mem_of_mem_drop hp))) (sl_strs (by have := hW.size; omega) (fun j x hj => by
              have hj2 : q[8 + j]? = some x := by
                rw [List.getElem?_drop, List.getElem?_take] at hj
                split at hj
                · exact hj
                · cases hj
              exact (hW.cell (p := ⟨n + 1, 8 + j, none⟩) hlb2).trans (HC2.out (8 + j) x hj2)))
            rw [hrl, hrdl] at h9
            exact h9)
          have HRL := Lib.hid (show rdl.length = k - 8 by rw [← hrdl, List.length_map, hrl])
          have HRB := Lib.hid (show ∀ z ∈ rdl, -9223372036854775808 ≤ z ∧ z ≤ 9223372036854775807 from fun z hz => by
            rw [← hrdl] at hz
            obtain ⟨p, _, rfl⟩ := List.mem_map.1 hz
            have := numG_bd p
            omega)
          have HRDL := Lib.hid hrdl
          have HW5 := Lib.hid (show IntKind.u32.wrap x5 = x5 by
            have h1 := of_decide_eq_false hbad
            have h2 := of_decide_eq_false hbad2
            simp [IntKind.wrap, IntKind.signed, IntKind.bits]; omega)
          clear hrdl hrl
          have hSd : (fun w' : World => Below w2.heap.size w2 w' ∧ w'.cell? ⟨g, off, none⟩ = some (.int .i64 x2) ∧ w'.cell? ⟨g, off + 1, none⟩ = some (.int .i64 x3) ∧ w'.cell? ⟨g, off + 2, none⟩ = some (.int .i64 x4) ∧ w'.cell? ⟨g, off + 3, none⟩ = some (.int .i64 x5) ∧ w'.cell? ⟨g, off + 4, none⟩ = some (.int .i64 x6)) w2.drew := RjS.below (show RjS w2 g off x2 x3 x4 x5 x6 w2 from ⟨Below.refl _ _, m0, m1, m2, m3, m4⟩) (Below.refl _ w2).drew
          have e8 : (8 : Int) ≤ (k : Int) := by omega
          have e9 : (k : Int) ≤ (qn : Int) := by omega
          have w8 : IntKind.i64.wrap 8 = 8 := by decide
          have t8 : Int.toNat 8 = 8 := rfl
          have q8 : ¬ qn = 8 := by omega
          refine wp_region_held_drew (S := (fun w' : World => Below w2.heap.size w2 w' ∧ w'.cell? ⟨g, off, none⟩ = some (.int .i64 x2) ∧ w'.cell? ⟨g, off + 1, none⟩ = some (.int .i64 x3) ∧ w'.cell? ⟨g, off + 2, none⟩ = some (.int .i64 x4) ∧ w'.cell? ⟨g, off + 3, none⟩ = some (.int .i64 x5) ∧ w'.cell? ⟨g, off + 4, none⟩ = some (.int .i64 x6))) (by kernel_rfl) hSd (fun hHeld => ?_)
          generalize w2.drew = wz at hSd hHeld ⊢
          have hHeld : (fun w' : World => Below w2.heap.size w2 w' ∧ w'.cell? ⟨g, off, none⟩ = some (.int .i64 x2) ∧ w'.cell? ⟨g, off + 1, none⟩ = some (.int .i64 x3) ∧ w'.cell? ⟨g, off + 2, none⟩ = some (.int .i64 x4) ∧ w'.cell? ⟨g, off + 3, none⟩ = some (.int .i64 x5) ∧ w'.cell? ⟨g, off + 4, none⟩ = some (.int .i64 x6)) wz := hHeld
          refine tkH 0 ?_
          try first | simp only [pS, List.set] | simp only [pN]
          refine tkH 3 ?_
          try first | simp only [pS, List.set] | simp only [pN]
          refine tkH 6 ?_
          try first | simp only [pS, List.set] | simp only [pN]
          refine tkH 9 ?_
          try first | simp only [pS, List.set] | simp only [pN]
          refine tkH 13 ?_
          try first | simp only [pS, List.set] | simp only [pN]
          refine tkH 16 ?_
          try first | simp only [pS, List.set] | simp only [pN]
          refine tkH 17 ?_
          try first | simp only [pS, List.set] | simp only [pN]
          refine tkH 19 ?_
          try first | simp only [pS, List.set] | simp only [pN]
          refine tkH 1 ?_
          try first | simp only [pS, List.set] | simp only [pN]
          refine tkH 4 ?_
          try first | simp only [pS, List.set] | simp only [pN]
          refine tkH 7 ?_
          try first | simp only [pS, List.set] | simp only [pN]
          refine tkH 10 ?_
          try first | simp only [pS, List.set] | simp only [pN]
          refine tkH 14 ?_
          try first | simp only [pS, List.set] | simp only [pN]
          refine tkH 18 ?_
          try first | simp only [pS, List.set] | simp only [pN]
          refine tkH 2 ?_
          try first | simp only [pS, List.set] | simp only [pN]
          refine tkH 5 ?_
          try first | simp only [pS, List.set] | simp only [pN]
          refine tkH 8 ?_
          try first | simp only [pS, List.set] | simp only [pN]
          refine tkH 11 ?_
          try first | simp only [pS, List.set] | simp only [pN]
          refine tkH 15 ?_
          try first | simp only [pS, List.set] | simp only [pN]
          refine tkH 20 ?_
          try first | simp only [pS, List.set] | simp only [pN]
          refine tkH 12 ?_
          try first | simp only [pS, List.set] | simp only [pN]
          refine wpAnyH_ready (rs := [21, 23]) (by kernel_rfl) (by simp) ?_
          refine AllReadyH.cons (o := ?_) ?_ (fun K hK => ?_) ?_
          rotate_left
          · (simp only [List.getElem?_toArray, List.getElem?_cons_succ, List.getElem?_cons_zero]; rfl)
          · go_simp
            go_at_call 71
            refine (HNM.out wz hHeld.1).mono ?_
            rintro ex wx ⟨v2, rfl, hown2, hbx⟩
            obtain ⟨A2, c2, rfl, hcl2, hne2, hsl2⟩ := hown2.sl
            have hbz : w2.heap.size ≤ wz.heap.size := hHeld.1.size
            have hSx := RjS.below (show RjS w2 g off x2 x3 x4 x5 x6 wz from hHeld) hbx
            refine hK.out _ _ hSx (fun hHeld => ?_)
            clear hK K
            try first | simp only [pS, List.set] | simp only [pN]
            refine tkH 22 ?_
            try first | simp only [pS, List.set] | simp only [pN]
            refine wpAnyH_ready (rs := [23]) (by kernel_rfl) (by simp) ?_
            refine AllReadyH.cons (o := ?_) ?_ (fun K hK => ?_) AllReadyH.nil
            rotate_left
            · (simp only [List.getElem?_toArray, List.getElem?_cons_succ, List.getElem?_cons_zero]; rfl)
            go_simp
            have hnew := RowB.new (wx) (ojR 0 0 0 0 0 none 0 0 0 none 0 0) 42
            have hsz := hHeld.1.size
            have hSx := RjS.below (show RjS w2 g off x2 x3 x4 x5 x6 _ from hHeld) ((Below.refl (wx).heap.size (wx)).alloc (Nat.le_refl _) (.cells #[.int .i64 0, .int .i64 0, .int .i64 0, .int .i64 0, .int .u32 0, .slice none 0 0, .int .i64 0, .slice none 0 0] 42))
            refine hK.out _ _ hSx (fun hHeld => ?_)
            clear hK K
            try first | simp only [pS, List.set] | simp only [pN]
            obtain ⟨wa, hwa⟩ : ∃ x, (wx).alloc (.cells #[.int .i64 0, .int .i64 0, .int .i64 0, .int .i64 0, .int .u32 0, .slice none 0 0, .int .i64 0, .slice none 0 0] 42) = x := ⟨_, rfl⟩
            obtain ⟨nb, hnb⟩ : ∃ x, (wx).heap.size = x := ⟨_, rfl⟩
            have hnew2 : RowB wa nb (ojR 0 0 0 0 0 none 0 0 0 none 0 0) 42 := by rw [← hwa, ← hnb]; exact hnew
            rw [hwa] at hHeld ⊢
            rw [hnb] at hsz ⊢
            have hS2 : (RjS w2 g off x2 x3 x4 x5 x6 wa) ∧ ∃ (kd wd sl cp st : Int) (I : Option Addr) (ni ci : Nat) (wr : Int) (R : Option Addr) (nr cr : Nat), RowB wa nb (ojR kd wd sl cp st I ni ci wr R nr cr) 42 := ⟨hHeld, 0, 0, 0, 0, 0, none, 0, 0, 0, none, 0, 0, hnew2⟩
            clear hHeld
            refine wpAnyH_strong (S' := fun w' => (Below w2.heap.size w2 w' ∧ w'.cell? ⟨g, off, none⟩ = some (.int .i64 x2) ∧ w'.cell? ⟨g, off + 1, none⟩ = some (.int .i64 x3) ∧ w'.cell? ⟨g, off + 2, none⟩ = some (.int .i64 x4) ∧ w'.cell? ⟨g, off + 3, none⟩ = some (.int .i64 x5) ∧ w'.cell? ⟨g, off + 4, none⟩ = some (.int .i64 x6)) ∧ ∃ (kd wd sl cp st : Int) (I : Option Addr) (ni ci : Nat) (wr : Int) (R : Option Addr) (nr cr : Nat), RowB w' nb (ojR kd wd sl cp st I ni ci wr R nr cr) 42) (fun w h => h.1) _ _ _ _ ?_
            have hHeld := hS2
            have hFA := (hown2.farA (lo := w2.heap.size) (nb := nb) hbz hnb).below (w' := wa) (by rw [← hwa]; exact (Below.refl _ _).alloc (Nat.le_refl _) _)
            obtain ⟨u0, u1, u2, u3, u4, u5, u6, u7, u8, u9, u10, u11, hz⟩ := hHeld.2
            unfold ojR at hz
            have b0 := hz.cell 0
            have b1 := hz.cell 1
            have b2 := hz.cell 2
            have b3 := hz.cell 3
            have b4 := hz.cell 4
            have b5 := hz.cell 5
            have b6 := hz.cell 6
            have b7 := hz.cell 7
            simp only [List.getElem?_toArray, List.getElem?_cons_zero, List.getElem?_cons_succ] at b0 b1 b2 b3 b4 b5 b6 b7
            have f0 := hz.frozen 0
            have f1 := hz.frozen 1
            have f2 := hz.frozen 2
            have f3 := hz.frozen 3
            have f4 := hz.frozen 4
            have f5 := hz.frozen 5
            have f6 := hz.frozen 6
            have f7 := hz.frozen 7
            refine wpAnyH_ready (rs := [24]) (by kernel_rfl) (by simp) ?_
            refine AllReadyH.cons (o := ?_) ?_ (fun K hK => ?_) AllReadyH.nil
            rotate_left
            · (simp only [List.getElem?_toArray, List.getElem?_cons_succ, List.getElem?_cons_zero]; rfl)
            go_simp
            have hSr := RjS.set8 (show RjS w2 g off x2 x3 x4 x5 x6 wa from hHeld.1) hsz hgb (.int .i64 0) (.int .i64 x2) (.int .i64 x3) (.int .i64 x4) (.int .u32 x5) (.slice none 0 0) (.int .i64 x6) (.slice A2 rdl.length c2)
            have hzz := row_set8 (w := wa) (b := nb) (t := 42) _ _ _ _ _ _ _ _ (.int .i64 0) (.int .i64 x2) (.int .i64 x3) (.int .i64 x4) (.int .u32 x5) (.slice none 0 0) (.int .i64 x6) (.slice A2 rdl.length c2) hz
            have hFR := hFA.set8 nb (Or.inr rfl) (.int .i64 0) (.int .i64 x2) (.int .i64 x3) (.int .i64 x4) (.int .u32 x5) (.slice none 0 0) (.int .i64 x6) (.slice A2 rdl.length c2)
            try rw [HW5.out]
            obtain ⟨wS, hwS⟩ : ∃ x, ((((((((wa.setCell ⟨nb, 0, none⟩ (.int .i64 0)).setCell ⟨nb, 1, none⟩ (.int .i64 x2)).setCell ⟨nb, 2, none⟩ (.int .i64 x3)).setCell ⟨nb, 3, none⟩ (.int .i64 x4)).setCell ⟨nb, 4, none⟩ (.int .u32 x5)).setCell ⟨nb, 5, none⟩ (.slice none 0 0)).setCell ⟨nb, 6, none⟩ (.int .i64 x6)).setCell ⟨nb, 7, none⟩ (.slice A2 rdl.length c2)) = x := ⟨_, rfl⟩
            rw [hwS] at hSr hzz hFR ⊢
            clear hwS
            have hzz : RowB wS nb (ojR 0 x2 x3 x4 x5 none 0 0 x6 A2 rdl.length c2) 42 := hzz
            obtain ⟨s1, s2, s3, s4, s5, s6⟩ := hSr
            have hSx : (Below w2.heap.size w2 wS ∧ wS.cell? ⟨g, off, none⟩ = some (.int .i64 x2) ∧ wS.cell? ⟨g, off + 1, none⟩ = some (.int .i64 x3) ∧ wS.cell? ⟨g, off + 2, none⟩ = some (.int .i64 x4) ∧ wS.cell? ⟨g, off + 3, none⟩ = some (.int .i64 x5) ∧ wS.cell? ⟨g, off + 4, none⟩ = some (.int .i64 x6)) ∧ ∃ (kd wd sl cp st : Int) (I : Option Addr) (ni ci : Nat) (wr : Int) (R : Option Addr) (nr cr : Nat), RowB wS nb (ojR kd wd sl cp st I ni ci wr R nr cr) 42 := ⟨⟨s1, s2, s3, s4, s5, s6⟩, _, _, _, _, _, _, _, _, _, _, _, _, hzz⟩
            refine hK.out _ _ hSx (fun hHeld => ?_)
            clear hK K
            try first | simp only [pS, List.set] | simp only [pN]
            refine wpAnyH_done (by kernel_rfl) ?_ _
            have HZ := Lib.hid hzz
            have HBB := Lib.hid s1
            have HFR := Lib.hid hFR
            have HC2l := Lib.hid hcl2
            clear s1 s2 s3 s4 s5 s6 hSx hzz hHeld hz b0 b1 b2 b3 b4 b5 b6 b7 f0 f1 f2 f3 f4 f5 f6 f7 hSd hFA hFR hown2 hsl2 hne2 hcl2 hbx hnew hnew2 hS2 hwa
            have hlo : w2.heap.size ≤ nb := hsz
            have h1q : 1 < q.length := by rw [HQN.out]; omega
            obtain ⟨x1, hx1⟩ : ∃ x, q[1]? = some x := ⟨_, List.getElem?_eq_getElem h1q⟩
            have hx1g : q.getD 1 [] = x1 := by rw [List.getD_eq_getElem?_getD, hx1]; rfl
            obtain ⟨kd9, hkd⟩ : ∃ x, kidx x1 + 1 = x := ⟨_, rfl⟩
            obtain ⟨ini, hini⟩ : ∃ x, recG (q.drop (k + 1)) = x := ⟨_, rfl⟩
            have hkb : -1 ≤ kidx x1 ∧ kidx x1 ≤ 5 := kidx_bd x1
            have hkb9 : 0 ≤ kd9 ∧ kd9 ≤ 6 := by omega
            have hjl := drop_join_le (k + 1) l
            rw [HQ.out] at hjl
            have hil := recG_len (q.drop (k + 1))
            rw [hini] at hil
            have hls : l.length ≤ 19000 := by rw [HLEN.out]; exact hs
            have hwf := recG_wf (q.drop (k + 1))
            rw [hini] at hwf
            have HWF := Lib.hid hwf
            have HCD := Lib.hid (show candG q = (⟨kd9, x2, x3, x4, x5, ini, x6, rdl⟩ : Oj) by
              unfold candG objC obKd
              rw [HII.out, Int.toNat_natCast, HX2.out.1, HX2.out.2.1, HX2.out.2.2.1, HX2.out.2.2.2.1, HX2.out.2.2.2.2, hini, HRDL.out, hx1g, ← hkd]
              rfl)
            have HJ := Lib.hid (show ∀ (W : World) (A : Option Addr) (L : Nat), Below w2.heap.size w2 W → L = qn - (k + 1) → (L = 0 ∨ A = some ⟨n + 1, k + 1, none⟩) → Calls Tryz.prog 61 #[.slice A L L, .string ⟨#[32]⟩] W fun e w' => e = .returned (.string ⟨(Lib.join (q.drop (k + 1)) [32]).toArray⟩) ∧ Below W.heap.size W w' from fun W A L hW hL hA => by
              have hdl : (q.drop (k + 1)).length = L := by rw [List.length_drop, HQN.out]; omega
              have h9 := sjoin_any A L (q.drop (k + 1)) W (by omega) (by omega) (by omega) (by
                rcases hA with hA | hA
                · rw [List.eq_nil_of_length_eq_zero (by omega : (q.drop (k + 1)).length = 0)]; exact SlOf.nil
                · rw [hA]
                  refine sl_strs (by have := hW.size; omega) (fun j x hj => ?_)
                  rw [List.getElem?_drop] at hj
                  exact (hW.cell (p := ⟨n + 1, k + 1 + j, none⟩) hlb2).trans (HC2.out (k + 1 + j) x hj))
              rw [hdl] at h9
              exact h9)
            have HRG := Lib.hid (show ∀ (W : World), w2.heap.size ≤ W.heap.size → nb < W.heap.size → Calls Tryz.prog 74 #[.string ⟨(Lib.join (q.drop (k + 1)) [32]).toArray⟩, .int .i64 65536] W fun e w' => ∃ A c ok, e = .returned (.tuple #[.slice A ini.length c, .bool ok]) ∧ FarS (ints .u32) 38 w' w2.heap.size nb A ini.length c ini ∧ (ini.length ≤ c ∧ c ≤ maxLen) ∧ Below W.heap.size W w' from fun W h1 h2 => by
              have h9 := readG_any (q.drop (k + 1)) W w2.heap.size nb h1 h2 (by omega)
              rw [hini] at h9
              exact h9)
            have hil2 : ini.length ≤ 20000 := by omega
            have hrl2 : rdl.length ≤ 20000 := by have := HRL.out; omega
            have o1 : wS.cell? ⟨n + 1, 1, none⟩ = some (.string ⟨x1.toArray⟩) := (HBB.out.cell (p := ⟨n + 1, 1, none⟩) hlb2).trans (HC2.out 1 x1 hx1)
            have hk9 := kkind_any x1 wS
            rw [hkd] at hk9
            have HK9 := Lib.hid hk9
            have HIL := Lib.hid hil2
            have HRL2 := Lib.hid hrl2
            clear hk9 hkd hx1 hx1g h1q hini hjl hil hls hwf hil2 hrl2 hkb
            go_wp2_with fail
            refine HK9.out.mono ?_
            rintro e w4 ⟨rfl, hb4⟩
            have hz4 := HZ.out.kept hb4
            have c0 : w4.cell? ⟨nb, 0, none⟩ = some (.int .i64 0) := (hz4.cell 0).trans rfl
            have cf0 : w4.frozen? ⟨nb, 0, none⟩ = false := hz4.frozen 0
            have HZ4 := Lib.hid (show RowB (w4.setCell ⟨nb, 0, none⟩ (.int .i64 kd9)) nb (ojR kd9 x2 x3 x4 x5 none 0 0 x6 A2 rdl.length c2) 42 from hz4.set 0 (.int .i64 kd9))
            have HB4 := Lib.hid (below_set1 (HBB.out.trans (hb4.mono HBB.out.size)) nb 0 hlo (.int .i64 kd9))
            have HF4 := Lib.hid ((HFR.out.below hb4).set nb 0 (.int .i64 kd9) (Or.inr rfl))
            clear hz4 hb4 o1
            go_wp2_with fail
            all_goals
              refine (HJ.out _ _ _ HB4.out (by omega) (by first | exact Or.inl rfl | exact Or.inr rfl)).mono ?_
              rintro e w5 ⟨rfl, hb5⟩
              clear c0 cf0
              have HZ5 := Lib.hid (HZ4.out.kept hb5)
              have HB5 := Lib.hid (HB4.out.trans (hb5.mono HB4.out.size))
              have HF5 := Lib.hid (HF4.out.below hb5)
              clear hb5
              have hn5 := HZ5.out.lt
              go_wp2_with fail
              refine (HRG.out _ HB5.out.size hn5).mono ?_
              rintro e w6 ⟨I6, c6, ok6, rfl, hF6, hc6, hb6⟩
              have hz6 := HZ5.out.kept hb6
              have b0 := hz6.cell 0
              have b1 := hz6.cell 1
              have b2 := hz6.cell 2
              have b3 := hz6.cell 3
              have b4 := hz6.cell 4
              have b5 := hz6.cell 5
              have b6 := hz6.cell 6
              have b7 := hz6.cell 7
              unfold ojR at b0 b1 b2 b3 b4 b5 b6 b7
              simp only [List.getElem?_toArray, List.getElem?_cons_zero, List.getElem?_cons_succ] at b0 b1 b2 b3 b4 b5 b6 b7
              have f5 := hz6.frozen 5
              have HZ7 := Lib.hid (show RowB (w6.setCell ⟨nb, 5, none⟩ (.slice I6 ini.length c6)) nb (ojR kd9 x2 x3 x4 x5 I6 ini.length c6 x6 A2 rdl.length c2) 42 from hz6.set 5 (.slice I6 ini.length c6))
              have HB7 := Lib.hid (below_set1 (HB5.out.trans (hb6.mono HB5.out.size)) nb 5 hlo (.slice I6 ini.length c6))
              have HFR7 := Lib.hid ((HF5.out.below hb6).set nb 5 (.slice I6 ini.length c6) (Or.inr rfl))
              have HFI7 := Lib.hid (hF6.set nb 5 (.slice I6 ini.length c6) (Or.inr rfl))
              clear hz6 hb6 hF6 hn5
              have HOL := Lib.hid (show ∀ W : World, Tab W → FarS (ints .u32) 38 W w2.heap.size nb I6 ini.length c6 ini → FarS (ints .i64) 3 W w2.heap.size nb A2 rdl.length c2 rdl → Calls Tryz.prog 34 #[.agg #[.int .i64 kd9, .int .i64 x2, .int .i64 x3, .int .i64 x4, .int .u32 x5, .slice I6 ini.length c6, .int .i64 x6, .slice A2 rdl.length c2]] W (LineR (⟨kd9, x2, x3, x4, x5, ini, x6, rdl⟩ : Oj) W) from fun W h1 h2 h3 => by
                have n2 := numG_bd (q.getD 2 [])
                have n3 := numG_bd (q.getD 3 [])
                have n4 := numG_bd (q.getD 4 [])
                have n6 := numG_bd (q.getD 6 [])
                rw [HX2.out.1] at n2
                rw [HX2.out.2.1] at n3
                rw [HX2.out.2.2.1] at n4
                rw [HX2.out.2.2.2.2] at n6
                refine oline_any (⟨kd9, x2, x3, x4, x5, ini, x6, rdl⟩ : Oj) I6 c6 A2 c2 W (by
                  have h1 := of_decide_eq_false hbad
                  have h2 := of_decide_eq_false hbad2
                  show 0 ≤ x5 ∧ x5 < 4294967296
                  omega) (fun z hz => ?_) HIL.out HRL2.out ⟨h2.sl, HWF.out⟩ h3.sl h1
                rcases List.mem_append.1 hz with hz | hz
                · simp only [List.mem_cons, List.not_mem_nil, or_false] at hz
                  rcases hz with rfl | rfl | rfl | rfl <;> omega
                · exact HRB.out z hz)
              go_wp2_with fail
              refine (HOL.out _ (HT2.out.below HB7.out) HFI7.out HFR7.out).mono ?_
              rintro e w8 ⟨sH, rfl, hHs, hHl, hb8⟩
              clear b0 b1 b2 b3 b4 b5 b6 b7 f5
              have hz8 := HZ7.out.kept hb8
              have e0 := hz8.cell 0
              have e1 := hz8.cell 1
              have e2 := hz8.cell 2
              have e3 := hz8.cell 3
              have e4 := hz8.cell 4
              have e5 := hz8.cell 5
              have e6 := hz8.cell 6
              have e7 := hz8.cell 7
              unfold ojR at e0 e1 e2 e3 e4 e5 e6 e7
              simp only [List.getElem?_toArray, List.getElem?_cons_zero, List.getElem?_cons_succ] at e0 e1 e2 e3 e4 e5 e6 e7
              have HB8 := Lib.hid (HB7.out.trans (hb8.mono HB7.out.size))
              have HXn := HX.out.below HB8.out (show n < w2.heap.size by omega)
              have d0 := HXn.cell 0
              have d1 := HXn.cell 1
              have d2 := HXn.cell 2
              have d3 := HXn.cell 3
              have d4 := HXn.cell 4
              have d5 := HXn.cell 5
              have d6 := HXn.cell 6
              have d7 := HXn.cell 7
              unfold ojR at d0 d1 d2 d3 d4 d5 d6 d7
              simp only [List.getElem?_toArray, List.getElem?_cons_zero, List.getElem?_cons_succ] at d0 d1 d2 d3 d4 d5 d6 d7
              have df0 := HXn.frozen 0
              have df1 := HXn.frozen 1
              have df2 := HXn.frozen 2
              have df3 := HXn.frozen 3
              have df4 := HXn.frozen 4
              have df5 := HXn.frozen 5
              have df6 := HXn.frozen 6
              have df7 := HXn.frozen 7
              have HXN := Lib.hid HXn
              have HFR8 := Lib.hid (HFR7.out.below hb8)
              have HFI8 := Lib.hid (HFI7.out.below hb8)
              have hnlo : n < w2.heap.size := by omega
              have HBn := Lib.hid (HB1.out.trans (HB8.out.mono (Nat.le_of_lt hnlo)))
              clear hz8 hb8 HXn
              rcases hq : objB (⟨kd9, x2, x3, x4, x5, ini, x6, rdl⟩ : Oj) with _ | _
              · have HNO := Lib.hid (show readOG l = none by rw [hRD.out, HCD.out, if_neg (by rw [hq]; rintro ⟨_, _, _, h, _⟩; cases h)])
                clear hq hHs
                go_wp2_with fail
                unfold ojR at HXN
                refine bodyPost_ret (res_robj _ _ rfl rfl (row_set8 _ _ _ _ _ _ _ _ (.int .i64 kd9) (.int .i64 x2) (.int .i64 x3) (.int .i64 x4) (.int .u32 x5) (.slice I6 ini.length c6) (.int .i64 x6) (.slice A2 rdl.length c2) HXN.out)) rfl ?_
                exact ⟨kd9, x2, x3, x4, x5, I6, ini.length, c6, x6, A2, rdl.length, c2, by rw [HNO.out]; rfl, (fun o ho => by rw [HNO.out] at ho; cases ho), by rw [hn]; exact below_s8 HBn.out n (Nat.le_refl _) _ _ _ _ _ _ _ _⟩
              · have hSH := hHs hq
                by_cases hls : objL (⟨kd9, x2, x3, x4, x5, ini, x6, rdl⟩ : Oj) = l
                · have HYES := Lib.hid (show readOG l = some (⟨kd9, x2, x3, x4, x5, ini, x6, rdl⟩ : Oj) by
                    rw [hRD.out, HCD.out, if_pos ⟨HIR.out, by rw [HII.out]; omega, by
                      have h1 := of_decide_eq_false hbad
                      have h2 := of_decide_eq_false hbad2
                      rw [HX2.out.2.2.2.1]
                      omega, hq, hls⟩])
                  have hst : (sH.toList == s.toList) = true := by rw [hSH, ByteArray.toList_eq, ByteArray.toList_eq, hl'.out]; simp [hls]
                  clear hq hHs hls hSH
                  go_wp2_with fail
                  unfold ojR at HXN
                  refine bodyPost_ret (res_robj _ _ rfl rfl (row_set8 _ _ _ _ _ _ _ _ (.int .i64 kd9) (.int .i64 x2) (.int .i64 x3) (.int .i64 x4) (.int .u32 x5) (.slice I6 ini.length c6) (.int .i64 x6) (.slice A2 rdl.length c2) HXN.out)) rfl ?_
                  refine ⟨kd9, x2, x3, x4, x5, I6, ini.length, c6, x6, A2, rdl.length, c2, by rw [HYES.out]; rfl, (fun o ho => ?_), by rw [hn]; exact below_s8 HBn.out n (Nat.le_refl _) _ _ _ _ _ _ _ _⟩
                  rw [HYES.out] at ho
                  have ho' := (Option.some.inj ho).symm
                  subst ho'
                  rw [hn]
                  exact ⟨rfl, rfl, rfl, rfl, rfl, rfl, rfl, rfl, ⟨(HFI8.out.set8 n (Or.inl hnlo) (.int .i64 kd9) (.int .i64 x2) (.int .i64 x3) (.int .i64 x4) (.int .u32 x5) (.slice I6 ini.length c6) (.int .i64 x6) (.slice A2 rdl.length c2)).1.mono (Nat.le_of_lt hnlo), HWF.out⟩, (HFR8.out.set8 n (Or.inl hnlo) (.int .i64 kd9) (.int .i64 x2) (.int .i64 x3) (.int .i64 x4) (.int .u32 x5) (.slice I6 ini.length c6) (.int .i64 x6) (.slice A2 rdl.length c2)).1.mono (Nat.le_of_lt hnlo)⟩
                · have HNO := Lib.hid (show readOG l = none by rw [hRD.out, HCD.out, if_neg (fun h => hls h.2.2.2.2)])
                  have hst : (sH.toList == s.toList) = false := by rw [beq_eq_false_iff_ne, hSH, ByteArray.toList_eq, ByteArray.toList_eq, hl'.out]; simpa using hls
                  clear hq hHs hls hSH
                  go_wp2_with fail
                  unfold ojR at HXN
                  refine bodyPost_ret (res_robj _ _ rfl rfl (row_set8 _ _ _ _ _ _ _ _ (.int .i64 kd9) (.int .i64 x2) (.int .i64 x3) (.int .i64 x4) (.int .u32 x5) (.slice I6 ini.length c6) (.int .i64 x6) (.slice A2 rdl.length c2) HXN.out)) rfl ?_
                  exact ⟨kd9, x2, x3, x4, x5, I6, ini.length, c6, x6, A2, rdl.length, c2, by rw [HNO.out]; rfl, (fun o ho => by rw [HNO.out] at ho; cases ho), by rw [hn]; exact below_s8 HBn.out n (Nat.le_refl _) _ _ _ _ _ _ _ _⟩
          · refine AllReadyH.cons (o := ?_) ?_ (fun K hK => ?_) AllReadyH.nil
            rotate_left
            · (simp only [List.getElem?_toArray, List.getElem?_cons_succ, List.getElem?_cons_zero]; rfl)
            · go_simp
              have hnew := RowB.new (wz) (ojR 0 0 0 0 0 none 0 0 0 none 0 0) 42
              have hsz := hHeld.1.size
              have hSx := RjS.below (show RjS w2 g off x2 x3 x4 x5 x6 _ from hHeld) ((Below.refl (wz).heap.size (wz)).alloc (Nat.le_refl _) (.cells #[.int .i64 0, .int .i64 0, .int .i64 0, .int .i64 0, .int .u32 0, .slice none 0 0, .int .i64 0, .slice none 0 0] 42))
              refine hK.out _ _ hSx (fun hHeld => ?_)
              clear hK K
              try first | simp only [pS, List.set] | simp only [pN]
              obtain ⟨wa, hwa⟩ : ∃ x, (wz).alloc (.cells #[.int .i64 0, .int .i64 0, .int .i64 0, .int .i64 0, .int .u32 0, .slice none 0 0, .int .i64 0, .slice none 0 0] 42) = x := ⟨_, rfl⟩
              obtain ⟨nb, hnb⟩ : ∃ x, (wz).heap.size = x := ⟨_, rfl⟩
              have hnew2 : RowB wa nb (ojR 0 0 0 0 0 none 0 0 0 none 0 0) 42 := by rw [← hwa, ← hnb]; exact hnew
              rw [hwa] at hHeld ⊢
              rw [hnb] at hsz ⊢
              have hS2 : (RjS w2 g off x2 x3 x4 x5 x6 wa) ∧ ∃ (kd wd sl cp st : Int) (I : Option Addr) (ni ci : Nat) (wr : Int) (R : Option Addr) (nr cr : Nat), RowB wa nb (ojR kd wd sl cp st I ni ci wr R nr cr) 42 := ⟨hHeld, 0, 0, 0, 0, 0, none, 0, 0, 0, none, 0, 0, hnew2⟩
              clear hHeld
              refine wpAnyH_strong (S' := fun w' => (Below w2.heap.size w2 w' ∧ w'.cell? ⟨g, off, none⟩ = some (.int .i64 x2) ∧ w'.cell? ⟨g, off + 1, none⟩ = some (.int .i64 x3) ∧ w'.cell? ⟨g, off + 2, none⟩ = some (.int .i64 x4) ∧ w'.cell? ⟨g, off + 3, none⟩ = some (.int .i64 x5) ∧ w'.cell? ⟨g, off + 4, none⟩ = some (.int .i64 x6)) ∧ ∃ (kd wd sl cp st : Int) (I : Option Addr) (ni ci : Nat) (wr : Int) (R : Option Addr) (nr cr : Nat), RowB w' nb (ojR kd wd sl cp st I ni ci wr R nr cr) 42) (fun w h => h.1) _ _ _ _ ?_
              have hHeld := hS2
              have hsa : wa.heap.size = nb + 1 := by rw [← hwa, World.size_alloc, hnb]
              refine wpAnyH_ready (rs := [21]) (by kernel_rfl) (by simp) ?_
              refine AllReadyH.cons (o := ?_) ?_ (fun K hK => ?_) AllReadyH.nil
              rotate_left
              · (simp only [List.getElem?_toArray, List.getElem?_cons_succ, List.getElem?_cons_zero]; rfl)
              go_simp
              go_at_call 71
              refine (HNM.out wa hHeld.1.1).mono ?_
              rintro ex wb ⟨v2, rfl, hown2, hbx⟩
              obtain ⟨A2, c2, rfl, hcl2, hne2, hsl2⟩ := hown2.sl
              have hSx : (RjS w2 g off x2 x3 x4 x5 x6 wb) ∧ ∃ (kd wd sl cp st : Int) (I : Option Addr) (ni ci : Nat) (wr : Int) (R : Option Addr) (nr cr : Nat), RowB wb nb (ojR kd wd sl cp st I ni ci wr R nr cr) 42 := ⟨RjS.below (show RjS w2 g off x2 x3 x4 x5 x6 wa from hHeld.1) hbx, by obtain ⟨-, u0, u1, u2, u3, u4, u5, u6, u7, u8, u9, u10, u11, hr⟩ := hHeld; exact ⟨u0, u1, u2, u3, u4, u5, u6, u7, u8, u9, u10, u11, hr.kept hbx⟩⟩
              refine hK.out _ _ hSx (fun hHeld => ?_)
              clear hK K
              try first | simp only [pS, List.set] | simp only [pN]
              refine tkH 22 ?_
              try first | simp only [pS, List.set] | simp only [pN]
              obtain ⟨u0, u1, u2, u3, u4, u5, u6, u7, u8, u9, u10, u11, hz⟩ := hHeld.2
              unfold ojR at hz
              have b0 := hz.cell 0
              have b1 := hz.cell 1
              have b2 := hz.cell 2
              have b3 := hz.cell 3
              have b4 := hz.cell 4
              have b5 := hz.cell 5
              have b6 := hz.cell 6
              have b7 := hz.cell 7
              simp only [List.getElem?_toArray, List.getElem?_cons_zero, List.getElem?_cons_succ] at b0 b1 b2 b3 b4 b5 b6 b7
              have f0 := hz.frozen 0
              have f1 := hz.frozen 1
              have f2 := hz.frozen 2
              have f3 := hz.frozen 3
              have f4 := hz.frozen 4
              have f5 := hz.frozen 5
              have f6 := hz.frozen 6
              have f7 := hz.frozen 7
              have hFA := hown2.farB (lo := w2.heap.size) (nb := nb) (by rw [hsa]; omega) (by rw [hsa]; omega)
              refine wpAnyH_ready (rs := [24]) (by kernel_rfl) (by simp) ?_
              refine AllReadyH.cons (o := ?_) ?_ (fun K hK => ?_) AllReadyH.nil
              rotate_left
              · (simp only [List.getElem?_toArray, List.getElem?_cons_succ, List.getElem?_cons_zero]; rfl)
              go_simp
              have hSr := RjS.set8 (show RjS w2 g off x2 x3 x4 x5 x6 wb from hHeld.1) hsz hgb (.int .i64 0) (.int .i64 x2) (.int .i64 x3) (.int .i64 x4) (.int .u32 x5) (.slice none 0 0) (.int .i64 x6) (.slice A2 rdl.length c2)
              have hzz := row_set8 (w := wb) (b := nb) (t := 42) _ _ _ _ _ _ _ _ (.int .i64 0) (.int .i64 x2) (.int .i64 x3) (.int .i64 x4) (.int .u32 x5) (.slice none 0 0) (.int .i64 x6) (.slice A2 rdl.length c2) hz
              have hFR := hFA.set8 nb (Or.inr rfl) (.int .i64 0) (.int .i64 x2) (.int .i64 x3) (.int .i64 x4) (.int .u32 x5) (.slice none 0 0) (.int .i64 x6) (.slice A2 rdl.length c2)
              try rw [HW5.out]
              obtain ⟨wS, hwS⟩ : ∃ x, ((((((((wb.setCell ⟨nb, 0, none⟩ (.int .i64 0)).setCell ⟨nb, 1, none⟩ (.int .i64 x2)).setCell ⟨nb, 2, none⟩ (.int .i64 x3)).setCell ⟨nb, 3, none⟩ (.int .i64 x4)).setCell ⟨nb, 4, none⟩ (.int .u32 x5)).setCell ⟨nb, 5, none⟩ (.slice none 0 0)).setCell ⟨nb, 6, none⟩ (.int .i64 x6)).setCell ⟨nb, 7, none⟩ (.slice A2 rdl.length c2)) = x := ⟨_, rfl⟩
              rw [hwS] at hSr hzz hFR ⊢
              clear hwS
              have hzz : RowB wS nb (ojR 0 x2 x3 x4 x5 none 0 0 x6 A2 rdl.length c2) 42 := hzz
              obtain ⟨s1, s2, s3, s4, s5, s6⟩ := hSr
              have hSx : (Below w2.heap.size w2 wS ∧ wS.cell? ⟨g, off, none⟩ = some (.int .i64 x2) ∧ wS.cell? ⟨g, off + 1, none⟩ = some (.int .i64 x3) ∧ wS.cell? ⟨g, off + 2, none⟩ = some (.int .i64 x4) ∧ wS.cell? ⟨g, off + 3, none⟩ = some (.int .i64 x5) ∧ wS.cell? ⟨g, off + 4, none⟩ = some (.int .i64 x6)) ∧ ∃ (kd wd sl cp st : Int) (I : Option Addr) (ni ci : Nat) (wr : Int) (R : Option Addr) (nr cr : Nat), RowB wS nb (ojR kd wd sl cp st I ni ci wr R nr cr) 42 := ⟨⟨s1, s2, s3, s4, s5, s6⟩, _, _, _, _, _, _, _, _, _, _, _, _, hzz⟩
              refine hK.out _ _ hSx (fun hHeld => ?_)
              clear hK K
              try first | simp only [pS, List.set] | simp only [pN]
              refine wpAnyH_done (by kernel_rfl) ?_ _
              have HZ := Lib.hid hzz
              have HBB := Lib.hid s1
              have HFR := Lib.hid hFR
              have HC2l := Lib.hid hcl2
              clear s1 s2 s3 s4 s5 s6 hSx hzz hHeld hz b0 b1 b2 b3 b4 b5 b6 b7 f0 f1 f2 f3 f4 f5 f6 f7 hSd hFA hFR hown2 hsl2 hne2 hcl2 hbx hnew hnew2 hS2 hwa
              have hlo : w2.heap.size ≤ nb := hsz
              have h1q : 1 < q.length := by rw [HQN.out]; omega
              obtain ⟨x1, hx1⟩ : ∃ x, q[1]? = some x := ⟨_, List.getElem?_eq_getElem h1q⟩
              have hx1g : q.getD 1 [] = x1 := by rw [List.getD_eq_getElem?_getD, hx1]; rfl
              obtain ⟨kd9, hkd⟩ : ∃ x, kidx x1 + 1 = x := ⟨_, rfl⟩
              obtain ⟨ini, hini⟩ : ∃ x, recG (q.drop (k + 1)) = x := ⟨_, rfl⟩
              have hkb : -1 ≤ kidx x1 ∧ kidx x1 ≤ 5 := kidx_bd x1
              have hkb9 : 0 ≤ kd9 ∧ kd9 ≤ 6 := by omega
              have hjl := drop_join_le (k + 1) l
              rw [HQ.out] at hjl
              have hil := recG_len (q.drop (k + 1))
              rw [hini] at hil
              have hls : l.length ≤ 19000 := by rw [HLEN.out]; exact hs
              have hwf := recG_wf (q.drop (k + 1))
              rw [hini] at hwf
              have HWF := Lib.hid hwf
              have HCD := Lib.hid (show candG q = (⟨kd9, x2, x3, x4, x5, ini, x6, rdl⟩ : Oj) by
                unfold candG objC obKd
                rw [HII.out, Int.toNat_natCast, HX2.out.1, HX2.out.2.1, HX2.out.2.2.1, HX2.out.2.2.2.1, HX2.out.2.2.2.2, hini, HRDL.out, hx1g, ← hkd]
                rfl)
              have HJ := Lib.hid (show ∀ (W : World) (A : Option Addr) (L : Nat), Below w2.heap.size w2 W → L = qn - (k + 1) → (L = 0 ∨ A = some ⟨n + 1, k + 1, none⟩) → Calls Tryz.prog 61 #[.slice A L L, .string ⟨#[32]⟩] W fun e w' => e = .returned (.string ⟨(Lib.join (q.drop (k + 1)) [32]).toArray⟩) ∧ Below W.heap.size W w' from fun W A L hW hL hA => by
                have hdl : (q.drop (k + 1)).length = L := by rw [List.length_drop, HQN.out]; omega
                have h9 := sjoin_any A L (q.drop (k + 1)) W (by omega) (by omega) (by omega) (by
                  rcases hA with hA | hA
                  · rw [List.eq_nil_of_length_eq_zero (by omega : (q.drop (k + 1)).length = 0)]; exact SlOf.nil
                  · rw [hA]
                    refine sl_strs (by have := hW.size; omega) (fun j x hj => ?_)
                    rw [List.getElem?_drop] at hj
                    exact (hW.cell (p := ⟨n + 1, k + 1 + j, none⟩) hlb2).trans (HC2.out (k + 1 + j) x hj))
                rw [hdl] at h9
                exact h9)
              have HRG := Lib.hid (show ∀ (W : World), w2.heap.size ≤ W.heap.size → nb < W.heap.size → Calls Tryz.prog 74 #[.string ⟨(Lib.join (q.drop (k + 1)) [32]).toArray⟩, .int .i64 65536] W fun e w' => ∃ A c ok, e = .returned (.tuple #[.slice A ini.length c, .bool ok]) ∧ FarS (ints .u32) 38 w' w2.heap.size nb A ini.length c ini ∧ (ini.length ≤ c ∧ c ≤ maxLen) ∧ Below W.heap.size W w' from fun W h1 h2 => by
                have h9 := readG_any (q.drop (k + 1)) W w2.heap.size nb h1 h2 (by omega)
                rw [hini] at h9
                exact h9)
              have hil2 : ini.length ≤ 20000 := by omega
              have hrl2 : rdl.length ≤ 20000 := by have := HRL.out; omega
              have o1 : wS.cell? ⟨n + 1, 1, none⟩ = some (.string ⟨x1.toArray⟩) := (HBB.out.cell (p := ⟨n + 1, 1, none⟩) hlb2).trans (HC2.out 1 x1 hx1)
              have hk9 := kkind_any x1 wS
              rw [hkd] at hk9
              have HK9 := Lib.hid hk9
              have HIL := Lib.hid hil2
              have HRL2 := Lib.hid hrl2
              clear hk9 hkd hx1 hx1g h1q hini hjl hil hls hwf hil2 hrl2 hkb
              go_wp2_with fail
              refine HK9.out.mono ?_
              rintro e w4 ⟨rfl, hb4⟩
              have hz4 := HZ.out.kept hb4
              have c0 : w4.cell? ⟨nb, 0, none⟩ = some (.int .i64 0) := (hz4.cell 0).trans rfl
              have cf0 : w4.frozen? ⟨nb, 0, none⟩ = false := hz4.frozen 0
              have HZ4 := Lib.hid (show RowB (w4.setCell ⟨nb, 0, none⟩ (.int .i64 kd9)) nb (ojR kd9 x2 x3 x4 x5 none 0 0 x6 A2 rdl.length c2) 42 from hz4.set 0 (.int .i64 kd9))
              have HB4 := Lib.hid (below_set1 (HBB.out.trans (hb4.mono HBB.out.size)) nb 0 hlo (.int .i64 kd9))
              have HF4 := Lib.hid ((HFR.out.below hb4).set nb 0 (.int .i64 kd9) (Or.inr rfl))
              clear hz4 hb4 o1
              go_wp2_with fail
              all_goals
                refine (HJ.out _ _ _ HB4.out (by omega) (by first | exact Or.inl rfl | exact Or.inr rfl)).mono ?_
                rintro e w5 ⟨rfl, hb5⟩
                clear c0 cf0
                have HZ5 := Lib.hid (HZ4.out.kept hb5)
                have HB5 := Lib.hid (HB4.out.trans (hb5.mono HB4.out.size))
                have HF5 := Lib.hid (HF4.out.below hb5)
                clear hb5
                have hn5 := HZ5.out.lt
                go_wp2_with fail
                refine (HRG.out _ HB5.out.size hn5).mono ?_
                rintro e w6 ⟨I6, c6, ok6, rfl, hF6, hc6, hb6⟩
                have hz6 := HZ5.out.kept hb6
                have b0 := hz6.cell 0
                have b1 := hz6.cell 1
                have b2 := hz6.cell 2
                have b3 := hz6.cell 3
                have b4 := hz6.cell 4
                have b5 := hz6.cell 5
                have b6 := hz6.cell 6
                have b7 := hz6.cell 7
                unfold ojR at b0 b1 b2 b3 b4 b5 b6 b7
                simp only [List.getElem?_toArray, List.getElem?_cons_zero, List.getElem?_cons_succ] at b0 b1 b2 b3 b4 b5 b6 b7
                have f5 := hz6.frozen 5
                have HZ7 := Lib.hid (show RowB (w6.setCell ⟨nb, 5, none⟩ (.slice I6 ini.length c6)) nb (ojR kd9 x2 x3 x4 x5 I6 ini.length c6 x6 A2 rdl.length c2) 42 from hz6.set 5 (.slice I6 ini.length c6))
                have HB7 := Lib.hid (below_set1 (HB5.out.trans (hb6.mono HB5.out.size)) nb 5 hlo (.slice I6 ini.length c6))
                have HFR7 := Lib.hid ((HF5.out.below hb6).set nb 5 (.slice I6 ini.length c6) (Or.inr rfl))
                have HFI7 := Lib.hid (hF6.set nb 5 (.slice I6 ini.length c6) (Or.inr rfl))
                clear hz6 hb6 hF6 hn5
                have HOL := Lib.hid (show ∀ W : World, Tab W → FarS (ints .u32) 38 W w2.heap.size nb I6 ini.length c6 ini → FarS (ints .i64) 3 W w2.heap.size nb A2 rdl.length c2 rdl → Calls Tryz.prog 34 #[.agg #[.int .i64 kd9, .int .i64 x2, .int .i64 x3, .int .i64 x4, .int .u32 x5, .slice I6 ini.length c6, .int .i64 x6, .slice A2 rdl.length c2]] W (LineR (⟨kd9, x2, x3, x4, x5, ini, x6, rdl⟩ : Oj) W) from fun W h1 h2 h3 => by
                  have n2 := numG_bd (q.getD 2 [])
                  have n3 := numG_bd (q.getD 3 [])
                  have n4 := numG_bd (q.getD 4 [])
                  have n6 := numG_bd (q.getD 6 [])
                  rw [HX2.out.1] at n2
                  rw [HX2.out.2.1] at n3
                  rw [HX2.out.2.2.1] at n4
                  rw [HX2.out.2.2.2.2] at n6
                  refine oline_any (⟨kd9, x2, x3, x4, x5, ini, x6, rdl⟩ : Oj) I6 c6 A2 c2 W (by
                    have h1 := of_decide_eq_false hbad
                    have h2 := of_decide_eq_false hbad2
                    show 0 ≤ x5 ∧ x5 < 4294967296
                    omega) (fun z hz => ?_) HIL.out HRL2.out ⟨h2.sl, HWF.out⟩ h3.sl h1
                  rcases List.mem_append.1 hz with hz | hz
                  · simp only [List.mem_cons, List.not_mem_nil, or_false] at hz
                    rcases hz with rfl | rfl | rfl | rfl <;> omega
                  · exact HRB.out z hz)
                go_wp2_with fail
                refine (HOL.out _ (HT2.out.below HB7.out) HFI7.out HFR7.out).mono ?_
                rintro e w8 ⟨sH, rfl, hHs, hHl, hb8⟩
                clear b0 b1 b2 b3 b4 b5 b6 b7 f5
                have hz8 := HZ7.out.kept hb8
                have e0 := hz8.cell 0
                have e1 := hz8.cell 1
                have e2 := hz8.cell 2
                have e3 := hz8.cell 3
                have e4 := hz8.cell 4
                have e5 := hz8.cell 5
                have e6 := hz8.cell 6
                have e7 := hz8.cell 7
                unfold ojR at e0 e1 e2 e3 e4 e5 e6 e7
                simp only [List.getElem?_toArray, List.getElem?_cons_zero, List.getElem?_cons_succ] at e0 e1 e2 e3 e4 e5 e6 e7
                have HB8 := Lib.hid (HB7.out.trans (hb8.mono HB7.out.size))
                have HXn := HX.out.below HB8.out (show n < w2.heap.size by omega)
                have d0 := HXn.cell 0
                have d1 := HXn.cell 1
                have d2 := HXn.cell 2
                have d3 := HXn.cell 3
                have d4 := HXn.cell 4
                have d5 := HXn.cell 5
                have d6 := HXn.cell 6
                have d7 := HXn.cell 7
                unfold ojR at d0 d1 d2 d3 d4 d5 d6 d7
                simp only [List.getElem?_toArray, List.getElem?_cons_zero, List.getElem?_cons_succ] at d0 d1 d2 d3 d4 d5 d6 d7
                have df0 := HXn.frozen 0
                have df1 := HXn.frozen 1
                have df2 := HXn.frozen 2
                have df3 := HXn.frozen 3
                have df4 := HXn.frozen 4
                have df5 := HXn.frozen 5
                have df6 := HXn.frozen 6
                have df7 := HXn.frozen 7
                have HXN := Lib.hid HXn
                have HFR8 := Lib.hid (HFR7.out.below hb8)
                have HFI8 := Lib.hid (HFI7.out.below hb8)
                have hnlo : n < w2.heap.size := by omega
                have HBn := Lib.hid (HB1.out.trans (HB8.out.mono (Nat.le_of_lt hnlo)))
                clear hz8 hb8 HXn
                rcases hq : objB (⟨kd9, x2, x3, x4, x5, ini, x6, rdl⟩ : Oj) with _ | _
                · have HNO := Lib.hid (show readOG l = none by rw [hRD.out, HCD.out, if_neg (by rw [hq]; rintro ⟨_, _, _, h, _⟩; cases h)])
                  clear hq hHs
                  go_wp2_with fail
                  unfold ojR at HXN
                  refine bodyPost_ret (res_robj _ _ rfl rfl (row_set8 _ _ _ _ _ _ _ _ (.int .i64 kd9) (.int .i64 x2) (.int .i64 x3) (.int .i64 x4) (.int .u32 x5) (.slice I6 ini.length c6) (.int .i64 x6) (.slice A2 rdl.length c2) HXN.out)) rfl ?_
                  exact ⟨kd9, x2, x3, x4, x5, I6, ini.length, c6, x6, A2, rdl.length, c2, by rw [HNO.out]; rfl, (fun o ho => by rw [HNO.out] at ho; cases ho), by rw [hn]; exact below_s8 HBn.out n (Nat.le_refl _) _ _ _ _ _ _ _ _⟩
                · have hSH := hHs hq
                  by_cases hls : objL (⟨kd9, x2, x3, x4, x5, ini, x6, rdl⟩ : Oj) = l
                  · have HYES := Lib.hid (show readOG l = some (⟨kd9, x2, x3, x4, x5, ini, x6, rdl⟩ : Oj) by
                      rw [hRD.out, HCD.out, if_pos ⟨HIR.out, by rw [HII.out]; omega, by
                        have h1 := of_decide_eq_false hbad
                        have h2 := of_decide_eq_false hbad2
                        rw [HX2.out.2.2.2.1]
                        omega, hq, hls⟩])
                    have hst : (sH.toList == s.toList) = true := by rw [hSH, ByteArray.toList_eq, ByteArray.toList_eq, hl'.out]; simp [hls]
                    clear hq hHs hls hSH
                    go_wp2_with fail
                    unfold ojR at HXN
                    refine bodyPost_ret (res_robj _ _ rfl rfl (row_set8 _ _ _ _ _ _ _ _ (.int .i64 kd9) (.int .i64 x2) (.int .i64 x3) (.int .i64 x4) (.int .u32 x5) (.slice I6 ini.length c6) (.int .i64 x6) (.slice A2 rdl.length c2) HXN.out)) rfl ?_
                    refine ⟨kd9, x2, x3, x4, x5, I6, ini.length, c6, x6, A2, rdl.length, c2, by rw [HYES.out]; rfl, (fun o ho => ?_), by rw [hn]; exact below_s8 HBn.out n (Nat.le_refl _) _ _ _ _ _ _ _ _⟩
                    rw [HYES.out] at ho
                    have ho' := (Option.some.inj ho).symm
                    subst ho'
                    rw [hn]
                    exact ⟨rfl, rfl, rfl, rfl, rfl, rfl, rfl, rfl, ⟨(HFI8.out.set8 n (Or.inl hnlo) (.int .i64 kd9) (.int .i64 x2) (.int .i64 x3) (.int .i64 x4) (.int .u32 x5) (.slice I6 ini.length c6) (.int .i64 x6) (.slice A2 rdl.length c2)).1.mono (Nat.le_of_lt hnlo), HWF.out⟩, (HFR8.out.set8 n (Or.inl hnlo) (.int .i64 kd9) (.int .i64 x2) (.int .i64 x3) (.int .i64 x4) (.int .u32 x5) (.slice I6 ini.length c6) (.int .i64 x6) (.slice A2 rdl.length c2)).1.mono (Nat.le_of_lt hnlo)⟩
                  · have HNO := Lib.hid (show readOG l = none by rw [hRD.out, HCD.out, if_neg (fun h => hls h.2.2.2.2)])
                    have hst : (sH.toList == s.toList) = false := by rw [beq_eq_false_iff_ne, hSH, ByteArray.toList_eq, ByteArray.toList_eq, hl'.out]; simpa using hls
                    clear hq hHs hls hSH
                    go_wp2_with fail
                    unfold ojR at HXN
                    refine bodyPost_ret (res_robj _ _ rfl rfl (row_set8 _ _ _ _ _ _ _ _ (.int .i64 kd9) (.int .i64 x2) (.int .i64 x3) (.int .i64 x4) (.int .u32 x5) (.slice I6 ini.length c6) (.int .i64 x6) (.slice A2 rdl.length c2) HXN.out)) rfl ?_
                    exact ⟨kd9, x2, x3, x4, x5, I6, ini.length, c6, x6, A2, rdl.length, c2, by rw [HNO.out]; rfl, (fun o ho => by rw [HNO.out] at ho; cases ho), by rw [hn]; exact below_s8 HBn.out n (Nat.le_refl _) _ _ _ _ _ _ _ _⟩
        · have HNO := Lib.hid (show readOG l = none by rw [hRD.out, if_neg (fun h => by have h1 := h.2.2.1.2; rw [HX2.out.2.2.2.1] at h1; have := of_decide_eq_true hbad2; omega)])
          have d0 := HX.out.cell 0
          have d1 := HX.out.cell 1
          have d2 := HX.out.cell 2
          have d3 := HX.out.cell 3
          have d4 := HX.out.cell 4
          have d5 := HX.out.cell 5
          have d6 := HX.out.cell 6
          have d7 := HX.out.cell 7
          unfold ojR at d0 d1 d2 d3 d4 d5 d6 d7
          simp only [List.getElem?_toArray, List.getElem?_cons_zero, List.getElem?_cons_succ] at d0 d1 d2 d3 d4 d5 d6 d7
          have df0 := HX.out.frozen 0
          have df1 := HX.out.frozen 1
          have df2 := HX.out.frozen 2
          have df3 := HX.out.frozen 3
          have df4 := HX.out.frozen 4
          have df5 := HX.out.frozen 5
          have df6 := HX.out.frozen 6
          have df7 := HX.out.frozen 7
          go_wp2_with fail
          unfold ojR at HX
          refine bodyPost_ret (res_robj _ _ rfl rfl (row_set8 _ _ _ _ _ _ _ _ (.int .i64 0) (.int .i64 0) (.int .i64 0) (.int .i64 0) (.int .u32 0) (.slice none 0 0) (.int .i64 0) (.slice none 0 0) HX.out)) rfl ?_
          exact ⟨0, 0, 0, 0, 0, none, 0, 0, 0, none, 0, 0, by rw [HNO.out]; rfl, (fun o ho => by rw [HNO.out] at ho; cases ho), by rw [hn]; exact below_s8 HB1.out n (Nat.le_refl _) _ _ _ _ _ _ _ _⟩
      · have HNO := Lib.hid (show readOG l = none by rw [hRD.out, if_neg (fun h => by have h1 := h.2.2.1.1; rw [HX2.out.2.2.2.1] at h1; have := of_decide_eq_true hbad; omega)])
        have d0 := HX.out.cell 0
        have d1 := HX.out.cell 1
        have d2 := HX.out.cell 2
        have d3 := HX.out.cell 3
        have d4 := HX.out.cell 4
        have d5 := HX.out.cell 5
        have d6 := HX.out.cell 6
        have d7 := HX.out.cell 7
        unfold ojR at d0 d1 d2 d3 d4 d5 d6 d7
        simp only [List.getElem?_toArray, List.getElem?_cons_zero, List.getElem?_cons_succ] at d0 d1 d2 d3 d4 d5 d6 d7
        have df0 := HX.out.frozen 0
        have df1 := HX.out.frozen 1
        have df2 := HX.out.frozen 2
        have df3 := HX.out.frozen 3
        have df4 := HX.out.frozen 4
        have df5 := HX.out.frozen 5
        have df6 := HX.out.frozen 6
        have df7 := HX.out.frozen 7
        go_wp2_with fail
        unfold ojR at HX
        refine bodyPost_ret (res_robj _ _ rfl rfl (row_set8 _ _ _ _ _ _ _ _ (.int .i64 0) (.int .i64 0) (.int .i64 0) (.int .i64 0) (.int .u32 0) (.slice none 0 0) (.int .i64 0) (.slice none 0 0) HX.out)) rfl ?_
        exact ⟨0, 0, 0, 0, 0, none, 0, 0, 0, none, 0, 0, by rw [HNO.out]; rfl, (fun o ho => by rw [HNO.out] at ho; cases ho), by rw [hn]; exact below_s8 HB1.out n (Nat.le_refl _) _ _ _ _ _ _ _ _⟩
  · have t1 : (ir != 7) = true := by simp; omega
    have HNO := Lib.hid (show readOG l = none by rw [hRD.out, if_neg (fun h => h7 (by rw [← HIR.out]; exact h.1))])
    clear h7 hir hii
    have d0 := HX.out.cell 0
    have d1 := HX.out.cell 1
    have d2 := HX.out.cell 2
    have d3 := HX.out.cell 3
    have d4 := HX.out.cell 4
    have d5 := HX.out.cell 5
    have d6 := HX.out.cell 6
    have d7 := HX.out.cell 7
    unfold ojR at d0 d1 d2 d3 d4 d5 d6 d7
    simp only [List.getElem?_toArray, List.getElem?_cons_zero, List.getElem?_cons_succ] at d0 d1 d2 d3 d4 d5 d6 d7
    have df0 := HX.out.frozen 0
    have df1 := HX.out.frozen 1
    have df2 := HX.out.frozen 2
    have df3 := HX.out.frozen 3
    have df4 := HX.out.frozen 4
    have df5 := HX.out.frozen 5
    have df6 := HX.out.frozen 6
    have df7 := HX.out.frozen 7
    go_wp2_with fail
    unfold ojR at HX
    refine bodyPost_ret (res_robj _ _ rfl rfl (row_set8 _ _ _ _ _ _ _ _ (.int .i64 0) (.int .i64 0) (.int .i64 0) (.int .i64 0) (.int .u32 0) (.slice none 0 0) (.int .i64 0) (.slice none 0 0) HX.out)) rfl ?_
    exact ⟨0, 0, 0, 0, 0, none, 0, 0, 0, none, 0, 0, by rw [HNO.out]; rfl, (fun o ho => by rw [HNO.out] at ho; cases ho), by rw [hn]; exact below_s8 HB1.out n (Nat.le_refl _) _ _ _ _ _ _ _ _⟩

end Go.Proofs.YtfgmebjbibbpdaaGreatDoor

namespace Go.Proofs.YtfgmebjbibbpdaaGreatDoor
open Go.RowKit

theorem trim_ro (l : List UInt8) : Lib.trimLeftS l [114, 111] = trimRO l := by
  unfold Lib.trimLeftS trimRO
  congr 1
  funext x
  simp only [List.contains_cons, List.contains_nil, Bool.or_false]
theorem trim_any (s : ByteArray) (w : World) : Calls Tryz.prog 98 #[.string s, .string ⟨#[114, 111]⟩] w fun e w' => e = .returned (.string ⟨(trimRO s.data.toList).toArray⟩) ∧ Below w.heap.size w w' := by
  have h := Any.strings_TrimLeft_laid Tryz.lays161 (by kernel_rfl) s ⟨#[114, 111]⟩ w (by decide) (fun j b h => by
    have := List.mem_of_getElem? h
    simp at this
    rcases this with rfl | rfl <;> decide)
  rw [show (⟨#[114, 111]⟩ : ByteArray).data.toList = [114, 111] from rfl, trim_ro] at h
  exact h

theorem pcs_one {l p : List UInt8} (h : pcs 32 l = [p]) : p = l := by
  have := join_pcs l
  rw [h] at this
  simpa [Lib.join] using this
theorem read_num (l : List UInt8) : (readB 1 l = true ∧ l ≠ [] ∧ readL l = [numI l] ∧ 0 ≤ numI l) ∨ (readB 1 l = true ∧ readL l = [] ∧ numI l = 0) ∨ (readB 1 l = false ∧ numI l = 0) := by
  by_cases h0 : l = []
  · subst h0
    exact .inr (.inl ⟨rfl, rfl, rfl⟩)
  · have hn : pcs 32 l ≠ [] := pcs_ne 32 l
    rcases hp : pcs 32 l with _ | ⟨p, r⟩
    · exact absurd hp hn
    · cases r with
      | nil =>
        have hpl := pcs_one hp
        subst hpl
        have hb : readB 1 p = numB p := by unfold readB; rw [if_neg h0, hp]; simp
        have hl : readL p = [(dv p : Int)] := by unfold readL; rw [if_neg h0, hp]; rfl
        unfold numI
        rcases hq : numB p with _ | _
        · exact .inr (.inr ⟨by rw [hb, hq], by simp⟩)
        · exact .inl ⟨by rw [hb, hq], h0, by rw [hl]; simp, by simp⟩
      | cons q r =>
        have hb : readB 1 l = false := by
          unfold readB
          rw [if_neg h0, hp]
          simp
          intros
          omega
        refine .inr (.inr ⟨hb, ?_⟩)
        unfold numI
        rw [if_neg]
        intro hq
        have hall : l.all digB = true := by unfold numB at hq; simp only [Bool.and_eq_true] at hq; exact hq.2.1
        have : pcs 32 l = [l] := pcs_none 32 l (fun k hk => by
          have := List.all_eq_true.1 hall 32 (List.mem_of_getElem? hk)
          simp [digB] at this)
        rw [hp] at this
        simp at this

set_option maxHeartbeats 1000000 in
theorem anumber_any (s : ByteArray) (w : World) (hs : s.size ≤ 1000000) : Calls Tryz.prog 87 #[.string s] w fun e w' => e = .returned (.int .u32 (numI (trimRO s.data.toList))) ∧ Below w.heap.size w w' := by
  have hlen : (trimRO s.data.toList).length ≤ s.size := by
    have h1 : (trimRO s.data.toList).length ≤ s.data.toList.length := (List.dropWhile_sublist _).length_le
    have h2 : s.data.toList.length = s.size := Array.length_toList
    omega
  have ht := fun W => trim_any s W
  obtain ⟨l, hl⟩ : ∃ l, trimRO s.data.toList = l := ⟨_, rfl⟩
  rw [hl] at ht hlen ⊢
  have hr := fun W => read_any ⟨l.toArray⟩ 1 W (by simp [ByteArray.size]; omega) (by decide) (by decide)
  simp only at hr
  have ht' := Lib.hid ht
  clear ht hl
  rcases read_num l with ⟨h1, h2, h3, h4⟩ | ⟨h1, h3, h4⟩ | ⟨h1, h4⟩
  · rw [h1, h3] at hr
    have hr' := Lib.hid hr
    obtain ⟨z, hz⟩ : ∃ z, numI l = z := ⟨_, rfl⟩
    rw [hz] at hr' h4 ⊢
    clear hr h1 h2 h3 hz
    go_enter Tryz.func87, Tryz.ntmps87
    go_wp2_with fail
    refine (ht'.out _).mono ?_
    rintro e w1 ⟨rfl, hb1⟩
    go_wp2_with fail
    refine (hr'.out _).mono ?_
    rintro e w2 ⟨v, rfl, hv, _, hb2⟩
    obtain ⟨A, c, rfl, hc, hws⟩ := (hv trivial).ws
    obtain ⟨_, b, off, rfl, hlt, hcell⟩ := hws.get (k := 0) (z := z) rfl
    have hB := hb1.trans (hb2.mono hb1.size)
    clear hv hws
    rw [Nat.add_zero] at hcell
    go_wp2_with fail
    go_ret
    exact ⟨rfl, hB⟩
  · rw [h1, h3] at hr
    have hr' := Lib.hid hr
    rw [h4]
    clear hr h1 h3 h4
    go_enter Tryz.func87, Tryz.ntmps87
    go_wp2_with fail
    refine (ht'.out _).mono ?_
    rintro e w1 ⟨rfl, hb1⟩
    go_wp2_with fail
    refine (hr'.out _).mono ?_
    rintro e w2 ⟨v, rfl, hv, _, hb2⟩
    obtain ⟨A, c, rfl, hc, hws⟩ := (hv trivial).ws
    have hB := hb1.trans (hb2.mono hb1.size)
    clear hv hws
    go_wp2_with fail
    go_ret
    exact ⟨rfl, hB⟩
  · rw [h1] at hr
    have hr' := Lib.hid hr
    rw [h4]
    clear hr h1 h4
    go_enter Tryz.func87, Tryz.ntmps87
    go_wp2_with fail
    refine (ht'.out _).mono ?_
    rintro e w1 ⟨rfl, hb1⟩
    go_wp2_with fail
    refine (hr'.out _).mono ?_
    rintro e w2 ⟨v, rfl, _, hv, hb2⟩
    obtain rfl := hv trivial
    have hB := hb1.trans (hb2.mono hb1.size)
    go_wp2_with fail
    go_ret
    exact ⟨rfl, hB⟩

end Go.Proofs.YtfgmebjbibbpdaaGreatDoor

namespace Go.Proofs.YtfgmebjbibbpdaaGreatDoor
open Go.RowKit

theorem setC_size (W : World) (a : Addr) (v : Value) : (W.setCell a v).heap.size = W.heap.size := by simp [World.setCell]
def nextV (nl ni : Nat) : Value := .func (.func 86) #[] #[.pointer (some ⟨ni + 1, 0, none⟩), .pointer (some ⟨nl, 0, none⟩)]
structure GSt (w0 : World) (nl ni : Nat) (ps : List (List UInt8)) (k : Nat) (e : Ins) (W : World) : Prop where
  hb : Below w0.heap.size w0 W
  hr : InBox W w0.heap.size Ins.zero
  hl : Boxed W nl 70 (.slice (some ⟨w0.heap.size + 1, 0, none⟩) ps.length ps.length)
  hs : ∀ (j : Nat) x, ps[j]? = some x → W.cell? ⟨w0.heap.size + 1, j, none⟩ = some (.string ⟨x.toArray⟩)
  hi : InBox W ni e
  ha : Boxed W (ni + 1) 3 (.int .i64 (k : Int))
  hx : Boxed W (ni + 1 + 1) 137 (nextV nl ni)
  hn : w0.heap.size + 1 < nl ∧ nl < ni
section
variable {w0 : World} {nl ni k : Nat} {ps : List (List UInt8)} {e : Ins} {W W' : World}
theorem GSt.lt (h : GSt w0 nl ni ps k e W) : ni + 1 + 1 < W.heap.size := h.hx.lt
theorem GSt.blocks (h : GSt w0 nl ni ps k e W) (hB : Below w0.heap.size w0 W') (hk : ∀ j, j ≤ ni + 1 + 1 → W'.heap[j]? = W.heap[j]?) : GSt w0 nl ni ps k e W' :=
  have hn := h.hn
  ⟨hB, (hk _ (by omega)).trans h.hr, (hk _ (by omega)).trans h.hl, fun j x hx => (World.cell?_of_block (a := ⟨w0.heap.size + 1, j, none⟩) (hk _ (by simp only; omega))).trans (h.hs j x hx), (hk _ (by omega)).trans h.hi, (hk _ (by omega)).trans h.ha, (hk _ (by omega)).trans h.hx, hn⟩
theorem GSt.below (h : GSt w0 nl ni ps k e W) (hb : Below W.heap.size W W') : GSt w0 nl ni ps k e W' :=
  h.blocks (h.hb.trans (hb.mono h.hb.size)) fun j hj => hb.block j (by have := h.lt; omega)
theorem GSt.drew (h : GSt w0 nl ni ps k e W) : GSt w0 nl ni ps k e W.drew := h.below (Below.refl _ W).drew
theorem GSt.step (h : GSt w0 nl ni ps k e W) (m : Nat) : GSt w0 nl ni ps m e (W.setCell ⟨ni + 1, 0, none⟩ (.int .i64 (m : Int))) :=
  have hn := h.hn
  have hk : ∀ j, j ≠ ni + 1 → (W.setCell ⟨ni + 1, 0, none⟩ (.int .i64 (m : Int))).heap[j]? = W.heap[j]? := fun j hj => Below.heap_setCell _ _ _ _ hj
  ⟨h.hb.setCell (p := ⟨ni + 1, 0, none⟩) (by simp only; omega) _, (hk _ (by omega)).trans h.hr, (hk _ (by omega)).trans h.hl, fun j x hx => (World.cell?_of_block (a := ⟨w0.heap.size + 1, j, none⟩) (hk _ (by simp only; omega))).trans (h.hs j x hx), (hk _ (by omega)).trans h.hi, h.ha.set _, (hk _ (by omega)).trans h.hx, hn⟩
theorem GSt.next (h : GSt w0 nl ni ps k e W) {m : Nat} (hb : Below W.heap.size (W.setCell ⟨ni + 1, 0, none⟩ (.int .i64 (m : Int))) W') : GSt w0 nl ni ps m e W' :=
  (h.step m).below (by rw [setC_size]; exact hb)
theorem GSt.put (h : GSt w0 nl ni ps k e W) {e' : Ins} (j : Nat) (v : Value) (hz : InBox (W.setCell ⟨ni, j, none⟩ v) ni e') : GSt w0 nl ni ps k e' (W.setCell ⟨ni, j, none⟩ v) :=
  have hn := h.hn
  have hk : ∀ i, i ≠ ni → (W.setCell ⟨ni, j, none⟩ v).heap[i]? = W.heap[i]? := fun i hi => Below.heap_setCell _ _ _ _ hi
  ⟨h.hb.setCell (p := ⟨ni, j, none⟩) (by simp only; omega) _, (hk _ (by omega)).trans h.hr, (hk _ (by omega)).trans h.hl, fun i x hx => (World.cell?_of_block (a := ⟨w0.heap.size + 1, i, none⟩) (hk _ (by simp only; omega))).trans (h.hs i x hx), hz, (hk _ (by omega)).trans h.ha, (hk _ (by omega)).trans h.hx, hn⟩
theorem GSt.putA (h : GSt w0 nl ni ps k e W) (v : Int) : GSt w0 nl ni ps k ⟨e.op, v, e.b, e.c, e.n⟩ (W.setCell ⟨ni, 1, none⟩ (.int .i64 v)) := h.put 1 _ (h.hi.setA v)
theorem GSt.putB (h : GSt w0 nl ni ps k e W) (v : Int) : GSt w0 nl ni ps k ⟨e.op, e.a, v, e.c, e.n⟩ (W.setCell ⟨ni, 2, none⟩ (.int .i64 v)) := h.put 2 _ (h.hi.setB v)
theorem GSt.putC (h : GSt w0 nl ni ps k e W) (v : Int) : GSt w0 nl ni ps k ⟨e.op, e.a, e.b, v, e.n⟩ (W.setCell ⟨ni, 3, none⟩ (.int .i64 v)) := h.put 3 _ (h.hi.setC v)
theorem GSt.putN (h : GSt w0 nl ni ps k e W) (v : Int) : GSt w0 nl ni ps k ⟨e.op, e.a, e.b, e.c, v⟩ (W.setCell ⟨ni, 4, none⟩ (.int .u32 v)) := h.put 4 _ (h.hi.setN v)
end

set_option maxHeartbeats 1000000 in
theorem next_any {w0 : World} {nl ni k : Nat} {ps : List (List UInt8)} {e : Ins} {W : World} (h : GSt w0 nl ni ps k e W) (hk : k ≤ 10) (hp : ∀ p ∈ ps, p.length ≤ 1000000) :
    Calls Tryz.prog 86 #[.pointer (some ⟨ni + 1, 0, none⟩), .pointer (some ⟨nl, 0, none⟩)] W fun r W' => r = .returned (.int .u32 (wordAt ps (k + 1))) ∧ Below W.heap.size (W.setCell ⟨ni + 1, 0, none⟩ (.int .i64 ((k + 1 : Nat) : Int))) W' := by
  have hn := h.hn
  have g1 := h.ha.cell
  have f1 := h.ha.frozen
  have hG := h.step (k + 1)
  have g2 := hG.ha.cell
  have g3 := hG.hl.cell
  have g4 := hG.hs
  have hwr : IntKind.i64.wrap ((k : Int) + 1) = ((k + 1 : Nat) : Int) := by simp [IntKind.wrap, IntKind.signed, IntKind.bits]; omega
  have hsz : (W.setCell ⟨ni + 1, 0, none⟩ (.int .i64 ((k + 1 : Nat) : Int))).heap.size = W.heap.size := setC_size _ _ _
  obtain ⟨X, hX⟩ : ∃ X, W.setCell ⟨ni + 1, 0, none⟩ (.int .i64 ((k + 1 : Nat) : Int)) = X := ⟨_, rfl⟩
  rw [hX] at g2 g3 g4 hsz ⊢
  have hX' : W.setCell ⟨ni + 1, 0, none⟩ (.int .i64 (k + 1 : Int)) = X := by rw [← hX]; rfl
  have g2' : X.cell? ⟨ni + 1, 0, none⟩ = some (.int .i64 ((k : Int) + 1)) := g2
  clear hG h
  unfold wordAt
  by_cases hlt : k + 1 < ps.length
  · rw [if_pos hlt]
    obtain ⟨p, hp'⟩ := get_some hlt
    have hpl := hp p (List.mem_of_getElem? hp')
    have g5 := g4 (k + 1) p hp'
    rw [List.getD_eq_getElem?_getD, hp']
    have hnum := anumber_any ⟨p.toArray⟩ X (by simp [ByteArray.size]; omega)
    rw [show (⟨p.toArray⟩ : ByteArray).data.toList = p from rfl] at hnum
    have hnum' := Lib.hid hnum
    have t1 : decide (((k + 1 : Nat) : Int) < (ps.length : Int)) = true := by rw [decide_eq_true_iff]; omega
    have t2 : decide (((k : Int) + 1) < (ps.length : Int)) = true := by rw [decide_eq_true_iff]; omega
    have k0 : (0 : Int) ≤ (k : Int) + 1 := by omega
    have k1 : (k : Int) + 1 < (ps.length : Int) := by omega
    have kt : ((k : Int) + 1).toNat = k + 1 := by omega
    clear hp g4 hnum hp' hX
    go_enter Tryz.func86, Tryz.ntmps86
    go_wp2_with fail
    refine hnum'.out.mono ?_
    rintro e w1 ⟨rfl, hb⟩
    go_wp2_with fail
    go_ret
    exact ⟨rfl, by rw [← hsz]; exact hb⟩
  · rw [if_neg hlt]
    have t1 : decide (((k + 1 : Nat) : Int) < (ps.length : Int)) = false := by rw [decide_eq_false_iff_not]; omega
    have t2 : decide (((k : Int) + 1) < (ps.length : Int)) = false := by rw [decide_eq_false_iff_not]; omega
    clear hp g4 hX
    go_enter Tryz.func86, Tryz.ntmps86
    go_wp2_with fail
    go_ret
    exact ⟨rfl, Below.refl _ _⟩
theorem small_any {w0 : World} {nl ni k : Nat} {ps : List (List UInt8)} {e : Ins} {W : World} (h : GSt w0 nl ni ps k e W) (hk : k ≤ 10) (hp : ∀ p ∈ ps, p.length ≤ 1000000) :
    Calls Tryz.prog 88 #[.pointer (some ⟨ni + 1 + 1, 0, none⟩)] W fun r W' => r = .returned (.int .i64 (wordAt ps (k + 1))) ∧ Below W.heap.size (W.setCell ⟨ni + 1, 0, none⟩ (.int .i64 ((k + 1 : Nat) : Int))) W' := by
  have g1 := h.hx.cell
  have hnx := Lib.hid (next_any h hk hp)
  have hbd := wordAt_bd ps (k + 1)
  have hwr : IntKind.i64.wrap (wordAt ps (k + 1)) = wordAt ps (k + 1) := by simp [IntKind.wrap, IntKind.signed, IntKind.bits]; omega
  unfold nextV at g1
  clear h hp
  go_enter Tryz.func88, Tryz.ntmps88
  go_wp2_with fail
  refine hnx.out.mono ?_
  rintro e w1 ⟨rfl, hb⟩
  go_wp2_with fail
  go_ret
  exact ⟨rfl, hb⟩

theorem InBox.set5 {W : World} {B : Nat} {e : Ins} (h : InBox W B e) (e' : Ins) : InBox (((((W.setCell ⟨B, 0, none⟩ (.int .i64 e'.op)).setCell ⟨B, 1, none⟩ (.int .i64 e'.a)).setCell ⟨B, 2, none⟩ (.int .i64 e'.b)).setCell ⟨B, 3, none⟩ (.int .i64 e'.c)).setCell ⟨B, 4, none⟩ (.int .u32 e'.n)) B e' := ((((h.setO e'.op).setA e'.a).setB e'.b).setC e'.c).setN e'.n
theorem below_set5 {N : Nat} {W W' : World} (h : Below N W W') (B : Nat) (hB : N ≤ B) (v0 v1 v2 v3 v4 : Value) : Below N W (((((W'.setCell ⟨B, 0, none⟩ v0).setCell ⟨B, 1, none⟩ v1).setCell ⟨B, 2, none⟩ v2).setCell ⟨B, 3, none⟩ v3).setCell ⟨B, 4, none⟩ v4) :=
  below_set (below_set (below_set (below_set (below_set h B 0 hB v0) B 1 hB v1) B 2 hB v2) B 3 hB v3) B 4 hB v4
theorem res_guess (tmps : Array Value) (w : World) {b : Nat} {e : Ins} (ha : tmps[2]?.getD undef = .pointer (some ⟨b, 0, none⟩)) (hbox : InBox w b e) :
    (results Tryz.f69 tmps).run Tryz.prog w = .ok (insV e) w := by
  obtain ⟨h0, h1, h2, h3, h4⟩ := hbox.cells
  simp [results, ha, h0, h1, h2, h3, h4, go_sem, insV]

theorem gst_start {w w1 w2 : World} {ps : List (List UInt8)} {op : Int} (hc : ∀ (j : Nat) x, ps[j]? = some x → w1.cell? ⟨w.heap.size + 1, j, none⟩ = some (.string ⟨x.toArray⟩)) (hb1 : Below (w.alloc (.cells #[.int .i64 0, .int .i64 0, .int .i64 0, .int .i64 0, .int .u32 0] 73)).heap.size (w.alloc (.cells #[.int .i64 0, .int .i64 0, .int .i64 0, .int .i64 0, .int .u32 0] 73)) w1) (hlt : w.heap.size + 1 < w1.heap.size)
    (hb2 : Below (w1.alloc (.cells #[.slice (some ⟨w.heap.size + 1, 0, none⟩) ps.length ps.length] 70)).heap.size (w1.alloc (.cells #[.slice (some ⟨w.heap.size + 1, 0, none⟩) ps.length ps.length] 70)) w2) :
    GSt w w1.heap.size w2.heap.size ps 0 ⟨op, 0, 0, 0, 0⟩ (((w2.alloc (.cells #[.int .i64 op, .int .i64 0, .int .i64 0, .int .i64 0, .int .u32 0] 73)).alloc (.cells #[.int .i64 0] 3)).alloc (.cells #[nextV w1.heap.size w2.heap.size] 137)) := by
  have s1 : w1.heap.size < w2.heap.size := by have := hb2.size; rw [World.size_alloc] at this; omega
  have hB1 : Below w.heap.size w w1 := ((Below.refl _ w).alloc (Nat.le_refl _) _).trans (hb1.mono (by simp))
  have hB2 : Below w.heap.size w w2 := (hB1.alloc hB1.size _).trans (hb2.mono (by rw [World.size_alloc]; have := hB1.size; omega))
  have k1 : ∀ j, j < w1.heap.size → w2.heap[j]? = w1.heap[j]? := fun j hj => (hb2.block j (by rw [World.size_alloc]; omega)).trans (Below.heap_alloc _ _ _ hj)
  have k3 : ∀ (o1 o2 o3 : Obj) j, j < w2.heap.size → (((w2.alloc o1).alloc o2).alloc o3).heap[j]? = w2.heap[j]? := fun o1 o2 o3 j hj => by
    rw [Below.heap_alloc _ _ _ (by simp only [World.size_alloc]; omega), Below.heap_alloc _ _ _ (by simp only [World.size_alloc]; omega), Below.heap_alloc _ _ _ hj]
  have hr0 : InBox w1 w.heap.size Ins.zero := (hb1.block _ (by rw [World.size_alloc]; omega)).trans (heap_alloc_new w _)
  have hl0 : Boxed w2 w1.heap.size 70 (.slice (some ⟨w.heap.size + 1, 0, none⟩) ps.length ps.length) := (hb2.block _ (by rw [World.size_alloc]; omega)).trans (heap_alloc_new w1 _)
  refine ⟨((hB2.alloc hB2.size _).alloc (by rw [World.size_alloc]; have := hB2.size; omega) _).alloc (by simp only [World.size_alloc]; have := hB2.size; omega) _, ?_, ?_, ?_, ?_, ?_, ?_, hlt, s1⟩
  · exact (k3 _ _ _ _ (by omega)).trans ((k1 _ (by omega)).trans hr0)
  · exact (k3 _ _ _ _ (by omega)).trans hl0
  · intro j x hx
    exact (World.cell?_of_block (a := ⟨w.heap.size + 1, j, none⟩) ((k3 _ _ _ _ (by simp only; omega)).trans (k1 _ hlt))).trans (hc j x hx)
  · unfold InBox
    rw [Below.heap_alloc _ _ _ (by simp only [World.size_alloc]; omega), Below.heap_alloc _ _ _ (by simp only [World.size_alloc]; omega)]
    exact heap_alloc_new w2 _
  · unfold Boxed
    rw [Below.heap_alloc _ _ _ (by simp only [World.size_alloc]; omega)]
    have := heap_alloc_new (w2.alloc (.cells #[.int .i64 op, .int .i64 0, .int .i64 0, .int .i64 0, .int .u32 0] 73)) (.cells #[.int .i64 0] 3)
    rw [World.size_alloc] at this
    exact this
  · unfold Boxed
    have := heap_alloc_new ((w2.alloc (.cells #[.int .i64 op, .int .i64 0, .int .i64 0, .int .i64 0, .int .u32 0] 73)).alloc (.cells #[.int .i64 0] 3)) (.cells #[nextV w1.heap.size w2.heap.size] 137)
    rw [World.size_alloc, World.size_alloc] at this
    exact this

end Go.Proofs.YtfgmebjbibbpdaaGreatDoor

namespace Go.Proofs.YtfgmebjbibbpdaaGreatDoor
open Go.RowKit

set_option maxRecDepth 100000 in
set_option maxHeartbeats 4000000 in
theorem guess_back (op : Int) (p0 : List UInt8) (ps : List (List UInt8)) (s : ByteArray) (w : World) (hM : Mx w) (hs : s.size ≤ 1000000) (hps : pcs 32 s.data.toList = ps) (hp0 : ps[0]? = some p0) (hpl : ∀ p ∈ ps, p.length ≤ 1000000) (hn : ps.length ≤ 1000001) (hk : kindOf p0 = op) (ho : op = 16) :
    Calls Tryz.prog 69 #[.string s] w fun r W' => r = .returned (insV ⟨16, 0, 0, wordAt ps 2, wordAt ps 1⟩) ∧ Below w.heap.size w W' := by
  subst ho
  have hsp := fun W hM => split_any s 32 W hM hs
  rw [hps] at hsp
  have hki := fun W => kind_any ⟨p0.toArray⟩ W
  rw [show (⟨p0.toArray⟩ : ByteArray).data.toList = p0 from rfl, hk] at hki
  have hl0 : 0 < ps.length := get_lt hp0
  have hl1 : (0 : Int) < (ps.length : Int) := by omega
  have hsp' := Lib.hid hsp
  have hki' := Lib.hid hki
  have hMz' := Lib.hid (hM.below ((Below.refl _ w).alloc (Nat.le_refl _) (.cells #[.int .i64 0, .int .i64 0, .int .i64 0, .int .i64 0, .int .u32 0] 73)))
  have hpl' := Lib.hid hpl
  clear hsp hki hps hk hpl hM
  go_enter Tryz.func69, Tryz.ntmps69
  go_wp2_with fail
  refine (hsp'.out _ hMz'.out).mono ?_
  rintro e w1 ⟨rfl, hc1, hb1⟩
  simp only [World.size_alloc] at hc1
  have c0 := hc1 0 p0 hp0
  have hlt1 : w.heap.size + 1 < w1.heap.size := cell_lt c0
  have hne1 : w.heap.size + 1 ≠ w1.heap.size := by omega
  have hc1' := Lib.hid hc1
  clear hc1
  go_wp2_with fail
  refine (hki'.out _).mono ?_
  rintro e w2 ⟨rfl, hb2⟩
  have hG0 := gst_start (op := 16) hc1'.out hb1 hlt1 hb2
  have hs2 : w1.heap.size < w2.heap.size := hG0.hn.2
  have hne2 : w1.heap.size ≠ w2.heap.size := by omega
  have hne3 : w.heap.size ≠ w2.heap.size := by omega
  have hne4 : w.heap.size ≠ w2.heap.size + 1 := by omega
  have hlt3 : w.heap.size < w2.heap.size := by omega
  have hlt4 : w.heap.size < w2.heap.size + 1 := by omega
  have hlt5 : w.heap.size < w2.heap.size + 1 + 1 := by omega
  have hne5 : w.heap.size ≠ w2.heap.size + 1 + 1 := by omega
  have hrw : InBox w2 w.heap.size Ins.zero := ((hb2.block _ (by rw [World.size_alloc]; omega)).trans ((Below.heap_alloc _ _ _ (by omega)).trans ((hb1.block _ (by rw [World.size_alloc]; omega)).trans (heap_alloc_new w _))))
  obtain ⟨y0, y1, y2, y3, y4⟩ := hrw.cells
  have z0 := hrw.frozen 0
  have z1 := hrw.frozen 1
  have z2 := hrw.frozen 2
  have z3 := hrw.frozen 3
  have z4 := hrw.frozen 4
  have hst := fun W p => run_store Tryz.prog W p (.func (.func 86) #[] #[.pointer (some ⟨w2.heap.size + 1, 0, none⟩), .pointer (some ⟨w1.heap.size, 0, none⟩)]) .plain rfl
  have hB1 : Below w.heap.size w w1 := ((Below.refl _ w).alloc (Nat.le_refl _) _).trans (hb1.mono (by simp))
  have hB2 : Below w.heap.size w w2 := (hB1.alloc hB1.size _).trans (hb2.mono (by rw [World.size_alloc]; have := hB1.size; omega))
  have hB2' := Lib.hid hB2
  have hrw' := Lib.hid hrw
  clear c0 hc1' hb1 hb2 hB1 hB2 hrw
  go_wp2_with (first
    | (go_at_call 86; refine (next_any (by assumption) (by omega) hpl'.out).mono ?_; rintro e wx ⟨rfl, hbx⟩; have hGx := GSt.next (by assumption) hbx; have hSx := hGx.hx.cell; obtain ⟨d0, d1, d2, d3, d4⟩ := hGx.hi.cells; have q0 := hGx.hi.frozen 0; have q1 := hGx.hi.frozen 1; have q2 := hGx.hi.frozen 2; have q3 := hGx.hi.frozen 3; have q4 := hGx.hi.frozen 4; obtain ⟨y0, y1, y2, y3, y4⟩ := hGx.hr.cells; have z0 := hGx.hr.frozen 0; have z1 := hGx.hr.frozen 1; have z2 := hGx.hr.frozen 2; have z3 := hGx.hr.frozen 3; have z4 := hGx.hr.frozen 4; unfold nextV at hSx)
    | (go_at_call 88; refine (small_any (by assumption) (by omega) hpl'.out).mono ?_; rintro e wx ⟨rfl, hbx⟩; have hGx := GSt.next (by assumption) hbx; have hSx := hGx.hx.cell; obtain ⟨d0, d1, d2, d3, d4⟩ := hGx.hi.cells; have q0 := hGx.hi.frozen 0; have q1 := hGx.hi.frozen 1; have q2 := hGx.hi.frozen 2; have q3 := hGx.hi.frozen 3; have q4 := hGx.hi.frozen 4; obtain ⟨y0, y1, y2, y3, y4⟩ := hGx.hr.cells; have z0 := hGx.hr.frozen 0; have z1 := hGx.hr.frozen 1; have z2 := hGx.hr.frozen 2; have z3 := hGx.hr.frozen 3; have z4 := hGx.hr.frozen 4; unfold nextV at hSx))
  have hF := ((hGx.putN (wordAt ps 1)).putC (wordAt ps 2))
  refine bodyPost_ret (res_guess _ _ rfl (hF.hr.set5 ⟨16, 0, 0, wordAt ps 2, wordAt ps 1⟩)) rfl ?_
  exact ⟨rfl, below_set5 hF.hb _ (Nat.le_refl _) _ _ _ _ _⟩

set_option maxRecDepth 100000 in
set_option maxHeartbeats 4000000 in
theorem guess_jump (op : Int) (p0 : List UInt8) (ps : List (List UInt8)) (s : ByteArray) (w : World) (hM : Mx w) (hs : s.size ≤ 1000000) (hps : pcs 32 s.data.toList = ps) (hp0 : ps[0]? = some p0) (hpl : ∀ p ∈ ps, p.length ≤ 1000000) (hn : ps.length ≤ 1000001) (hk : kindOf p0 = op) (ho : op = 14) :
    Calls Tryz.prog 69 #[.string s] w fun r W' => r = .returned (insV ⟨14, 0, 0, 0, wordAt ps 1⟩) ∧ Below w.heap.size w W' := by
  subst ho
  have hsp := fun W hM => split_any s 32 W hM hs
  rw [hps] at hsp
  have hki := fun W => kind_any ⟨p0.toArray⟩ W
  rw [show (⟨p0.toArray⟩ : ByteArray).data.toList = p0 from rfl, hk] at hki
  have hl0 : 0 < ps.length := get_lt hp0
  have hl1 : (0 : Int) < (ps.length : Int) := by omega
  have hsp' := Lib.hid hsp
  have hki' := Lib.hid hki
  have hMz' := Lib.hid (hM.below ((Below.refl _ w).alloc (Nat.le_refl _) (.cells #[.int .i64 0, .int .i64 0, .int .i64 0, .int .i64 0, .int .u32 0] 73)))
  have hpl' := Lib.hid hpl
  clear hsp hki hps hk hpl hM
  go_enter Tryz.func69, Tryz.ntmps69
  go_wp2_with fail
  refine (hsp'.out _ hMz'.out).mono ?_
  rintro e w1 ⟨rfl, hc1, hb1⟩
  simp only [World.size_alloc] at hc1
  have c0 := hc1 0 p0 hp0
  have hlt1 : w.heap.size + 1 < w1.heap.size := cell_lt c0
  have hne1 : w.heap.size + 1 ≠ w1.heap.size := by omega
  have hc1' := Lib.hid hc1
  clear hc1
  go_wp2_with fail
  refine (hki'.out _).mono ?_
  rintro e w2 ⟨rfl, hb2⟩
  have hG0 := gst_start (op := 14) hc1'.out hb1 hlt1 hb2
  have hs2 : w1.heap.size < w2.heap.size := hG0.hn.2
  have hne2 : w1.heap.size ≠ w2.heap.size := by omega
  have hne3 : w.heap.size ≠ w2.heap.size := by omega
  have hne4 : w.heap.size ≠ w2.heap.size + 1 := by omega
  have hlt3 : w.heap.size < w2.heap.size := by omega
  have hlt4 : w.heap.size < w2.heap.size + 1 := by omega
  have hlt5 : w.heap.size < w2.heap.size + 1 + 1 := by omega
  have hne5 : w.heap.size ≠ w2.heap.size + 1 + 1 := by omega
  have hrw : InBox w2 w.heap.size Ins.zero := ((hb2.block _ (by rw [World.size_alloc]; omega)).trans ((Below.heap_alloc _ _ _ (by omega)).trans ((hb1.block _ (by rw [World.size_alloc]; omega)).trans (heap_alloc_new w _))))
  obtain ⟨y0, y1, y2, y3, y4⟩ := hrw.cells
  have z0 := hrw.frozen 0
  have z1 := hrw.frozen 1
  have z2 := hrw.frozen 2
  have z3 := hrw.frozen 3
  have z4 := hrw.frozen 4
  have hst := fun W p => run_store Tryz.prog W p (.func (.func 86) #[] #[.pointer (some ⟨w2.heap.size + 1, 0, none⟩), .pointer (some ⟨w1.heap.size, 0, none⟩)]) .plain rfl
  have hB1 : Below w.heap.size w w1 := ((Below.refl _ w).alloc (Nat.le_refl _) _).trans (hb1.mono (by simp))
  have hB2 : Below w.heap.size w w2 := (hB1.alloc hB1.size _).trans (hb2.mono (by rw [World.size_alloc]; have := hB1.size; omega))
  have hB2' := Lib.hid hB2
  have hrw' := Lib.hid hrw
  clear c0 hc1' hb1 hb2 hB1 hB2 hrw
  go_wp2_with (first
    | (go_at_call 86; refine (next_any (by assumption) (by omega) hpl'.out).mono ?_; rintro e wx ⟨rfl, hbx⟩; have hGx := GSt.next (by assumption) hbx; have hSx := hGx.hx.cell; obtain ⟨d0, d1, d2, d3, d4⟩ := hGx.hi.cells; have q0 := hGx.hi.frozen 0; have q1 := hGx.hi.frozen 1; have q2 := hGx.hi.frozen 2; have q3 := hGx.hi.frozen 3; have q4 := hGx.hi.frozen 4; obtain ⟨y0, y1, y2, y3, y4⟩ := hGx.hr.cells; have z0 := hGx.hr.frozen 0; have z1 := hGx.hr.frozen 1; have z2 := hGx.hr.frozen 2; have z3 := hGx.hr.frozen 3; have z4 := hGx.hr.frozen 4; unfold nextV at hSx)
    | (go_at_call 88; refine (small_any (by assumption) (by omega) hpl'.out).mono ?_; rintro e wx ⟨rfl, hbx⟩; have hGx := GSt.next (by assumption) hbx; have hSx := hGx.hx.cell; obtain ⟨d0, d1, d2, d3, d4⟩ := hGx.hi.cells; have q0 := hGx.hi.frozen 0; have q1 := hGx.hi.frozen 1; have q2 := hGx.hi.frozen 2; have q3 := hGx.hi.frozen 3; have q4 := hGx.hi.frozen 4; obtain ⟨y0, y1, y2, y3, y4⟩ := hGx.hr.cells; have z0 := hGx.hr.frozen 0; have z1 := hGx.hr.frozen 1; have z2 := hGx.hr.frozen 2; have z3 := hGx.hr.frozen 3; have z4 := hGx.hr.frozen 4; unfold nextV at hSx))
  have hF := (hGx.putN (wordAt ps 1))
  refine bodyPost_ret (res_guess _ _ rfl (hF.hr.set5 ⟨14, 0, 0, 0, wordAt ps 1⟩)) rfl ?_
  exact ⟨rfl, below_set5 hF.hb _ (Nat.le_refl _) _ _ _ _ _⟩

set_option maxRecDepth 100000 in
set_option maxHeartbeats 4000000 in
theorem guess_move (op : Int) (p0 : List UInt8) (ps : List (List UInt8)) (s : ByteArray) (w : World) (hM : Mx w) (hs : s.size ≤ 1000000) (hps : pcs 32 s.data.toList = ps) (hp0 : ps[0]? = some p0) (hpl : ∀ p ∈ ps, p.length ≤ 1000000) (hn : ps.length ≤ 1000001) (hk : kindOf p0 = op) (ho : op = 2) :
    Calls Tryz.prog 69 #[.string s] w fun r W' => r = .returned (insV ⟨2, wordAt ps 1, wordAt ps 2, 0, 0⟩) ∧ Below w.heap.size w W' := by
  subst ho
  have hsp := fun W hM => split_any s 32 W hM hs
  rw [hps] at hsp
  have hki := fun W => kind_any ⟨p0.toArray⟩ W
  rw [show (⟨p0.toArray⟩ : ByteArray).data.toList = p0 from rfl, hk] at hki
  have hl0 : 0 < ps.length := get_lt hp0
  have hl1 : (0 : Int) < (ps.length : Int) := by omega
  have hsp' := Lib.hid hsp
  have hki' := Lib.hid hki
  have hMz' := Lib.hid (hM.below ((Below.refl _ w).alloc (Nat.le_refl _) (.cells #[.int .i64 0, .int .i64 0, .int .i64 0, .int .i64 0, .int .u32 0] 73)))
  have hpl' := Lib.hid hpl
  clear hsp hki hps hk hpl hM
  go_enter Tryz.func69, Tryz.ntmps69
  go_wp2_with fail
  refine (hsp'.out _ hMz'.out).mono ?_
  rintro e w1 ⟨rfl, hc1, hb1⟩
  simp only [World.size_alloc] at hc1
  have c0 := hc1 0 p0 hp0
  have hlt1 : w.heap.size + 1 < w1.heap.size := cell_lt c0
  have hne1 : w.heap.size + 1 ≠ w1.heap.size := by omega
  have hc1' := Lib.hid hc1
  clear hc1
  go_wp2_with fail
  refine (hki'.out _).mono ?_
  rintro e w2 ⟨rfl, hb2⟩
  have hG0 := gst_start (op := 2) hc1'.out hb1 hlt1 hb2
  have hs2 : w1.heap.size < w2.heap.size := hG0.hn.2
  have hne2 : w1.heap.size ≠ w2.heap.size := by omega
  have hne3 : w.heap.size ≠ w2.heap.size := by omega
  have hne4 : w.heap.size ≠ w2.heap.size + 1 := by omega
  have hlt3 : w.heap.size < w2.heap.size := by omega
  have hlt4 : w.heap.size < w2.heap.size + 1 := by omega
  have hlt5 : w.heap.size < w2.heap.size + 1 + 1 := by omega
  have hne5 : w.heap.size ≠ w2.heap.size + 1 + 1 := by omega
  have hrw : InBox w2 w.heap.size Ins.zero := ((hb2.block _ (by rw [World.size_alloc]; omega)).trans ((Below.heap_alloc _ _ _ (by omega)).trans ((hb1.block _ (by rw [World.size_alloc]; omega)).trans (heap_alloc_new w _))))
  obtain ⟨y0, y1, y2, y3, y4⟩ := hrw.cells
  have z0 := hrw.frozen 0
  have z1 := hrw.frozen 1
  have z2 := hrw.frozen 2
  have z3 := hrw.frozen 3
  have z4 := hrw.frozen 4
  have hst := fun W p => run_store Tryz.prog W p (.func (.func 86) #[] #[.pointer (some ⟨w2.heap.size + 1, 0, none⟩), .pointer (some ⟨w1.heap.size, 0, none⟩)]) .plain rfl
  have hB1 : Below w.heap.size w w1 := ((Below.refl _ w).alloc (Nat.le_refl _) _).trans (hb1.mono (by simp))
  have hB2 : Below w.heap.size w w2 := (hB1.alloc hB1.size _).trans (hb2.mono (by rw [World.size_alloc]; have := hB1.size; omega))
  have hB2' := Lib.hid hB2
  have hrw' := Lib.hid hrw
  clear c0 hc1' hb1 hb2 hB1 hB2 hrw
  go_wp2_with (first
    | (go_at_call 86; refine (next_any (by assumption) (by omega) hpl'.out).mono ?_; rintro e wx ⟨rfl, hbx⟩; have hGx := GSt.next (by assumption) hbx; have hSx := hGx.hx.cell; obtain ⟨d0, d1, d2, d3, d4⟩ := hGx.hi.cells; have q0 := hGx.hi.frozen 0; have q1 := hGx.hi.frozen 1; have q2 := hGx.hi.frozen 2; have q3 := hGx.hi.frozen 3; have q4 := hGx.hi.frozen 4; obtain ⟨y0, y1, y2, y3, y4⟩ := hGx.hr.cells; have z0 := hGx.hr.frozen 0; have z1 := hGx.hr.frozen 1; have z2 := hGx.hr.frozen 2; have z3 := hGx.hr.frozen 3; have z4 := hGx.hr.frozen 4; unfold nextV at hSx)
    | (go_at_call 88; refine (small_any (by assumption) (by omega) hpl'.out).mono ?_; rintro e wx ⟨rfl, hbx⟩; have hGx := GSt.next (by assumption) hbx; have hSx := hGx.hx.cell; obtain ⟨d0, d1, d2, d3, d4⟩ := hGx.hi.cells; have q0 := hGx.hi.frozen 0; have q1 := hGx.hi.frozen 1; have q2 := hGx.hi.frozen 2; have q3 := hGx.hi.frozen 3; have q4 := hGx.hi.frozen 4; obtain ⟨y0, y1, y2, y3, y4⟩ := hGx.hr.cells; have z0 := hGx.hr.frozen 0; have z1 := hGx.hr.frozen 1; have z2 := hGx.hr.frozen 2; have z3 := hGx.hr.frozen 3; have z4 := hGx.hr.frozen 4; unfold nextV at hSx))
  have hF := ((hGx.putA (wordAt ps 1)).putB (wordAt ps 2))
  refine bodyPost_ret (res_guess _ _ rfl (hF.hr.set5 ⟨2, wordAt ps 1, wordAt ps 2, 0, 0⟩)) rfl ?_
  exact ⟨rfl, below_set5 hF.hb _ (Nat.le_refl _) _ _ _ _ _⟩

set_option maxRecDepth 100000 in
set_option maxHeartbeats 4000000 in
theorem guess_three (op : Int) (p0 : List UInt8) (ps : List (List UInt8)) (s : ByteArray) (w : World) (hM : Mx w) (hs : s.size ≤ 1000000) (hps : pcs 32 s.data.toList = ps) (hp0 : ps[0]? = some p0) (hpl : ∀ p ∈ ps, p.length ≤ 1000000) (hn : ps.length ≤ 1000001) (hk : kindOf p0 = op) (ho : 3 ≤ op ∧ op ≤ 10) :
    Calls Tryz.prog 69 #[.string s] w fun r W' => r = .returned (insV ⟨op, wordAt ps 1, wordAt ps 2, wordAt ps 3, 0⟩) ∧ Below w.heap.size w W' := by
  have x16 : (op == 16) = false := by rw [beq_eq_false_iff_ne]; omega
  have x14 : (op == 14) = false := by rw [beq_eq_false_iff_ne]; omega
  have x1 : (op == 1) = false := by rw [beq_eq_false_iff_ne]; omega
  have x15 : (op == 15) = false := by rw [beq_eq_false_iff_ne]; omega
  have x2 : (op == 2) = false := by rw [beq_eq_false_iff_ne]; omega
  have y3 : decide (3 ≤ op) = true := decide_eq_true ho.1
  have y4 : decide (op ≤ 10) = true := decide_eq_true ho.2
  have hsp := fun W hM => split_any s 32 W hM hs
  rw [hps] at hsp
  have hki := fun W => kind_any ⟨p0.toArray⟩ W
  rw [show (⟨p0.toArray⟩ : ByteArray).data.toList = p0 from rfl, hk] at hki
  have hl0 : 0 < ps.length := get_lt hp0
  have hl1 : (0 : Int) < (ps.length : Int) := by omega
  have hsp' := Lib.hid hsp
  have hki' := Lib.hid hki
  have hMz' := Lib.hid (hM.below ((Below.refl _ w).alloc (Nat.le_refl _) (.cells #[.int .i64 0, .int .i64 0, .int .i64 0, .int .i64 0, .int .u32 0] 73)))
  have hpl' := Lib.hid hpl
  clear hsp hki hps hk hpl hM
  go_enter Tryz.func69, Tryz.ntmps69
  go_wp2_with fail
  refine (hsp'.out _ hMz'.out).mono ?_
  rintro e w1 ⟨rfl, hc1, hb1⟩
  simp only [World.size_alloc] at hc1
  have c0 := hc1 0 p0 hp0
  have hlt1 : w.heap.size + 1 < w1.heap.size := cell_lt c0
  have hne1 : w.heap.size + 1 ≠ w1.heap.size := by omega
  have hc1' := Lib.hid hc1
  clear hc1
  go_wp2_with fail
  refine (hki'.out _).mono ?_
  rintro e w2 ⟨rfl, hb2⟩
  have hG0 := gst_start (op := op) hc1'.out hb1 hlt1 hb2
  have hs2 : w1.heap.size < w2.heap.size := hG0.hn.2
  have hne2 : w1.heap.size ≠ w2.heap.size := by omega
  have hne3 : w.heap.size ≠ w2.heap.size := by omega
  have hne4 : w.heap.size ≠ w2.heap.size + 1 := by omega
  have hlt3 : w.heap.size < w2.heap.size := by omega
  have hlt4 : w.heap.size < w2.heap.size + 1 := by omega
  have hlt5 : w.heap.size < w2.heap.size + 1 + 1 := by omega
  have hne5 : w.heap.size ≠ w2.heap.size + 1 + 1 := by omega
  have hrw : InBox w2 w.heap.size Ins.zero := ((hb2.block _ (by rw [World.size_alloc]; omega)).trans ((Below.heap_alloc _ _ _ (by omega)).trans ((hb1.block _ (by rw [World.size_alloc]; omega)).trans (heap_alloc_new w _))))
  obtain ⟨y0, y1, y2, y3, y4⟩ := hrw.cells
  have z0 := hrw.frozen 0
  have z1 := hrw.frozen 1
  have z2 := hrw.frozen 2
  have z3 := hrw.frozen 3
  have z4 := hrw.frozen 4
  have hst := fun W p => run_store Tryz.prog W p (.func (.func 86) #[] #[.pointer (some ⟨w2.heap.size + 1, 0, none⟩), .pointer (some ⟨w1.heap.size, 0, none⟩)]) .plain rfl
  have hB1 : Below w.heap.size w w1 := ((Below.refl _ w).alloc (Nat.le_refl _) _).trans (hb1.mono (by simp))
  have hB2 : Below w.heap.size w w2 := (hB1.alloc hB1.size _).trans (hb2.mono (by rw [World.size_alloc]; have := hB1.size; omega))
  have hB2' := Lib.hid hB2
  have hrw' := Lib.hid hrw
  clear c0 hc1' hb1 hb2 hB1 hB2 hrw
  go_wp2_with (first
    | (go_at_call 86; refine (next_any (by assumption) (by omega) hpl'.out).mono ?_; rintro e wx ⟨rfl, hbx⟩; have hGx := GSt.next (by assumption) hbx; have hSx := hGx.hx.cell; obtain ⟨d0, d1, d2, d3, d4⟩ := hGx.hi.cells; have q0 := hGx.hi.frozen 0; have q1 := hGx.hi.frozen 1; have q2 := hGx.hi.frozen 2; have q3 := hGx.hi.frozen 3; have q4 := hGx.hi.frozen 4; obtain ⟨y0, y1, y2, y3, y4⟩ := hGx.hr.cells; have z0 := hGx.hr.frozen 0; have z1 := hGx.hr.frozen 1; have z2 := hGx.hr.frozen 2; have z3 := hGx.hr.frozen 3; have z4 := hGx.hr.frozen 4; unfold nextV at hSx)
    | (go_at_call 88; refine (small_any (by assumption) (by omega) hpl'.out).mono ?_; rintro e wx ⟨rfl, hbx⟩; have hGx := GSt.next (by assumption) hbx; have hSx := hGx.hx.cell; obtain ⟨d0, d1, d2, d3, d4⟩ := hGx.hi.cells; have q0 := hGx.hi.frozen 0; have q1 := hGx.hi.frozen 1; have q2 := hGx.hi.frozen 2; have q3 := hGx.hi.frozen 3; have q4 := hGx.hi.frozen 4; obtain ⟨y0, y1, y2, y3, y4⟩ := hGx.hr.cells; have z0 := hGx.hr.frozen 0; have z1 := hGx.hr.frozen 1; have z2 := hGx.hr.frozen 2; have z3 := hGx.hr.frozen 3; have z4 := hGx.hr.frozen 4; unfold nextV at hSx))
  have hF := (((hGx.putA (wordAt ps 1)).putB (wordAt ps 2)).putC (wordAt ps 3))
  refine bodyPost_ret (res_guess _ _ rfl (hF.hr.set5 ⟨op, wordAt ps 1, wordAt ps 2, wordAt ps 3, 0⟩)) rfl ?_
  exact ⟨rfl, below_set5 hF.hb _ (Nat.le_refl _) _ _ _ _ _⟩

set_option maxRecDepth 100000 in
set_option maxHeartbeats 4000000 in
theorem guess_nop (op : Int) (p0 : List UInt8) (ps : List (List UInt8)) (s : ByteArray) (w : World) (hM : Mx w) (hs : s.size ≤ 1000000) (hps : pcs 32 s.data.toList = ps) (hp0 : ps[0]? = some p0) (hpl : ∀ p ∈ ps, p.length ≤ 1000000) (hn : ps.length ≤ 1000001) (hk : kindOf p0 = op) (ho : op = 0) :
    Calls Tryz.prog 69 #[.string s] w fun r W' => r = .returned (insV ⟨0, 0, 0, 0, 0⟩) ∧ Below w.heap.size w W' := by
  subst ho
  have hsp := fun W hM => split_any s 32 W hM hs
  rw [hps] at hsp
  have hki := fun W => kind_any ⟨p0.toArray⟩ W
  rw [show (⟨p0.toArray⟩ : ByteArray).data.toList = p0 from rfl, hk] at hki
  have hl0 : 0 < ps.length := get_lt hp0
  have hl1 : (0 : Int) < (ps.length : Int) := by omega
  have hsp' := Lib.hid hsp
  have hki' := Lib.hid hki
  have hMz' := Lib.hid (hM.below ((Below.refl _ w).alloc (Nat.le_refl _) (.cells #[.int .i64 0, .int .i64 0, .int .i64 0, .int .i64 0, .int .u32 0] 73)))
  have hpl' := Lib.hid hpl
  clear hsp hki hps hk hpl hM
  go_enter Tryz.func69, Tryz.ntmps69
  go_wp2_with fail
  refine (hsp'.out _ hMz'.out).mono ?_
  rintro e w1 ⟨rfl, hc1, hb1⟩
  simp only [World.size_alloc] at hc1
  have c0 := hc1 0 p0 hp0
  have hlt1 : w.heap.size + 1 < w1.heap.size := cell_lt c0
  have hne1 : w.heap.size + 1 ≠ w1.heap.size := by omega
  have hc1' := Lib.hid hc1
  clear hc1
  go_wp2_with fail
  refine (hki'.out _).mono ?_
  rintro e w2 ⟨rfl, hb2⟩
  have hG0 := gst_start (op := 0) hc1'.out hb1 hlt1 hb2
  have hs2 : w1.heap.size < w2.heap.size := hG0.hn.2
  have hne2 : w1.heap.size ≠ w2.heap.size := by omega
  have hne3 : w.heap.size ≠ w2.heap.size := by omega
  have hne4 : w.heap.size ≠ w2.heap.size + 1 := by omega
  have hlt3 : w.heap.size < w2.heap.size := by omega
  have hlt4 : w.heap.size < w2.heap.size + 1 := by omega
  have hlt5 : w.heap.size < w2.heap.size + 1 + 1 := by omega
  have hne5 : w.heap.size ≠ w2.heap.size + 1 + 1 := by omega
  have hrw : InBox w2 w.heap.size Ins.zero := ((hb2.block _ (by rw [World.size_alloc]; omega)).trans ((Below.heap_alloc _ _ _ (by omega)).trans ((hb1.block _ (by rw [World.size_alloc]; omega)).trans (heap_alloc_new w _))))
  obtain ⟨y0, y1, y2, y3, y4⟩ := hrw.cells
  have z0 := hrw.frozen 0
  have z1 := hrw.frozen 1
  have z2 := hrw.frozen 2
  have z3 := hrw.frozen 3
  have z4 := hrw.frozen 4
  have hst := fun W p => run_store Tryz.prog W p (.func (.func 86) #[] #[.pointer (some ⟨w2.heap.size + 1, 0, none⟩), .pointer (some ⟨w1.heap.size, 0, none⟩)]) .plain rfl
  have hB1 : Below w.heap.size w w1 := ((Below.refl _ w).alloc (Nat.le_refl _) _).trans (hb1.mono (by simp))
  have hB2 : Below w.heap.size w w2 := (hB1.alloc hB1.size _).trans (hb2.mono (by rw [World.size_alloc]; have := hB1.size; omega))
  have hB2' := Lib.hid hB2
  have hrw' := Lib.hid hrw
  clear c0 hc1' hb1 hb2 hB1 hB2 hrw
  go_wp2_with (first
    | (go_at_call 86; refine (next_any (by assumption) (by omega) hpl'.out).mono ?_; rintro e wx ⟨rfl, hbx⟩; have hGx := GSt.next (by assumption) hbx; have hSx := hGx.hx.cell; obtain ⟨d0, d1, d2, d3, d4⟩ := hGx.hi.cells; have q0 := hGx.hi.frozen 0; have q1 := hGx.hi.frozen 1; have q2 := hGx.hi.frozen 2; have q3 := hGx.hi.frozen 3; have q4 := hGx.hi.frozen 4; obtain ⟨y0, y1, y2, y3, y4⟩ := hGx.hr.cells; have z0 := hGx.hr.frozen 0; have z1 := hGx.hr.frozen 1; have z2 := hGx.hr.frozen 2; have z3 := hGx.hr.frozen 3; have z4 := hGx.hr.frozen 4; unfold nextV at hSx)
    | (go_at_call 88; refine (small_any (by assumption) (by omega) hpl'.out).mono ?_; rintro e wx ⟨rfl, hbx⟩; have hGx := GSt.next (by assumption) hbx; have hSx := hGx.hx.cell; obtain ⟨d0, d1, d2, d3, d4⟩ := hGx.hi.cells; have q0 := hGx.hi.frozen 0; have q1 := hGx.hi.frozen 1; have q2 := hGx.hi.frozen 2; have q3 := hGx.hi.frozen 3; have q4 := hGx.hi.frozen 4; obtain ⟨y0, y1, y2, y3, y4⟩ := hGx.hr.cells; have z0 := hGx.hr.frozen 0; have z1 := hGx.hr.frozen 1; have z2 := hGx.hr.frozen 2; have z3 := hGx.hr.frozen 3; have z4 := hGx.hr.frozen 4; unfold nextV at hSx))
  have hF := hG0
  have hb5 := below_set5 hB2'.out w.heap.size (Nat.le_refl _) (.int .i64 0) (.int .i64 0) (.int .i64 0) (.int .i64 0) (.int .u32 0)
  have hb6 := ((hb5.alloc (by simp only [setC_size]; omega) (.cells #[.int .i64 0, .int .i64 0, .int .i64 0, .int .i64 0, .int .u32 0] 73)).alloc (by simp only [World.size_alloc, setC_size]; omega) (.cells #[.int .i64 0] 3)).alloc (by simp only [World.size_alloc, setC_size]; omega) (.cells #[.func (.func 86) #[] #[.pointer (some ⟨w2.heap.size + 1, 0, none⟩), .pointer (some ⟨w1.heap.size, 0, none⟩)]] 137)
  refine bodyPost_ret (res_guess _ _ rfl ((((hrw'.out.set5 ⟨0, 0, 0, 0, 0⟩).kept ((Below.refl _ _).alloc (Nat.le_refl _) _)).kept ((Below.refl _ _).alloc (Nat.le_refl _) _)).kept ((Below.refl _ _).alloc (Nat.le_refl _) _))) rfl ?_
  exact ⟨rfl, hb6⟩

set_option maxRecDepth 100000 in
set_option maxHeartbeats 4000000 in
theorem guess_done (op : Int) (p0 : List UInt8) (ps : List (List UInt8)) (s : ByteArray) (w : World) (hM : Mx w) (hs : s.size ≤ 1000000) (hps : pcs 32 s.data.toList = ps) (hp0 : ps[0]? = some p0) (hpl : ∀ p ∈ ps, p.length ≤ 1000000) (hn : ps.length ≤ 1000001) (hk : kindOf p0 = op) (ho : op = 21) :
    Calls Tryz.prog 69 #[.string s] w fun r W' => r = .returned (insV ⟨21, 0, 0, 0, 0⟩) ∧ Below w.heap.size w W' := by
  subst ho
  have hsp := fun W hM => split_any s 32 W hM hs
  rw [hps] at hsp
  have hki := fun W => kind_any ⟨p0.toArray⟩ W
  rw [show (⟨p0.toArray⟩ : ByteArray).data.toList = p0 from rfl, hk] at hki
  have hl0 : 0 < ps.length := get_lt hp0
  have hl1 : (0 : Int) < (ps.length : Int) := by omega
  have hsp' := Lib.hid hsp
  have hki' := Lib.hid hki
  have hMz' := Lib.hid (hM.below ((Below.refl _ w).alloc (Nat.le_refl _) (.cells #[.int .i64 0, .int .i64 0, .int .i64 0, .int .i64 0, .int .u32 0] 73)))
  have hpl' := Lib.hid hpl
  clear hsp hki hps hk hpl hM
  go_enter Tryz.func69, Tryz.ntmps69
  go_wp2_with fail
  refine (hsp'.out _ hMz'.out).mono ?_
  rintro e w1 ⟨rfl, hc1, hb1⟩
  simp only [World.size_alloc] at hc1
  have c0 := hc1 0 p0 hp0
  have hlt1 : w.heap.size + 1 < w1.heap.size := cell_lt c0
  have hne1 : w.heap.size + 1 ≠ w1.heap.size := by omega
  have hc1' := Lib.hid hc1
  clear hc1
  go_wp2_with fail
  refine (hki'.out _).mono ?_
  rintro e w2 ⟨rfl, hb2⟩
  have hG0 := gst_start (op := 21) hc1'.out hb1 hlt1 hb2
  have hs2 : w1.heap.size < w2.heap.size := hG0.hn.2
  have hne2 : w1.heap.size ≠ w2.heap.size := by omega
  have hne3 : w.heap.size ≠ w2.heap.size := by omega
  have hne4 : w.heap.size ≠ w2.heap.size + 1 := by omega
  have hlt3 : w.heap.size < w2.heap.size := by omega
  have hlt4 : w.heap.size < w2.heap.size + 1 := by omega
  have hlt5 : w.heap.size < w2.heap.size + 1 + 1 := by omega
  have hne5 : w.heap.size ≠ w2.heap.size + 1 + 1 := by omega
  have hrw : InBox w2 w.heap.size Ins.zero := ((hb2.block _ (by rw [World.size_alloc]; omega)).trans ((Below.heap_alloc _ _ _ (by omega)).trans ((hb1.block _ (by rw [World.size_alloc]; omega)).trans (heap_alloc_new w _))))
  obtain ⟨y0, y1, y2, y3, y4⟩ := hrw.cells
  have z0 := hrw.frozen 0
  have z1 := hrw.frozen 1
  have z2 := hrw.frozen 2
  have z3 := hrw.frozen 3
  have z4 := hrw.frozen 4
  have hst := fun W p => run_store Tryz.prog W p (.func (.func 86) #[] #[.pointer (some ⟨w2.heap.size + 1, 0, none⟩), .pointer (some ⟨w1.heap.size, 0, none⟩)]) .plain rfl
  have hB1 : Below w.heap.size w w1 := ((Below.refl _ w).alloc (Nat.le_refl _) _).trans (hb1.mono (by simp))
  have hB2 : Below w.heap.size w w2 := (hB1.alloc hB1.size _).trans (hb2.mono (by rw [World.size_alloc]; have := hB1.size; omega))
  have hB2' := Lib.hid hB2
  have hrw' := Lib.hid hrw
  clear c0 hc1' hb1 hb2 hB1 hB2 hrw
  go_wp2_with (first
    | (go_at_call 86; refine (next_any (by assumption) (by omega) hpl'.out).mono ?_; rintro e wx ⟨rfl, hbx⟩; have hGx := GSt.next (by assumption) hbx; have hSx := hGx.hx.cell; obtain ⟨d0, d1, d2, d3, d4⟩ := hGx.hi.cells; have q0 := hGx.hi.frozen 0; have q1 := hGx.hi.frozen 1; have q2 := hGx.hi.frozen 2; have q3 := hGx.hi.frozen 3; have q4 := hGx.hi.frozen 4; obtain ⟨y0, y1, y2, y3, y4⟩ := hGx.hr.cells; have z0 := hGx.hr.frozen 0; have z1 := hGx.hr.frozen 1; have z2 := hGx.hr.frozen 2; have z3 := hGx.hr.frozen 3; have z4 := hGx.hr.frozen 4; unfold nextV at hSx)
    | (go_at_call 88; refine (small_any (by assumption) (by omega) hpl'.out).mono ?_; rintro e wx ⟨rfl, hbx⟩; have hGx := GSt.next (by assumption) hbx; have hSx := hGx.hx.cell; obtain ⟨d0, d1, d2, d3, d4⟩ := hGx.hi.cells; have q0 := hGx.hi.frozen 0; have q1 := hGx.hi.frozen 1; have q2 := hGx.hi.frozen 2; have q3 := hGx.hi.frozen 3; have q4 := hGx.hi.frozen 4; obtain ⟨y0, y1, y2, y3, y4⟩ := hGx.hr.cells; have z0 := hGx.hr.frozen 0; have z1 := hGx.hr.frozen 1; have z2 := hGx.hr.frozen 2; have z3 := hGx.hr.frozen 3; have z4 := hGx.hr.frozen 4; unfold nextV at hSx))
  have hF := hG0
  have hb5 := below_set5 hB2'.out w.heap.size (Nat.le_refl _) (.int .i64 21) (.int .i64 0) (.int .i64 0) (.int .i64 0) (.int .u32 0)
  have hb6 := ((hb5.alloc (by simp only [setC_size]; omega) (.cells #[.int .i64 21, .int .i64 0, .int .i64 0, .int .i64 0, .int .u32 0] 73)).alloc (by simp only [World.size_alloc, setC_size]; omega) (.cells #[.int .i64 0] 3)).alloc (by simp only [World.size_alloc, setC_size]; omega) (.cells #[.func (.func 86) #[] #[.pointer (some ⟨w2.heap.size + 1, 0, none⟩), .pointer (some ⟨w1.heap.size, 0, none⟩)]] 137)
  refine bodyPost_ret (res_guess _ _ rfl ((((hrw'.out.set5 ⟨21, 0, 0, 0, 0⟩).kept ((Below.refl _ _).alloc (Nat.le_refl _) _)).kept ((Below.refl _ _).alloc (Nat.le_refl _) _)).kept ((Below.refl _ _).alloc (Nat.le_refl _) _))) rfl ?_
  exact ⟨rfl, hb6⟩

end Go.Proofs.YtfgmebjbibbpdaaGreatDoor
