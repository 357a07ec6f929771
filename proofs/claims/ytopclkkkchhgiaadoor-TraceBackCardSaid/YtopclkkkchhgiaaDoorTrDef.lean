/- Traces: an event's line, and the law of what is read of a line: of no program. -/
import Derived.Test.YtopclkkkchhgiaaDoorRDigits
namespace Go.Proofs.YtopclkkkchhgiaaDoor
open Go.RowKit

structure Ev where
  t : Int
  k : Int
  p : Int
  a : Int
  b : Int
  deriving DecidableEq

def Ev.ok (e : Ev) : Prop := (Lit.int .i64 e.t).wf = true ∧ (Lit.int .i64 e.k).wf = true ∧ (Lit.int .i64 e.p).wf = true ∧ (Lit.int .i64 e.a).wf = true ∧ (Lit.int .i64 e.b).wf = true
def Ev.cells (e : Ev) : List Value := [.int .i64 e.t, .int .i64 e.k, .int .i64 e.p, .int .i64 e.a, .int .i64 e.b]
def Ev.zero : Ev := ⟨0, 0, 0, 0, 0⟩
def evE : Enc Ev := ⟨Ev.cells, 5, fun _ => rfl, fun x u hu => by
  simp only [Ev.cells, List.mem_cons, List.not_mem_nil, or_false] at hu
  rcases hu with rfl | rfl | rfl | rfl | rfl <;> rfl, by omega⟩

def EvSl (w : World) (B : Nat) (A : Option Addr) (l : List Ev) : Prop := SlOf evE w B A l ∧ ∀ e ∈ l, e.ok
theorem EvSl.below {w w' : World} {B B' : Nat} {A : Option Addr} {l : List Ev} (h : EvSl w B A l) (hb : Below B w w') (hB : B ≤ B') : EvSl w' B' A l := ⟨h.1.below hb hB, h.2⟩
theorem EvSl.get {w : World} {B : Nat} {A : Option Addr} {l : List Ev} (h : EvSl w B A l) {k : Nat} {e : Ev} (hk : l[k]? = some e) : e.ok ∧ ∃ b off, A = some ⟨b, off, none⟩ ∧ b < B ∧
    w.cell? ⟨b, off + k * 5, none⟩ = some (.int .i64 e.t) ∧
    w.cell? ⟨b, off + k * 5 + 1, none⟩ = some (.int .i64 e.k) ∧
    w.cell? ⟨b, off + k * 5 + 2, none⟩ = some (.int .i64 e.p) ∧
    w.cell? ⟨b, off + k * 5 + 3, none⟩ = some (.int .i64 e.a) ∧
    w.cell? ⟨b, off + k * 5 + 4, none⟩ = some (.int .i64 e.b) := by
  obtain ⟨b, off, hA, hlt, hc⟩ := h.1 k e hk
  exact ⟨h.2 e (List.mem_of_getElem? hk), b, off, hA, hlt, hc 0 _ rfl, hc 1 _ rfl, hc 2 _ rfl, hc 3 _ rfl, hc 4 _ rfl⟩

/-! ### an event's line -/
def inT (n : Int) : Bool := decide (0 ≤ n) && decide (n ≤ 1099511627776)
def evB (e : Ev) : Bool := decide (1 ≤ e.k) && decide (e.k ≤ 9) && inT e.t && inT e.a && inT e.b && (inT e.p || e.p == -1)
def words : List (List UInt8) := [[], [114, 101, 108, 101, 97, 115, 101], [114, 101, 102, 117, 115, 101], [111, 118, 101, 114], [109, 105, 115, 115], [115, 116, 101, 112], [105, 100, 108, 101], [100, 111, 110, 101], [99, 97, 108, 108], [98, 97, 99, 107]]
def who (p : Int) : List UInt8 := if p = -1 then [45] else Lib.decDigits p.toNat
def wordOf (k : Int) : List UInt8 := words.getD k.toNat []
def evParts (e : Ev) : List (List UInt8) := [Lib.decDigits e.t.toNat, wordOf e.k, who e.p, Lib.decDigits e.a.toNat, Lib.decDigits e.b.toNat]
def evLine (e : Ev) : List UInt8 := Lib.join (evParts e) [32]
def evLineS (e : Ev) : ByteArray := ⟨(evLine e).toArray⟩

theorem inT_iff {n : Int} : inT n = true ↔ 0 ≤ n ∧ n ≤ 1099511627776 := by unfold inT; rw [Bool.and_eq_true, decide_eq_true_iff, decide_eq_true_iff]
structure EvR (e : Ev) : Prop where
  k1 : 1 ≤ e.k
  k2 : e.k ≤ 9
  t1 : 0 ≤ e.t
  t2 : e.t ≤ 1099511627776
  a1 : 0 ≤ e.a
  a2 : e.a ≤ 1099511627776
  b1 : 0 ≤ e.b
  b2 : e.b ≤ 1099511627776
  p : e.p = -1 ∨ 0 ≤ e.p ∧ e.p ≤ 1099511627776
theorem evB_iff {e : Ev} : evB e = true ↔ EvR e := by
  unfold evB
  simp only [Bool.and_eq_true, Bool.or_eq_true, decide_eq_true_iff, inT_iff, beq_iff_eq]
  constructor
  · rintro ⟨⟨⟨⟨⟨h1, h2⟩, h3, h4⟩, h5, h6⟩, h7, h8⟩, h9⟩
    exact ⟨h1, h2, h3, h4, h5, h6, h7, h8, h9.symm⟩
  · rintro ⟨h1, h2, h3, h4, h5, h6, h7, h8, h9⟩
    exact ⟨⟨⟨⟨⟨h1, h2⟩, h3, h4⟩, h5, h6⟩, h7, h8⟩, h9.symm⟩

theorem dd_no (c : UInt8) (hc : digB c = false) (u : Nat) : ∀ b ∈ Lib.decDigits u, b ≠ c := fun b hb e => by
  have := List.all_eq_true.1 (dd_all (u + 1) u (by omega)) b hb
  rw [e, hc] at this
  cases this
theorem words_all (c : UInt8) (h : (words.all fun w => w.all fun b => b != c) = true) (k : Int) : ∀ b ∈ wordOf k, b ≠ c := fun b hb e => by
  unfold wordOf at hb
  rw [List.getD_eq_getElem?_getD] at hb
  cases hw : words[k.toNat]? with
  | none => rw [hw] at hb; cases hb
  | some x =>
    rw [hw] at hb
    have := List.all_eq_true.1 (List.all_eq_true.1 h x (List.mem_of_getElem? hw)) b hb
    rw [e] at this
    simp at this
theorem who_no (c : UInt8) (hc : digB c = false) (h45 : c ≠ 45) (p : Int) : ∀ b ∈ who p, b ≠ c := fun b hb e => by
  unfold who at hb
  split at hb
  · rw [List.mem_singleton.1 hb] at e
    exact h45 e.symm
  · exact dd_no c hc _ b hb e
theorem parts_no (c : UInt8) (hc : digB c = false) (h45 : c ≠ 45) (h : (words.all fun w => w.all fun b => b != c) = true) (e : Ev) : ∀ p ∈ evParts e, ∀ b ∈ p, b ≠ c := by
  intro p hp
  simp only [evParts, List.mem_cons, List.not_mem_nil, or_false] at hp
  rcases hp with rfl | rfl | rfl | rfl | rfl
  · exact dd_no c hc _
  · exact words_all c h _
  · exact who_no c hc h45 _
  · exact dd_no c hc _
  · exact dd_no c hc _
theorem evLine_pcs (e : Ev) : pcs 32 (evLine e) = evParts e := pcs_join _ (by simp [evParts]) (parts_no 32 (by decide) (by decide) (by decide) e)

theorem dd_top {u : Nat} (h : u ≤ 1099511627776) : (Lib.decDigits u).length ≤ 13 := dd_len 12 u (by omega)
theorem words_len (k : Int) : (wordOf k).length ≤ 7 := by
  unfold wordOf
  rw [List.getD_eq_getElem?_getD]
  cases hw : words[k.toNat]? with
  | none => simp
  | some x =>
    have h : (words.all fun w => decide (w.length ≤ 7)) = true := by decide
    exact of_decide_eq_true (List.all_eq_true.1 h x (List.mem_of_getElem? hw))
theorem who_len {p : Int} (h : p = -1 ∨ 0 ≤ p ∧ p ≤ 1099511627776) : (who p).length ≤ 13 := by
  unfold who
  split
  · simp
  · exact dd_top (by omega)
theorem evLine_len {e : Ev} (h : EvR e) : (evLine e).length ≤ 63 := by
  have h1 := dd_top (show e.t.toNat ≤ 1099511627776 by have := h.t1; have := h.t2; omega)
  have h2 := dd_top (show e.a.toNat ≤ 1099511627776 by have := h.a1; have := h.a2; omega)
  have h3 := dd_top (show e.b.toNat ≤ 1099511627776 by have := h.b1; have := h.b2; omega)
  have h4 := words_len e.k
  have h5 := who_len h.p
  simp only [evLine, evParts, Lib.join_cons, Lib.joinTail, List.map_cons, List.map_nil, List.flatten_cons, List.flatten_nil, List.length_append, List.length_cons, List.length_nil]
  omega

/-! ### what is read of a line -/
/-- A word's number as the program reads it: what is none, or too great, is too great. -/
def tstep (n : Nat) (x : UInt8) : Nat := if digB x = true ∧ n ≤ 1099511627776 then 10 * n + (x.toNat - 48) else 1099511627777
def numT (l : List UInt8) : Option Nat := l.foldl (fun st x => st.bind fun n => if digB x = true ∧ n ≤ 1099511627776 then some (10 * n + (x.toNat - 48)) else none) (some 0)
def numTV (l : List UInt8) : Int := match numT l with
  | some n => n
  | none => 1099511627777
theorem numT_dd (p : List UInt8) : p.all digB = true → dv p ≤ 1099511627776 → numT p = some (dv p) := by
  refine snoc_ind (P := fun p => p.all digB = true → dv p ≤ 1099511627776 → numT p = some (dv p)) (fun _ _ => rfl) (fun l x ih ha hv => ?_) p
  rw [List.all_append, Bool.and_eq_true] at ha
  rw [dv_snoc] at hv ⊢
  have h2 : digB x = true := by simpa using ha.2
  have h3 := ih ha.1 (by omega)
  unfold numT at h3 ⊢
  rw [List.foldl_append, h3]
  simp only [List.foldl_cons, List.foldl_nil, Option.bind_some]
  rw [if_pos ⟨h2, by omega⟩]
theorem numT_num {u : Nat} (h : u ≤ 1099511627776) : numTV (Lib.decDigits u) = u := by
  unfold numTV
  rw [numT_dd _ (dd_all (u + 1) u (by omega)) (by rw [dd_dv (u + 1) u (by omega)]; exact h), dd_dv (u + 1) u (by omega)]
theorem digN_num {u : Nat} (h : u ≤ 1099511627776) : digNV (Lib.decDigits u) = u := by
  unfold digNV digN
  rw [if_pos ⟨dd_all (u + 1) u (by omega), Nat.le_trans (dd_top h) (by omega)⟩, dd_dv (u + 1) u (by omega)]

/-- The kind as the program looks for it: the first place; -1 if there is none. -/
def wordsB : List ByteArray := words.map fun b => ⟨b.toArray⟩
def kindP (w : List UInt8) : Int := Lib.idxOfS wordsB ⟨w.toArray⟩
/-- And as the reference does: the last place; 0 if there is none. -/
def kindR (w : List UInt8) (n : Nat) : Int := (words.zipIdx.take n).foldl (fun r p => if p.1 = w then (p.2 : Int) else r) 0

def candP (l : List (List UInt8)) : Ev := ⟨numTV (l.getD 0 []), kindP (l.getD 1 []), if l.getD 2 [] = [45] then -1 else numTV (l.getD 2 []), numTV (l.getD 3 []), numTV (l.getD 4 [])⟩
def candR (l : List (List UInt8)) : Ev := ⟨digNV (l.getD 0 []), kindR (l.getD 1 []) 10, if l.getD 2 [] = [45] then -1 else digNV (l.getD 2 []), digNV (l.getD 3 []), digNV (l.getD 4 [])⟩
/-- What is read of a line, by a way to look at its five pieces. -/
def readBy (c : List (List UInt8) → Ev) (s : List UInt8) : Option Ev :=
  if (pcs 32 s).length = 5 ∧ evB (c (pcs 32 s)) = true ∧ evLine (c (pcs 32 s)) = s then some (c (pcs 32 s)) else none
def readE : List UInt8 → Option Ev := readBy candP

theorem kinds (k : Int) (h1 : 1 ≤ k) (h2 : k ≤ 9) : kindP (wordOf k) = k ∧ kindR (wordOf k) 10 = k := by
  have : k = 1 ∨ k = 2 ∨ k = 3 ∨ k = 4 ∨ k = 5 ∨ k = 6 ∨ k = 7 ∨ k = 8 ∨ k = 9 := by omega
  rcases this with rfl | rfl | rfl | rfl | rfl | rfl | rfl | rfl | rfl <;> decide +kernel
theorem who_ne {p : Int} (h : 0 ≤ p) : who p = Lib.decDigits p.toNat ∧ who p ≠ [45] := by
  have e : who p = Lib.decDigits p.toNat := by unfold who; rw [if_neg (by omega)]
  refine ⟨e, fun e2 => ?_⟩
  rw [e] at e2
  exact dd_no 45 (by decide) p.toNat 45 (by rw [e2]; exact List.mem_singleton.2 rfl) rfl
theorem cand_line {e : Ev} (h : EvR e) : candP (evParts e) = e ∧ candR (evParts e) = e := by
  obtain ⟨t, k, p, a, b⟩ := e
  obtain ⟨k1, k2, t1, t2, a1, a2, b1, b2, hp⟩ := h
  simp only at k1 k2 t1 t2 a1 a2 b1 b2 hp
  obtain ⟨e1, e2⟩ := kinds k k1 k2
  have n1 := numT_num (show t.toNat ≤ 1099511627776 by omega)
  have n2 := numT_num (show a.toNat ≤ 1099511627776 by omega)
  have n3 := numT_num (show b.toNat ≤ 1099511627776 by omega)
  have m1 := digN_num (show t.toNat ≤ 1099511627776 by omega)
  have m2 := digN_num (show a.toNat ≤ 1099511627776 by omega)
  have m3 := digN_num (show b.toNat ≤ 1099511627776 by omega)
  have g0 : (evParts ⟨t, k, p, a, b⟩).getD 0 [] = Lib.decDigits t.toNat := rfl
  have g1 : (evParts ⟨t, k, p, a, b⟩).getD 1 [] = wordOf k := rfl
  have g2 : (evParts ⟨t, k, p, a, b⟩).getD 2 [] = who p := rfl
  have g3 : (evParts ⟨t, k, p, a, b⟩).getD 3 [] = Lib.decDigits a.toNat := rfl
  have g4 : (evParts ⟨t, k, p, a, b⟩).getD 4 [] = Lib.decDigits b.toNat := rfl
  unfold candP candR
  rw [g0, g1, g2, g3, g4, e1, e2, n1, n2, n3, m1, m2, m3]
  rcases hp with rfl | ⟨p1, p2⟩
  · have : who (-1) = [45] := rfl
    rw [this, if_pos rfl, if_pos rfl, Int.toNat_of_nonneg t1, Int.toNat_of_nonneg a1, Int.toNat_of_nonneg b1]
    exact ⟨rfl, rfl⟩
  · obtain ⟨w1, w2⟩ := who_ne p1
    rw [if_neg w2, if_neg w2, w1, numT_num (show p.toNat ≤ 1099511627776 by omega), digN_num (show p.toNat ≤ 1099511627776 by omega), Int.toNat_of_nonneg t1, Int.toNat_of_nonneg a1, Int.toNat_of_nonneg b1, Int.toNat_of_nonneg p1]
    exact ⟨rfl, rfl⟩
theorem readBy_line {c : List (List UInt8) → Ev} (hc : ∀ e, EvR e → c (evParts e) = e) {e : Ev} (h : EvR e) : readBy c (evLine e) = some e := by
  unfold readBy
  rw [evLine_pcs, hc e h, if_pos ⟨rfl, evB_iff.2 h, rfl⟩]
theorem readBy_some {c : List (List UInt8) → Ev} {s : List UInt8} {e : Ev} (h : readBy c s = some e) : EvR e ∧ evLine e = s := by
  unfold readBy at h
  split at h
  · rename_i hh
    injection h with h
    subst h
    exact ⟨evB_iff.1 hh.2.1, hh.2.2⟩
  · cases h
theorem read_both (s : List UInt8) : readBy candR s = readE s := by
  cases h : readE s with
  | some e =>
    obtain ⟨h1, h2⟩ := readBy_some h
    rw [← h2]
    exact readBy_line (fun e he => (cand_line he).2) h1
  | none =>
    cases h2 : readBy candR s with
    | none => rfl
    | some e =>
      obtain ⟨h3, h4⟩ := readBy_some h2
      rw [← h4] at h
      unfold readE at h
      rw [readBy_line (fun e he => (cand_line he).1) h3] at h
      cases h
theorem read_line {e : Ev} (h : EvR e) : readE (evLine e) = some e := readBy_line (fun _ he => (cand_line he).1) h

end Go.Proofs.YtopclkkkchhgiaaDoor
