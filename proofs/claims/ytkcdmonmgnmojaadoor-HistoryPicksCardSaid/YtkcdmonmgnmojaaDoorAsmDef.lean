/- Instructions: their lines, and what is read of a line: of no program. -/
import Derived.Test.YtkcdmonmgnmojaaDoorDig
import Derived.Test.YtkcdmonmgnmojaaDoorWalk
import Derived.Test.YtkcdmonmgnmojaaDoorNumP
namespace Go.Proofs.YtkcdmonmgnmojaaDoor
open Go.RowKit

structure Ins where
  op : Int
  a : Int
  b : Int
  c : Int
  n : Int
  deriving DecidableEq

def Ins.ok (e : Ins) : Prop := (Lit.int .i64 e.op).wf = true ∧ (Lit.int .i64 e.a).wf = true ∧ (Lit.int .i64 e.b).wf = true ∧ (Lit.int .i64 e.c).wf = true ∧ (Lit.int .u32 e.n).wf = true
def Ins.cells (e : Ins) : List Value := [.int .i64 e.op, .int .i64 e.a, .int .i64 e.b, .int .i64 e.c, .int .u32 e.n]
def Ins.zero : Ins := ⟨0, 0, 0, 0, 0⟩
def insE : Enc Ins := ⟨Ins.cells, 5, fun _ => rfl, fun x u hu => by
  simp only [Ins.cells, List.mem_cons, List.not_mem_nil, or_false] at hu
  rcases hu with rfl | rfl | rfl | rfl | rfl <;> rfl, by omega⟩
theorem u32_of {n : Int} (h : (Lit.int .u32 n).wf = true) : 0 ≤ n ∧ n < 4294967296 := by
  simp [Lit.wf, IntKind.min, IntKind.max, IntKind.signed, IntKind.bits] at h
  omega
theorem u32_to {n : Int} (h0 : 0 ≤ n) (h : n < 4294967296) : (Lit.int .u32 n).wf = true := by
  simp [Lit.wf, IntKind.min, IntKind.max, IntKind.signed, IntKind.bits]
  omega
theorem i64_to {n : Int} (h0 : -1000000000000 ≤ n) (h : n < 1000000000000) : (Lit.int .i64 n).wf = true := by
  simp [Lit.wf, IntKind.min, IntKind.max, IntKind.signed, IntKind.bits]
  omega

def InSl (w : World) (B : Nat) (A : Option Addr) (l : List Ins) : Prop := SlOf insE w B A l ∧ ∀ e ∈ l, e.ok
theorem InSl.below {w w' : World} {B B' : Nat} {A : Option Addr} {l : List Ins} (h : InSl w B A l) (hb : Below B w w') (hB : B ≤ B') : InSl w' B' A l := ⟨h.1.below hb hB, h.2⟩
theorem InSl.get {w : World} {B : Nat} {A : Option Addr} {l : List Ins} (h : InSl w B A l) {k : Nat} {e : Ins} (hk : l[k]? = some e) : e.ok ∧ ∃ b off, A = some ⟨b, off, none⟩ ∧ b < B ∧
    w.cell? ⟨b, off + k * 5, none⟩ = some (.int .i64 e.op) ∧
    w.cell? ⟨b, off + k * 5 + 1, none⟩ = some (.int .i64 e.a) ∧
    w.cell? ⟨b, off + k * 5 + 2, none⟩ = some (.int .i64 e.b) ∧
    w.cell? ⟨b, off + k * 5 + 3, none⟩ = some (.int .i64 e.c) ∧
    w.cell? ⟨b, off + k * 5 + 4, none⟩ = some (.int .u32 e.n) := by
  obtain ⟨b, off, hA, hlt, hc⟩ := h.1 k e hk
  exact ⟨h.2 e (List.mem_of_getElem? hk), b, off, hA, hlt, hc 0 _ rfl, hc 1 _ rfl, hc 2 _ rfl, hc 3 _ rfl, hc 4 _ rfl⟩

/-! ### kinds -/
structure Sh where
  w : List UInt8
  a : Int
  b : Int
  c : Int
  n : Int
def shs : List Sh := [⟨[110, 111, 112], 0, 0, 0, 0⟩, ⟨[115, 101, 116], 1, 0, 0, 6⟩, ⟨[109, 111, 118, 101], 1, 1, 0, 0⟩,
  ⟨[97, 100, 100], 1, 1, 1, 0⟩, ⟨[115, 117, 98], 1, 1, 1, 0⟩, ⟨[109, 117, 108], 1, 1, 1, 0⟩, ⟨[97, 110, 100], 1, 1, 1, 0⟩, ⟨[111, 114], 1, 1, 1, 0⟩, ⟨[120, 111, 114], 1, 1, 1, 0⟩, ⟨[108, 101, 115, 115], 1, 1, 1, 0⟩, ⟨[101, 113, 117, 97, 108], 1, 1, 1, 0⟩,
  ⟨[108, 111, 97, 100], 1, 1, 0, 6⟩, ⟨[115, 116, 111, 114, 101], 1, 1, 0, 6⟩, ⟨[99, 97, 115], 1, 1, 1, 6⟩, ⟨[106, 117, 109, 112], 0, 0, 0, 4⟩, ⟨[122, 101, 114, 111], 1, 0, 0, 4⟩, ⟨[98, 97, 99, 107], 0, 0, 3, 4⟩,
  ⟨[114, 101, 97, 100], 1, 2, 0, 5⟩, ⟨[119, 114, 105, 116, 101], 1, 2, 0, 5⟩, ⟨[112, 117, 116], 1, 2, 0, 5⟩, ⟨[116, 97, 107, 101], 1, 2, 0, 5⟩, ⟨[100, 111, 110, 101], 0, 0, 0, 0⟩]
def shOf (op : Int) : Sh := shs.getD op.toNat ⟨[], 0, 0, 0, 0⟩
def known (op : Int) : Bool := decide (0 ≤ op) && decide (op < 22)
def fitB (k n : Int) : Bool := if k = 0 then n == 0 else if k = 1 then decide (0 ≤ n) && decide (n < 8) else if k = 2 then decide (0 ≤ n) && decide (n < 8) else if k = 3 then decide (1 ≤ n) && decide (n ≤ 255) else if k = 4 then decide (n < 64) else if k = 5 then decide (n < 64) else true
def insB (i : Ins) : Bool := known i.op && (fitB (shOf i.op).a i.a && fitB (shOf i.op).b i.b && fitB (shOf i.op).c i.c && fitB (shOf i.op).n i.n)

theorem known_iff {op : Int} : known op = true ↔ 0 ≤ op ∧ op < 22 := by unfold known; rw [Bool.and_eq_true, decide_eq_true_iff, decide_eq_true_iff]
theorem known_cases {op : Int} (h : known op = true) : op = 0 ∨ op = 1 ∨ op = 2 ∨ (3 ≤ op ∧ op ≤ 10) ∨ op = 11 ∨ op = 12 ∨ op = 13 ∨ op = 14 ∨ op = 15 ∨ op = 16 ∨ (17 ≤ op ∧ op ≤ 20) ∨ op = 21 := by
  have := known_iff.1 h
  omega
/-- All kinds, by their numbers. -/
theorem op_all {P : Int → Prop} (h : ∀ k : Nat, k < 22 → P k) (op : Int) (hk : known op = true) : P op := by
  have := known_iff.1 hk
  have h2 := h op.toNat (by omega)
  rwa [show ((op.toNat : Nat) : Int) = op by omega] at h2

/-- A kind's operands. -/
def opsL (i : Ins) : List (List UInt8 × Int) :=
  if i.op = 1 then [([114], i.a), ([], i.n)]
  else if i.op = 2 then [([114], i.a), ([114], i.b)]
  else if 3 ≤ i.op ∧ i.op ≤ 10 then [([114], i.a), ([114], i.b), ([114], i.c)]
  else if i.op = 11 ∨ i.op = 12 then [([114], i.a), ([114], i.b), ([], i.n)]
  else if i.op = 13 then [([114], i.a), ([114], i.b), ([114], i.c), ([], i.n)]
  else if i.op = 14 then [([], i.n)]
  else if i.op = 15 then [([114], i.a), ([], i.n)]
  else if i.op = 16 then [([], i.n), ([], i.c)]
  else if 17 ≤ i.op ∧ i.op ≤ 20 then [([114], i.a), ([111], i.b), ([], i.n)]
  else []
def partL (p : List UInt8 × Int) : List UInt8 := p.1 ++ Lib.decDigits p.2.toNat
def partsL (i : Ins) : List (List UInt8) := (shOf i.op).w :: (opsL i).map partL
def lineL (i : Ins) : List UInt8 := Lib.join (partsL i) [32]
def lineS (i : Ins) : ByteArray := ⟨(lineL i).toArray⟩

/-! ### what a line may be of -/
def trimRO (l : List UInt8) : List UInt8 := l.dropWhile fun x => x == 114 || x == 111
def numI (l : List UInt8) : Int := if numB l = true then (dv l : Int) else 0
def wordAt (ps : List (List UInt8)) (k : Nat) : Int := if k < ps.length then numI (trimRO (ps.getD k [])) else 0
def kindOf (w : List UInt8) : Int := ((shs.findIdx? fun s => s.w == w).getD 0 : Nat)
def guessL (ps : List (List UInt8)) : Ins :=
  let op := kindOf (ps.getD 0 [])
  if op = 16 then ⟨op, 0, 0, wordAt ps 2, wordAt ps 1⟩
  else if op = 14 then ⟨op, 0, 0, 0, wordAt ps 1⟩
  else if op = 1 ∨ op = 15 then ⟨op, wordAt ps 1, 0, 0, wordAt ps 2⟩
  else if op = 2 then ⟨op, wordAt ps 1, wordAt ps 2, 0, 0⟩
  else if 3 ≤ op ∧ op ≤ 10 then ⟨op, wordAt ps 1, wordAt ps 2, wordAt ps 3, 0⟩
  else if op = 13 then ⟨op, wordAt ps 1, wordAt ps 2, wordAt ps 3, wordAt ps 4⟩
  else if op ≠ 0 ∧ op ≠ 21 then ⟨op, wordAt ps 1, wordAt ps 2, 0, wordAt ps 3⟩
  else ⟨op, 0, 0, 0, 0⟩
def guess (s : List UInt8) : Ins := guessL (pcs 32 s)
def readI (s : List UInt8) : Option Ins := if insB (guess s) = true ∧ lineL (guess s) = s then some (guess s) else none

theorem numI_bd (l : List UInt8) : 0 ≤ numI l ∧ numI l < 4294967296 := by
  unfold numI
  split
  · rename_i h
    unfold numB headB at h
    simp only [Bool.and_eq_true, decide_eq_true_iff] at h
    omega
  · omega
theorem wordAt_bd (ps : List (List UInt8)) (k : Nat) : 0 ≤ wordAt ps k ∧ wordAt ps k < 4294967296 := by
  unfold wordAt
  split
  · exact numI_bd _
  · omega

/-! ### the line's parts come back -/
theorem dd_numB {u : Nat} (h : u < 4294967296) : numB (Lib.decDigits u) = true := by
  have h1 := dd_len 9 u (by omega)
  have h2 := dd_all (u + 1) u (by omega)
  have h3 := dd_dv (u + 1) u (by omega)
  have h4 := dd_ne u
  have h5 : ¬(1 < (Lib.decDigits u).length ∧ (Lib.decDigits u).headD 0 = 48) := by
    rintro ⟨g1, g2⟩
    by_cases hu : 1 ≤ u
    · exact dd_head (u + 1) u (by omega) hu g2
    · rw [dd_small (show u < 10 by omega)] at g1
      simp at g1
  unfold numB headB
  simp only [h2, h3, decide_eq_true h, Bool.and_true, decide_eq_true_iff]
  exact ⟨fun e => h4 (List.eq_nil_of_length_eq_zero e), h1, h5⟩
theorem dd_numI {z : Int} (h0 : 0 ≤ z) (h : z < 4294967296) : numI (Lib.decDigits z.toNat) = z := by
  unfold numI
  rw [if_pos (dd_numB (by omega)), dd_dv (z.toNat + 1) _ (by omega)]
  omega
theorem trim_dd (u : Nat) : trimRO (Lib.decDigits u) = Lib.decDigits u := by
  unfold trimRO
  cases h : Lib.decDigits u with
  | nil => rfl
  | cons x r =>
    have := List.all_eq_true.1 (dd_all (u + 1) u (by omega)) x (by rw [h]; simp)
    unfold digB at this
    simp only [Bool.and_eq_true, decide_eq_true_iff] at this
    have h1 : (x == 114) = false := by rw [beq_eq_false_iff_ne]; rintro rfl; simp at this
    have h2 : (x == 111) = false := by rw [beq_eq_false_iff_ne]; rintro rfl; simp at this
    rw [List.dropWhile_cons, h1, h2]
    rfl
def letterB (l : List UInt8) : Prop := l = [] ∨ l = [114] ∨ l = [111]
theorem part_num {l : List UInt8} (hl : letterB l) {z : Int} (h0 : 0 ≤ z) (h : z < 4294967296) : numI (trimRO (partL (l, z))) = z := by
  have : trimRO (partL (l, z)) = Lib.decDigits z.toNat := by
    rcases hl with rfl | rfl | rfl
    · exact trim_dd _
    · show trimRO (114 :: Lib.decDigits z.toNat) = _
      unfold trimRO
      rw [List.dropWhile_cons, if_pos (by decide)]
      exact trim_dd _
    · show trimRO (111 :: Lib.decDigits z.toNat) = _
      unfold trimRO
      rw [List.dropWhile_cons, if_pos (by decide)]
      exact trim_dd _
  rw [this, dd_numI h0 h]
theorem opsL_letter (i : Ins) : ∀ p ∈ opsL i, letterB p.1 := by
  intro p hp
  unfold opsL at hp
  repeat' split at hp
  all_goals
    simp only [List.mem_cons, List.not_mem_nil, or_false] at hp
  all_goals
    first
      | exact hp.elim
      | (rcases hp with rfl | rfl | rfl | rfl <;> simp [letterB])
      | (rcases hp with rfl | rfl | rfl <;> simp [letterB])
      | (rcases hp with rfl | rfl <;> simp [letterB])
      | (subst hp; simp [letterB])
theorem dd_not (c : UInt8) (hc : digB c = false) (u : Nat) : ∀ b ∈ Lib.decDigits u, b ≠ c := fun b hb e => by
  have := List.all_eq_true.1 (dd_all (u + 1) u (by omega)) b hb
  rw [e, hc] at this
  cases this
theorem sh_not (c : UInt8) (h : (shs.all fun s => s.w.all fun b => b != c) = true) (op : Int) : ∀ b ∈ (shOf op).w, b ≠ c := fun b hb e => by
  unfold shOf at hb
  rw [List.getD_eq_getElem?_getD] at hb
  cases hw : shs[op.toNat]? with
  | none => rw [hw] at hb; cases hb
  | some x =>
    rw [hw] at hb
    have := List.all_eq_true.1 (List.all_eq_true.1 h x (List.mem_of_getElem? hw)) b hb
    rw [e] at this
    simp at this
theorem parts_not (c : UInt8) (hc : digB c = false) (h1 : c ≠ 114) (h2 : c ≠ 111) (h : (shs.all fun s => s.w.all fun b => b != c) = true) (i : Ins) : ∀ p ∈ partsL i, ∀ b ∈ p, b ≠ c := by
  intro p hp
  unfold partsL at hp
  rcases List.mem_cons.1 hp with rfl | hp
  · exact sh_not c h _
  · obtain ⟨q, hq, rfl⟩ := List.mem_map.1 hp
    intro b hb
    unfold partL at hb
    rcases List.mem_append.1 hb with hb | hb
    · rcases opsL_letter i q hq with e | e | e <;> rw [e] at hb
      · cases hb
      · rw [List.mem_singleton.1 hb]; exact fun e => h1 e.symm
      · rw [List.mem_singleton.1 hb]; exact fun e => h2 e.symm
    · exact dd_not c hc _ b hb
theorem line_pcs (i : Ins) : pcs 32 (lineL i) = partsL i := pcs_join _ (by simp [partsL]) (parts_not 32 (by decide) (by decide) (by decide) (by decide) i)
theorem kind_word (op : Int) (h : known op = true) : kindOf (shOf op).w = op := by
  refine op_all (P := fun op => kindOf (shOf op).w = op) ?_ op h
  decide

/-- Its numbers, of a right one. -/
theorem ins_bd {i : Ins} (h : insB i = true) (hn : i.ok) : known i.op = true ∧ fitB (shOf i.op).a i.a = true ∧ fitB (shOf i.op).b i.b = true ∧ fitB (shOf i.op).c i.c = true ∧ fitB (shOf i.op).n i.n = true ∧ 0 ≤ i.n ∧ i.n < 4294967296 := by
  unfold insB at h
  simp only [Bool.and_eq_true] at h
  obtain ⟨h1, ⟨⟨h2, h3⟩, h4⟩, h5⟩ := h
  exact ⟨h1, h2, h3, h4, h5, u32_of hn.2.2.2.2⟩
theorem fit0 {n : Int} (h : fitB 0 n = true) : n = 0 := by simpa [fitB] using h
theorem fit1 {n : Int} (h : fitB 1 n = true) : 0 ≤ n ∧ n < 8 := by simpa [fitB] using h
theorem fit2 {n : Int} (h : fitB 2 n = true) : 0 ≤ n ∧ n < 8 := by simpa [fitB] using h
theorem fit3 {n : Int} (h : fitB 3 n = true) : 1 ≤ n ∧ n ≤ 255 := by simpa [fitB] using h
theorem sh_mid (k : Int) (h : 3 ≤ k ∧ k ≤ 10) : (shOf k).a = 1 ∧ (shOf k).b = 1 ∧ (shOf k).c = 1 ∧ (shOf k).n = 0 := by
  have : k = 3 ∨ k = 4 ∨ k = 5 ∨ k = 6 ∨ k = 7 ∨ k = 8 ∨ k = 9 ∨ k = 10 := by omega
  rcases this with rfl | rfl | rfl | rfl | rfl | rfl | rfl | rfl <;> decide
theorem sh_end (k : Int) (h : 17 ≤ k ∧ k ≤ 20) : (shOf k).a = 1 ∧ (shOf k).b = 2 ∧ (shOf k).c = 0 ∧ (shOf k).n = 5 := by
  have : k = 17 ∨ k = 18 ∨ k = 19 ∨ k = 20 := by omega
  rcases this with rfl | rfl | rfl | rfl <;> decide

/-- The shapes of right ones. -/
inductive Shaped : Ins → Prop
  | none (op) (h : op = 0 ∨ op = 21) : Shaped ⟨op, 0, 0, 0, 0⟩
  | set (op a n) (h : op = 1 ∨ op = 15) (ha : 0 ≤ a ∧ a < 8) : Shaped ⟨op, a, 0, 0, n⟩
  | move (a b) (ha : 0 ≤ a ∧ a < 8) (hb : 0 ≤ b ∧ b < 8) : Shaped ⟨2, a, b, 0, 0⟩
  | three (op a b c) (h : 3 ≤ op ∧ op ≤ 10) (ha : 0 ≤ a ∧ a < 8) (hb : 0 ≤ b ∧ b < 8) (hc : 0 ≤ c ∧ c < 8) : Shaped ⟨op, a, b, c, 0⟩
  | load (op a b n) (h : op = 11 ∨ op = 12) (ha : 0 ≤ a ∧ a < 8) (hb : 0 ≤ b ∧ b < 8) : Shaped ⟨op, a, b, 0, n⟩
  | cas (a b c n) (ha : 0 ≤ a ∧ a < 8) (hb : 0 ≤ b ∧ b < 8) (hc : 0 ≤ c ∧ c < 8) : Shaped ⟨13, a, b, c, n⟩
  | jump (n) : Shaped ⟨14, 0, 0, 0, n⟩
  | back (c n) (hc : 1 ≤ c ∧ c ≤ 255) : Shaped ⟨16, 0, 0, c, n⟩
  | call (op a b n) (h : 17 ≤ op ∧ op ≤ 20) (ha : 0 ≤ a ∧ a < 8) (hb : 0 ≤ b ∧ b < 8) : Shaped ⟨op, a, b, 0, n⟩
theorem shaped {i : Ins} (h : insB i = true) (hn : i.ok) : Shaped i := by
  obtain ⟨hk, ha, hb, hc, hN, n0, n1⟩ := ins_bd h hn
  obtain ⟨op, a, b, c, n⟩ := i
  simp only at hk ha hb hc hN n0 n1
  rcases known_cases hk with rfl | rfl | rfl | ho | rfl | rfl | rfl | rfl | rfl | rfl | ho | rfl
  · obtain rfl := fit0 ha; obtain rfl := fit0 hb; obtain rfl := fit0 hc; obtain rfl := fit0 hN
    exact .none _ (.inl rfl)
  · obtain rfl := fit0 hb; obtain rfl := fit0 hc
    exact .set _ _ _ (.inl rfl) (fit1 ha)
  · obtain rfl := fit0 hc; obtain rfl := fit0 hN
    exact .move _ _ (fit1 ha) (fit1 hb)
  · obtain ⟨e1, e2, e3, e4⟩ := sh_mid op ho
    rw [e1] at ha; rw [e2] at hb; rw [e3] at hc; rw [e4] at hN
    obtain rfl := fit0 hN
    exact .three _ _ _ _ ho (fit1 ha) (fit1 hb) (fit1 hc)
  · obtain rfl := fit0 hc
    exact .load _ _ _ _ (.inl rfl) (fit1 ha) (fit1 hb)
  · obtain rfl := fit0 hc
    exact .load _ _ _ _ (.inr rfl) (fit1 ha) (fit1 hb)
  · exact .cas _ _ _ _ (fit1 ha) (fit1 hb) (fit1 hc)
  · obtain rfl := fit0 ha; obtain rfl := fit0 hb; obtain rfl := fit0 hc
    exact .jump _
  · obtain rfl := fit0 hb; obtain rfl := fit0 hc
    exact .set _ _ _ (.inr rfl) (fit1 ha)
  · obtain rfl := fit0 ha; obtain rfl := fit0 hb
    exact .back _ _ (fit3 hc)
  · obtain ⟨e1, e2, e3, e4⟩ := sh_end op ho
    rw [e1] at ha; rw [e2] at hb; rw [e3] at hc
    obtain rfl := fit0 hc
    exact .call _ _ _ _ ho (fit1 ha) (fit2 hb)
  · obtain rfl := fit0 ha; obtain rfl := fit0 hb; obtain rfl := fit0 hc; obtain rfl := fit0 hN
    exact .none _ (.inr rfl)

theorem at1 (w p : List UInt8) (r : List (List UInt8)) : wordAt (w :: p :: r) 1 = numI (trimRO p) := by simp [wordAt]
theorem at2 (w p q : List UInt8) (r : List (List UInt8)) : wordAt (w :: p :: q :: r) 2 = numI (trimRO q) := by simp [wordAt]
theorem at3 (w p q x : List UInt8) (r : List (List UInt8)) : wordAt (w :: p :: q :: x :: r) 3 = numI (trimRO x) := by simp [wordAt]
theorem at4 (w p q x y : List UInt8) (r : List (List UInt8)) : wordAt (w :: p :: q :: x :: y :: r) 4 = numI (trimRO y) := by simp [wordAt]
theorem lr : letterB [114] := .inr (.inl rfl)
theorem lo : letterB [111] := .inr (.inr rfl)
theorem le : letterB [] := .inl rfl

theorem guess_line {i : Ins} (h : insB i = true) (hn : i.ok) : guess (lineL i) = i := by
  unfold guess
  rw [line_pcs]
  obtain ⟨hk, -, -, -, -, n0, n1⟩ := ins_bd h hn
  have hkw := kind_word _ hk
  cases shaped h hn with
  | none op ho =>
    unfold partsL guessL
    simp only [List.getD_cons_zero, hkw]
    rcases ho with rfl | rfl <;> simp
  | set op a n ho ha =>
    unfold partsL guessL
    simp only [List.getD_cons_zero, hkw]
    rcases ho with rfl | rfl <;> simp [opsL, at1, at2, part_num lr ha.1 (show a < 4294967296 by omega), part_num le n0 n1]
  | move a b ha hb =>
    unfold partsL guessL
    simp only [List.getD_cons_zero, hkw]
    simp [opsL, at1, at2, part_num lr ha.1 (show a < 4294967296 by omega), part_num lr hb.1 (show b < 4294967296 by omega)]
  | three op a b c ho ha hb hc =>
    unfold partsL guessL
    simp only [List.getD_cons_zero, hkw]
    have e1 : ¬ op = 16 := by omega
    have e2 : ¬ op = 14 := by omega
    have e3 : ¬ (op = 1 ∨ op = 15) := by omega
    have e4 : ¬ op = 2 := by omega
    have e5 : ¬ op = 1 := by omega
    have e6 : ¬ op = 15 := by omega
    simp [opsL, e1, e2, e4, e5, e6, ho, at1, at2, at3, part_num lr ha.1 (show a < 4294967296 by omega), part_num lr hb.1 (show b < 4294967296 by omega), part_num lr hc.1 (show c < 4294967296 by omega)]
  | load op a b n ho ha hb =>
    unfold partsL guessL
    simp only [List.getD_cons_zero, hkw]
    rcases ho with rfl | rfl <;> simp [opsL, at1, at2, at3, part_num lr ha.1 (show a < 4294967296 by omega), part_num lr hb.1 (show b < 4294967296 by omega), part_num le n0 n1]
  | cas a b c n ha hb hc =>
    unfold partsL guessL
    simp only [List.getD_cons_zero, hkw]
    simp [opsL, at1, at2, at3, at4, part_num lr ha.1 (show a < 4294967296 by omega), part_num lr hb.1 (show b < 4294967296 by omega), part_num lr hc.1 (show c < 4294967296 by omega), part_num le n0 n1]
  | jump n =>
    unfold partsL guessL
    simp only [List.getD_cons_zero, hkw]
    simp [opsL, at1, part_num le n0 n1]
  | back c n hc =>
    unfold partsL guessL
    simp only [List.getD_cons_zero, hkw]
    simp [opsL, at1, at2, part_num le n0 n1, part_num le (show 0 ≤ c by omega) (show c < 4294967296 by omega)]
  | call op a b n ho ha hb =>
    unfold partsL guessL
    simp only [List.getD_cons_zero, hkw]
    have e1 : ¬ op = 16 := by omega
    have e2 : ¬ op = 14 := by omega
    have e3 : ¬ (op = 1 ∨ op = 15) := by omega
    have e4 : ¬ op = 2 := by omega
    have e5 : ¬ (3 ≤ op ∧ op ≤ 10) := by omega
    have e6 : ¬ op = 13 := by omega
    have e7 : ¬ op = 0 := by omega
    have e8 : ¬ op = 21 := by omega
    have e9 : ¬ op = 1 := by omega
    have e10 : ¬ (op = 11 ∨ op = 12) := by omega
    have e11 : ¬ op = 15 := by omega
    simp [opsL, e1, e2, e4, e5, e6, e7, e8, e9, e10, e11, ho, at1, at2, at3, part_num lr ha.1 (show a < 4294967296 by omega), part_num lo hb.1 (show b < 4294967296 by omega), part_num le n0 n1]

theorem guess_ok (s : List UInt8) : (guess s).ok := by
  have w1 := wordAt_bd (pcs 32 s) 1
  have w2 := wordAt_bd (pcs 32 s) 2
  have w3 := wordAt_bd (pcs 32 s) 3
  have w4 := wordAt_bd (pcs 32 s) 4
  have hk : 0 ≤ kindOf ((pcs 32 s).getD 0 []) ∧ kindOf ((pcs 32 s).getD 0 []) < 100 := by
    unfold kindOf
    refine ⟨Int.natCast_nonneg _, ?_⟩
    cases h : shs.findIdx? fun x => x.w == (pcs 32 s).getD 0 [] with
    | none => decide
    | some k =>
      have := (List.findIdx?_eq_some_iff_getElem.1 h).1
      have h22 : shs.length = 22 := rfl
      show ((k : Nat) : Int) < 100
      omega
  have z : (Lit.int .i64 0).wf = true := by decide
  have zn : (Lit.int .u32 0).wf = true := by decide
  have g : ∀ k, (Lit.int .i64 (wordAt (pcs 32 s) k)).wf = true := fun k => i64_to (by have := wordAt_bd (pcs 32 s) k; omega) (by have := wordAt_bd (pcs 32 s) k; omega)
  have gn : ∀ k, (Lit.int .u32 (wordAt (pcs 32 s) k)).wf = true := fun k => u32_to (wordAt_bd _ _).1 (wordAt_bd _ _).2
  have go : (Lit.int .i64 (kindOf ((pcs 32 s).getD 0 []))).wf = true := i64_to (by omega) (by omega)
  unfold guess guessL Ins.ok
  simp only
  repeat' split
  all_goals (refine ⟨go, ?_, ?_, ?_, ?_⟩ <;> first | exact z | exact zn | exact g _ | exact gn _)

theorem read_line {i : Ins} (h : insB i = true) (hn : i.ok) : readI (lineL i) = some i := by
  unfold readI
  rw [guess_line h hn, if_pos ⟨h, rfl⟩]
theorem readI_some {s : List UInt8} {i : Ins} (h : readI s = some i) : insB i = true ∧ lineL i = s ∧ i.ok := by
  unfold readI at h
  split at h
  · rename_i hc
    injection h with h
    subst h
    exact ⟨hc.1, hc.2, guess_ok s⟩
  · cases h

/-! ### the reference's way: each way to tell its numbers is tried -/
def cands (op a b c n1 n2 n3 n4 : Int) : List Ins := [⟨op, 0, 0, 0, 0⟩, ⟨op, a, 0, 0, n2⟩, ⟨op, a, b, 0, 0⟩, ⟨op, a, b, c, 0⟩, ⟨op, a, b, 0, n3⟩, ⟨op, a, b, c, n4⟩, ⟨op, 0, 0, 0, n1⟩, ⟨op, 0, 0, b, n1⟩]
def fitsS (s : List UInt8) (i : Ins) : Bool := insB i && decide (lineL i = s)
/-- The reference's number of a part: a letter ahead is left out. -/
def dropRO (l : List UInt8) : List UInt8 := if l.headD 0 = 114 ∨ l.headD 0 = 111 then l.tail else l
def rnum (l : List UInt8) : Int := if l.all digB = true ∧ l.length ≤ 10 then ((dv l % 4294967296 : Nat) : Int) else 0
def rAt (ps : List (List UInt8)) (k : Nat) : Int := if k < ps.length then rnum (dropRO (ps.getD k [])) else 0
def rread (s : List UInt8) : Option Ins :=
  match shs.findIdx? fun x => x.w == (pcs 32 s).getD 0 [] with
  | none => none
  | some op => (cands op (rAt (pcs 32 s) 1) (rAt (pcs 32 s) 2) (rAt (pcs 32 s) 3) (rAt (pcs 32 s) 1) (rAt (pcs 32 s) 2) (rAt (pcs 32 s) 3) (rAt (pcs 32 s) 4)).find? (fitsS s)

theorem rpart_num {l : List UInt8} (hl : letterB l) {z : Int} (h0 : 0 ≤ z) (h : z < 4294967296) : rnum (dropRO (partL (l, z))) = z := by
  have hd : dropRO (Lib.decDigits z.toNat) = Lib.decDigits z.toNat := by
    have hne := dd_ne z.toNat
    have h1 : ∀ b ∈ Lib.decDigits z.toNat, b ≠ 114 := dd_not 114 (by decide) _
    have h2 : ∀ b ∈ Lib.decDigits z.toNat, b ≠ 111 := dd_not 111 (by decide) _
    unfold dropRO
    cases hh : Lib.decDigits z.toNat with
    | nil => exact absurd hh hne
    | cons x r =>
      rw [hh] at h1 h2
      rw [if_neg]
      rintro (e | e)
      · exact h1 x (by simp) e
      · exact h2 x (by simp) e
  have : dropRO (partL (l, z)) = Lib.decDigits z.toNat := by
    rcases hl with rfl | rfl | rfl
    · exact hd
    · rfl
    · rfl
  rw [this]
  unfold rnum
  rw [if_pos ⟨dd_all (z.toNat + 1) _ (by omega), dd_len 9 _ (by omega)⟩, dd_dv (z.toNat + 1) _ (by omega)]
  omega
theorem rat1 (w p : List UInt8) (r : List (List UInt8)) : rAt (w :: p :: r) 1 = rnum (dropRO p) := by simp [rAt]
theorem rat2 (w p q : List UInt8) (r : List (List UInt8)) : rAt (w :: p :: q :: r) 2 = rnum (dropRO q) := by simp [rAt]
theorem rat3 (w p q x : List UInt8) (r : List (List UInt8)) : rAt (w :: p :: q :: x :: r) 3 = rnum (dropRO x) := by simp [rAt]
theorem rat4 (w p q x y : List UInt8) (r : List (List UInt8)) : rAt (w :: p :: q :: x :: y :: r) 4 = rnum (dropRO y) := by simp [rAt]
theorem word_find (op : Int) (h : known op = true) : (shs.findIdx? fun x => x.w == (shOf op).w) = some op.toNat := by
  refine op_all (P := fun op => (shs.findIdx? fun x => x.w == (shOf op).w) = some op.toNat) ?_ op h
  decide
theorem rread_has {i : Ins} (h : insB i = true) (hn : i.ok) : i ∈ cands i.op (rAt (partsL i) 1) (rAt (partsL i) 2) (rAt (partsL i) 3) (rAt (partsL i) 1) (rAt (partsL i) 2) (rAt (partsL i) 3) (rAt (partsL i) 4) := by
  obtain ⟨hk, -, -, -, -, n0, n1⟩ := ins_bd h hn
  cases shaped h hn with
  | none op ho => unfold cands; simp
  | set op a n ho ha =>
    unfold partsL cands
    rcases ho with rfl | rfl <;> simp [opsL, rat1, rat2, rpart_num lr ha.1 (show a < 4294967296 by omega), rpart_num le n0 n1]
  | move a b ha hb =>
    unfold partsL cands
    simp [opsL, rat1, rat2, rpart_num lr ha.1 (show a < 4294967296 by omega), rpart_num lr hb.1 (show b < 4294967296 by omega)]
  | three op a b c ho ha hb hc =>
    unfold partsL cands
    have e4 : ¬ op = 2 := by omega
    have e5 : ¬ op = 1 := by omega
    simp [opsL, e4, e5, ho, rat1, rat2, rat3, rpart_num lr ha.1 (show a < 4294967296 by omega), rpart_num lr hb.1 (show b < 4294967296 by omega), rpart_num lr hc.1 (show c < 4294967296 by omega)]
  | load op a b n ho ha hb =>
    unfold partsL cands
    rcases ho with rfl | rfl <;> simp [opsL, rat1, rat2, rat3, rpart_num lr ha.1 (show a < 4294967296 by omega), rpart_num lr hb.1 (show b < 4294967296 by omega), rpart_num le n0 n1]
  | cas a b c n ha hb hc =>
    unfold partsL cands
    simp [opsL, rat1, rat2, rat3, rat4, rpart_num lr ha.1 (show a < 4294967296 by omega), rpart_num lr hb.1 (show b < 4294967296 by omega), rpart_num lr hc.1 (show c < 4294967296 by omega), rpart_num le n0 n1]
  | jump n =>
    unfold partsL cands
    simp [opsL, rat1, rpart_num le n0 n1]
  | back c n hc =>
    unfold partsL cands
    simp [opsL, rat1, rat2, rpart_num le n0 n1, rpart_num le (show 0 ≤ c by omega) (show c < 4294967296 by omega)]
  | call op a b n ho ha hb =>
    unfold partsL cands
    have e1 : ¬ op = 16 := by omega
    have e2 : ¬ op = 14 := by omega
    have e4 : ¬ op = 2 := by omega
    have e5 : ¬ (3 ≤ op ∧ op ≤ 10) := by omega
    have e6 : ¬ op = 13 := by omega
    have e9 : ¬ op = 1 := by omega
    have e10 : ¬ (op = 11 ∨ op = 12) := by omega
    have e11 : ¬ op = 15 := by omega
    simp [opsL, e1, e2, e4, e5, e6, e9, e10, e11, ho, rat1, rat2, rat3, rpart_num lr ha.1 (show a < 4294967296 by omega), rpart_num lo hb.1 (show b < 4294967296 by omega), rpart_num le n0 n1]

theorem rnum_bd (l : List UInt8) : 0 ≤ rnum l ∧ rnum l < 4294967296 := by
  unfold rnum
  split <;> omega
theorem rAt_bd (ps : List (List UInt8)) (k : Nat) : 0 ≤ rAt ps k ∧ rAt ps k < 4294967296 := by
  unfold rAt
  split
  · exact rnum_bd _
  · omega
theorem cands_ok {op a b c n1 n2 n3 n4 : Int} (ho : 0 ≤ op ∧ op < 100) (ha : 0 ≤ a ∧ a < 4294967296) (hb : 0 ≤ b ∧ b < 4294967296) (hc : 0 ≤ c ∧ c < 4294967296) (h1 : 0 ≤ n1 ∧ n1 < 4294967296) (h2 : 0 ≤ n2 ∧ n2 < 4294967296) (h3 : 0 ≤ n3 ∧ n3 < 4294967296) (h4 : 0 ≤ n4 ∧ n4 < 4294967296) :
    ∀ i ∈ cands op a b c n1 n2 n3 n4, i.ok := by
  intro i hi
  have z : (Lit.int .i64 0).wf = true := by decide
  have zn : (Lit.int .u32 0).wf = true := by decide
  have go : (Lit.int .i64 op).wf = true := i64_to (by omega) (by omega)
  have ga : (Lit.int .i64 a).wf = true := i64_to (by omega) (by omega)
  have gb : (Lit.int .i64 b).wf = true := i64_to (by omega) (by omega)
  have gc : (Lit.int .i64 c).wf = true := i64_to (by omega) (by omega)
  unfold cands at hi
  simp only [List.mem_cons, List.not_mem_nil, or_false] at hi
  rcases hi with rfl | rfl | rfl | rfl | rfl | rfl | rfl | rfl
  · exact ⟨go, z, z, z, zn⟩
  · exact ⟨go, ga, z, z, u32_to h2.1 h2.2⟩
  · exact ⟨go, ga, gb, z, zn⟩
  · exact ⟨go, ga, gb, gc, zn⟩
  · exact ⟨go, ga, gb, z, u32_to h3.1 h3.2⟩
  · exact ⟨go, ga, gb, gc, u32_to h4.1 h4.2⟩
  · exact ⟨go, z, z, z, u32_to h1.1 h1.2⟩
  · exact ⟨go, z, z, gb, u32_to h1.1 h1.2⟩

theorem rread_some {s : List UInt8} {i : Ins} (h : rread s = some i) : insB i = true ∧ lineL i = s ∧ i.ok := by
  unfold rread at h
  split at h
  · cases h
  · rename_i op hop
    have h1 := List.find?_some h
    have h2 := List.mem_of_find?_eq_some h
    unfold fitsS at h1
    rw [Bool.and_eq_true, decide_eq_true_iff] at h1
    have h3 := (List.findIdx?_eq_some_iff_getElem.1 hop).1
    have h22 : shs.length = 22 := rfl
    exact ⟨h1.1, h1.2, cands_ok (by omega) (rAt_bd _ _) (rAt_bd _ _) (rAt_bd _ _) (rAt_bd _ _) (rAt_bd _ _) (rAt_bd _ _) (rAt_bd _ _) i h2⟩
theorem rread_line {i : Ins} (h : insB i = true) (hn : i.ok) : rread (lineL i) = some i := by
  have hk := (ins_bd h hn).1
  have h0 := known_iff.1 hk
  have hsome : (rread (lineL i)).isSome = true := by
    unfold rread
    rw [line_pcs]
    have hw : (partsL i).getD 0 [] = (shOf i.op).w := rfl
    rw [hw, word_find _ hk]
    simp only
    rw [List.find?_isSome]
    have e : ((i.op.toNat : Nat) : Int) = i.op := by omega
    rw [e]
    exact ⟨i, rread_has h hn, by unfold fitsS; rw [h, decide_eq_true rfl]; rfl⟩
  obtain ⟨j, hj⟩ := Option.isSome_iff_exists.1 hsome
  obtain ⟨h1, h2, h3⟩ := rread_some hj
  have e1 := guess_line h1 h3
  rw [h2, guess_line h hn] at e1
  rw [hj, ← e1]
theorem read_same (s : List UInt8) : rread s = readI s := by
  cases h : rread s with
  | some i =>
    obtain ⟨h1, h2, h3⟩ := rread_some h
    rw [← h2, read_line h1 h3]
  | none =>
    cases h' : readI s with
    | none => rfl
    | some i =>
      obtain ⟨h1, h2, h3⟩ := readI_some h'
      rw [← h2, rread_line h1 h3] at h
      cases h

def readX (s : List UInt8) : Ins := (readI s).getD Ins.zero
def readOk (s : List UInt8) : Bool := (readI s).isSome
theorem read_cases (s : List UInt8) : (∃ e, readI s = some e ∧ readX s = e ∧ readOk s = true ∧ (insB e = true ∧ e.ok)) ∨ (readI s = none ∧ readOk s = false ∧ readX s = Ins.zero) := by
  rcases h : readI s with _ | e
  · exact .inr ⟨rfl, by unfold readOk; rw [h]; rfl, by unfold readX; rw [h]; rfl⟩
  · obtain ⟨h1, h2, h3⟩ := readI_some h
    exact .inl ⟨e, rfl, by unfold readX; rw [h]; rfl, by unfold readOk; rw [h]; rfl, h1, h3⟩

/-! ### how long a line is -/
theorem jlens_le {xs : List (List UInt8)} {m : Nat} (h : ∀ x ∈ xs, x.length ≤ m) : Lib.lens xs ≤ xs.length * m := by
  induction xs with
  | nil => simp [Lib.lens]
  | cons x xs ih =>
    have h1 := h x (by simp)
    have h2 := ih (fun y hy => h y (by simp [hy]))
    have : Lib.lens (x :: xs) = x.length + Lib.lens xs := by simp [Lib.lens]
    rw [this, List.length_cons, Nat.add_mul]; omega
theorem jn_le {xs : List (List UInt8)} {m : Nat} (h : ∀ x ∈ xs, x.length ≤ m) : (Lib.join xs [32]).length ≤ xs.length * (m + 1) := by
  cases xs with
  | nil => simp [Lib.join]
  | cons x xs =>
    have h1 := h x (by simp)
    have h2 := jlens_le (fun y hy => h y (by simp [hy]) : ∀ y ∈ xs, y.length ≤ m)
    rw [Lib.join_cons, List.length_append, Lib.joinTail_length]
    simp only [List.length_cons, List.length_nil]
    have e1 : (xs.length + 1) * (m + 1) = xs.length * m + xs.length + (m + 1) := by rw [Nat.add_mul, Nat.mul_add]; omega
    rw [e1]
    omega
theorem fields_bd {i : Ins} (h : insB i = true) (hn : i.ok) : (0 ≤ i.a ∧ i.a < 256) ∧ (0 ≤ i.b ∧ i.b < 256) ∧ (0 ≤ i.c ∧ i.c < 256) ∧ (0 ≤ i.n ∧ i.n < 4294967296) := by
  have hN := u32_of hn.2.2.2.2
  cases shaped h hn <;> simp only at hN ⊢ <;> omega
theorem ops_bd {i : Ins} (h : insB i = true) (hn : i.ok) : ∀ p ∈ opsL i, 0 ≤ p.2 ∧ p.2 < 4294967296 := by
  obtain ⟨b1, b2, b3, b4⟩ := fields_bd h hn
  intro p hp
  unfold opsL at hp
  repeat' split at hp
  all_goals
    simp only [List.mem_cons, List.not_mem_nil, or_false] at hp
  all_goals
    first
      | exact hp.elim
      | (rcases hp with rfl | rfl | rfl | rfl <;> simp only <;> omega)
      | (rcases hp with rfl | rfl | rfl <;> simp only <;> omega)
      | (rcases hp with rfl | rfl <;> simp only <;> omega)
      | (subst hp; simp only; omega)
theorem ops_len (i : Ins) : (opsL i).length ≤ 4 := by
  unfold opsL
  repeat' split
  all_goals simp
theorem sh_len (op : Int) : (shOf op).w.length ≤ 5 := by
  unfold shOf
  rw [List.getD_eq_getElem?_getD]
  cases hw : shs[op.toNat]? with
  | none => simp
  | some x =>
    have h : (shs.all fun s => decide (s.w.length ≤ 5)) = true := by decide
    exact of_decide_eq_true (List.all_eq_true.1 h x (List.mem_of_getElem? hw))
theorem lineL_len {i : Ins} (h : insB i = true) (hn : i.ok) : (lineL i).length ≤ 63 := by
  have hp : ∀ x ∈ partsL i, x.length ≤ 11 := by
    intro x hx
    unfold partsL at hx
    rcases List.mem_cons.1 hx with rfl | hx
    · have := sh_len i.op; omega
    · obtain ⟨p, hp, rfl⟩ := List.mem_map.1 hx
      obtain ⟨h0, h1⟩ := ops_bd h hn p hp
      have hd := dd_len 9 p.2.toNat (by omega)
      unfold partL
      rw [List.length_append]
      rcases opsL_letter i p hp with e | e | e <;> rw [e] <;> simp <;> omega
  have := jn_le hp
  have h4 := ops_len i
  have hl : (partsL i).length = (opsL i).length + 1 := by simp [partsL]
  unfold lineL
  omega

end Go.Proofs.YtkcdmonmgnmojaaDoor
