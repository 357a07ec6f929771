/- A call's line, and what is read of a line: of no program. -/
import Derived.Test.YtkcdmonmgnmojaaDoorHisDef
import Derived.Test.YtkcdmonmgnmojaaDoorNumP
import Derived.Test.YtkcdmonmgnmojaaDoorRDigits
namespace Go.Proofs.YtkcdmonmgnmojaaDoor
open Go.RowKit

def opsW : List (List UInt8) := [[], [114, 101, 97, 100], [119, 114, 105, 116, 101], [112, 117, 116], [116, 97, 107, 101]]
def codesW : List (List UInt8) := [[103, 111, 111, 100], [114, 101, 116, 114, 121], [102, 117, 108, 108], [101, 109, 112, 116, 121]]
def opW (q : Int) : List UInt8 := opsW.getD q.toNat []
def codeW (c : Int) : List UInt8 := codesW.getD c.toNat []
def endW (e : Int) : List UInt8 := if 0 ≤ e then Lib.decDigits e.toNat else [45]
def six (x : Cl) : List (List UInt8) := [Lib.decDigits x.p.toNat, Lib.decDigits x.o.toNat, opW x.q, Lib.decDigits x.b.toNat, endW x.e, codeW x.c]
def recW (x : Cl) : List (List UInt8) := x.r.map fun z => Lib.decDigits z.toNat
def partsH (x : Cl) : List (List UInt8) := six x ++ recW x
def lineH (x : Cl) : List UInt8 := Lib.join (partsH x) [32]
def lineHS (x : Cl) : ByteArray := ⟨(lineH x).toArray⟩

/-- history's number of a word. -/
def numH (l : List UInt8) : Int := if l.all digB = true ∧ l ≠ [] ∧ l.length ≤ 13 then (dv l : Int) else -2
/-- where a word stands -/
def idxW (ws : List (List UInt8)) (w : List UInt8) : Int := match ws.findIdx? fun x => x == w with
  | some k => k
  | none => -1
structure RecIn (x : Cl) : Prop where
  r0 : ∀ z ∈ x.r, 0 ≤ z ∧ z < 4294967296
structure ClR (x : Cl) : Prop where
  p : 0 ≤ x.p ∧ x.p ≤ 1099511627776
  o : 0 ≤ x.o ∧ x.o ≤ 1099511627776
  b : 0 ≤ x.b ∧ x.b ≤ 1099511627776
  q : 1 ≤ x.q ∧ x.q ≤ 4
  c : 0 ≤ x.c ∧ x.c ≤ 3
  e : x.e = -1 ∨ (x.b ≤ x.e ∧ 0 ≤ x.e ∧ x.e ≤ 1099511627776)
  r : x.r.length ≤ 8
theorem clB_iff {x : Cl} : clB x = true ↔ ClR x := by
  unfold clB inT
  simp only [Bool.and_eq_true, Bool.or_eq_true, decide_eq_true_iff, beq_iff_eq]
  constructor
  · rintro ⟨⟨⟨⟨⟨⟨⟨⟨h1, h2⟩, h3⟩, h4⟩, h5⟩, h6⟩, h7⟩, h8⟩, h9⟩
    exact ⟨h1, h2, h3, ⟨h4, h5⟩, ⟨h6, h7⟩, h8, h9⟩
  · rintro ⟨h1, h2, h3, ⟨h4, h5⟩, ⟨h6, h7⟩, h8, h9⟩
    exact ⟨⟨⟨⟨⟨⟨⟨⟨h1, h2⟩, h3⟩, h4⟩, h5⟩, h6⟩, h7⟩, h8⟩, h9⟩

theorem ddh_no (c : UInt8) (hc : digB c = false) (u : Nat) : ∀ b ∈ Lib.decDigits u, b ≠ c := fun b hb e => by
  have := List.all_eq_true.1 (dd_all (u + 1) u (by omega)) b hb
  rw [e, hc] at this
  cases this
theorem wordsH_no (ws : List (List UInt8)) (c : UInt8) (h : (ws.all fun w => w.all fun b => b != c) = true) (k : Nat) : ∀ b ∈ ws.getD k [], b ≠ c := fun b hb e => by
  rw [List.getD_eq_getElem?_getD] at hb
  cases hw : ws[k]? with
  | none => rw [hw] at hb; cases hb
  | some x =>
    rw [hw] at hb
    have := List.all_eq_true.1 (List.all_eq_true.1 h x (List.mem_of_getElem? hw)) b hb
    rw [e] at this
    simp at this
theorem endW_no (c : UInt8) (hc : digB c = false) (h45 : c ≠ 45) (e : Int) : ∀ b ∈ endW e, b ≠ c := fun b hb h => by
  unfold endW at hb
  split at hb
  · exact ddh_no c hc _ b hb h
  · rw [List.mem_singleton.1 hb] at h
    exact h45 h.symm
theorem partsH_no (x : Cl) : ∀ p ∈ partsH x, ∀ b ∈ p, b ≠ 32 := by
  intro p hp
  unfold partsH six recW at hp
  rcases List.mem_append.1 hp with hp | hp
  · simp only [List.mem_cons, List.not_mem_nil, or_false] at hp
    rcases hp with rfl | rfl | rfl | rfl | rfl | rfl
    · exact ddh_no 32 (by decide) _
    · exact ddh_no 32 (by decide) _
    · exact wordsH_no opsW 32 (by decide) _
    · exact ddh_no 32 (by decide) _
    · exact endW_no 32 (by decide) (by decide) _
    · exact wordsH_no codesW 32 (by decide) _
  · obtain ⟨z, _, rfl⟩ := List.mem_map.1 hp
    exact ddh_no 32 (by decide) _
theorem lineH_pcs (x : Cl) : pcs 32 (lineH x) = partsH x := pcs_join _ (by simp [partsH, six]) (partsH_no x)

theorem numH_dd {z : Int} (h : 0 ≤ z ∧ z ≤ 1099511627776) : numH (Lib.decDigits z.toNat) = z := by
  unfold numH
  rw [if_pos ⟨dd_all (z.toNat + 1) _ (by omega), dd_ne _, dd_len 12 _ (by omega)⟩, dd_dv (z.toNat + 1) _ (by omega)]
  omega
theorem digNV_dd {z : Int} (h : 0 ≤ z ∧ z ≤ 1099511627776) : digNV (Lib.decDigits z.toNat) = z := by
  rw [digNV_yes (dd_all (z.toNat + 1) _ (by omega)) (by have := dd_len 12 z.toNat (by omega); omega), dd_dv (z.toNat + 1) _ (by omega)]
  omega
theorem idx_op {q : Int} (h : 1 ≤ q ∧ q ≤ 4) : idxW opsW (opW q) = q := by
  have : q = 1 ∨ q = 2 ∨ q = 3 ∨ q = 4 := by omega
  rcases this with rfl | rfl | rfl | rfl <;> decide
theorem idx_code {c : Int} (h : 0 ≤ c ∧ c ≤ 3) : idxW codesW (codeW c) = c := by
  have : c = 0 ∨ c = 1 ∨ c = 2 ∨ c = 3 := by omega
  rcases this with rfl | rfl | rfl | rfl <;> decide
theorem endW_back {e : Int} (h : e = -1 ∨ 0 ≤ e) : (endW e = [45] ↔ e = -1) ∧ (0 ≤ e → endW e = Lib.decDigits e.toNat) := by
  constructor
  · unfold endW
    constructor
    · intro hh
      split at hh
      · exfalso
        have := ddh_no 45 (by decide) e.toNat 45 (by rw [hh]; simp)
        exact this rfl
      · omega
    · intro hh
      rw [if_neg (by omega)]
  · intro hh
    unfold endW
    rw [if_pos hh]

/-- What a line may be of: the numbers by num, the rest by rest. -/
def candH (num : List UInt8 → Int) (rest : List (List UInt8) → List Int) (ps : List (List UInt8)) : Cl :=
  ⟨num (ps.getD 0 []), num (ps.getD 1 []), idxW opsW (ps.getD 2 []), rest (ps.drop 6), idxW codesW (ps.getD 5 []), num (ps.getD 3 []), if ps.getD 4 [] = [45] then -1 else num (ps.getD 4 [])⟩
theorem candH_line {num : List UInt8 → Int} {rest : List (List UInt8) → List Int} (hn : ∀ z : Int, 0 ≤ z ∧ z ≤ 1099511627776 → num (Lib.decDigits z.toNat) = z) {x : Cl} (hr : rest (recW x) = x.r) (h : ClR x) : candH num rest (partsH x) = x := by
  obtain ⟨p, o, q, r, c, b, e⟩ := x
  obtain ⟨hp, ho, hb, hq, hc, he, _⟩ := h
  simp only at hp ho hb hq hc he hr
  have hd : (partsH ⟨p, o, q, r, c, b, e⟩).drop 6 = recW ⟨p, o, q, r, c, b, e⟩ := rfl
  have g0 : (partsH ⟨p, o, q, r, c, b, e⟩).getD 0 [] = Lib.decDigits p.toNat := rfl
  have g1 : (partsH ⟨p, o, q, r, c, b, e⟩).getD 1 [] = Lib.decDigits o.toNat := rfl
  have g2 : (partsH ⟨p, o, q, r, c, b, e⟩).getD 2 [] = opW q := rfl
  have g3 : (partsH ⟨p, o, q, r, c, b, e⟩).getD 3 [] = Lib.decDigits b.toNat := rfl
  have g4 : (partsH ⟨p, o, q, r, c, b, e⟩).getD 4 [] = endW e := rfl
  have g5 : (partsH ⟨p, o, q, r, c, b, e⟩).getD 5 [] = codeW c := rfl
  unfold candH
  rw [hd, g0, g1, g2, g3, g4, g5, hn p hp, hn o ho, hn b hb, idx_op hq, idx_code hc, hr]
  obtain ⟨e1, e2⟩ := endW_back (e := e) (by rcases he with he | he; exact .inl he; exact .inr he.2.1)
  rcases he with he | he
  · rw [if_pos (e1.2 he), he]
  · rw [if_neg (fun hh => by have := e1.1 hh; omega), e2 he.2.1, hn e ⟨he.2.1, he.2.2⟩]
/-- The call of a line, if there is one. -/
def readHBy (f : List (List UInt8) → Cl) (s : List UInt8) : Option Cl := if 6 ≤ (pcs 32 s).length ∧ clB (f (pcs 32 s)) = true ∧ lineH (f (pcs 32 s)) = s then some (f (pcs 32 s)) else none
theorem readHBy_line {f : List (List UInt8) → Cl} {x : Cl} (hf : f (partsH x) = x) (h : clB x = true) : readHBy f (lineH x) = some x := by
  unfold readHBy
  rw [lineH_pcs, hf, if_pos ⟨by simp [partsH, six], h, rfl⟩]
theorem readHBy_some {f : List (List UInt8) → Cl} {s : List UInt8} {x : Cl} (h : readHBy f s = some x) : clB x = true ∧ lineH x = s ∧ x = f (pcs 32 s) := by
  unfold readHBy at h
  split at h
  · rename_i hc
    injection h with h
    subst h
    exact ⟨hc.2.1, hc.2.2, rfl⟩
  · cases h

/-- Both ways to read give the same, if both give the numbers back. -/
theorem readH_both {f g : List (List UInt8) → Cl} (hf : ∀ x, clB x = true → (∀ z ∈ x.r, 0 ≤ z ∧ z < 4294967296) → f (partsH x) = x) (hg : ∀ x, clB x = true → (∀ z ∈ x.r, 0 ≤ z ∧ z < 4294967296) → g (partsH x) = x)
    (hfr : ∀ ps, ∀ z ∈ (f ps).r, 0 ≤ z ∧ z < 4294967296) (hgr : ∀ ps, ∀ z ∈ (g ps).r, 0 ≤ z ∧ z < 4294967296) (s : List UInt8) : readHBy f s = readHBy g s := by
  cases h : readHBy f s with
  | some x =>
    obtain ⟨h1, h2, h3⟩ := readHBy_some h
    have hr : ∀ z ∈ x.r, 0 ≤ z ∧ z < 4294967296 := by rw [h3]; exact hfr _
    rw [← h2, readHBy_line (hg x h1 hr) h1]
  | none =>
    cases h' : readHBy g s with
    | none => rfl
    | some x =>
      obtain ⟨h1, h2, h3⟩ := readHBy_some h'
      have hr : ∀ z ∈ x.r, 0 ≤ z ∧ z < 4294967296 := by rw [h3]; exact hgr _
      rw [← h2, readHBy_line (hf x h1 hr) h1] at h
      cases h

end Go.Proofs.YtkcdmonmgnmojaaDoor
