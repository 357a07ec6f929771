/- What the reference's Read of a line finds: of no program. -/
import Derived.Test.YtkcdmonmgnmojaaDoorAsmDef
namespace Go.Proofs.YtkcdmonmgnmojaaDoor
open Go.RowKit

def upto (ps : List (List UInt8)) (k j : Nat) : Int := if j < k then rAt ps j else 0
theorem upto_end {ps : List (List UInt8)} {k j : Nat} (hk : ¬(k < ps.length ∧ k < 5)) (hj : j < 5) : upto ps k j = rAt ps j := by
  unfold upto
  split
  · rfl
  · unfold rAt
    rw [if_neg (by omega)]
theorem upto_same (ps : List (List UInt8)) (k j : Nat) (h : j ≠ k) : upto ps (k + 1) j = upto ps k j := by
  unfold upto
  by_cases hj : j < k
  · rw [if_pos hj, if_pos (by omega)]
  · rw [if_neg hj, if_neg (by omega)]
theorem upto_new (ps : List (List UInt8)) (k : Nat) {p : List UInt8} (hp : ps[k]? = some p) : upto ps (k + 1) k = rnum (dropRO p) := by
  unfold upto rAt
  have hk := (List.getElem?_eq_some_iff.1 hp).1
  rw [if_pos (by omega), if_pos hk, List.getD_eq_getElem?_getD, hp]
  rfl
def C (op : Int) (ps : List (List UInt8)) : List Ins := cands op (rAt ps 1) (rAt ps 2) (rAt ps 3) (rAt ps 1) (rAt ps 2) (rAt ps 3) (rAt ps 4)
theorem C_len (op : Int) (ps : List (List UInt8)) : (C op ps).length = 8 := rfl
theorem C_op (op : Int) (ps : List (List UInt8)) : C op ps = (C 0 ps).map fun e => ⟨op, e.a, e.b, e.c, e.n⟩ := rfl
theorem C_at {op : Int} {ps : List (List UInt8)} {t : Nat} {e : Ins} (h : (C 0 ps)[t]? = some e) : (C op ps)[t]? = some ⟨op, e.a, e.b, e.c, e.n⟩ := by
  rw [C_op, List.getElem?_map, h]
  rfl
theorem C_ok (op : Int) (ho : 0 ≤ op ∧ op < 100) (ps : List (List UInt8)) : ∀ e ∈ C op ps, e.ok := cands_ok ho (rAt_bd _ _) (rAt_bd _ _) (rAt_bd _ _) (rAt_bd _ _) (rAt_bd _ _) (rAt_bd _ _) (rAt_bd _ _)
theorem find_at {α : Type} {l : List α} {p : α → Bool} {t : Nat} {e : α} (h : ∀ x ∈ l.take t, p x = false) (he : l[t]? = some e) (hp : p e = true) : l.find? p = some e := by
  have hlt := (List.getElem?_eq_some_iff.1 he).1
  have hd : l.drop t = e :: l.drop (t + 1) := by
    rw [List.drop_eq_getElem_cons hlt]
    rw [List.getElem?_eq_getElem hlt] at he
    rw [Option.some.inj he]
  have h1 : (l.take t).find? p = none := by
    rw [List.find?_eq_none]
    intro x hx hp'
    rw [h x hx] at hp'
    cases hp'
  have : l = l.take t ++ l.drop t := (List.take_append_drop t l).symm
  rw [this, List.find?_append, h1, hd, List.find?_cons, hp]
  rfl
theorem find_none {α : Type} {l : List α} {p : α → Bool} (h : ∀ x ∈ l, p x = false) : l.find? p = none := by
  rw [List.find?_eq_none]
  intro x hx hp'
  rw [h x hx] at hp'
  cases hp'
theorem rr_find {l p0 : List UInt8} {j : Nat} (hj : j < 22) (hp0 : (pcs 32 l).getD 0 [] = p0) (hw : ((shOf j).w == p0) = true) : rread l = (C j (pcs 32 l)).find? (fitsS l) := by
  have hk : known (j : Int) = true := known_iff.2 (by omega)
  have h1 := word_find (j : Int) hk
  rw [beq_iff_eq] at hw
  rw [hw] at h1
  unfold rread
  rw [hp0, h1]
  rfl
theorem rr_hit {l p0 : List UInt8} {j : Nat} {e : Ins} (hj : j < 22) (hp0 : (pcs 32 l).getD 0 [] = p0) (hw : ((shOf j).w == p0) = true) (hf : (C j (pcs 32 l)).find? (fitsS l) = some e) : readX l = e ∧ readOk l = true := by
  have := rr_find hj hp0 hw
  rw [hf, read_same] at this
  unfold readX readOk
  rw [this]
  exact ⟨rfl, rfl⟩
theorem rr_miss {l p0 : List UInt8} (hp0 : (pcs 32 l).getD 0 [] = p0) (h : ∀ i : Nat, i < 22 → ((shOf i).w == p0) = true → (C i (pcs 32 l)).find? (fitsS l) = none) : readX l = Ins.zero ∧ readOk l = false := by
  have : readI l = none := by
    rw [← read_same]
    cases hx : shs.findIdx? fun x => x.w == p0 with
    | none => unfold rread; rw [hp0, hx]
    | some j =>
      obtain ⟨hj, hw, _⟩ := List.findIdx?_eq_some_iff_getElem.1 hx
      have h22 : shs.length = 22 := rfl
      have he : shs[j] = shOf j := by
        unfold shOf
        rw [List.getD_eq_getElem?_getD, show ((j : Int)).toNat = j by omega, List.getElem?_eq_getElem hj]
        rfl
      rw [he] at hw
      rw [rr_find (by omega) hp0 hw]
      exact h j (by omega) hw
  unfold readX readOk
  rw [this]
  exact ⟨rfl, rfl⟩
theorem fits_no1 {l : List UInt8} {e : Ins} (h : insB e = false) : fitsS l e = false := by unfold fitsS; rw [h]; rfl
theorem fits_no2 {l : List UInt8} {e : Ins} (h : lineL e ≠ l) : fitsS l e = false := by unfold fitsS; rw [decide_eq_false h, Bool.and_false]
theorem fits_yes {l : List UInt8} {e : Ins} (h : insB e = true) (h2 : lineL e = l) : fitsS l e = true := by unfold fitsS; rw [h, decide_eq_true h2]; rfl

end Go.Proofs.YtkcdmonmgnmojaaDoor
