
/- The document's steps of an operation, and that they are the program's: of no program text. -/
import Derived.Test.YtgjcniokgdicpaaGreatDoorOmEnd
namespace Go.Proofs.YtgjcniokgdicpaaGreatDoor
namespace Kc

/-- The document's difference and successor. -/
def gapR (a b m : Int) : Int := (b % m + m - a % m) % m
def incR (a m : Int) : Int := (a + 1) % m
theorem gap_is {a b m : Int} (ha : 0 ≤ a) (ha' : a < m) (hb : 0 ≤ b) (hb' : b < m) : gap a b m = gapR a b m := by
  unfold gap gapR
  rw [Int.emod_eq_of_lt hb hb', Int.emod_eq_of_lt ha ha']
  split
  · rw [show b + m - a = (b - a) + m by omega, Int.add_emod_right, Int.emod_eq_of_lt (by omega) (by omega)]
  · rw [Int.emod_eq_of_lt (by omega) (by omega)]
theorem gap_mod {a b m : Int} (hm : 0 < m) (ha : 0 ≤ a) (ha' : a < m) : gap a (b % m) m = gapR a b m := by
  rw [gap_is ha ha' (Int.emod_nonneg _ (by omega)) (Int.emod_lt_of_pos _ hm)]
  unfold gapR; rw [Int.emod_emod]
theorem gap_mod2 {a b m : Int} (hm : 0 < m) (hb : 0 ≤ b) (hb' : b < m) : gap (a % m) b m = gapR a b m := by
  rw [gap_is (Int.emod_nonneg _ (by omega)) (Int.emod_lt_of_pos _ hm) hb hb']
  unfold gapR; rw [Int.emod_emod]
theorem inc_is {a m : Int} (ha : 0 ≤ a) (ha' : a < m) : inc a m = incR a m := by
  unfold inc incR
  split
  · rw [Int.emod_eq_of_lt (by omega) (by omega)]
  · rw [show a + 1 = m by omega, Int.emod_self]

/-- The document's steps of the kind ring. -/
def ringR' (c : Kc) (l : List Int) : Km :=
  let m : Int := c.sl * 1048576
  match c.ph with
  | 0 => (({ c with A := if c.op == 2 then incR (c.rdm l 0 % m) m else c.rdm l 0 % m } : Kc).go 1, l)
  | 1 => c.word l (1 + (c.A % c.sl).toNat * c.wd) (·.go 2)
  | _ =>
    if c.op == 2 then (c.fin 0, c.wrm l 0 c.A)
    else (if gapR c.A (c.rdm l 0) m + 1 < c.sl then c.fin 0 else c.fail (·.fin 1), l)
theorem ring_is {c : Kc} {l : List Int} (hs : 0 < c.sl) (hA : 0 ≤ c.A) (hA' : c.A < c.sl * 1048576) : c.ring l = c.ringR' l := by
  have hm : (0 : Int) < c.sl * 1048576 := by omega
  unfold ring ringR'
  simp only
  rw [gap_mod hm hA hA', inc_is (Int.emod_nonneg _ (by omega)) (Int.emod_lt_of_pos _ hm)]
  have e : ∀ g : Int, (g < (c.sl : Int) - 1) = (g + 1 < (c.sl : Int)) := fun g => propext (by omega)
  simp only [e]
  generalize c.ph = p
  rcases p with _ | _ | p <;> rfl
/-- The document's steps of the kind fifo. -/
def fifoR' (c : Kc) (l : List Int) : Km :=
  let m : Int := 2 * c.sl
  let put := c.op == 3
  let own := if put then 1 else 0
  match c.ph with
  | 0 => (({ c with A := c.rdm l own % m } : Kc).go 1, l)
  | 1 =>
    let g := if put then gapR (c.rdm l 0) c.A m else gapR c.A (c.rdm l 1) m
    (if put && decide (g ≥ c.sl) then c.fin 2 else if !put && decide (g = 0) then c.fin 3 else c.go 2, l)
  | 2 => c.word l (2 + (c.A % c.sl).toNat * c.wd) (·.go 3)
  | _ => (c.fin 0, c.wrm l own (incR c.A m))
theorem gap_zero {a b m : Int} (hm : 0 < m) (ha : 0 ≤ a) (ha' : a < m) : gapR a b m = 0 ↔ b % m = a := by
  have hb := Int.emod_nonneg b (show m ≠ 0 by omega)
  have hb' := Int.emod_lt_of_pos b hm
  rw [← gap_mod hm ha ha']
  unfold gap
  split <;> omega
theorem fifo_is {c : Kc} {l : List Int} (hs : 0 < c.sl) (hA : 0 ≤ c.A) (hA' : c.A < 2 * c.sl) : c.fifo l = c.fifoR' l := by
  have hm : (0 : Int) < 2 * c.sl := by omega
  unfold fifo fifoR'
  simp only
  rw [inc_is hA hA', gap_mod2 hm hA hA']
  generalize c.ph = p
  rcases p with _ | _ | _ | p
  · rfl
  · cases c.op == 3
    · simp only [Bool.false_eq_true, if_false, Bool.false_and, Bool.not_false, Bool.true_and, decide_eq_true_eq, gap_zero hm hA hA']
    · simp only [if_true, Bool.true_and, decide_eq_true_eq, Bool.not_true, Bool.false_and, Bool.false_eq_true, if_false]
  · rfl
  · rfl

/-- The document's rows of a read of the kind cab. -/
def cabReadR (c : Kc) (l : List Int) : Km :=
  let newest := c.rdm l 0 % c.sl
  let own := 1 + c.rd
  match c.ph with
  | 0 => (({ c with A := newest } : Kc).go 1, l)
  | 1 => (c.go 2, c.wrm l own ((c.A + 1) % 4294967296))
  | 2 => (if newest = c.A then c.go 3 else c.fail (·.go 5), l)
  | 3 => c.word l (1 + c.nr + c.A.toNat * c.wd) (·.go 4)
  | 4 => (c.fin 0, c.wrm l own 0)
  | _ => (c.fin 1, c.wrm l own 0)
/-- The document's row of the program's phase of a read of the kind cab. -/
def cabRow (c : Kc) : Kc := if c.B = 1 then { c with ph := 5, B := 0 } else c
theorem cab_is {c : Kc} {l : List Int} (h2 : (c.op == 2) = false) (hp : c.ph ≤ 4) (hB : c.B = 0 ∨ (c.B = 1 ∧ c.ph = 4)) :
    c.cabRow.cabReadR l = ((c.cab l).1.cabRow, (c.cab l).2) := by
  rcases hB with hB | ⟨hB, h4⟩
  · have e : c.cabRow = c := by unfold cabRow; rw [hB]; rfl
    rw [e]
    unfold cab cabReadR
    simp only [h2, Bool.false_eq_true, if_false]
    rcases hq : c.ph with _ | _ | _ | _ | _ | n
    · simp [cabRow, go, hB]
    · simp [cabRow, go, hB]
    · simp only [Prod.mk.injEq, and_true]
      split
      · simp [cabRow, go, hB]
      · rw [fail_is, fail_is]; split <;> simp [cabRow, go, hB]
    · simp only
      obtain ⟨X, l', e'⟩ : ∃ X l', ∀ last : Kc → Kc, c.word l (1 + c.nr + c.A.toNat * c.wd) last = (if c.wd ≤ c.i + 1 then last { c with rc := X, i := c.i + 1 } else { c with rc := X, i := c.i + 1 }, l') := by
        unfold word
        cases c.wr
        · exact ⟨_, _, fun _ => rfl⟩
        · exact ⟨c.rc, _, fun _ => rfl⟩
      rw [e' (·.go 4)]
      split <;> simp [cabRow, go, hB]
    · simp [cabRow, fin, hB]
    · omega
  · have e : c.cabRow = { c with ph := 5, B := 0 } := by unfold cabRow; rw [hB]; rfl
    rw [e]
    unfold cab cabReadR
    simp only [h2, Bool.false_eq_true, if_false, h4]
    simp [cabRow, fin, hB, wr, wrm]

/-- The document's least slot that is not noted. -/
def chooseR (v : Nat → Bool) : Int := (((List.range 20).find? fun k => !v k).getD 0 : Nat)
def noteR (R : Nat) (v : Nat → Bool) (s : Int) : Nat → Bool := fun k => v k || (decide ((k : Int) = s) && decide (s < R))
theorem least {v : Nat → Bool} : ∀ {R : Nat}, (∃ k, k < R ∧ v k = false) → ∃ k, k < R ∧ v k = false ∧ ∀ j, j < k → v j = true := by
  intro R
  induction R with
  | zero => rintro ⟨k, h, _⟩; omega
  | succ R ih =>
    rintro ⟨k, hk, hv⟩
    by_cases h : ∃ k, k < R ∧ v k = false
    · obtain ⟨j, a, b, d⟩ := ih h
      exact ⟨j, by omega, b, d⟩
    · have hkR : k = R := by
        by_cases e : k < R
        · exact absurd ⟨k, e, hv⟩ h
        · omega
      subst hkR
      refine ⟨k, hk, hv, fun j hj => ?_⟩
      cases e : v j
      · exact absurd ⟨j, hj, e⟩ h
      · rfl
theorem find_least {v : Nat → Bool} {n k : Nat} (hk : k < n) (hv : v k = false) (h : ∀ j, j < k → v j = true) : (List.range n).find? (fun k => !v k) = some k := by
  rw [List.find?_range_eq_some]
  refine ⟨by simp [hv], List.mem_range.mpr hk, fun j hj => ?_⟩
  simp [h j hj]
/-- The program's free slot is the document's, where the marks agree below the number of records and one of these is free. -/
theorem free_is {c : Kc} {v : Nat → Bool} {R : Nat} (hR : R ≤ 20) (h : ∀ k, k < R → c.used k = v k) (hex : ∃ k, k < R ∧ v k = false) : c.free = chooseR v ∧ 0 ≤ c.free ∧ c.free < R := by
  obtain ⟨k, hk, hv, hl⟩ := least hex
  have e1 : (List.range 64).find? (fun k => !c.used k) = some k := find_least (by omega) (by rw [h k hk]; exact hv) (fun j hj => by rw [h j (by omega)]; exact hl j hj)
  have e2 : (List.range 20).find? (fun k => !v k) = some k := find_least (by omega) hv hl
  unfold free chooseR
  rw [e1, e2]
  refine ⟨rfl, ?_, ?_⟩
  · show (0 : Int) ≤ (k : Int); omega
  · show (k : Int) < (R : Int); omega
/-- A mark of the program's is a note of the document's, below the number of records. -/
theorem mark_is {c : Kc} {v : Nat → Bool} {R : Nat} {s : Int} (hR : R ≤ 20) (h : ∀ k, k < R → c.used k = v k) : ∀ k, k < R → (c.mark s).used k = noteR R v s k := by
  intro k hk
  unfold mark noteR
  simp only [h k hk]
  congr 1
  rw [← Bool.decide_and, decide_eq_decide]
  omega
theorem all_in : ∀ (R : Nat) (ms : List Int), (∀ k, k < R → (k : Int) ∈ ms) → R ≤ ms.length := by
  intro R
  induction R with
  | zero => intro ms _; omega
  | succ R ih =>
    intro ms h
    have hm := h R (by omega)
    have h1 := ih (ms.erase (R : Int)) (fun k hk => (List.mem_erase_of_ne (by omega)).mpr (h k (by omega)))
    rw [List.length_erase_of_mem hm] at h1
    have := List.length_pos_of_mem hm
    omega
/-- Of fewer marks than records one record is free. -/
theorem some_free : ∀ (R : Nat) (ms : List Int), ms.length < R → ∃ k, k < R ∧ ms.all (fun s => !decide ((k : Int) = s)) = true := by
  intro R ms h
  by_cases hx : ∃ k, k < R ∧ ms.all (fun s => !decide ((k : Int) = s)) = true
  · exact hx
  · exfalso
    have hall : ∀ k, k < R → (k : Int) ∈ ms := by
      intro k hk
      by_cases hm : (k : Int) ∈ ms
      · exact hm
      · refine absurd ⟨k, hk, ?_⟩ hx
        rw [List.all_eq_true]
        intro s hs
        simp only [Bool.not_eq_true', decide_eq_false_iff_not]
        intro e; exact hm (e ▸ hs)
    have := all_in R ms hall
    omega

end Kc
end Go.Proofs.YtgjcniokgdicpaaGreatDoor
