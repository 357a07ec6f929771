/- What strings.Split gives at a separator of one byte: the pieces. Of no program. -/
import Derived.Test.YtkcdmonmgnmojaaDoorDig
import Derived.Lib.SplitLaws
namespace Go.Proofs.YtkcdmonmgnmojaaDoor
open Go.RowKit

theorem splitK_ne (c b : UInt8) (l : List UInt8) (h : b ≠ c) (k : Nat) : Lib.splitK [c] 0 k (b :: l) = (b :: (Lib.splitK [c] 0 k l).headD []) :: (Lib.splitK [c] 0 k l).tail := by
  cases k with
  | zero => rfl
  | succ k =>
    have hp : ([c] : List UInt8).isPrefixOf (b :: l) = false := by
      simp [List.isPrefixOf]
      exact fun e => h e.symm
    have hidx : Lib.index (b :: l) [c] = if Lib.index l [c] == -1 then -1 else Lib.index l [c] + 1 := by
      rw [Lib.index, hp]
      rfl
    unfold Lib.splitK
    rw [hidx]
    by_cases hi : Lib.index l [c] = -1
    · rw [hi]
      rfl
    · have h1 : ¬ (Lib.index l [c] == -1) = true := fun e => hi (beq_iff_eq.1 e)
      have h0 : 0 ≤ Lib.index l [c] := by
        have := Lib.index_ge l [c]
        omega
      have h2 : ¬ (Lib.index l [c] + 1 == -1) = true := fun e => by have := beq_iff_eq.1 e; omega
      have e2 : (Lib.index l [c] + 1).toNat = (Lib.index l [c]).toNat + 1 := by omega
      rw [if_neg h1, if_neg h2, if_neg h1, e2]
      simp
theorem split_pcs (c : UInt8) (l : List UInt8) : Lib.split l [c] = pcs c l := by
  unfold Lib.split
  rw [Lib.count_one]
  induction l with
  | nil => rfl
  | cons b l ih =>
    unfold pcs
    by_cases h : b = c
    · subst h
      rw [if_pos rfl, List.count_cons_self]
      have hp : ([b] : List UInt8).isPrefixOf (b :: l) = true := by simp [List.isPrefixOf]
      have hi : Lib.index (b :: l) [b] = 0 := by unfold Lib.index; rw [hp, if_pos rfl]
      unfold Lib.splitK
      rw [hi, if_neg (by decide), ← ih]
      simp
    · rw [if_neg h, List.count_cons_of_ne h, splitK_ne c b l h, ih]
theorem split_cells (c : UInt8) (s : ByteArray) : Lib.splitB ⟨#[c]⟩ 0 (Lib.countB s ⟨#[c]⟩) s = (pcs c s.data.toList).map fun p => ⟨p.toArray⟩ := by
  have h := Lib.splitB_data ⟨#[c]⟩ 0 (Lib.countB s ⟨#[c]⟩) s
  have e : Lib.countB s ⟨#[c]⟩ = Lib.count s.data.toList [c] := rfl
  rw [← split_pcs, Lib.split, ← e]
  have h2 : (Lib.splitK [c] 0 (Lib.countB s ⟨#[c]⟩) s.data.toList) = (Lib.splitB ⟨#[c]⟩ 0 (Lib.countB s ⟨#[c]⟩) s).map (·.data.toList) := h.symm
  rw [h2, List.map_map]
  conv => lhs; rw [← List.map_id (Lib.splitB ⟨#[c]⟩ 0 (Lib.countB s ⟨#[c]⟩) s)]
  refine List.map_congr_left fun x _ => ?_
  rfl

end Go.Proofs.YtkcdmonmgnmojaaDoor
