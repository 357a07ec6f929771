/- Heads, records, bounds of sizes (pure). -/
import Derived.Test.YtgjcniokgdicpaaGreatDoorShF
namespace Go.Proofs.YtgjcniokgdicpaaGreatDoor
open Go.RowKit

def headZ (o : Ob) : Int := if o.k = 1 then 4 else if o.k = 2 ∨ o.k = 5 then 1 + o.nr else if o.k = 6 then 2 else 1
def recZ (o : Ob) : Int := if o.k = 1 then 4 else if o.k = 2 then (o.nr : Int) + 2 else if o.k = 3 then 1 else o.s
theorem head_four {o : Ob} (h : o.k = 1) : headZ o = 4 := by
  unfold headZ
  simp [h]
theorem rec_four {o : Ob} (h : o.k = 1) : recZ o = 4 := by
  unfold recZ
  simp [h]
theorem head_chen {o : Ob} (h : o.k = 2) : headZ o = 1 + (o.nr : Int) := by
  unfold headZ
  simp [h]
theorem rec_chen {o : Ob} (h : o.k = 2) : recZ o = (o.nr : Int) + 2 := by
  unfold recZ
  simp [h]
theorem head_seq {o : Ob} (h : o.k = 3) : headZ o = 1 := by
  unfold headZ
  simp [h]
theorem rec_seq {o : Ob} (h : o.k = 3) : recZ o = 1 := by
  unfold recZ
  simp [h]
theorem head_ring {o : Ob} (h : o.k = 4) : headZ o = 1 := by
  unfold headZ
  simp [h]
theorem rec_ring {o : Ob} (h : o.k = 4) : recZ o = o.s := by
  unfold recZ
  simp [h]
theorem head_cab {o : Ob} (h : o.k = 5) : headZ o = 1 + (o.nr : Int) := by
  unfold headZ
  simp [h]
theorem rec_cab {o : Ob} (h : o.k = 5) : recZ o = o.s := by
  unfold recZ
  simp [h]
theorem head_fifo {o : Ob} (h : o.k = 6) : headZ o = 2 := by
  unfold headZ
  simp [h]
theorem rec_fifo {o : Ob} (h : o.k = 6) : recZ o = o.s := by
  unfold recZ
  simp [h]
theorem any_cases {o : Ob} (h : anyR o) : (o.k = 1 ∧ fourR o) ∨ (o.k = 2 ∧ chenR o) ∨ (o.k = 3 ∧ seqR o) ∨ (o.k = 4 ∧ ringR o) ∨ (o.k = 5 ∧ cabR o) ∨ (o.k = 6 ∧ fifoR o) := by
  obtain ⟨k1, k2, k3, k4, k5, k6⟩ := @kind_of o
  rcases h with q | q | q | q | q | q
  · exact .inl ⟨k1 q, q⟩
  · exact .inr (.inl ⟨k2 q, q⟩)
  · exact .inr (.inr (.inl ⟨k3 q, q⟩))
  · exact .inr (.inr (.inr (.inl ⟨k4 q, q⟩)))
  · exact .inr (.inr (.inr (.inr (.inl ⟨k5 q, q⟩))))
  · exact .inr (.inr (.inr (.inr (.inr ⟨k6 q, q⟩))))
theorem any_bd {o : Ob} (h : anyR o) : (1 ≤ o.wd ∧ o.wd ≤ 8) ∧ (1 ≤ o.nr ∧ o.nr ≤ 4) ∧ (1 ≤ headZ o ∧ headZ o ≤ 5) ∧ (1 ≤ recZ o ∧ recZ o ≤ 16) ∧ sizeZ o = headZ o + recZ o * o.wd := by
  rcases any_cases h with ⟨k, q⟩ | ⟨k, q⟩ | ⟨k, q⟩ | ⟨k, q⟩ | ⟨k, q⟩ | ⟨k, q⟩
  · have b := four_bd q
    rw [sizeZ_four q, head_four k, rec_four k]
    exact ⟨by omega, by omega, by omega, by omega, by first | rfl | omega⟩
  · have b := chen_bd q
    rw [sizeZ_chen q, head_chen k, rec_chen k]
    exact ⟨by omega, by omega, by omega, by omega, by first | rfl | omega⟩
  · have b := seq_bd q
    rw [sizeZ_seq q, head_seq k, rec_seq k]
    exact ⟨by omega, by omega, by omega, by omega, by first | rfl | omega⟩
  · have b := ring_bd q
    rw [sizeZ_ring q, head_ring k, rec_ring k]
    exact ⟨by omega, by omega, by omega, by omega, by first | rfl | omega⟩
  · have b := cab_bd q
    rw [sizeZ_cab q, head_cab k, rec_cab k]
    exact ⟨by omega, by omega, by omega, by omega, by first | rfl | omega⟩
  · have b := fifo_bd q
    rw [sizeZ_fifo q, head_fifo k, rec_fifo k]
    exact ⟨by omega, by omega, by omega, by omega, by first | rfl | omega⟩
theorem size_bd (o : Ob) : 0 ≤ sizeZ o ∧ sizeZ o ≤ 261 := by
  by_cases h : anyR o
  · obtain ⟨a, _, c, d, e⟩ := any_bd h
    have := mul_bd (a := recZ o) (b := o.wd) (by omega) (by omega) (by omega) (by omega)
    omega
  · rw [sizeZ_no h]
    omega

end Go.Proofs.YtgjcniokgdicpaaGreatDoor
