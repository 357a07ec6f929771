/- asm.guess: the instruction that a line may be of. -/
import Derived.Test.YtkcdmonmgnmojaaDoorAsmG2
import Derived.Test.YtkcdmonmgnmojaaDoorAsmG3
import Derived.Test.YtkcdmonmgnmojaaDoorAsmG4
import Derived.Test.YtkcdmonmgnmojaaDoorAsmG5
namespace Go.Proofs.YtkcdmonmgnmojaaDoor
open Go.RowKit

theorem kind_rng (p : List UInt8) : 0 ≤ kindOf p ∧ kindOf p < 22 := by
  unfold kindOf
  refine ⟨Int.natCast_nonneg _, ?_⟩
  cases h : shs.findIdx? fun x => x.w == p with
  | none => decide
  | some k =>
    have := (List.findIdx?_eq_some_iff_getElem.1 h).1
    have h22 : shs.length = 22 := rfl
    show ((k : Nat) : Int) < 22
    omega
theorem pcs_le (c : UInt8) (l : List UInt8) : ∀ x ∈ pcs c l, x.length ≤ l.length := by
  induction l with
  | nil => intro x hx; simp [pcs] at hx; simp [hx]
  | cons a l ih =>
    intro x hx
    have hh : ((pcs c l).headD []).length ≤ l.length := by
      cases h : pcs c l with
      | nil => simp
      | cons y r => exact ih y (by rw [h]; simp)
    unfold pcs at hx
    split at hx
    · rcases List.mem_cons.1 hx with rfl | hx
      · simp
      · have := ih x hx
        rw [List.length_cons]; omega
    · rcases List.mem_cons.1 hx with rfl | hx
      · simp only [List.length_cons]; omega
      · have := ih x (List.mem_of_mem_tail hx)
        rw [List.length_cons]; omega

theorem guess_any (s : ByteArray) (w : World) (hM : Mx w) (hs : s.size ≤ 1000000) : Calls Tryd.prog 42 #[.string s] w fun r W' => r = .returned (insV (guess s.data.toList)) ∧ Below w.heap.size w W' := by
  have hne := pcs_ne 32 s.data.toList
  have hlen : s.data.toList.length = s.size := Array.length_toList
  have hn : (pcs 32 s.data.toList).length ≤ 1000001 := by have := pcs_len 32 s.data.toList; omega
  have hpl : ∀ p ∈ pcs 32 s.data.toList, p.length ≤ 1000000 := fun p hp => by have := pcs_le 32 s.data.toList p hp; omega
  obtain ⟨p0, hp0⟩ := get_some (List.length_pos_iff.2 hne)
  unfold guess guessL
  have hp0' : (pcs 32 s.data.toList).getD 0 [] = p0 := by rw [List.getD_eq_getElem?_getD, hp0]; rfl
  rw [hp0']
  simp only
  have hr := kind_rng p0
  by_cases h16 : kindOf p0 = 16
  · rw [if_pos h16, h16]
    exact guess_back 16 p0 _ s w hM hs rfl hp0 hpl hn h16 rfl
  rw [if_neg h16]
  by_cases h14 : kindOf p0 = 14
  · rw [if_pos h14, h14]
    exact guess_jump 14 p0 _ s w hM hs rfl hp0 hpl hn h14 rfl
  rw [if_neg h14]
  by_cases h1 : kindOf p0 = 1
  · rw [if_pos (.inl h1), h1]
    exact guess_set 1 p0 _ s w hM hs rfl hp0 hpl hn h1 rfl
  by_cases h15 : kindOf p0 = 15
  · rw [if_pos (.inr h15), h15]
    exact guess_zero 15 p0 _ s w hM hs rfl hp0 hpl hn h15 rfl
  rw [if_neg (fun h => h.elim h1 h15)]
  by_cases h2 : kindOf p0 = 2
  · rw [if_pos h2, h2]
    exact guess_move 2 p0 _ s w hM hs rfl hp0 hpl hn h2 rfl
  rw [if_neg h2]
  by_cases h3 : 3 ≤ kindOf p0 ∧ kindOf p0 ≤ 10
  · rw [if_pos h3]
    exact guess_three _ p0 _ s w hM hs rfl hp0 hpl hn rfl h3
  rw [if_neg h3]
  by_cases h13 : kindOf p0 = 13
  · rw [if_pos h13, h13]
    exact guess_cas 13 p0 _ s w hM hs rfl hp0 hpl hn h13 rfl
  rw [if_neg h13]
  by_cases h0 : kindOf p0 = 0
  · rw [if_neg (fun h => h.1 h0), h0]
    exact guess_nop 0 p0 _ s w hM hs rfl hp0 hpl hn h0 rfl
  by_cases h21 : kindOf p0 = 21
  · rw [if_neg (fun h => h.2 h21), h21]
    exact guess_done 21 p0 _ s w hM hs rfl hp0 hpl hn h21 rfl
  rw [if_pos ⟨h0, h21⟩]
  exact guess_load _ p0 _ s w hM hs rfl hp0 hpl hn rfl ⟨by omega, by omega, h13, h14, h15, h16⟩

end Go.Proofs.YtkcdmonmgnmojaaDoor
