/- Lists in sorted blocks; how they grow. -/
import Derived.Test.YtkcdmonmgnmojaaDoorSo3
namespace Go.Proofs.YtkcdmonmgnmojaaDoor
open Go.RowKit

/-- A list that stands in sorted blocks of a size, each a permutation of what stood there at first. -/
inductive Bl (sz : Nat) : List El → List El → Prop
  | last {L L0 : List El} : L.length ≤ sz → Srt ltE L → L.Perm L0 → Bl sz L L0
  | more {U U0 L L0 : List El} : U.length = sz → Srt ltE U → U.Perm U0 → Bl sz L L0 → Bl sz (U ++ L) (U0 ++ L0)
theorem Bl.perm {sz : Nat} {L L0 : List El} (h : Bl sz L L0) : L.Perm L0 := by
  induction h with
  | last _ _ h => exact h
  | more _ _ h _ ih => exact h.append ih
theorem Bl.one {sz : Nat} {L L0 : List El} (h : Bl sz L L0) (hl : L.length ≤ sz) : Srt ltE L := by
  cases h with
  | last _ h _ => exact h
  | @more U U0 L' L0' hU h hp hr =>
    rw [List.length_append] at hl
    have h0 : L' = [] := List.eq_nil_of_length_eq_zero (by omega)
    subst h0
    simpa using h
theorem Bl.split {sz : Nat} {L L0 : List El} (h : Bl sz L L0) (hl : sz ≤ L.length) : ∃ U U0 E E0, L = U ++ E ∧ L0 = U0 ++ E0 ∧ U.length = sz ∧ Srt ltE U ∧ U.Perm U0 ∧ Bl sz E E0 := by
  cases h with
  | last h1 h2 h3 => exact ⟨L, L0, [], [], by simp, by simp, by omega, h2, h3, .last (by simp) List.Pairwise.nil (List.Perm.refl _)⟩
  | @more U U0 L' L0' hU h hp hr => exact ⟨U, U0, L', L0', rfl, rfl, hU, h, hp, hr⟩
/-- Full blocks, that any others may follow. -/
def BlD (sz : Nat) (D D0 : List El) : Prop := ∀ E E0, Bl sz E E0 → Bl sz (D ++ E) (D0 ++ E0)
theorem BlD.nil (sz : Nat) : BlD sz [] [] := fun _ _ h => h
theorem BlD.snoc {sz : Nat} {D D0 W W0 : List El} (h : BlD sz D D0) (hl : W.length = sz) (hs : Srt ltE W) (hp : W.Perm W0) : BlD sz (D ++ W) (D0 ++ W0) := fun E E0 hE => by
  rw [List.append_assoc, List.append_assoc]
  exact h _ _ (.more hl hs hp hE)
theorem tags_across {D U V E : List El} (h : (D ++ (U ++ (V ++ E))).Pairwise fun e f => e.t < f.t) : ∀ x ∈ U, ∀ y ∈ V, x.t < y.t := fun x hx y hy =>
  (List.pairwise_append.1 (List.pairwise_append.1 h).2.1).2.2 x hx y (List.mem_append_left _ hy)

end Go.Proofs.YtkcdmonmgnmojaaDoor
