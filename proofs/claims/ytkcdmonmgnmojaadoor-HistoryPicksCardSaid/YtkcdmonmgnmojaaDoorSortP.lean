/- Sorting by merging blocks in place, of any strict order: what the symmetric cut brings; of no program. -/
import Derived.Test.YtkcdmonmgnmojaaDoorDig
namespace Go.Proofs.YtkcdmonmgnmojaaDoor
open Go.RowKit

section
variable {α : Type} (lt : α → α → Prop)
/-- A list in strict order. -/
def Srt (l : List α) : Prop := l.Pairwise lt
variable {lt}
theorem Srt.app {l m : List α} (h1 : Srt lt l) (h2 : Srt lt m) (h : ∀ x ∈ l, ∀ y ∈ m, lt x y) : Srt lt (l ++ m) := List.pairwise_append.2 ⟨h1, h2, h⟩
theorem Srt.left {l m : List α} (h : Srt lt (l ++ m)) : Srt lt l := (List.pairwise_append.1 h).1
theorem Srt.right {l m : List α} (h : Srt lt (l ++ m)) : Srt lt m := (List.pairwise_append.1 h).2.1
theorem Srt.across {l m : List α} (h : Srt lt (l ++ m)) : ∀ x ∈ l, ∀ y ∈ m, lt x y := (List.pairwise_append.1 h).2.2
/-- Two lists in strict order, of the same elements, are one. -/
theorem Srt.unique (irr : ∀ x, ¬ lt x x) (tr : ∀ x y z, lt x y → lt y z → lt x z) : ∀ {l m : List α}, Srt lt l → Srt lt m → l.Perm m → l = m
  | [], m, _, _, hp => (List.nil_perm.1 hp).symm
  | x :: l, [], _, _, hp => absurd hp.length_eq (by simp)
  | x :: l, y :: m, h1, h2, hp => by
    have hxy : x = y := by
      have hx : x ∈ y :: m := hp.subset (List.mem_cons_self ..)
      have hy : y ∈ x :: l := hp.symm.subset (List.mem_cons_self ..)
      rcases List.mem_cons.1 hx with e | hx
      · exact e
      · rcases List.mem_cons.1 hy with e | hy
        · exact e.symm
        · exact absurd (tr _ _ _ ((List.pairwise_cons.1 h1).1 y hy) ((List.pairwise_cons.1 h2).1 x hx)) (irr x)
    subst hxy
    rw [Srt.unique irr tr (List.pairwise_cons.1 h1).2 (List.pairwise_cons.1 h2).2 ((List.perm_cons x).1 hp)]
/-- What the symmetric cut brings: all that stands left of it is below all that stands right of it. -/
theorem cut_below (tr : ∀ x y z, lt x y → lt y z → lt x z) {U1 U2 V1 V2 : List α} (hU : Srt lt (U1 ++ U2)) (hV : Srt lt (V1 ++ V2))
    (h1 : U1 = [] ∨ V2 = [] ∨ ∃ x y, U1.getLast? = some x ∧ V2.head? = some y ∧ lt x y) (h2 : V1 = [] ∨ U2 = [] ∨ ∃ x y, V1.getLast? = some x ∧ U2.head? = some y ∧ lt x y) :
    ∀ x ∈ U1 ++ V1, ∀ y ∈ U2 ++ V2, lt x y := by
  have key : ∀ {A B : List α}, Srt lt A → Srt lt B → (A = [] ∨ B = [] ∨ ∃ x y, A.getLast? = some x ∧ B.head? = some y ∧ lt x y) → ∀ x ∈ A, ∀ y ∈ B, lt x y := by
    intro A B hA hB h x hx y hy
    rcases h with rfl | rfl | ⟨a, b, ha, hb, hab⟩
    · cases hx
    · cases hy
    · have hxa : x = a ∨ lt x a := by
        obtain ⟨t, rfl⟩ := List.getLast?_eq_some_iff.1 ha
        rcases List.mem_append.1 hx with hx | hx
        · exact .inr (hA.across x hx a (by simp))
        · exact .inl (List.mem_singleton.1 hx)
      have hby : b = y ∨ lt b y := by
        cases B with
        | nil => cases hb
        | cons b' t =>
          injection hb with hb
          subst hb
          rcases List.mem_cons.1 hy with hy | hy
          · exact .inl hy.symm
          · exact .inr ((List.pairwise_cons.1 hB).1 y hy)
      have hxb : lt x b := by
        rcases hxa with rfl | hxa
        · exact hab
        · exact tr _ _ _ hxa hab
      rcases hby with rfl | hby
      · exact hxb
      · exact tr _ _ _ hxb hby
  intro x hx y hy
  rcases List.mem_append.1 hx with hx | hx <;> rcases List.mem_append.1 hy with hy | hy
  · exact hU.across x hx y hy
  · exact key hU.left hV.right h1 x hx y hy
  · exact key hV.left hU.right h2 x hx y hy
  · exact hV.across x hx y hy
end

end Go.Proofs.YtkcdmonmgnmojaaDoor
