/- A step leaves as many words: of no program text. -/
import Derived.Test.YtgjcniokgdicpaaGreatDoorOmInw
namespace Go.Proofs.YtgjcniokgdicpaaGreatDoor
theorem step_len (c : Kc) (l : List Int) : (c.step l).2.length = l.length := by
  have hw : ∀ (c : Kc) (l : List Int) (j : Nat) (v : Int), (c.wrm l j v).length = l.length := fun c l j v => by unfold Kc.wrm; simp
  have hwo : ∀ (c : Kc) (l : List Int) (f : Nat) (g : Kc → Kc), (c.word l f g).2.length = l.length := fun c l f g => by
    unfold Kc.word
    dsimp only
    split
    · exact hw _ _ _ _
    · rfl
  have h1 : ∀ c : Kc, (c.four l).2.length = l.length := fun c => by
    unfold Kc.four
    repeat' split
    all_goals first | rfl | exact hw _ _ _ _ | exact hwo _ _ _ _
  have h2 : ∀ c : Kc, (c.chen l).2.length = l.length := fun c => by
    unfold Kc.chen
    dsimp only
    repeat' split
    all_goals first | rfl | exact hw _ _ _ _ | exact hwo _ _ _ _
  have h3 : ∀ c : Kc, (c.seq l).2.length = l.length := fun c => by
    unfold Kc.seq
    dsimp only
    repeat' split
    all_goals first | rfl | exact hw _ _ _ _ | exact hwo _ _ _ _
  have h4 : ∀ c : Kc, (c.ring l).2.length = l.length := fun c => by
    unfold Kc.ring
    dsimp only
    repeat' split
    all_goals first | rfl | exact hw _ _ _ _ | exact hwo _ _ _ _
  have h5 : ∀ c : Kc, (c.cab l).2.length = l.length := fun c => by
    unfold Kc.cab
    dsimp only
    repeat' split
    all_goals first | rfl | exact hw _ _ _ _ | exact hwo _ _ _ _
  have h6 : ∀ c : Kc, (c.fifo l).2.length = l.length := fun c => by
    unfold Kc.fifo
    dsimp only
    repeat' split
    all_goals first | rfl | exact hw _ _ _ _ | exact hwo _ _ _ _
  unfold Kc.step
  dsimp only
  repeat' split
  all_goals first | exact h1 _ | exact h2 _ | exact h3 _ | exact h4 _ | exact h5 _ | exact h6 _
end Go.Proofs.YtgjcniokgdicpaaGreatDoor
