/- A region that draws its order, with a class of worlds that grows narrower on the way. -/
import Derived.Test.YtgjcniokgdicpaaGreatDoorWalk
import Derived.Deep.RegionHeld3
namespace Go.Proofs.YtgjcniokgdicpaaGreatDoor
open Go.RowKit

theorem wpAnyH_strong {P : Program} {ops : Array Oper} {Q : Exit → Act → World → Prop} {md : Region.Mode} {S S' : World → Prop} (hS : ∀ w, S' w → S w) : ∀ (fuel : Nat) (listed : Array Bool) (a : Act) (w : World),
    wpAnyH P md ops Q S' fuel listed a w → wpAnyH P md ops Q S fuel listed a w
  | 0, _, _, _, h => h
  | fuel + 1, _, _, _, h => ⟨h.1, fun i hi => wpOp_mono (fun a' w' h' => ⟨hS w' h'.1, wpAnyH_strong hS fuel _ a' w' h'.2⟩) (h.2 i hi)⟩

/-- A region whose ways all end alike, but for a number and the world. -/
theorem region_to {P : Program} {id : Nat} {ops : Array Oper} {b : Bool} {a : Act} {w : World} {Q : Exit → Act → World → Prop} (A : Nat → Act) (X : Nat → World → Prop)
    (h : (Code.region id ops b).wp P (fun e a w => e = .normal ∧ ∃ nb, a = A nb ∧ X nb w) a w) (hq : ∀ nb w, X nb w → Q .normal (A nb) w) : (Code.region id ops b).wp P Q a w :=
  Code.wp_mono (fun e a w ⟨he, nb, ha, hx⟩ => by
    subst he ha
    exact hq nb w hx) h

end Go.Proofs.YtgjcniokgdicpaaGreatDoor
