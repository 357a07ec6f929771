/- A region that draws its order, with a class of worlds that grows narrower on the way. -/
import Derived.Test.YtgjcniokgdicpaaGreatDoorWalk
import Derived.Deep.RegionHeld3
namespace Go.Proofs.YtgjcniokgdicpaaGreatDoor
open Go.RowKit

theorem wpAnyH_strong {P : Program} {ops : Array Oper} {Q : Exit → Act → World → Prop} {md : Region.Mode} {S S' : World → Prop} (hS : ∀ w, S' w → S w) : ∀ (fuel : Nat) (listed : Array Bool) (a : Act) (w : World),
    wpAnyH P md ops Q S' fuel listed a w → wpAnyH P md ops Q S fuel listed a w
  | 0, _, _, _, h => h
  | fuel + 1, _, _, _, h => ⟨h.1, fun i hi => wpOp_mono (fun a' w' h' => ⟨hS w' h'.1, wpAnyH_strong hS fuel _ a' w' h'.2⟩) (h.2 i hi)⟩

/-- A region whose ways all end alike, but for a number and the world. -/
theorem region_to {P : Program} {id : Nat} {ops : Array Oper} {b : Bool} {a : Act} {w : World} {Q : Exit → Act → World → Prop} (A : Nat → Act) (X : Nat → World → Prop)
    (h : (Code.region id ops b).wp P (fun e a w => e = .normal ∧ ∃ nb, a = A nb ∧ X nb w) a w) (hq : ∀ nb w, X nb w → Q .normal (A nb) w) : (Code.region id ops b).wp P Q a w :=
  Code.wp_mono (fun e a w ⟨he, nb, ha, hx⟩ => by
    subst he ha
    exact hq nb w hx) h

theorem pS (l : List Value) (e : List Deferred) (k : Nat) (v : Value) : (Act.mk l.toArray e).put (some k) v = ⟨(l.set k v).toArray, e⟩ := by simp [Act.put]
theorem pN (a : Act) (v : Value) : a.put none v = a := rfl
/-- An operation that neither calls nor writes is taken. -/
theorem tkH {P : Program} {ops : Array Oper} {Q : Exit → Act → World → Prop} {md : Region.Mode} {S : World → Prop} (i : Nat) {oi : Oper} {v : Value} {fuel : Nat} {listed : Array Bool} {a a' : Act} {w : World}
    (h : wpAnyH P md ops Q S fuel (listed.setIfInBounds i true) a' w)
    (hi : ops[i]? = some oi := by ((simp only [List.getElem?_toArray, List.getElem?_cons_succ, List.getElem?_cons_zero]); rfl))
    (hs : Region.noSelect ops = true := by kernel_rfl) (hf : Region.free md ops listed i = true := by kernel_rfl) (hr : (Region.ready md ops listed).contains i = true := by kernel_rfl)
    (hQ : ∀ c a w, Q (.panic c) (a.put oi.dst v) w → Q (.panic c) a w := by first | exact fun _ _ _ h => h | exact fun _ _ _ h => by cases h.1)
    (hy : YieldsIf P ops S oi v a := by (refine Or.inl ⟨rfl, ?_⟩; (intro wq hSq; (try dsimp only at hSq); go_simp); (try with_reducible rfl))) (hS : S w := by assumption)
    (ha : a.put oi.dst v = a' := by (try first | simp only [pS, List.set] | simp only [pN]); rfl) : wpAnyH P md ops Q S (fuel + 1) listed a w :=
  wpAnyH_take hi hs hf hr hQ hy hS (by rw [ha]; exact h)
/-- A call, a store .. among the ready ones. -/
theorem cnH {P : Program} {ops : Array Oper} {Q : Exit → Act → World → Prop} {md : Region.Mode} {S : World → Prop} {fuel : Nat} {listed : Array Bool} {a : Act} {w : World} {i : Nat} {o : Oper} {rs : List Nat}
    (h : ∀ K' : Act → World → Prop, Shut (∀ a w, S w → (S w → wpAnyH P md ops Q S fuel (listed.setIfInBounds i true) a w) → K' a w) → if Region.wanted o (yielded ops a.tmps) = true then Oper.wp P o a w K' Q else K' (a.put o.dst undef) w)
    (hs : AllReadyH P md ops Q S fuel listed a w rs) (ho : ops[i]? = some o := by ((simp only [List.getElem?_toArray, List.getElem?_cons_succ, List.getElem?_cons_zero]); rfl)) : AllReadyH P md ops Q S fuel listed a w (i :: rs) :=
  AllReadyH.cons ho h hs
/-- The only one that is ready. -/
theorem clH {P : Program} {ops : Array Oper} {Q : Exit → Act → World → Prop} {md : Region.Mode} {S : World → Prop} (i : Nat) {fuel : Nat} {listed : Array Bool} {a : Act} {w : World} {o : Oper}
    (h : ∀ K' : Act → World → Prop, Shut (∀ a w, S w → (S w → wpAnyH P md ops Q S fuel (listed.setIfInBounds i true) a w) → K' a w) → if Region.wanted o (yielded ops a.tmps) = true then Oper.wp P o a w K' Q else K' (a.put o.dst undef) w)
    (hr : Region.ready md ops listed = [i] := by kernel_rfl) (ho : ops[i]? = some o := by ((simp only [List.getElem?_toArray, List.getElem?_cons_succ, List.getElem?_cons_zero]); rfl)) : wpAnyH P md ops Q S (fuel + 1) listed a w :=
  wpAnyH_ready hr (by simp) (AllReadyH.cons ho h AllReadyH.nil)

end Go.Proofs.YtgjcniokgdicpaaGreatDoor
