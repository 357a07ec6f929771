/- An argument that is a slice, opened to a list. -/
import Derived.Test.YtgjcniokgdicpaaGreatDoorWalk
import Derived.ProofKit
import Derived.OpenShut
import Derived.ShutString
import Derived.ChangeOld
import Derived.Below
import Derived.Deep.Slices
import Derived.ChangeSame
namespace Go.Proofs.YtgjcniokgdicpaaGreatDoor
open Go.RowKit Go.ChangeShapes Go.WideShapes Go.ChangeAt

theorem exists_list {α : Type} (p : Nat → α → Prop) : ∀ n : Nat, (∀ i, i < n → ∃ x, p i x) → ∃ l : List α, l.length = n ∧ ∀ k x, l[k]? = some x → p k x
  | 0, _ => ⟨[], rfl, fun k x h => by simp at h⟩
  | n + 1, h => by
    obtain ⟨l, hl, hp⟩ := exists_list p n (fun i hi => h i (by omega))
    obtain ⟨x, hx⟩ := h n (by omega)
    refine ⟨l ++ [x], by simp [hl], fun k y hk => ?_⟩
    by_cases hkn : k < n
    · rw [List.getElem?_append_left (by omega)] at hk
      exact hp k y hk
    · rw [List.getElem?_append_right (by omega), hl] at hk
      have : k - n = 0 := by
        have := get_lt hk
        simp at this; omega
      have hkn' : k = n := by omega
      subst hkn'
      simp at hk
      subst hk
      exact hx

theorem sl_of_cells {α : Type} {E : Enc α} {w : World} {a : Addr} {l : List α} (h : ∀ k x, l[k]? = some x → ∀ j u, (E.cells x)[j]? = some u → w.cell? (a.add (k * E.size + j)) = some u) :
    SlOf E w w.heap.size (some a) l := by
  intro k x hk
  have h0 : ∃ y, l[0]? = some y := get_some (by have := get_lt hk; omega)
  obtain ⟨y, hy⟩ := h0
  have hs : 0 < (E.cells y).length := by rw [E.len]; exact E.pos
  obtain ⟨u, hu⟩ := get_some hs
  have hc := h 0 y hy 0 u hu
  have e0 : 0 * E.size + 0 = 0 := by simp
  rw [e0] at hc
  have hsp := World.cell?_spot hc
  have hb := cell_lt hc
  rw [add_block] at hb
  obtain ⟨b, off, spot⟩ := a
  have : spot = none := by simpa [Addr.add] using hsp
  subst this
  refine ⟨b, off, rfl, hb, fun j u hu => ?_⟩
  have := h k x hk j u hu
  rwa [Addr.add_lit] at this

section
variable {H : Type} {enc : TypeId × Value → H} {P : Program} {w : World} {base : Nat} {spare : Nat → Bool} {held : Bool}

theorem open_list {α : Type} {E : Enc α} {ok : α → Prop} {t e : TypeId} {v : Value} {fuel : Nat} {x : DataW H × List MemPlace} (ht : P.underlying t = some (.slice e)) (hC : P.cellsOf e = E.size)
    (hel : ∀ n cs y, DataW.trod enc P w base spare held n e cs = some y → ∃ z, cs = E.cells z ∧ ok z) (h : DataW.trod enc P w base spare held fuel t [v] = some x) :
    ∃ A c l, v = .slice A l.length c ∧ l.length ≤ c ∧ c ≤ maxLen ∧ SlOf E w w.heap.size A l ∧ ∀ y ∈ l, ok y := by
  rcases Go.Deep.open_slice ht h with ⟨hv, _⟩ | ⟨a, len, cap, m, n, D, Pl, hv, hb, hl, hm, hmm, rfl, hx⟩
  · simp at hv
    subst hv
    exact ⟨none, 0, [], rfl, by simp, by simp [maxLen], SlOf.nil, by simp⟩
  · simp at hv
    subst hv
    have hlm : len ≤ m := by rw [hmm]; split <;> omega
    obtain ⟨l, hll, hp⟩ := exists_list (fun i z => (∀ j u, (E.cells z)[j]? = some u → w.cell? (a.add (i * E.size + j)) = some u) ∧ ok z) len (fun i hi => by
      obtain ⟨cs, hc, ht'⟩ := hx i (by omega)
      obtain ⟨z, rfl, hok⟩ := hel _ _ _ ht'
      rw [hC] at hc
      obtain ⟨_, _, hcell⟩ := World.cells?_some hc
      refine ⟨z, fun j u hu => ?_, hok⟩
      have hj : j < E.size := by rw [← E.len z]; exact get_lt hu
      have := hcell j hj
      rw [add_add', hu] at this
      exact this)
    refine ⟨some a, cap, l, by rw [hll], by omega, hm, sl_of_cells (fun k x hk => (hp k x hk).1), fun y hy => ?_⟩
    obtain ⟨k, hk⟩ := List.getElem?_of_mem hy
    exact (hp k y hk).2

/-- Integers. -/
theorem open_int_list {q : IntKind} {t e : TypeId} {v : Value} {fuel : Nat} {x : DataW H × List MemPlace} (ht : P.underlying t = some (.slice e)) (he : P.underlying e = some (.int q)) (hC : P.cellsOf e = 1)
    (h : DataW.trod enc P w base spare held fuel t [v] = some x) :
    ∃ A c l, v = .slice A l.length c ∧ l.length ≤ c ∧ c ≤ maxLen ∧ SlOf (ints q) w w.heap.size A l ∧ ∀ y ∈ l, (Lit.int q y).wf = true :=
  open_list (E := ints q) ht hC (fun n cs y hy => by
    obtain ⟨z, rfl, _, hz⟩ := DataW.trod_int he hy
    exact ⟨z, rfl, hz⟩) h
end

end Go.Proofs.YtgjcniokgdicpaaGreatDoor
