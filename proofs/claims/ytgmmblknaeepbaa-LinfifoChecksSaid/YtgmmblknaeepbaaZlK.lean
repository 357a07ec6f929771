/- All orders of a queue's calls: what the reference's Orders goes through. -/
import Derived.Test.YtgmmblknaeepbaaZlN
namespace Go.Proofs.Ytgmmblknaeepbaa
open Go.RowKit

def cntO : Nat → Nat
  | 0 => 1
  | f + 1 => (f + 1) * cntO f + 1
def gO (n : Int) (rest : List Cl) (q : List (List Int)) : Nat → Nat → List Int
  | 0, _ => []
  | f + 1, i => match rest[i]? with
    | none => []
    | some c => if firstR rest c then (match nextR n c q with
        | some q' => ordersR n f (rest.eraseIdx i) q'
        | none => []) else []
theorem gO_succ {n : Int} {rest : List Cl} {q : List (List Int)} {f i : Nat} : gO n rest q (f + 1) i = match rest[i]? with
    | none => []
    | some c => if firstR rest c then (match nextR n c q with
        | some q' => ordersR n f (rest.eraseIdx i) q'
        | none => []) else [] := rfl
theorem ordersR_eq {n : Int} {f : Nat} {rest : List Cl} {q : List (List Int)} (h : rest.length ≤ f) : ordersR n f rest q = (List.range rest.length).flatMap (gO n rest q f) ++ endR rest q := by
  cases f with
  | zero =>
    have : rest = [] := List.eq_nil_of_length_eq_zero (by omega)
    subst this
    rfl
  | succ f => rfl
theorem len_flat {g : Nat → List Int} {B : Nat} (h : ∀ i, (g i).length ≤ B) : ∀ m, ((List.range m).flatMap g).length ≤ m * B
  | 0 => by simp
  | m + 1 => by
    have := len_flat h m
    have h2 := h m
    rw [List.range_succ, List.flatMap_append, List.length_append, Nat.succ_mul]
    simp only [List.flatMap_cons, List.flatMap_nil, List.append_nil]
    omega
theorem len_end (rest : List Cl) (q : List (List Int)) : (endR rest q).length ≤ 1 := by
  unfold endR
  split <;> simp
theorem len_gO {n : Int} {rest : List Cl} {q : List (List Int)} {f : Nat} (h : ∀ (rest : List Cl) (q : List (List Int)), rest.length ≤ f → (ordersR n f rest q).length ≤ cntO f) (hl : rest.length ≤ f + 1) (i : Nat) : (gO n rest q (f + 1) i).length ≤ cntO f := by
  rw [gO_succ]
  cases hi : rest[i]? with
  | none => simp
  | some c =>
    by_cases hf : firstR rest c = true
    · cases hx : nextR n c q with
      | none => simp [hf, hx]
      | some q' =>
        simp only [hf, if_true, hx]
        refine h _ _ ?_
        have := lf_lt hi
        rw [List.length_eraseIdx]
        split <;> omega
    · simp [hf]
theorem len_orders {n : Int} : ∀ (f : Nat) (rest : List Cl) (q : List (List Int)), rest.length ≤ f → (ordersR n f rest q).length ≤ cntO f
  | 0, rest, q, h => by
    rw [ordersR_eq h, show rest.length = 0 by omega]
    have := len_end rest q
    simp only [List.range_zero, List.flatMap_nil, List.nil_append, cntO]
    exact this
  | f + 1, rest, q, h => by
    rw [ordersR_eq h, List.length_append]
    have h1 := len_flat (fun i => len_gO (q := q) (len_orders (n := n) f) h i) rest.length
    have h2 := len_end rest q
    have h3 : rest.length * cntO f ≤ (f + 1) * cntO f := Nat.mul_le_mul_right _ h
    simp only [cntO]
    omega
theorem cnt_mono : ∀ {a b : Nat}, a ≤ b → cntO a ≤ cntO b
  | 0, 0, _ => Nat.le_refl _
  | 0, b + 1, _ => by simp [cntO]
  | a + 1, b + 1, h => by
    have h1 := cnt_mono (a := a) (b := b) (by omega)
    have h2 : (a + 1) * cntO a ≤ (b + 1) * cntO b := Nat.mul_le_mul h h1
    simp only [cntO]
    omega
theorem cnt_7 : cntO 7 ≤ 13700 := by decide
theorem flat_succ (g : Nat → List Int) (k : Nat) : (List.range (k + 1)).flatMap g = (List.range k).flatMap g ++ g k := by
  rw [List.range_succ, List.flatMap_append]
  simp
theorem first_snoc {rest : List Cl} {m : Nat} {d c : Cl} (h : rest[m]? = some d) : firstR (rest.take (m + 1)) c = (firstR (rest.take m) c && !befB d c) := by
  rw [take_snoc h]
  unfold firstR
  rw [List.all_append]
  simp
theorem all_opn_cnt {l : List Cl} : (((l.countP opn : Nat) : Int) == (l.length : Int)) = allOpn l := by
  unfold allOpn
  rw [Bool.eq_iff_iff]
  simp only [beq_iff_eq]
  constructor
  · intro h
    exact List.all_eq_true.2 (List.countP_eq_length.1 (by omega))
  · intro h
    have := List.countP_eq_length.2 (List.all_eq_true.1 h)
    omega
theorem opn_cnt {l : List Cl} {k : Nat} {x : Cl} (h : l[k]? = some x) : (l.take (k + 1)).countP opn = (l.take k).countP opn + if x.e < 0 then 1 else 0 := by
  rw [take_snoc h, List.countP_append]
  by_cases he : x.e < 0 <;> simp [opn, he]

/-- What comes of one call, tried next. -/
def NxtR (o : Option (List (List Int))) (W : World) (v14 v15 : Value) : Prop := (o = none ∧ v15 = .bool false) ∨ ∃ q' A c, o = some q' ∧ v15 = .bool true ∧ v14 = .slice A q'.length c ∧ q'.length ≤ c ∧ (A = none → c = 0) ∧ ItSl W W.heap.size A q'
def tryR (n : Int) (rest : List Cl) (c : Cl) (q : List (List Int)) : Option (List (List Int)) := if firstR rest c then nextR n c q else none
theorem NxtR.no {o : Option (List (List Int))} {W : World} {v : Value} (h : o = none) : NxtR o W v (.bool false) := .inl ⟨h, rfl⟩
theorem NxtR.of {n : Int} {rest : List Cl} {c : Cl} {q q' : List (List Int)} {W : World} {A : Option Addr} {cc : Nat} {b : Bool} (hf : firstR rest c = true) (h : nextR n c q = if b = true then some q' else none) (hc : q'.length ≤ cc) (hA : A = none → cc = 0) (hs : ItSl W W.heap.size A q') : NxtR (tryR n rest c q) W (.slice A q'.length cc) (.bool b) := by
  unfold tryR
  rw [if_pos hf, h]
  cases b with
  | false => exact .inl ⟨by simp, rfl⟩
  | true => exact .inr ⟨q', A, cc, by simp, rfl, rfl, hc, hA, hs⟩
theorem try_no {n : Int} {rest : List Cl} {c : Cl} {q : List (List Int)} (hf : firstR rest c = false) : tryR n rest c q = none := by
  unfold tryR
  rw [hf]
  rfl
theorem gO_eq {n : Int} {rest : List Cl} {q : List (List Int)} {f i : Nat} {c : Cl} (h : rest[i]? = some c) : gO n rest q (f + 1) i = match tryR n rest c q with
    | some q' => ordersR n f (rest.eraseIdx i) q'
    | none => [] := by
  rw [gO_succ, h]
  unfold tryR
  by_cases hf : firstR rest c = true <;> simp [hf]

/-! ### rows of calls: without one of them -/
theorem els_news {W : World} {N : Nat} {b off : Nat} {L : List El} (h : ElSl W N (some ⟨b, off, none⟩) L) : ∀ (k : Nat) (e : El), L[k]? = some e → ∀ j u, (elE.cells e)[j]? = some u → W.cell? ⟨b, off + (k * 7 + j), none⟩ = some u := fun k e he j u hu => by
  obtain ⟨_, b2, o2, hA, _, ⟨h0, h1, h2, h3, h4, h5, h6⟩, _⟩ := h k e he
  injection hA with hA
  injection hA with e1 e2 _
  subst e1 e2
  rw [← Nat.add_assoc]
  match j, hu with
  | 0, hu => simp [elE, El.cells] at hu; subst hu; exact h0
  | 1, hu => simp [elE, El.cells] at hu; subst hu; exact h1
  | 2, hu => simp [elE, El.cells] at hu; subst hu; exact h2
  | 3, hu => simp [elE, El.cells] at hu; subst hu; exact h3
  | 4, hu => simp [elE, El.cells] at hu; subst hu; exact h4
  | 5, hu => simp [elE, El.cells] at hu; subst hu; exact h5
  | 6, hu => simp [elE, El.cells] at hu; subst hu; exact h6
  | j + 7, hu => simp [elE, El.cells] at hu
theorem all_cells {α : Type} {E : Enc α} {W : World} {b off : Nat} {L : List α} (h : ∀ (k : Nat) (e : α), L[k]? = some e → ∀ j u, (E.cells e)[j]? = some u → W.cell? ⟨b, off + (k * E.size + j), none⟩ = some u) : ∀ (i : Nat) u, (E.all L)[i]? = some u → W.cell? ⟨b, off + i, none⟩ = some u := fun i u hu => by
  have hp := E.pos
  have hlt := get_lt hu
  rw [E.all_len] at hlt
  have hk : i / E.size < L.length := by
    rw [Nat.div_lt_iff_lt_mul hp]; exact hlt
  obtain ⟨e, he⟩ := get_some hk
  have hj : i % E.size < E.size := Nat.mod_lt _ hp
  have hi : i / E.size * E.size + i % E.size = i := by
    have := Nat.div_add_mod i E.size
    rw [Nat.mul_comm] at this
    exact this
  have h1 := E.all_get L _ e he _ hj
  rw [hi, hu] at h1
  have := h _ e he _ u h1.symm
  rwa [hi] at this
theorem erase_eq {α : Type} (L : List α) (i : Nat) : L.take i ++ L.drop (i + 1) = L.eraseIdx i := (List.eraseIdx_eq_take_drop_succ L i).symm

end Go.Proofs.Ytgmmblknaeepbaa
