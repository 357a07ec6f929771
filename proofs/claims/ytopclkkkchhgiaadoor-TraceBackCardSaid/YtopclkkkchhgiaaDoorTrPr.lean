/- Traces: an events' text, and what is parsed of a text: of no program. -/
import Derived.Test.YtopclkkkchhgiaaDoorTrDef
namespace Go.Proofs.YtopclkkkchhgiaaDoor
open Go.RowKit

/-- A text's lines, each with its end, as strings.Lines goes through them. -/
def lns : List UInt8 → List (List UInt8)
  | [] => []
  | x :: l => if x = 10 then [10] :: lns l else (x :: (lns l).headD []) :: (lns l).tail
theorem lns_none (l : List UInt8) (hl : l ≠ []) (h : ∀ k : Nat, l[k]? ≠ some 10) : lns l = [l] := by
  induction l with
  | nil => exact (hl rfl).elim
  | cons x l ih =>
    have hx : x ≠ 10 := fun e => h 0 (by simp [e])
    unfold lns
    rw [if_neg hx]
    by_cases h0 : l = []
    · subst h0; rfl
    · rw [ih h0 (fun k hk => h (k + 1) (by simpa using hk))]
      rfl
theorem lns_some (l : List UInt8) (o : Nat) (h : l[o]? = some 10) (h2 : ∀ k : Nat, k < o → l[k]? ≠ some 10) : lns l = l.take (o + 1) :: lns (l.drop (o + 1)) := by
  induction l generalizing o with
  | nil => simp at h
  | cons x l ih =>
    cases o with
    | zero =>
      have hx : x = 10 := by simpa using h
      simp [lns, hx]
    | succ o =>
      have hx : x ≠ 10 := fun e => h2 0 (by omega) (by simp [e])
      have := ih o (by simpa using h) (fun k hk hk' => h2 (k + 1) (by omega) (by simpa using hk'))
      simp [lns, hx, this]
theorem first_or {c : UInt8} (l : List UInt8) : (∀ k : Nat, l[k]? ≠ some c) ∨ ∃ o : Nat, l[o]? = some c ∧ ∀ k : Nat, k < o → l[k]? ≠ some c := by
  induction l with
  | nil => exact .inl fun k h => by simp at h
  | cons x l ih =>
    by_cases hx : x = c
    · exact .inr ⟨0, by simp [hx], fun k hk => by omega⟩
    · rcases ih with h | ⟨o, h1, h2⟩
      · refine .inl fun k hk => ?_
        cases k with
        | zero => exact hx (by simpa using hk)
        | succ k => exact h k (by simpa using hk)
      · refine .inr ⟨o + 1, by simpa using h1, fun k hk hk' => ?_⟩
        cases k with
        | zero => exact hx (by simpa using hk')
        | succ k => exact h2 k (by omega) (by simpa using hk')

/-! ### parsed -/
structure Got where
  evs : List Ev
  at_ : Int
  err : Int

/-- As the program parses: line for line. -/
def parseL : List (List UInt8) → List Ev → Got
  | [], out => ⟨out, 0, 0⟩
  | x :: r, out => if Lib.hasSuffix x [10] = true then
      match readE (Lib.trimSuffix x [10]) with
      | none => ⟨[], out.length + 1, 4⟩
      | some e => parseL r (out ++ [e])
    else ⟨[], out.length + 1, 2⟩
/-- As the reference parses: piece for piece. -/
def parseR : List (List UInt8) → List Ev → Got
  | [], out => ⟨out, 0, 0⟩
  | x :: r, out => if r = [] then (if x = [] then ⟨out, 0, 0⟩ else ⟨[], out.length + 1, 2⟩) else
      match readE x with
      | none => ⟨[], out.length + 1, 4⟩
      | some e => parseR r (out ++ [e])
def parseE (s : List UInt8) : Got := parseL (lns s) []

theorem suffix_no (x : List UInt8) (h : ∀ k : Nat, x[k]? ≠ some 10) : Lib.hasSuffix x [10] = false := by
  cases hh : Lib.hasSuffix x [10] with
  | false => rfl
  | true =>
    exfalso
    obtain ⟨t, ht⟩ := List.isSuffixOf_iff_suffix.1 hh
    refine h t.length ?_
    rw [← ht]
    simp
theorem suffix_yes (x : List UInt8) : Lib.hasSuffix (x ++ [10]) [10] = true ∧ Lib.trimSuffix (x ++ [10]) [10] = x := by
  have h : Lib.hasSuffix (x ++ [10]) [10] = true := List.isSuffixOf_iff_suffix.2 ⟨x, rfl⟩
  refine ⟨h, ?_⟩
  unfold Lib.trimSuffix
  rw [if_pos h]
  simp
theorem take_at {l : List UInt8} {o : Nat} {c : UInt8} (h : l[o]? = some c) : l.take (o + 1) = l.take o ++ [c] := by
  rw [List.take_add_one, h]; rfl
theorem parse_both (n : Nat) : ∀ (s : List UInt8) (out : List Ev), s.length < n → parseR (pcs 10 s) out = parseL (lns s) out := by
  induction n with
  | zero => intro s out h; omega
  | succ n ih =>
    intro s out hn
    rcases first_or (c := 10) s with h | ⟨o, h1, h2⟩
    · rw [pcs_none 10 s h]
      by_cases h0 : s = []
      · subst h0; rfl
      · rw [lns_none s h0 h]
        unfold parseL parseR
        rw [suffix_no s h, if_pos rfl, if_neg h0, if_neg (by decide)]
    · have hlt := get_lt h1
      rw [pcs_some 10 s o h1 h2, lns_some s o h1 h2, take_at h1]
      obtain ⟨e1, e2⟩ := suffix_yes (s.take o)
      unfold parseL parseR
      rw [e1, e2, if_neg (pcs_ne _ _), if_pos rfl]
      cases readE (s.take o) with
      | none => rfl
      | some e => exact ih _ _ (by rw [List.length_drop]; omega)
theorem parseR_E (s : List UInt8) : parseR (pcs 10 s) [] = parseE s := parse_both (s.length + 1) s [] (by omega)

/-! ### printed -/
def textOf (l : List Ev) : List UInt8 := l.flatMap fun e => evLine e ++ [10]
def okAll (l : List Ev) : Bool := l.all evB
theorem textOf_snoc (l : List Ev) (e : Ev) : textOf (l ++ [e]) = textOf l ++ (evLine e ++ [10]) := by simp [textOf]
theorem evLine_no (e : Ev) : ∀ k : Nat, (evLine e)[k]? ≠ some 10 := by
  intro k hk
  have hm := List.mem_of_getElem? hk
  have hj : ∀ b ∈ Lib.join (evParts e) [32], b ≠ 10 := by
    intro b hb
    have hp := parts_no 10 (by decide) (by decide) (by decide) e
    simp only [evParts, Lib.join_cons, Lib.joinTail, List.map_cons, List.map_nil, List.flatten_cons, List.flatten_nil, List.mem_append, List.mem_cons, List.not_mem_nil, or_false] at hb
    have k32 : (32 : UInt8) ≠ 10 := by decide
    rcases hb with hb | (rfl | hb) | (rfl | hb) | (rfl | hb) | (rfl | hb)
    · exact hp _ (by simp [evParts]) b hb
    · exact k32
    · exact hp _ (by simp [evParts]) b hb
    · exact k32
    · exact hp _ (by simp [evParts]) b hb
    · exact k32
    · exact hp _ (by simp [evParts]) b hb
    · exact k32
    · exact hp _ (by simp [evParts]) b hb
  exact hj 10 hm rfl
theorem lns_line (p r : List UInt8) (h : ∀ k : Nat, p[k]? ≠ some 10) : lns (p ++ [10] ++ r) = (p ++ [10]) :: lns r := by
  rw [lns_some _ p.length (by simp) (fun k hk => by
    rw [List.append_assoc, List.getElem?_append_left hk]
    exact h k)]
  have e : p.length + 1 = (p ++ [10]).length := by simp
  rw [e, List.take_left, List.drop_left]
theorem parse_text (l : List Ev) (h : okAll l = true) : ∀ out, parseL (lns (textOf l)) out = ⟨out ++ l, 0, 0⟩ := by
  induction l with
  | nil => intro out; simp [textOf, lns, parseL]
  | cons e l ih =>
    intro out
    unfold okAll at h
    rw [List.all_cons, Bool.and_eq_true] at h
    have ht : textOf (e :: l) = evLine e ++ [10] ++ textOf l := by simp [textOf]
    obtain ⟨e1, e2⟩ := suffix_yes (evLine e)
    rw [ht, lns_line _ _ (evLine_no e)]
    unfold parseL
    rw [e1, e2, if_pos rfl, read_line (evB_iff.1 h.1)]
    simp only
    rw [ih h.2]
    simp
theorem lns_all (n : Nat) : ∀ s : List UInt8, s.length < n → (lns s).flatten = s := by
  induction n with
  | zero => intro s h; omega
  | succ n ih =>
    intro s hn
    rcases first_or (c := 10) s with h | ⟨o, h1, h2⟩
    · by_cases h0 : s = []
      · subst h0; rfl
      · rw [lns_none s h0 h]; simp
    · have := get_lt h1
      rw [lns_some s o h1 h2, List.flatten_cons, ih _ (by rw [List.length_drop]; omega), List.take_append_drop]
theorem parsed (ls : List (List UInt8)) : ∀ out, okAll out = true →
    ((parseL ls out).err = 0 ∧ (parseL ls out).at_ = 0 ∧ okAll (parseL ls out).evs = true ∧ textOf (parseL ls out).evs = textOf out ++ ls.flatten) ∨ ((parseL ls out).err ≠ 0 ∧ (parseL ls out).evs = []) := by
  induction ls with
  | nil => intro out h; exact .inl ⟨rfl, rfl, h, by simp [parseL]⟩
  | cons x r ih =>
    intro out h
    unfold parseL
    by_cases hs : Lib.hasSuffix x [10] = true
    · rw [if_pos hs]
      cases hr : readE (Lib.trimSuffix x [10]) with
      | none => exact .inr ⟨by simp, rfl⟩
      | some e =>
        obtain ⟨h1, h2⟩ := readBy_some hr
        have hx : x = evLine e ++ [10] := by
          obtain ⟨t, ht⟩ := List.isSuffixOf_iff_suffix.1 hs
          rw [← ht] at h2 ⊢
          rw [(suffix_yes t).2] at h2
          rw [h2]
        have hok : okAll (out ++ [e]) = true := by
          unfold okAll at h ⊢
          rw [List.all_append, h, List.all_cons, evB_iff.2 h1]
          rfl
        rcases ih (out ++ [e]) hok with ⟨g1, g2, g3, g4⟩ | g
        · refine .inl ⟨g1, g2, g3, ?_⟩
          simp only
          rw [g4, textOf_snoc, hx]
          simp
        · exact .inr g
    · rw [if_neg hs]
      exact .inr ⟨by simp, rfl⟩
/-- What is parsed is printed so; where there is an error nothing was parsed. -/
theorem parse_back (s : List UInt8) : ((parseE s).err = 0 ∧ okAll (parseE s).evs = true ∧ textOf (parseE s).evs = s) ∨ ((parseE s).err ≠ 0 ∧ (parseE s).evs = []) := by
  rcases parsed (lns s) [] rfl with ⟨h1, _, h2, h3⟩ | h
  · refine .inl ⟨h1, h2, ?_⟩
    unfold parseE
    rw [h3, lns_all (s.length + 1) s (by omega)]
    rfl
  · exact .inr h
/-- Right events come back from their text. -/
theorem text_back (l : List Ev) (h : okAll l = true) : parseE (textOf l) = ⟨l, 0, 0⟩ := by
  unfold parseE
  rw [parse_text l h]
  rfl

end Go.Proofs.YtopclkkkchhgiaaDoor
