
/- The writes of the kinds chen and cab: the document's notes against the program's marks: of no program text. -/
import Derived.Test.YtgjcniokgdicpaaGreatDoorOmRef
namespace Go.Proofs.YtgjcniokgdicpaaGreatDoor
namespace Kc

/-- The document's rows of a write of the kind chen. -/
def chenWriteR (c : Kc) (l : List Int) : Km :=
  match c.ph with
  | 0 => (({ c with used := noteR (c.nr + 2) c.used (c.rdm l 0) } : Kc).go 1, l)
  | 1 =>
    let c1 := { c with used := noteR (c.nr + 2) c.used (c.rdm l (1 + c.i)), i := c.i + 1 }
    (if c.nr ≤ c.i + 1 then ({ c1 with B := chooseR c1.used } : Kc).go 2 else c1, l)
  | 2 => c.word l (1 + c.nr + c.B.toNat * c.wd) (·.go 3)
  | 3 => (c.go 4, c.wrm l 0 c.B)
  | _ =>
    let l1 := if c.rdm l (1 + c.i) = (c.nr : Int) + 2 then c.wrm l (1 + c.i) c.B else l
    let c1 := { c with i := c.i + 1 }
    (if c.nr ≤ c.i + 1 then c1.fin 0 else c1, l1)
/-- What the document keeps of a write, and what the program does (R: how many records). -/
structure Rw (R : Nat) (c : Kc) (v : Nat → Bool) : Prop where
  h0 : c.ph = 0 → ∀ k, k < R → c.used k = false ∧ v k = false
  h1 : c.ph = 1 → c.i < c.nr ∧ ∃ ms : List Int, ms.length ≤ c.i ∧ (∀ k, k < R → c.used k = ms.any fun s => decide ((k : Int) = s)) ∧ ∀ k, k < R → v k = (c.used k || decide ((k : Int) = c.A))
/-- The document's state of the program's: it marks in its own way, and keeps no newest. -/
def asR (c : Kc) (v : Nat → Bool) : Kc := { c with used := v, A := 0 }
theorem scan_end {R : Nat} {c : Kc} {v : Nat → Bool} {s : Int} (hR : R ≤ 20) (hn : c.nr + 2 ≤ R) (hp : c.ph = 1) (h : Rw R c v) :
    ((c.mark s).mark c.A).free = chooseR (noteR R v s) := by
  obtain ⟨hi, ms, hl, hu, hv⟩ := h.h1 hp
  have hm := mark_is (c := c) (v := c.used) (R := R) (s := s) hR fun _ _ => rfl
  have hm2 := mark_is (c := c.mark s) (v := noteR R c.used s) (R := R) (s := c.A) hR hm
  have hq : ∀ k, k < R → ((c.mark s).mark c.A).used k = noteR R v s k := by
    intro k hk
    rw [hm2 k hk]
    unfold noteR
    rw [hv k hk]
    have e : (decide ((k : Int) = c.A) && decide (c.A < (R : Int))) = decide ((k : Int) = c.A) := by
      rw [← Bool.decide_and, decide_eq_decide]; omega
    rw [e, Bool.or_assoc, Bool.or_assoc, Bool.or_comm (decide ((k : Int) = c.A))]
  refine (free_is hR hq ?_).1
  obtain ⟨k, hk, hf⟩ := some_free R (s :: c.A :: ms) (by simp only [List.length_cons]; omega)
  refine ⟨k, hk, ?_⟩
  simp only [List.all_cons, Bool.and_eq_true, Bool.not_eq_true', List.all_eq_true, decide_eq_false_iff_not] at hf
  unfold noteR
  rw [hv k hk, hu k hk]
  simp only [Bool.or_eq_false_iff, decide_eq_false_iff_not, Bool.and_eq_false_iff, List.any_eq_false, decide_eq_true_eq]
  exact ⟨⟨fun x hx => hf.2.2 x hx, hf.2.1⟩, Or.inl hf.1⟩
theorem scan_go {R : Nat} {c : Kc} {v : Nat → Bool} {s : Int} (hR : R ≤ 20) (hp : c.ph = 1) (hi : c.i + 1 < c.nr) (h : Rw R c v) :
    Rw R { c.mark s with i := c.i + 1 } (noteR R v s) := by
  obtain ⟨_, ms, hl, hu, hv⟩ := h.h1 hp
  have hm := mark_is (c := c) (v := c.used) (R := R) (s := s) hR fun _ _ => rfl
  refine ⟨fun h0 => absurd (h0.symm.trans hp) (by decide), fun _ => ⟨hi, s :: ms, by simp only [List.length_cons]; omega, fun k hk => ?_, fun k hk => ?_⟩⟩
  · show (c.mark s).used k = _
    rw [hm k hk]; unfold noteR
    rw [hu k hk, List.any_cons]
    have e : (decide ((k : Int) = s) && decide (s < (R : Int))) = decide ((k : Int) = s) := by
      rw [← Bool.decide_and, decide_eq_decide]; omega
    rw [e, Bool.or_comm]
  · show noteR R v s k = ((c.mark s).used k || decide ((k : Int) = c.A))
    rw [hm k hk]; unfold noteR
    rw [hv k hk, Bool.or_assoc, Bool.or_assoc, Bool.or_comm (decide ((k : Int) = c.A))]
theorem word_t {c : Kc} {l : List Int} {frm : Nat} {last : Kc → Kc} (h : c.wr = true) : c.word l frm last = (if c.wd ≤ c.i + 1 then last { c with i := c.i + 1 } else { c with i := c.i + 1 }, c.wrm l (frm + c.i) (c.rc.getD c.i 0)) := by
  unfold word
  rw [h]
  rfl
theorem word_as {c : Kc} {l : List Int} {frm : Nat} {p : Nat} {v : Nat → Bool} (h : c.wr = true) : (c.asR v).word l frm (·.go p) = (((c.word l frm (·.go p)).1).asR v, (c.word l frm (·.go p)).2) := by
  rw [word_t h, word_t (c := c.asR v) h]
  have e : (c.asR v).wd = c.wd := rfl
  have e2 : (c.asR v).i = c.i := rfl
  rw [e, e2]
  by_cases hi : c.wd ≤ c.i + 1
  · rw [if_pos hi, if_pos hi]; rfl
  · rw [if_neg hi, if_neg hi]; rfl
theorem word_used {c : Kc} {l : List Int} {frm : Nat} {p : Nat} : (c.word l frm (·.go p)).1.ph = p ∨ (c.word l frm (·.go p)).1.ph = c.ph := by
  obtain ⟨X, l', e⟩ := word_is c l frm (·.go p)
  rw [e]; split
  · exact Or.inl rfl
  · exact Or.inr rfl
/-- A step of a write of the kind chen: the document's is the program's. -/
theorem chen_is {c : Kc} {v : Nat → Bool} {l : List Int} (h2 : (c.op == 2) = true) (hr : c.nr ≤ 4) (hn : 1 ≤ c.nr) (h : Rw (c.nr + 2) c v) :
    ∃ v', (c.asR v).chenWriteR l = ((c.chen l).1.asR v', (c.chen l).2) ∧ Rw (c.nr + 2) (c.chen l).1 v' := by
  have hR : c.nr + 2 ≤ 20 := by omega
  unfold chen chenWriteR
  simp only [h2, if_true]
  have ep : (c.asR v).ph = c.ph := rfl
  rw [ep]
  rcases hp : c.ph with _ | _ | _ | _ | n
  · refine ⟨noteR (c.nr + 2) v (c.rdm l 0), rfl, ⟨fun h0 => absurd h0 (by simp [go]), fun _ => ⟨hn, [], Nat.le_refl _, fun k hk => ?_, fun k hk => ?_⟩⟩⟩
    · exact (h.h0 hp k hk).1
    · show noteR (c.nr + 2) v (c.rdm l 0) k = (c.used k || decide ((k : Int) = c.rdm l 0))
      unfold noteR
      rw [(h.h0 hp k hk).1, (h.h0 hp k hk).2, ← Bool.decide_and, Bool.false_or, Bool.false_or, decide_eq_decide]
      omega
  · refine ⟨noteR (c.nr + 2) v (c.rdm l (1 + c.i)), ?_, ?_⟩
    · have hf := scan_end (s := c.rdm l (1 + c.i)) hR (Nat.le_refl _) hp h
      by_cases hi : c.nr ≤ c.i + 1
      · simp only [ge_iff_le, hi, if_true, asR, go]
        simp only [mark, free] at hf
        simp only [mark, free, hf]
        rfl
      · simp only [ge_iff_le, hi, if_false, asR, go, mark, hp] <;> rfl
    · by_cases hi : c.nr ≤ c.i + 1
      · simp only [ge_iff_le, hi, if_true]
        exact ⟨fun h0 => absurd h0 (by simp [go]), fun h0 => absurd h0 (by simp [go])⟩
      · simp only [ge_iff_le, hi, if_false]
        exact scan_go hR hp (by omega) h
  · refine ⟨v, word_as (by unfold wr; rw [h2]; rfl), ⟨fun h0 => ?_, fun h0 => ?_⟩⟩
    · rcases word_used (c := c) (l := l) (frm := 1 + c.nr + c.B.toNat * c.wd) (p := 3) with e | e
      · exact absurd (e.symm.trans h0) (by decide)
      · exact absurd (hp.symm.trans (e.symm.trans h0)) (by decide)
    · rcases word_used (c := c) (l := l) (frm := 1 + c.nr + c.B.toNat * c.wd) (p := 3) with e | e
      · exact absurd (e.symm.trans h0) (by decide)
      · exact absurd (hp.symm.trans (e.symm.trans h0)) (by decide)
  · exact ⟨v, rfl, ⟨fun h0 => absurd h0 (by simp [go]), fun h0 => absurd h0 (by simp [go])⟩⟩
  · refine ⟨v, ?_, ?_⟩
    · by_cases hi : c.nr ≤ c.i + 1
      · simp only [ge_iff_le, hi, if_true, asR]; rfl
      · simp only [ge_iff_le, hi, if_false, asR]; rfl
    · by_cases hi : c.nr ≤ c.i + 1
      · simp only [ge_iff_le, hi, if_true]
        exact ⟨fun h0 => absurd (show n + 1 + 1 + 1 + 1 = 0 from h0) (by omega), fun h0 => absurd (show n + 1 + 1 + 1 + 1 = 1 from h0) (by omega)⟩
      · simp only [ge_iff_le, hi, if_false]
        exact ⟨fun h0 => absurd (show n + 1 + 1 + 1 + 1 = 0 from h0) (by omega), fun h0 => absurd (show n + 1 + 1 + 1 + 1 = 1 from h0) (by omega)⟩
theorem scan_end0 {R : Nat} {c : Kc} {v : Nat → Bool} (hR : R ≤ 20) (hn : c.nr + 2 ≤ R) (hp : c.ph = 1) (h : Rw R c v) :
    (c.mark c.A).free = chooseR v := by
  obtain ⟨hi, ms, hl, hu, hv⟩ := h.h1 hp
  have hm := mark_is (c := c) (v := c.used) (R := R) (s := c.A) hR fun _ _ => rfl
  have hq : ∀ k, k < R → (c.mark c.A).used k = v k := by
    intro k hk
    rw [hm k hk, hv k hk]
    unfold noteR
    have e : (decide ((k : Int) = c.A) && decide (c.A < (R : Int))) = decide ((k : Int) = c.A) := by
      rw [← Bool.decide_and, decide_eq_decide]; omega
    rw [e]
  refine (free_is hR hq ?_).1
  obtain ⟨k, hk, hf⟩ := some_free R (c.A :: ms) (by simp only [List.length_cons]; omega)
  refine ⟨k, hk, ?_⟩
  simp only [List.all_cons, Bool.and_eq_true, Bool.not_eq_true', List.all_eq_true, decide_eq_false_iff_not] at hf
  rw [hv k hk, hu k hk]
  simp only [Bool.or_eq_false_iff, decide_eq_false_iff_not, List.any_eq_false, decide_eq_true_eq]
  exact ⟨fun x hx => hf.2 x hx, hf.1⟩
theorem scan_go0 {R : Nat} {c : Kc} {v : Nat → Bool} (hp : c.ph = 1) (hi : c.i + 1 < c.nr) (h : Rw R c v) :
    Rw R { c with i := c.i + 1 } v := by
  obtain ⟨_, ms, hl, hu, hv⟩ := h.h1 hp
  exact ⟨fun h0 => absurd (h0.symm.trans hp) (by decide), fun _ => ⟨hi, ms, Nat.le_succ_of_le hl, hu, hv⟩⟩
/-- The document's rows of a write of the kind cab. -/
def cabWriteR (c : Kc) (l : List Int) : Km :=
  match c.ph with
  | 0 => (({ c with used := noteR c.sl c.used (c.rdm l 0 % c.sl) } : Kc).go 1, l)
  | 1 =>
    let c1 := { c with used := if 0 < c.rdm l (1 + c.i) then noteR c.sl c.used (c.rdm l (1 + c.i) - 1) else c.used, i := c.i + 1 }
    (if c.nr ≤ c.i + 1 then ({ c1 with B := chooseR c1.used } : Kc).go 2 else c1, l)
  | 2 => c.word l (1 + c.nr + c.B.toNat * c.wd) (·.go 3)
  | _ => (c.fin 0, c.wrm l 0 c.B)
/-- A step of a write of the kind cab: the document's is the program's. -/
theorem cab_write_is {c : Kc} {v : Nat → Bool} {l : List Int} (h2 : (c.op == 2) = true) (hr : c.nr + 2 ≤ c.sl) (hR : c.sl ≤ 20) (hn : 1 ≤ c.nr) (h : Rw c.sl c v) :
    ∃ v', (c.asR v).cabWriteR l = ((c.cab l).1.asR v', (c.cab l).2) ∧ Rw c.sl (c.cab l).1 v' := by
  unfold cab cabWriteR
  simp only [h2, if_true]
  have ep : (c.asR v).ph = c.ph := rfl
  rw [ep]
  rcases hp : c.ph with _ | _ | _ | n
  · refine ⟨noteR c.sl v (c.rdm l 0 % c.sl), rfl, ⟨fun h0 => absurd h0 (by simp [go]), fun _ => ⟨hn, [], Nat.le_refl _, fun k hk => ?_, fun k hk => ?_⟩⟩⟩
    · exact (h.h0 hp k hk).1
    · show noteR c.sl v (c.rdm l 0 % c.sl) k = (c.used k || decide ((k : Int) = c.rdm l 0 % c.sl))
      unfold noteR
      rw [(h.h0 hp k hk).1, (h.h0 hp k hk).2, ← Bool.decide_and, Bool.false_or, Bool.false_or, decide_eq_decide]
      omega
  · have er : (c.asR v).rdm l (1 + (c.asR v).i) = c.rdm l (1 + c.i) := rfl
    have ei : (c.asR v).i = c.i := rfl
    have en : (c.asR v).nr = c.nr := rfl
    rw [er, ei, en]
    by_cases hz : 0 < c.rdm l (1 + c.i)
    · simp only [hz, if_true]
      refine ⟨noteR c.sl v (c.rdm l (1 + c.i) - 1), ?_, ?_⟩
      · have hf := scan_end (s := c.rdm l (1 + c.i) - 1) hR hr hp h
        by_cases hi : c.nr ≤ c.i + 1
        · simp only [ge_iff_le, hi, if_true, asR, go]
          simp only [mark, free] at hf
          simp only [mark, free, hf] <;> rfl
        · simp only [ge_iff_le, hi, if_false, asR, go, mark, hp] <;> rfl
      · by_cases hi : c.nr ≤ c.i + 1
        · simp only [ge_iff_le, hi, if_true]
          exact ⟨fun h0 => absurd h0 (by simp [go]), fun h0 => absurd h0 (by simp [go])⟩
        · simp only [ge_iff_le, hi, if_false]
          exact scan_go hR hp (by omega) h
    · simp only [hz, if_false]
      refine ⟨v, ?_, ?_⟩
      · have hf := scan_end0 hR hr hp h
        by_cases hi : c.nr ≤ c.i + 1
        · simp only [ge_iff_le, hi, if_true, asR, go]
          simp only [mark, free] at hf
          simp only [mark, free, hf] <;> rfl
        · simp only [ge_iff_le, hi, if_false, asR, go, mark, hp] <;> rfl
      · by_cases hi : c.nr ≤ c.i + 1
        · simp only [ge_iff_le, hi, if_true]
          exact ⟨fun h0 => absurd h0 (by simp [go]), fun h0 => absurd h0 (by simp [go])⟩
        · simp only [ge_iff_le, hi, if_false]
          exact scan_go0 hp (by omega) h
  · refine ⟨v, word_as (by unfold wr; rw [h2]; rfl), ⟨fun h0 => ?_, fun h0 => ?_⟩⟩
    · rcases word_used (c := c) (l := l) (frm := 1 + c.nr + c.B.toNat * c.wd) (p := 3) with e | e
      · exact absurd (e.symm.trans h0) (by decide)
      · exact absurd (hp.symm.trans (e.symm.trans h0)) (by decide)
    · rcases word_used (c := c) (l := l) (frm := 1 + c.nr + c.B.toNat * c.wd) (p := 3) with e | e
      · exact absurd (e.symm.trans h0) (by decide)
      · exact absurd (hp.symm.trans (e.symm.trans h0)) (by decide)
  · exact ⟨v, rfl, ⟨fun h0 => absurd (hp.symm.trans (show c.ph = 0 from h0)) (by omega), fun h0 => absurd (hp.symm.trans (show c.ph = 1 from h0)) (by omega)⟩⟩
theorem word_A {c : Kc} {l : List Int} {frm : Nat} {last : Kc → Kc} (h : ∀ d : Kc, (last d).A = d.A) : (c.word l frm last).1.A = c.A := by
  obtain ⟨X, l', e⟩ := word_is c l frm last
  rw [e]; split
  · rw [h]
  · rfl
/-- What a ring's operation keeps stays in its range. -/
theorem ring_A {c : Kc} {l : List Int} (hs : 0 < c.sl) (hA : 0 ≤ c.A) (hA' : c.A < c.sl * 1048576) : 0 ≤ (c.ring l).1.A ∧ (c.ring l).1.A < c.sl * 1048576 := by
  have hm : (0 : Int) < c.sl * 1048576 := by omega
  have h0 := Int.emod_nonneg (c.rdm l 0) (show (c.sl : Int) * 1048576 ≠ 0 by omega)
  have h1 := Int.emod_lt_of_pos (c.rdm l 0) hm
  unfold ring
  simp only
  split
  · simp only [go]
    split
    · unfold inc; split <;> omega
    · exact ⟨h0, h1⟩
  · rw [word_A (last := (·.go 2)) fun d => rfl]; exact ⟨hA, hA'⟩
  · split
    · exact ⟨hA, hA'⟩
    · simp only
      split
      · exact ⟨hA, hA'⟩
      · rw [fail_is]; split <;> exact ⟨hA, hA'⟩
/-- What a fifo's operation keeps stays in its range. -/
theorem fifo_A {c : Kc} {l : List Int} (hs : 0 < c.sl) (hA : 0 ≤ c.A) (hA' : c.A < 2 * c.sl) : 0 ≤ (c.fifo l).1.A ∧ (c.fifo l).1.A < 2 * c.sl := by
  have hm : (0 : Int) < 2 * c.sl := by omega
  unfold fifo
  simp only
  split
  · exact ⟨Int.emod_nonneg _ (by omega), Int.emod_lt_of_pos _ hm⟩
  · split <;> split <;> exact ⟨hA, hA'⟩
  · rw [word_A (last := (·.go 3)) fun d => rfl]; exact ⟨hA, hA'⟩
  · exact ⟨hA, hA'⟩
/-- What a read of the kind cab keeps, as long as it is not over. -/
theorem cab_keep {c : Kc} {l : List Int} (h2 : (c.op == 2) = false) (hp : c.ph ≤ 4) (hB : c.B = 0 ∨ (c.B = 1 ∧ c.ph = 4)) :
    (c.cab l).1.ph ≤ 4 ∧ ((c.cab l).1.B = 0 ∨ ((c.cab l).1.B = 1 ∧ (c.cab l).1.ph = 4)) := by
  have hB' : c.ph ≠ 4 → c.B = 0 := fun h => hB.elim id fun h' => absurd h'.2 h
  unfold cab
  simp only [h2, Bool.false_eq_true, if_false]
  rcases hq : c.ph with _ | _ | _ | _ | n
  · exact ⟨by simp [go], Or.inl (hB' (by omega))⟩
  · exact ⟨by simp [go], Or.inl (hB' (by omega))⟩
  · simp only
    have h0 := hB' (by omega)
    split
    · exact ⟨by simp [go], Or.inl h0⟩
    · rw [fail_is]; split
      · exact ⟨by simp [go], Or.inr ⟨rfl, rfl⟩⟩
      · exact ⟨by simp, Or.inl h0⟩
  · simp only
    have h0 := hB' (by omega)
    obtain ⟨X, l', e⟩ := word_is c l (1 + c.nr + c.A.toNat * c.wd) (·.go 4)
    rw [e]; split
    · exact ⟨by simp [go], Or.inl h0⟩
    · exact ⟨hp, Or.inl h0⟩
  · exact ⟨hp, hB⟩

end Kc
end Go.Proofs.YtgjcniokgdicpaaGreatDoor
