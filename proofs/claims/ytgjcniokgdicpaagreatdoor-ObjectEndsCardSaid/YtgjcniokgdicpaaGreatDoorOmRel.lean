
/- One step of an operation: the document's and the program's, of any kind: of no program text. -/
import Derived.Test.YtgjcniokgdicpaaGreatDoorOmSim
namespace Go.Proofs.YtgjcniokgdicpaaGreatDoor
namespace Kc

/-- The document's step on what it keeps. -/
def stepR (c : Kc) (l : List Int) : Km :=
  let c1 := { c with steps := c.steps + 1 }
  if c.kd = 1 then c1.four l
  else if c.kd = 2 then (if c.op == 2 then c1.chenWriteR l else c1.chen l)
  else if c.kd = 3 then c1.seq l
  else if c.kd = 4 then c1.ringR' l
  else if c.kd = 5 then (if c.op == 2 then c1.cabWriteR l else c1.cabReadR l)
  else c1.fifoR' l
/-- What the document keeps of what the program keeps. -/
def Rel (c d : Kc) : Prop :=
  if c.kd = 2 ∧ c.op = 2 then ∃ v, d = c.asR v ∧ Rw (c.nr + 2) c v
  else if c.kd = 5 ∧ c.op = 2 then ∃ v, d = c.asR v ∧ Rw c.sl c v
  else if c.kd = 5 then d = c.cabRow ∧ c.ph ≤ 4 ∧ (c.B = 0 ∨ (c.B = 1 ∧ c.ph = 4))
  else d = c ∧ (c.kd = 4 → 0 ≤ c.A ∧ c.A < c.sl * 1048576) ∧ (c.kd = 6 → 0 ≤ c.A ∧ c.A < 2 * c.sl)
/-- The numbers of an object that may be. -/
def Fit (c : Kc) : Prop :=
  (c.kd = 1 ∨ c.kd = 2 ∨ c.kd = 3 ∨ c.kd = 4 ∨ c.kd = 5 ∨ c.kd = 6) ∧ 1 ≤ c.nr ∧ c.nr ≤ 4 ∧ (c.kd = 4 ∨ c.kd = 5 ∨ c.kd = 6 → 0 < c.sl) ∧ (c.kd = 5 → c.nr + 2 ≤ c.sl ∧ c.sl ≤ 16)
theorem rel_same {c : Kc} (h2 : c.kd ≠ 2 ∨ c.op ≠ 2) (h5 : c.kd ≠ 5) (h4 : c.kd = 4 → 0 ≤ c.A ∧ c.A < c.sl * 1048576) (h6 : c.kd = 6 → 0 ≤ c.A ∧ c.A < 2 * c.sl) : Rel c c := by
  unfold Rel
  rw [if_neg (by omega), if_neg (by omega), if_neg h5]
  exact ⟨rfl, h4, h6⟩
theorem rel_of {c d : Kc} (h2 : c.kd ≠ 2 ∨ c.op ≠ 2) (h5 : c.kd ≠ 5) (h : Rel c d) : d = c ∧ (c.kd = 4 → 0 ≤ c.A ∧ c.A < c.sl * 1048576) ∧ (c.kd = 6 → 0 ≤ c.A ∧ c.A < 2 * c.sl) := by
  unfold Rel at h
  rwa [if_neg (by omega), if_neg (by omega), if_neg h5] at h
/-- A step of the kinds four and seq: the document's and the program's are one. -/
theorem rel_four_seq {c d : Kc} {l : List Int} (hk : c.kd = 1 ∨ c.kd = 3) (h : Rel c d) : ∃ d', d.stepR l = (d', (c.step l).2) ∧ Rel (c.step l).1 d' := by
  obtain ⟨hd, _, _⟩ := rel_of (by omega) (by omega) h
  subst hd
  rcases hk with hk | hk
  · have e1 : d.step l = Kc.four { d with steps := d.steps + 1 } l := by unfold step; simp only; rw [if_pos hk]
    have e2 : d.stepR l = Kc.four { d with steps := d.steps + 1 } l := by unfold stepR; simp only; rw [if_pos hk]
    have ek : (Kc.four { d with steps := d.steps + 1 } l).1.kd = 1 := (same_four { d with steps := d.steps + 1 } l).1.trans hk
    rw [e1, e2]
    exact ⟨_, rfl, rel_same (by omega) (by omega) (by omega) (by omega)⟩
  · have e1 : d.step l = Kc.seq { d with steps := d.steps + 1 } l := by unfold step; simp only; rw [if_neg (by omega), if_neg (by omega), if_pos hk]
    have e2 : d.stepR l = Kc.seq { d with steps := d.steps + 1 } l := by unfold stepR; simp only; rw [if_neg (by omega), if_neg (by omega), if_pos hk]
    have ek : (Kc.seq { d with steps := d.steps + 1 } l).1.kd = 3 := (same_seq { d with steps := d.steps + 1 } l).1.trans hk
    rw [e1, e2]
    exact ⟨_, rfl, rel_same (by omega) (by omega) (by omega) (by omega)⟩
/-- A step of the kinds ring and fifo. -/
theorem rel_ring_fifo {c d : Kc} {l : List Int} (hk : c.kd = 4 ∨ c.kd = 6) (hs : 0 < c.sl) (h : Rel c d) : ∃ d', d.stepR l = (d', (c.step l).2) ∧ Rel (c.step l).1 d' := by
  obtain ⟨hd, h4, h6⟩ := rel_of (by omega) (by omega) h
  subst hd
  rcases hk with hk | hk
  · obtain ⟨hA, hA'⟩ := h4 hk
    have e1 : d.step l = Kc.ring { d with steps := d.steps + 1 } l := by unfold step; simp only; rw [if_neg (by omega), if_neg (by omega), if_neg (by omega), if_pos hk]
    have e2 : d.stepR l = Kc.ringR' { d with steps := d.steps + 1 } l := by unfold stepR; simp only; rw [if_neg (by omega), if_neg (by omega), if_neg (by omega), if_pos hk]
    have e3 := ring_is (c := { d with steps := d.steps + 1 }) (l := l) hs hA hA'
    have ek : (Kc.ring { d with steps := d.steps + 1 } l).1.kd = 4 := (same_ring { d with steps := d.steps + 1 } l).1.trans hk
    have es : (Kc.ring { d with steps := d.steps + 1 } l).1.sl = d.sl := (same_ring { d with steps := d.steps + 1 } l).2.2.2.1
    have eA := ring_A (c := { d with steps := d.steps + 1 }) (l := l) hs hA hA'
    rw [e1, e2, ← e3]
    exact ⟨_, rfl, rel_same (by omega) (by omega) (fun _ => by rw [es]; exact eA) (by omega)⟩
  · obtain ⟨hA, hA'⟩ := h6 hk
    have e1 : d.step l = Kc.fifo { d with steps := d.steps + 1 } l := by unfold step; simp only; rw [if_neg (by omega), if_neg (by omega), if_neg (by omega), if_neg (by omega), if_neg (by omega)]
    have e2 : d.stepR l = Kc.fifoR' { d with steps := d.steps + 1 } l := by unfold stepR; simp only; rw [if_neg (by omega), if_neg (by omega), if_neg (by omega), if_neg (by omega), if_neg (by omega)]
    have e3 := fifo_is (c := { d with steps := d.steps + 1 }) (l := l) hs hA hA'
    have ek : (Kc.fifo { d with steps := d.steps + 1 } l).1.kd = 6 := (same_fifo { d with steps := d.steps + 1 } l).1.trans hk
    have es : (Kc.fifo { d with steps := d.steps + 1 } l).1.sl = d.sl := (same_fifo { d with steps := d.steps + 1 } l).2.2.2.1
    have eA := fifo_A (c := { d with steps := d.steps + 1 }) (l := l) hs hA hA'
    rw [e1, e2, ← e3]
    exact ⟨_, rfl, rel_same (by omega) (by omega) (by omega) (fun _ => by rw [es]; exact eA)⟩
/-- A step of a write of the kinds chen and cab. -/
theorem rel_write {c d : Kc} {l : List Int} (hk : c.kd = 2 ∨ c.kd = 5) (ho : c.op = 2) (hn : 1 ≤ c.nr) (hn4 : c.nr ≤ 4) (h5 : c.kd = 5 → c.nr + 2 ≤ c.sl ∧ c.sl ≤ 16) (h : Rel c d) :
    ∃ d', d.stepR l = (d', (c.step l).2) ∧ Rel (c.step l).1 d' := by
  have hb : (c.op == 2) = true := by simp [ho]
  rcases hk with hk | hk
  · unfold Rel at h
    rw [if_pos ⟨hk, ho⟩] at h
    obtain ⟨v, hd, hw⟩ := h
    subst hd
    have e1 : c.step l = Kc.chen { c with steps := c.steps + 1 } l := by unfold step; simp only; rw [if_neg (by omega), if_pos hk]
    have e2 : (c.asR v).stepR l = Kc.chenWriteR (Kc.asR { c with steps := c.steps + 1 } v) l := by
      unfold stepR; simp only
      rw [if_neg (show ¬ (c.asR v).kd = 1 from by show ¬ c.kd = 1; omega), if_pos (show (c.asR v).kd = 2 from hk), if_pos (show ((c.asR v).op == 2) = true from hb)]
      rfl
    obtain ⟨v', e3, hw'⟩ := chen_is (c := { c with steps := c.steps + 1 }) (v := v) (l := l) hb hn4 hn ⟨hw.h0, hw.h1⟩
    have hS := same_chen { c with steps := c.steps + 1 } l
    have ek : (Kc.chen { c with steps := c.steps + 1 } l).1.kd = 2 := hS.1.trans hk
    have eo : (Kc.chen { c with steps := c.steps + 1 } l).1.op = 2 := hS.2.2.2.2.2.1.trans ho
    have en : (Kc.chen { c with steps := c.steps + 1 } l).1.nr = c.nr := hS.2.2.1
    rw [e1, e2, e3]
    refine ⟨_, rfl, ?_⟩
    unfold Rel
    rw [if_pos ⟨ek, eo⟩]
    exact ⟨v', rfl, by rw [en]; exact hw'⟩
  · unfold Rel at h
    rw [if_neg (by omega), if_pos ⟨hk, ho⟩] at h
    obtain ⟨v, hd, hw⟩ := h
    subst hd
    have e1 : c.step l = Kc.cab { c with steps := c.steps + 1 } l := by unfold step; simp only; rw [if_neg (by omega), if_neg (by omega), if_neg (by omega), if_neg (by omega), if_pos hk]
    have e2 : (c.asR v).stepR l = Kc.cabWriteR (Kc.asR { c with steps := c.steps + 1 } v) l := by
      have ek : (c.asR v).kd = 5 := hk
      unfold stepR; simp only
      rw [if_neg (by omega), if_neg (by omega), if_neg (by omega), if_neg (by omega), if_pos ek, if_pos (show ((c.asR v).op == 2) = true from hb)]
      rfl
    obtain ⟨v', e3, hw'⟩ := cab_write_is (c := { c with steps := c.steps + 1 }) (v := v) (l := l) hb (h5 hk).1 (Nat.le_trans (h5 hk).2 (by decide)) hn ⟨hw.h0, hw.h1⟩
    have hS := same_cab { c with steps := c.steps + 1 } l
    have ek : (Kc.cab { c with steps := c.steps + 1 } l).1.kd = 5 := hS.1.trans hk
    have eo : (Kc.cab { c with steps := c.steps + 1 } l).1.op = 2 := hS.2.2.2.2.2.1.trans ho
    have es : (Kc.cab { c with steps := c.steps + 1 } l).1.sl = c.sl := hS.2.2.2.1
    rw [e1, e2, e3]
    refine ⟨_, rfl, ?_⟩
    unfold Rel
    rw [if_neg (by omega), if_pos ⟨ek, eo⟩]
    exact ⟨v', rfl, by rw [es]; exact hw'⟩
/-- A step of a read of the kinds chen and cab. -/
theorem rel_read {c d : Kc} {l : List Int} (hk : c.kd = 2 ∨ c.kd = 5) (ho : c.op ≠ 2) (h : Rel c d) : ∃ d', d.stepR l = (d', (c.step l).2) ∧ Rel (c.step l).1 d' := by
  have hb : (c.op == 2) = false := by simp [ho]
  rcases hk with hk | hk
  · obtain ⟨hd, _, _⟩ := rel_of (Or.inr ho) (by omega) h
    subst hd
    have e1 : d.step l = Kc.chen { d with steps := d.steps + 1 } l := by unfold step; simp only; rw [if_neg (by omega), if_pos hk]
    have e2 : d.stepR l = Kc.chen { d with steps := d.steps + 1 } l := by
      unfold stepR; simp only; rw [if_neg (by omega), if_pos hk, hb]; rfl
    have hS := same_chen { d with steps := d.steps + 1 } l
    have ek : (Kc.chen { d with steps := d.steps + 1 } l).1.kd = 2 := hS.1.trans hk
    have eo : (Kc.chen { d with steps := d.steps + 1 } l).1.op = d.op := hS.2.2.2.2.2.1
    rw [e1, e2]
    exact ⟨_, rfl, rel_same (Or.inr (by rw [eo]; exact ho)) (by omega) (by omega) (by omega)⟩
  · unfold Rel at h
    rw [if_neg (by omega), if_neg (by omega), if_pos hk] at h
    obtain ⟨hd, hp, hB⟩ := h
    subst hd
    have e1 : c.step l = Kc.cab { c with steps := c.steps + 1 } l := by unfold step; simp only; rw [if_neg (by omega), if_neg (by omega), if_neg (by omega), if_neg (by omega), if_pos hk]
    have er : c.cabRow.kd = 5 := by unfold cabRow; split <;> exact hk
    have eb : (c.cabRow.op == 2) = false := by unfold cabRow; split <;> exact hb
    have ec : ({ c.cabRow with steps := c.cabRow.steps + 1 } : Kc) = Kc.cabRow { c with steps := c.steps + 1 } := by
      unfold cabRow
      by_cases h1 : c.B = 1
      · rw [if_pos h1, if_pos h1]
      · rw [if_neg h1, if_neg h1]
    have e2 : c.cabRow.stepR l = Kc.cabReadR (Kc.cabRow { c with steps := c.steps + 1 }) l := by
      unfold stepR; simp only
      rw [if_neg (by omega), if_neg (by omega), if_neg (by omega), if_neg (by omega), if_pos er, eb, ec]; rfl
    have e3 := cab_is (c := { c with steps := c.steps + 1 }) (l := l) hb hp hB
    have hK := cab_keep (c := { c with steps := c.steps + 1 }) (l := l) hb hp hB
    have hS := same_cab { c with steps := c.steps + 1 } l
    have ek : (Kc.cab { c with steps := c.steps + 1 } l).1.kd = 5 := hS.1.trans hk
    have eo : (Kc.cab { c with steps := c.steps + 1 } l).1.op = c.op := hS.2.2.2.2.2.1
    rw [e1, e2, e3]
    refine ⟨_, rfl, ?_⟩
    unfold Rel
    rw [if_neg (by omega), if_neg (by rw [eo]; omega), if_pos ek]
    exact ⟨rfl, hK⟩
/-- One step of any kind: the document's and the program's. -/
theorem rel_step {c d : Kc} {l : List Int} (hf : Fit c) (h : Rel c d) : ∃ d', d.stepR l = (d', (c.step l).2) ∧ Rel (c.step l).1 d' := by
  obtain ⟨hk, hn, hn4, hs, h5⟩ := hf
  by_cases h25 : c.kd = 2 ∨ c.kd = 5
  · by_cases ho : c.op = 2
    · exact rel_write h25 ho hn hn4 h5 h
    · exact rel_read h25 ho h
  · by_cases h13 : c.kd = 1 ∨ c.kd = 3
    · exact rel_four_seq h13 h
    · exact rel_ring_fifo (by omega) (hs (by omega)) h
/-- Such two answer alike. -/
theorem rel_says {c d : Kc} (h : Rel c d) : d.over = c.over ∧ d.code = c.code ∧ d.rc = c.rc ∧ d.steps = c.steps := by
  unfold Rel at h
  split at h
  · obtain ⟨v, rfl, _⟩ := h; exact ⟨rfl, rfl, rfl, rfl⟩
  · split at h
    · obtain ⟨v, rfl, _⟩ := h; exact ⟨rfl, rfl, rfl, rfl⟩
    · split at h
      · obtain ⟨rfl, _⟩ := h
        unfold cabRow; split <;> exact ⟨rfl, rfl, rfl, rfl⟩
      · obtain ⟨rfl, _⟩ := h; exact ⟨rfl, rfl, rfl, rfl⟩
/-- Such that have just begun are alike. -/
theorem rel_start {kd : Int} {wd nr sl cap : Nat} {op : Int} {rd base size : Nat} {rc : List Int} (hs : kd = 4 ∨ kd = 6 → 0 < sl) : Rel (start kd wd nr sl cap op rd base size rc) (start kd wd nr sl cap op rd base size rc) := by
  unfold Rel
  split
  · exact ⟨fun _ => false, rfl, fun _ _ _ => ⟨rfl, rfl⟩, fun h => absurd (show (0 : Nat) = 1 from h) (by decide)⟩
  · split
    · exact ⟨fun _ => false, rfl, fun _ _ _ => ⟨rfl, rfl⟩, fun h => absurd (show (0 : Nat) = 1 from h) (by decide)⟩
    · split
      · exact ⟨rfl, Nat.zero_le _, Or.inl rfl⟩
      · refine ⟨rfl, fun h => ?_, fun h => ?_⟩
        · have h' : 0 < sl := hs (Or.inl h)
          show (0 : Int) ≤ 0 ∧ (0 : Int) < sl * 1048576
          omega
        · have h' : 0 < sl := hs (Or.inr h)
          show (0 : Int) ≤ 0 ∧ (0 : Int) < 2 * sl
          omega

end Kc
end Go.Proofs.YtgjcniokgdicpaaGreatDoor
