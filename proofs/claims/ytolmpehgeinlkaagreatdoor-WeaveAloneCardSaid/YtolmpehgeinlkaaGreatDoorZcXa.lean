/- Looms that are finished, and operations alone. -/
import Derived.Test.YtolmpehgeinlkaaGreatDoorZcI
import Derived.Test.YtolmpehgeinlkaaGreatDoorZcWe
import Derived.Test.YtolmpehgeinlkaaGreatDoorZcOgT
import Derived.Test.YtolmpehgeinlkaaGreatDoorZcWu
import Derived.Deep.LoopGhost
namespace Go.Proofs.YtolmpehgeinlkaaGreatDoor
namespace Kc
theorem left_zero {c : Kc} : c.left = 0 ↔ c.over = true := by
  unfold left
  constructor
  · intro h
    cases ho : c.over
    · rw [ho] at h
      simp only [Bool.false_eq_true, if_false] at h
      repeat' split at h
      all_goals first
        | (unfold leftFour at h; split at h <;> split at h <;> omega)
        | (unfold leftChen at h; split at h <;> split at h <;> omega)
        | (unfold leftSeq at h; split at h <;> split at h <;> omega)
        | (unfold leftRing at h; split at h <;> split at h <;> omega)
        | (unfold leftCab at h; split at h <;> split at h <;> omega)
        | (unfold leftFifo at h; split at h <;> omega)
    · rfl
  · intro h; rw [h, if_pos rfl]
end Kc
theorem boundZ_four {o : Ob} (op : Int) (h : fourR o) : boundZ o op = (if op = 2 then o.wd + 4 else if op = 1 then o.wd + 3 else 0) := by
  obtain ⟨k1, k2, k3, k4, k5, k6⟩ := @kind_of o
  unfold boundZ
  rw [if_pos h]
theorem boundZ_chen {o : Ob} (op : Int) (h : chenR o) : boundZ o op = (if op = 2 then o.wd + 2 * o.nr + 2 else if op = 1 then o.wd + 4 else 0) := by
  obtain ⟨k1, k2, k3, k4, k5, k6⟩ := @kind_of o
  unfold boundZ
  rw [if_neg (fun q => absurd (k1 q) (by have := k2 h; omega)), if_pos h]
theorem boundZ_seq {o : Ob} (op : Int) (h : seqR o) : boundZ o op = (if op = 2 then o.wd + 3 else if op = 1 then o.c * (o.wd + 2) else 0) := by
  obtain ⟨k1, k2, k3, k4, k5, k6⟩ := @kind_of o
  unfold boundZ
  rw [if_neg (fun q => absurd (k1 q) (by have := k3 h; omega)), if_neg (fun q => absurd (k2 q) (by have := k3 h; omega)), if_pos h]
theorem boundZ_ring {o : Ob} (op : Int) (h : ringR o) : boundZ o op = (if op = 2 then o.wd + 2 else if op = 1 then o.c * (o.wd + 2) else 0) := by
  obtain ⟨k1, k2, k3, k4, k5, k6⟩ := @kind_of o
  unfold boundZ
  rw [if_neg (fun q => absurd (k1 q) (by have := k4 h; omega)), if_neg (fun q => absurd (k2 q) (by have := k4 h; omega)), if_neg (fun q => absurd (k3 q) (by have := k4 h; omega)), if_pos h]
theorem boundZ_cab {o : Ob} (op : Int) (h : cabR o) : boundZ o op = (if op = 2 then o.wd + o.nr + 2 else if op = 1 then 3 * o.c + o.wd + 1 else 0) := by
  obtain ⟨k1, k2, k3, k4, k5, k6⟩ := @kind_of o
  unfold boundZ
  rw [if_neg (fun q => absurd (k1 q) (by have := k5 h; omega)), if_neg (fun q => absurd (k2 q) (by have := k5 h; omega)), if_neg (fun q => absurd (k3 q) (by have := k5 h; omega)), if_neg (fun q => absurd (k4 q) (by have := k5 h; omega)), if_pos h]
theorem boundZ_fifo {o : Ob} (op : Int) (h : fifoR o) : boundZ o op = (if op = 3 ∨ op = 4 then o.wd + 3 else 0) := by
  obtain ⟨k1, k2, k3, k4, k5, k6⟩ := @kind_of o
  unfold boundZ
  rw [if_neg (fun q => absurd (k1 q) (by have := k6 h; omega)), if_neg (fun q => absurd (k2 q) (by have := k6 h; omega)), if_neg (fun q => absurd (k3 q) (by have := k6 h; omega)), if_neg (fun q => absurd (k4 q) (by have := k6 h; omega)), if_neg (fun q => absurd (k5 q) (by have := k6 h; omega)), if_pos h]
theorem most_is {o : Ob} {at' op rd : Int} {r : List Int} (h : begE o at' op rd r.length = 0) : boundZ o op = ((Kc.most o.k o.wd.toNat o.nr o.c.toNat op : Nat) : Int) := by
  obtain ⟨hS, hR, _, _, hc⟩ := kc0_sta h
  obtain ⟨p1, p2, p3⟩ := any_pos hR
  have hop5 := hS.op5
  have hop6 := hS.op6
  have e5 : o.k ≠ 6 → op = 2 ∨ op = 1 := hop5
  have e6 : o.k = 6 → op = 3 ∨ op = 4 := hop6
  have hm : ((o.c.toNat * (o.wd.toNat + 2) : Nat) : Int) = o.c * (o.wd + 2) := by
    rw [Int.natCast_mul, Int.natCast_add, Int.toNat_of_nonneg p2, Int.toNat_of_nonneg p3]
    rfl
  rcases any_cases hR with ⟨q, h1⟩ | ⟨q, h1⟩ | ⟨q, h1⟩ | ⟨q, h1⟩ | ⟨q, h1⟩ | ⟨q, h1⟩
  · rw [boundZ_four op h1, q]
    rcases e5 (by omega) with e | e <;> subst e
    · show o.wd + 4 = ((o.wd.toNat + 4 : Nat) : Int); omega
    · show o.wd + 3 = ((o.wd.toNat + 3 : Nat) : Int); omega
  · rw [boundZ_chen op h1, q]
    rcases e5 (by omega) with e | e <;> subst e
    · show o.wd + 2 * (o.nr : Int) + 2 = ((o.wd.toNat + 2 * o.nr + 2 : Nat) : Int); omega
    · show o.wd + 4 = ((o.wd.toNat + 4 : Nat) : Int); omega
  · rw [boundZ_seq op h1, q]
    rcases e5 (by omega) with e | e <;> subst e
    · show o.wd + 3 = ((o.wd.toNat + 3 : Nat) : Int); omega
    · show o.c * (o.wd + 2) = ((o.c.toNat * (o.wd.toNat + 2) : Nat) : Int); exact hm.symm
  · rw [boundZ_ring op h1, q]
    rcases e5 (by omega) with e | e <;> subst e
    · show o.wd + 2 = ((o.wd.toNat + 2 : Nat) : Int); omega
    · show o.c * (o.wd + 2) = ((o.c.toNat * (o.wd.toNat + 2) : Nat) : Int); exact hm.symm
  · rw [boundZ_cab op h1, q]
    rcases e5 (by omega) with e | e <;> subst e
    · show o.wd + (o.nr : Int) + 2 = ((o.wd.toNat + o.nr + 2 : Nat) : Int); omega
    · show 3 * o.c + o.wd + 1 = ((3 * o.c.toNat + o.wd.toNat + 1 : Nat) : Int); omega
  · rw [boundZ_fifo op h1, if_pos (e6 q), q]
    show o.wd + 3 = ((o.wd.toNat + 3 : Nat) : Int)
    omega

end Go.Proofs.YtolmpehgeinlkaaGreatDoor
namespace Go.Proofs.YtolmpehgeinlkaaGreatDoor

namespace Kc
section
variable {c : Kc} {l : List Int}
theorem wrm_w (hl : W32 l) (k : Nat) {v : Int} (h0 : 0 ≤ v) (h1 : v < 4294967296) : W32 (c.wrm l k v) := hl.set _ ⟨h0, h1⟩
theorem wmem_w (hl : W32 l) (hr : W32 c.rc) (frm : Nat) : W32 (c.wmem l frm) := by
  unfold wmem
  split
  · refine hl.set _ ?_
    rw [List.getD_eq_getElem?_getD]
    cases e : c.rc[c.i]? with
    | none => exact ⟨Int.le_refl _, by show (0 : Int) < _; omega⟩
    | some z => exact hr.get e
  · exact hl
theorem step_w (hI : Inv c) (hl : W32 l) : W32 (c.step l).2 := by
  have S := hI.sta
  have hr := hI.gen.w32
  have hw : ∀ frm, W32 (wmem { c with steps := c.steps + 1 } l frm) := fun frm => wmem_w hl hr frm
  have n4 := S.nr4
  have s16 := S.sl16
  rcases S.kd with q | q | q | q | q | q
  · have e : c.step l = four { c with steps := c.steps + 1 } l := by simp [Kc.step, q]
    obtain ⟨hA, hB, _⟩ := hI.d1 q
    rw [e]
    unfold four
    cases h2 : (c.op == 2)
    · rcases hph : c.ph with _ | _ | _ | n
      · exact hl
      · exact wrm_w hl _ (v := c.A) (by omega) (by omega)
      · exact hl
      · simp only [word_eq, Bool.false_eq_true, if_false]
        exact hw _
    · rcases hph : c.ph with _ | _ | _ | _ | n
      · exact hl
      · exact hl
      · simp only [word_eq, if_true]
        exact hw _
      · exact wrm_w hl _ (v := c.B) (by omega) (by omega)
      · exact wrm_w hl _ (v := c.A) (by omega) (by omega)
  · have e : c.step l = chen { c with steps := c.steps + 1 } l := by simp [Kc.step, q]
    obtain ⟨hA, hB, _⟩ := hI.d2 q
    rw [e]
    unfold chen
    cases h2 : (c.op == 2)
    · rcases hph : c.ph with _ | _ | _ | _ | n
      · exact wrm_w hl _ (v := (c.nr + 2 : Int)) (by omega) (by omega)
      · exact hl
      · simp only [Bool.false_eq_true, if_false]
        split
        · exact wrm_w hl _ (v := c.A) (by omega) (by omega)
        · exact hl
      · exact hl
      · simp only [word_eq, Bool.false_eq_true, if_false]
        exact hw _
    · rcases hph : c.ph with _ | _ | _ | _ | n
      · exact hl
      · simp only [if_true]
        split <;> exact hl
      · simp only [word_eq, if_true]
        exact hw _
      · exact wrm_w hl _ (v := c.B) (by omega) (by omega)
      · simp only [if_true]
        split
        · exact wrm_w hl _ (v := c.B) (by omega) (by omega)
        · exact hl
  · have e : c.step l = seq { c with steps := c.steps + 1 } l := by simp [Kc.step, q]
    rw [e]
    unfold seq
    have h1 := Int.emod_nonneg (c.A + 1) (show (4294967296 : Int) ≠ 0 by decide)
    have h2 := Int.emod_lt_of_pos (c.A + 1) (show (0 : Int) < 4294967296 by decide)
    have h3 := Int.emod_nonneg (c.A + 2) (show (4294967296 : Int) ≠ 0 by decide)
    have h4 := Int.emod_lt_of_pos (c.A + 2) (show (0 : Int) < 4294967296 by decide)
    cases h2 : (c.op == 2)
    · rcases hph : c.ph with _ | _ | n
      · exact hl
      · simp only [word_eq, Bool.false_eq_true, if_false]
        exact hw _
      · exact hl
    · rcases hph : c.ph with _ | _ | _ | n
      · exact hl
      · exact wrm_w hl _ (v := (c.A + 1) % 4294967296) h1 (by assumption)
      · simp only [word_eq, if_true]
        exact hw _
      · exact wrm_w hl _ (v := (c.A + 2) % 4294967296) h3 h4
  · have e : c.step l = ring { c with steps := c.steps + 1 } l := by simp [Kc.step, q]
    obtain ⟨hA, hB, _⟩ := hI.d4 q
    rw [e]
    unfold ring
    rcases hph : c.ph with _ | _ | n
    · exact hl
    · simp only [word_eq]
      exact hw _
    · simp only
      split
      · exact wrm_w hl _ (v := c.A) (by omega) (by omega)
      · exact hl
  · have e : c.step l = cab { c with steps := c.steps + 1 } l := by simp [Kc.step, q]
    obtain ⟨hA, hB, _⟩ := hI.d5 q
    rw [e]
    unfold cab
    have h1 := Int.emod_nonneg (c.A + 1) (show (4294967296 : Int) ≠ 0 by decide)
    have h2 := Int.emod_lt_of_pos (c.A + 1) (show (0 : Int) < 4294967296 by decide)
    cases h2 : (c.op == 2)
    · rcases hph : c.ph with _ | _ | _ | _ | n
      · exact hl
      · exact wrm_w hl _ (v := (c.A + 1) % 4294967296) h1 (by assumption)
      · exact hl
      · simp only [word_eq, Bool.false_eq_true, if_false]
        exact hw _
      · exact wrm_w hl _ (v := 0) (by omega) (by omega)
    · rcases hph : c.ph with _ | _ | _ | n
      · exact hl
      · simp only [if_true]
        split
        · split <;> exact hl
        · split <;> exact hl
      · simp only [word_eq, if_true]
        exact hw _
      · exact wrm_w hl _ (v := c.B) (by omega) (by omega)
  · have e : c.step l = fifo { c with steps := c.steps + 1 } l := by simp [Kc.step, q]
    obtain ⟨hA, _⟩ := hI.d6 q
    rw [e]
    unfold fifo
    rcases hph : c.ph with _ | _ | _ | n
    · exact hl
    · simp only
      split <;> exact hl
    · simp only [word_eq]
      exact hw _
    · have h1 : 0 ≤ inc c.A (2 * c.sl) ∧ inc c.A (2 * c.sl) < 4294967296 := by
        unfold inc
        split <;> omega
      exact wrm_w hl _ h1.1 h1.2
end
end Kc
namespace Kc
/-- An operation while nobody else is under way: what it keeps is what lies there. -/
structure Al (c : Kc) (l : List Int) : Prop where
  cd : c.code ≠ 1
  s3 : c.kd = 3 → (c.over = true → l.getD 0 0 % 2 = 0) ∧ (c.over = false → (c.op = 2 → (c.ph = 0 → l.getD 0 0 % 2 = 0) ∧ (1 ≤ c.ph → c.A % 2 = 0)) ∧ (c.op ≠ 2 → l.getD 0 0 % 2 = 0 ∧ (1 ≤ c.ph → c.A = l.getD 0 0)))
  s4 : c.kd = 4 → c.over = false → c.op ≠ 2 → 1 ≤ c.ph → c.A = l.getD 0 0 % (c.sl * 1048576)
  s5 : c.kd = 5 → c.over = false → c.op ≠ 2 → c.B = 0 ∧ (1 ≤ c.ph → c.ph ≤ 2 → c.A = l.getD 0 0 % c.sl)
section
variable {c : Kc} {l : List Int}
theorem wmem0 {frm : Nat} (hb : c.base = 0) (hf : 1 ≤ frm) : (c.wmem l frm).getD 0 0 = l.getD 0 0 := by
  unfold wmem wrm
  split
  · rw [List.getD_eq_getElem?_getD, List.getElem?_set_ne (by omega), ← List.getD_eq_getElem?_getD]
  · rfl
theorem wrm0 {k : Nat} {v : Int} (hb : c.base = 0) (hf : 1 ≤ k) : (c.wrm l k v).getD 0 0 = l.getD 0 0 := by
  unfold wrm
  rw [List.getD_eq_getElem?_getD, List.getElem?_set_ne (by omega), ← List.getD_eq_getElem?_getD]
theorem cd1 (h : c.code ≠ 1) : (c.four l).1.code ≠ 1 := by
  unfold four
  have h0 : (0 : Int) ≠ 1 := by decide
  cases (c.op == 2)
  · rcases c.ph with _ | _ | _ | n <;> first | exact h | (simp only [word_eq, Bool.false_eq_true, if_false]; split <;> first | exact h0 | exact h)
  · rcases c.ph with _ | _ | _ | _ | n <;> first | exact h | exact h0 | (simp only [word_eq, if_true]; split <;> exact h)
theorem cd2 (h : c.code ≠ 1) : (c.chen l).1.code ≠ 1 := by
  unfold chen
  have h0 : (0 : Int) ≠ 1 := by decide
  cases (c.op == 2)
  · rcases c.ph with _ | _ | _ | _ | n <;> first | exact h | (simp only [word_eq, Bool.false_eq_true, if_false]; split <;> first | exact h0 | exact h)
  · rcases c.ph with _ | _ | _ | _ | n <;> first | exact h | (simp only [word_eq, if_true]; split <;> first | exact h0 | exact h)
theorem cd6 (h : c.code ≠ 1) : (c.fifo l).1.code ≠ 1 := by
  unfold fifo
  have h0 : (0 : Int) ≠ 1 := by decide
  have h2 : (2 : Int) ≠ 1 := by decide
  have h3 : (3 : Int) ≠ 1 := by decide
  rcases c.ph with _ | _ | _ | n
  · exact h
  · simp only
    cases (c.op == 3)
    · simp only [Bool.false_eq_true, if_false]
      split
      · exact h3
      · exact h
    · simp only [if_true]
      split
      · exact h2
      · exact h
  · simp only [word_eq]; split <;> exact h
  · exact h0
theorem al3 (h : c.Al l) (hk : c.kd = 3) (hb : c.base = 0) (ho : c.over = false) (hop : c.op = 2 ∨ c.op = 1) : Al (c.seq l).1 (c.seq l).2 := by
  obtain ⟨_, hw'⟩ := h.s3 hk
  obtain ⟨h2, h1⟩ := hw' ho
  have hz : c.rdm l 0 = l.getD 0 0 := by unfold rdm; rw [hb]
  have no4 : ∀ d : Kc, d.kd = c.kd → d.kd ≠ 4 := fun d e => by omega
  have no5 : ∀ d : Kc, d.kd = c.kd → d.kd ≠ 5 := fun d e => by omega
  have mk : ∀ (d : Kc) (m : List Int), d.kd = c.kd → d.code ≠ 1 → ((d.over = true → m.getD 0 0 % 2 = 0) ∧ (d.over = false → (d.op = 2 → (d.ph = 0 → m.getD 0 0 % 2 = 0) ∧ (1 ≤ d.ph → d.A % 2 = 0)) ∧ (d.op ≠ 2 → m.getD 0 0 % 2 = 0 ∧ (1 ≤ d.ph → d.A = m.getD 0 0)))) → Al d m := fun d m e a b => ⟨a, fun _ => b, fun q => absurd q (no4 d e), fun q => absurd q (no5 d e)⟩
  unfold seq
  rcases hop with e | e
  · rw [if_pos (by rw [e]; decide)]
    obtain ⟨a0, a1⟩ := h2 e
    rcases hph : c.ph with _ | _ | _ | n
    · exact mk _ _ rfl h.cd ⟨fun q => absurd (ho.symm.trans q) (by decide), fun _ => ⟨fun _ => ⟨fun q => absurd q (by show (1 : Nat) ≠ 0; decide), fun _ => by show c.rdm l 0 % 2 = 0; rw [hz]; exact a0 hph⟩, fun q => absurd e q⟩⟩
    · exact mk _ _ rfl h.cd ⟨fun q => absurd (ho.symm.trans q) (by decide), fun _ => ⟨fun _ => ⟨fun q => absurd q (by show (2 : Nat) ≠ 0; decide), fun _ => a1 (by omega)⟩, fun q => absurd e q⟩⟩
    · simp only [word_eq]
      split
      · exact mk _ _ rfl h.cd ⟨fun q => absurd (ho.symm.trans q) (by decide), fun _ => ⟨fun _ => ⟨fun q => absurd q (by show (3 : Nat) ≠ 0; decide), fun _ => a1 (by omega)⟩, fun q => absurd e q⟩⟩
      · exact mk _ _ rfl h.cd ⟨fun q => absurd (ho.symm.trans q) (by decide), fun _ => ⟨fun _ => ⟨fun q => absurd (show c.ph = 0 from q) (by omega), fun _ => a1 (by omega)⟩, fun q => absurd e q⟩⟩
    · refine mk _ _ rfl (show (0 : Int) ≠ 1 by decide) ⟨fun _ => ?_, fun q => absurd (show true = false from q) (by decide)⟩
      have := a1 (by omega)
      show (c.wrm l 0 ((c.A + 2) % 4294967296)).getD 0 0 % 2 = 0
      unfold wrm
      rw [hb, List.getD_eq_getElem?_getD, List.getElem?_set]
      simp only [Nat.add_zero, if_true]
      split
      · show (c.A + 2) % 4294967296 % 2 = 0
        omega
      · rfl
  · have ne : c.op ≠ 2 := by omega
    rw [if_neg (by rw [e]; decide)]
    obtain ⟨a0, a1⟩ := h1 ne
    have hov : ∀ q : c.over = true, False := fun q => absurd (ho.symm.trans q) (by decide)
    rcases hph : c.ph with _ | _ | n
    · have hn : ¬ c.rdm l 0 % 2 = 1 := by rw [hz]; omega
      simp only [if_neg hn]
      exact mk _ _ rfl h.cd ⟨fun q => (hov q).elim, fun _ => ⟨fun q => absurd q ne, fun _ => ⟨a0, fun _ => hz⟩⟩⟩
    · simp only [word_eq]
      have hm : (c.wmem l 1).getD 0 0 = l.getD 0 0 := wmem0 hb (by omega)
      split
      · exact mk _ _ rfl h.cd ⟨fun q => (hov q).elim, fun _ => ⟨fun q => absurd q ne, fun _ => by rw [hm]; exact ⟨a0, fun _ => a1 (by omega)⟩⟩⟩
      · exact mk _ _ rfl h.cd ⟨fun q => (hov q).elim, fun _ => ⟨fun q => absurd q ne, fun _ => by rw [hm]; exact ⟨a0, fun _ => a1 (by omega)⟩⟩⟩
    · have hn : c.rdm l 0 = c.A := by rw [hz]; exact (a1 (by omega)).symm
      simp only [if_pos hn]
      exact mk _ _ rfl (show (0 : Int) ≠ 1 by decide) ⟨fun _ => a0, fun q => absurd (show true = false from q) (by decide)⟩
theorem al4 (h : c.Al l) (hk : c.kd = 4) (hs : 2 ≤ c.sl) (hb : c.base = 0) (ho : c.over = false) (hop : c.op = 2 ∨ c.op = 1) : Al (c.ring l).1 (c.ring l).2 := by
  have hw := h.s4 hk ho
  have hz : c.rdm l 0 = l.getD 0 0 := by unfold rdm; rw [hb]
  have mk : ∀ (d : Kc) (m : List Int), d.kd = c.kd → d.code ≠ 1 → (d.over = false → d.op ≠ 2 → 1 ≤ d.ph → d.A = m.getD 0 0 % (d.sl * 1048576)) → Al d m := fun d m e a b => ⟨a, fun q => absurd (e.symm.trans q) (by omega), fun _ => b, fun q => absurd (e.symm.trans q) (by omega)⟩
  unfold ring
  rcases hph : c.ph with _ | _ | n
  · refine mk _ _ rfl h.cd fun _ q _ => ?_
    have q : ¬ c.op = 2 := q
    show (if (c.op == 2) = true then inc (c.rdm l 0 % (c.sl * 1048576)) (c.sl * 1048576) else c.rdm l 0 % (c.sl * 1048576)) = _
    rw [if_neg (by simpa using q), hz]
    rfl
  · simp only [word_eq]
    have hm : ∀ k : Nat, (c.wmem l (1 + k)).getD 0 0 = l.getD 0 0 := fun k => wmem0 hb (by omega)
    split
    · exact mk _ _ rfl h.cd fun _ q _ => by rw [hm]; exact hw q (by omega)
    · exact mk _ _ rfl h.cd fun _ q _ => by rw [hm]; exact hw q (by omega)
  · rcases hop with e | e
    · simp only [e]
      exact mk _ _ rfl (show (0 : Int) ≠ 1 by decide) fun q => absurd (show true = false from q) (by decide)
    · have ne : ¬ (c.op == 2) = true := by rw [e]; decide
      have hA := hw (by omega) (by omega)
      have hg : gap c.A (c.rdm l 0 % (c.sl * 1048576)) (c.sl * 1048576) < c.sl - 1 := by
        rw [hz, ← hA]
        unfold gap
        rw [if_pos (Int.le_refl _)]
        omega
      simp only [if_neg ne, if_pos hg]
      exact mk _ _ rfl (show (0 : Int) ≠ 1 by decide) fun q => absurd (show true = false from q) (by decide)
theorem al5 (h : c.Al l) (hk : c.kd = 5) (hb : c.base = 0) (ho : c.over = false) (hop : c.op = 2 ∨ c.op = 1) : Al (c.cab l).1 (c.cab l).2 := by
  have hw := h.s5 hk ho
  have hz : c.rdm l 0 = l.getD 0 0 := by unfold rdm; rw [hb]
  have mk : ∀ (d : Kc) (m : List Int), d.kd = c.kd → d.code ≠ 1 → (d.over = false → d.op ≠ 2 → d.B = 0 ∧ (1 ≤ d.ph → d.ph ≤ 2 → d.A = m.getD 0 0 % d.sl)) → Al d m := fun d m e a b => ⟨a, fun q => absurd (e.symm.trans q) (by omega), fun q => absurd (e.symm.trans q) (by omega), fun _ => b⟩
  have z : (0 : Int) ≠ 1 := by decide
  unfold cab
  rcases hop with e | e
  · have nn : ∀ d : Kc, d.op = c.op → d.over = false → d.op ≠ 2 → d.B = 0 ∧ (1 ≤ d.ph → d.ph ≤ 2 → d.A = (l.getD 0 0) % d.sl) := fun d a _ b => absurd (a.trans e) b
    have np : ∀ (d : Kc) (m : List Int), d.kd = c.kd → d.op = c.op → d.code ≠ 1 → Al d m := fun d m a b cc => mk d m a cc fun _ q => absurd (b.trans e) q
    rw [if_pos (by rw [e]; decide)]
    rcases hph : c.ph with _ | _ | _ | n
    · exact np _ _ rfl rfl h.cd
    · simp only
      split
      · split <;> exact np _ _ rfl rfl h.cd
      · split <;> exact np _ _ rfl rfl h.cd
    · simp only [word_eq]
      split <;> exact np _ _ rfl rfl h.cd
    · exact np _ _ rfl rfl z
  · have ne : c.op ≠ 2 := by omega
    obtain ⟨hB, hA⟩ := hw ne
    rw [if_neg (by rw [e]; decide)]
    rcases hph : c.ph with _ | _ | _ | _ | n
    · exact mk _ _ rfl h.cd fun _ _ => ⟨hB, fun _ _ => by show c.rdm l 0 % c.sl = _; rw [hz]; rfl⟩
    · exact mk _ _ rfl h.cd fun _ _ => ⟨hB, fun _ _ => (hA (by omega) (by omega)).trans (congrArg (· % (c.sl : Int)) (wrm0 (k := 1 + c.rd) hb (by omega)).symm)⟩
    · have hn : c.rdm l 0 % c.sl = c.A := by rw [hz]; exact (hA (by omega) (by omega)).symm
      simp only [if_pos hn]
      exact mk _ _ rfl h.cd fun _ _ => ⟨hB, fun _ q => absurd (show (3 : Nat) ≤ 2 from q) (by decide)⟩
    · simp only [word_eq]
      split
      · exact mk _ _ rfl h.cd fun _ _ => ⟨hB, fun _ q => absurd (show (4 : Nat) ≤ 2 from q) (by decide)⟩
      · exact mk _ _ rfl h.cd fun _ _ => ⟨hB, fun _ q => absurd (show c.ph ≤ 2 from q) (by omega)⟩
    · exact mk _ _ rfl (by show c.B ≠ 1; omega) fun q => absurd (show true = false from q) (by decide)
theorem Al.step (h : c.Al l) (hI : Inv c) (hb : c.base = 0) (ho : c.over = false) : Al (c.step l).1 (c.step l).2 := by
  have S := hI.sta
  have hu : Al { c with steps := c.steps + 1 } l := ⟨h.cd, h.s3, h.s4, h.s5⟩
  have hk : (c.step l).1.kd = c.kd := (left_step (l := l) ho S.wd1 S.nr1 S.cap1).2.1
  have other : c.kd ≠ 3 → c.kd ≠ 4 → c.kd ≠ 5 → (c.step l).1.code ≠ 1 → Al (c.step l).1 (c.step l).2 := fun a b d e => ⟨e, fun q => absurd (hk.symm.trans q) a, fun q => absurd (hk.symm.trans q) b, fun q => absurd (hk.symm.trans q) d⟩
  rcases S.kd with q | q | q | q | q | q
  · have e : c.step l = four { c with steps := c.steps + 1 } l := by simp [Kc.step, q]
    exact other (by omega) (by omega) (by omega) (by rw [e]; exact cd1 hu.cd)
  · have e : c.step l = chen { c with steps := c.steps + 1 } l := by simp [Kc.step, q]
    exact other (by omega) (by omega) (by omega) (by rw [e]; exact cd2 hu.cd)
  · have e : c.step l = seq { c with steps := c.steps + 1 } l := by simp [Kc.step, q]
    rw [e]
    exact al3 hu q hb ho (S.op5 (by omega))
  · have e : c.step l = ring { c with steps := c.steps + 1 } l := by simp [Kc.step, q]
    rw [e]
    exact al4 hu q (S.sl4 q) hb ho (S.op5 (by omega))
  · have e : c.step l = cab { c with steps := c.steps + 1 } l := by simp [Kc.step, q]
    rw [e]
    exact al5 hu q hb ho (S.op5 (by omega))
  · have e : c.step l = fifo { c with steps := c.steps + 1 } l := by simp [Kc.step, q]
    exact other (by omega) (by omega) (by omega) (by rw [e]; exact cd6 hu.cd)
end
end Kc

end Go.Proofs.YtolmpehgeinlkaaGreatDoor

namespace Go.Proofs.YtolmpehgeinlkaaGreatDoor

def bnd (o : Ob) (t : Td) : Nat := (boundZ o t.op).toNat
def leftO : Option Kc → Nat
  | none => 0
  | some c => c.left
def leftP (o : Ob) (p : Pr) : Nat := leftO p.op + (p.left.map (bnd o)).sum
def leftL (o : Ob) (L : Lm) : Nat := (L.ps.map (leftP o)).sum
def todoL (L : Lm) : Nat := (L.ps.map fun p => p.left.length).sum
theorem sum_set {α : Type} (f : α → Nat) : ∀ (l : List α) (k : Nat) (x y : α), l[k]? = some x → ((l.set k y).map f).sum + f x = (l.map f).sum + f y
  | [], _, _, _, h => by simp at h
  | a :: l, 0, x, y, h => by
    obtain rfl : a = x := by simpa using h
    simp only [List.set_cons_zero, List.map_cons, List.sum_cons]
    omega
  | a :: l, k + 1, x, y, h => by
    have ih := sum_set f l k x y (by simpa using h)
    simp only [List.set_cons_succ, List.map_cons, List.sum_cons]
    omega
theorem bg_left {o : Ob} {k : Nat} {t : Td} (h : begE o 0 t.op (rdK k) t.r.length = 0) (hI : Kc.Inv (bgO o k t)) : (bgO o k t).left ≤ bnd o t := by
  have h1 := most_is h
  have h2 : (bgO o k t).left ≤ Kc.most o.k o.wd.toNat o.nr o.c.toNat t.op := Kc.left_start (kd := o.k) hI.sta.cap1
  unfold bnd
  omega
/-- What holds of a loom that is finished, behind each turn. -/
structure Lm.Fin (o : Ob) (T n : Nat) (L : Lm) : Prop where
  good : ∃ j, L.Good o j
  cl : L.calls.length + todoL L = T
  now : L.now + leftL o L ≤ n
  ends : ∀ (i : Nat) (x : Cl), L.calls[i]? = some x → (0 ≤ x.e ∧ x.e < (L.now : Int)) ∨ ∃ (k : Nat) (p : Pr) (c : Kc), L.ps[k]? = some p ∧ p.op = some c ∧ c.over = false ∧ p.call = i
theorem Lm.Fin.one {o : Ob} {T n k : Nat} {L L' : Lm} {p : Pr} (h : L.Fin o T n) (hw : W32 L.mem) (hp : L.ps[k]? = some p) (h1 : Lm.one (bgO o) Kc.step L k p = some L') : L'.Fin o T n ∧ leftL o L' < leftL o L := by
  obtain ⟨j, hg⟩ := h.good
  have hg' := (hg.one hw hp h1).1
  obtain ⟨L1, ts, c, q, hb, rfl⟩ := Lm.one_some h1
  obtain ⟨c', hc', hov, hinv, hbase, hsize, hp1, hI1, hm1⟩ := Lm.beg_op hg.inv hp hb
  cases hc'
  have hls := (Kc.left_step (l := L1.mem) hov hinv.sta.wd1 hinv.sta.nr1 hinv.sta.cap1).1
  have hk := (List.getElem?_eq_some_iff.1 hp).1
  have hlz : ∀ d : Kc, d.over = true → d.left = 0 := fun d e => Kc.left_zero.2 e
  -- the state behind: its processes and calls
  obtain ⟨e1, e2, e3, e4⟩ : (Lm.go Kc.step L1 k ⟨ts, some c, q⟩ c).ps = L.ps.set k ⟨ts, some (c.step L1.mem).1, q⟩ ∧ leftO (some c) + (ts.map (bnd o)).sum ≤ leftP o p ∧ L1.calls.length + ts.length = L.calls.length + p.left.length ∧ L1.now = L.now := by
    rcases Lm.beg_some hb with ⟨rfl, rfl⟩ | ⟨t, ts', hl, hp', rfl⟩
    · exact ⟨rfl, Nat.le_refl _, rfl, rfl⟩
    · cases hp'
      refine ⟨?_, ?_, ?_, rfl⟩
      · show (L.ps.set k _).set k _ = _
        rw [List.set_set]
      · obtain ⟨hb1, hb2, _, _⟩ := hg.inv.left k p t hp (by rw [hl]; exact List.mem_cons_self)
        have := bg_left (hg.left k p hp t (by rw [hl]; exact List.mem_cons_self)).1 hb1
        unfold leftP
        rw [hl]
        simp only [List.map_cons, List.sum_cons, leftO]
        omega
      · rw [hl]
        simp only [List.length_append, List.length_cons, List.length_nil]
        omega
  have hcl : (Lm.go Kc.step L1 k ⟨ts, some c, q⟩ c).calls.length = L1.calls.length := by
    unfold Lm.go
    dsimp only
    split
    · rw [List.length_modify]
    · rfl
  have hnow : (Lm.go Kc.step L1 k ⟨ts, some c, q⟩ c).now = L.now + 1 := by show L1.now + 1 = _; rw [e4]
  have s1 := sum_set (leftP o) L.ps k p ⟨ts, some (c.step L1.mem).1, q⟩ hp
  have s2 := sum_set (fun p : Pr => p.left.length) L.ps k p ⟨ts, some (c.step L1.mem).1, q⟩ hp
  have f1 : leftP o ⟨ts, some (c.step L1.mem).1, q⟩ = (c.step L1.mem).1.left + (ts.map (bnd o)).sum := rfl
  have f2 : leftO (some c) = c.left := rfl
  have t1 : leftL o (Lm.go Kc.step L1 k ⟨ts, some c, q⟩ c) = ((L.ps.set k ⟨ts, some (c.step L1.mem).1, q⟩).map (leftP o)).sum := by unfold leftL; rw [e1]
  have t2 : todoL (Lm.go Kc.step L1 k ⟨ts, some c, q⟩ c) = ((L.ps.set k ⟨ts, some (c.step L1.mem).1, q⟩).map fun p => p.left.length).sum := by unfold todoL; rw [e1]
  have t3 : leftL o L = (L.ps.map (leftP o)).sum := rfl
  have t4 : todoL L = (L.ps.map fun p => p.left.length).sum := rfl
  have hnn := h.now
  have hcc := h.cl
  dsimp only at s2
  refine ⟨⟨⟨_, hg'⟩, by rw [hcl, t2]; omega, by rw [hnow, t1]; omega, fun i x hx => ?_⟩, by rw [t1, t3]; omega⟩
  rw [hnow, e1]
  -- the calls
  have hin : ∀ (i : Nat) (x : Cl), L1.calls[i]? = some x → (0 ≤ x.e ∧ x.e < (L.now : Int)) ∨ i = q ∨ ∃ (k' : Nat) (p' : Pr) (c' : Kc), k' ≠ k ∧ L.ps[k']? = some p' ∧ p'.op = some c' ∧ c'.over = false ∧ p'.call = i := fun i x hx => by
    rcases Lm.beg_some hb with ⟨rfl, rfl⟩ | ⟨t, ts', hl, hp', rfl⟩
    · rcases h.ends i x hx with r | ⟨k', p', c', r1, r2, r3, r4⟩
      · exact .inl r
      · by_cases e : k' = k
        · subst e
          rw [hp] at r1
          cases r1
          exact .inr (.inl r4.symm)
        · exact .inr (.inr ⟨k', p', c', e, r1, r2, r3, r4⟩)
    · cases hp'
      have hd : p.done = true := by
        unfold Lm.beg at hb
        by_cases e : p.done = true
        · exact e
        · rw [if_neg e] at hb
          have h2 := congrArg Prod.snd (Option.some.inj hb)
          dsimp only at h2
          rw [h2] at hl
          dsimp only at hl
          have := congrArg List.length hl
          simp at this
      by_cases hi : i < L.calls.length
      · have hx : (L.calls ++ _)[i]? = some x := hx
        rw [List.getElem?_append_left hi] at hx
        rcases h.ends i x hx with r | ⟨k', p', c', r1, r2, r3, r4⟩
        · exact .inl r
        · by_cases e : k' = k
          · subst e
            rw [hp] at r1
            cases r1
            unfold Pr.done at hd
            rw [r2] at hd
            have hd : c'.over = true := hd
            rw [r3] at hd
            cases hd
          · exact .inr (.inr ⟨k', p', c', e, r1, r2, r3, r4⟩)
      · have := (List.getElem?_eq_some_iff.1 hx).1
        simp only [List.length_append, List.length_cons, List.length_nil] at this
        exact .inr (.inl (by omega))
  have hset : (L.ps.set k (⟨ts, some (c.step L1.mem).1, q⟩ : Pr))[k]? = some ⟨ts, some (c.step L1.mem).1, q⟩ := by simp [hk]
  unfold Lm.go at hx
  dsimp only at hx
  split at hx
  · rename_i hov'
    rw [List.getElem?_modify] at hx
    cases hy : L1.calls[i]? with
    | none => rw [hy] at hx; cases hx
    | some y =>
      rw [hy] at hx
      have hx : some (if q = i then endC k L1.now (c.step L1.mem).1 y else y) = some x := hx
      by_cases e : q = i
      · rw [if_pos e] at hx
        cases hx
        exact .inl ⟨by show (0 : Int) ≤ (L1.now : Int); omega, by show (L1.now : Int) < _; rw [e4]; omega⟩
      · rw [if_neg e] at hx
        cases hx
        rcases hin i _ hy with r | r | ⟨k', p', c', r0, r1, r2, r3, r4⟩
        · exact .inl ⟨r.1, by omega⟩
        · exact absurd r.symm e
        · exact .inr ⟨k', p', c', by rw [List.getElem?_set_ne (Ne.symm r0)]; exact r1, r2, r3, r4⟩
  · rename_i hov'
    rcases hin i x hx with r | r | ⟨k', p', c', r0, r1, r2, r3, r4⟩
    · exact .inl ⟨r.1, by omega⟩
    · exact .inr ⟨k, _, _, hset, rfl, by simpa using hov', r.symm⟩
    · exact .inr ⟨k', p', c', by rw [List.getElem?_set_ne (Ne.symm r0)]; exact r1, r2, r3, r4⟩
theorem Lm.turn_is {bg : Nat → Td → Kc} {st : Kc → List Int → Kc × List Int} {L L' : Lm} {k : Int} (h : Lm.turn? bg st L k = some L') : Lm.turn bg st L k = L' := by unfold Lm.turn; rw [h]; rfl
theorem Lm.turn_one {bg : Nat → Td → Kc} {st : Kc → List Int → Kc × List Int} {L L' : Lm} {k : Int} (h : Lm.turn? bg st L k = some L') : ∃ p, L.ps[k.toNat]? = some p ∧ Lm.one bg st L k.toNat p = some L' := by
  unfold Lm.turn? at h
  by_cases hk : k < 0
  · rw [if_pos hk] at h; cases h
  · rw [if_neg hk] at h
    cases hp : L.ps[k.toNat]? with
    | none => rw [hp] at h; cases h
    | some p => rw [hp] at h; exact ⟨p, rfl, h⟩
theorem Lm.Fin.turn {o : Ob} {T n : Nat} {L L' : Lm} {k : Int} (h : L.Fin o T n) (hw : W32 L.mem) (h1 : Lm.turn? (bgO o) Kc.step L k = some L') : L'.Fin o T n ∧ leftL o L' < leftL o L := by
  obtain ⟨p, hp, h2⟩ := Lm.turn_one h1
  exact h.one hw hp h2
/-- One process's turns as long as it has some. -/
def drain (o : Ob) (k : Int) : Nat → Lm → Lm
  | 0, L => L
  | f + 1, L => match Lm.turn? (bgO o) Kc.step L k with
    | some L' => drain o k f L'
    | none => L
theorem drain_some {o : Ob} {k : Int} {f : Nat} {L L' : Lm} (h : Lm.turn? (bgO o) Kc.step L k = some L') : drain o k (f + 1) L = drain o k f L' := by
  show (match Lm.turn? (bgO o) Kc.step L k with | some L' => drain o k f L' | none => L) = _
  rw [h]
theorem drain_none {o : Ob} {k : Int} {f : Nat} {L : Lm} (h : Lm.turn? (bgO o) Kc.step L k = none) : drain o k f L = L := by
  cases f with
  | zero => rfl
  | succ f =>
    show (match Lm.turn? (bgO o) Kc.step L k with | some L' => drain o k f L' | none => L) = _
    rw [h]
/-- All processes, one behind the other. -/
def drains (o : Ob) (f : Nat) : Nat → Lm → Lm
  | 0, L => L
  | k + 1, L => drain o (k : Int) f (drains o f k L)
/-- What one step of the loop leaves. -/
theorem drain_step {o : Ob} {T n f : Nat} {k : Int} {L L' X : Lm} (h : L.Fin o T n) (hw : W32 L.mem) (hf : leftL o L ≤ f) (hX : drain o k f L = X) (h1 : Lm.turn? (bgO o) Kc.step L k = some L') : ∃ f', leftL o L' ≤ f' ∧ drain o k f' L' = X := by
  have h2 := (h.turn hw h1).2
  obtain ⟨g, rfl⟩ : ∃ g, f = g + 1 := ⟨f - 1, by omega⟩
  rw [drain_some h1] at hX
  exact ⟨g, by omega, hX⟩
/-- A process that has no turn is done, and has nothing left. -/
theorem turn_no {o : Ob} {T n k : Nat} {L : Lm} {p : Pr} (h : L.Fin o T n) (hp : L.ps[k]? = some p) (h1 : Lm.turn? (bgO o) Kc.step L (k : Int) = none) : p.done = true ∧ p.left = [] := by
  obtain ⟨j, hg⟩ := h.good
  unfold Lm.turn? at h1
  rw [if_neg (by omega), Int.toNat_natCast, hp] at h1
  have h2 : Lm.one (bgO o) Kc.step L k p = none := h1
  cases hb : Lm.beg (bgO o) L k p with
  | none =>
    unfold Lm.beg at hb
    by_cases e : p.done = true
    · rw [if_pos e] at hb
      cases hl : p.left with
      | nil => exact ⟨e, rfl⟩
      | cons t ts => rw [hl] at hb; cases hb
    · rw [if_neg e] at hb; cases hb
  | some r =>
    obtain ⟨L1, p1⟩ := r
    obtain ⟨c, hc, _⟩ := Lm.beg_op hg.inv hp hb
    obtain ⟨ts, oc, q⟩ := p1
    dsimp only at hc
    subst hc
    unfold Lm.one at h2
    rw [hb] at h2
    cases h2

end Go.Proofs.YtolmpehgeinlkaaGreatDoor

namespace Go.Proofs.YtolmpehgeinlkaaGreatDoor
open Go.RowKit
attribute [local go_sem] Oper.semAt_some

def opsN (ls : List (List Td)) : Nat := (ls.map List.length).sum
def bndN (o : Ob) (ls : List (List Td)) : Nat := (ls.map fun l => (l.map (bnd o)).sum).sum
theorem Lm.Fin.start {o : Ob} {ls : List (List Td)} {m : List Int} (h : (lm0 ls m).Good o 0) : (lm0 ls m).Fin o (opsN ls) (bndN o ls) := by
  have e1 : todoL (lm0 ls m) = opsN ls := by unfold todoL lm0 opsN; rw [List.map_map]; rfl
  have e2 : leftL o (lm0 ls m) = bndN o ls := by
    unfold leftL lm0 bndN
    rw [List.map_map]
    congr 1
    apply List.map_congr_left
    intro l _
    show leftO none + _ = _
    exact Nat.zero_add _
  exact ⟨⟨0, h⟩, by rw [e1]; exact Nat.zero_add _, by rw [e2]; exact Nat.le_of_eq (Nat.zero_add _), fun i x hx => by cases hx⟩
theorem Lm.Fin.any {o : Ob} {T n : Nat} {L : Lm} (h : L.Fin o T n) (hw : W32 L.mem) (k : Int) : (Lm.turn (bgO o) Kc.step L k).Fin o T n := by
  cases h1 : Lm.turn? (bgO o) Kc.step L k with
  | none => unfold Lm.turn; rw [h1]; exact h
  | some L' => rw [Lm.turn_is h1]; exact (h.turn hw h1).1
theorem Lm.Fin.runs {o : Ob} {T n : Nat} {L0 : Lm} {ks : List Int} (h : L0.Fin o T n) (hg : Lm.GoodTo o L0 ks ks.length) : (Lm.run (bgO o) Kc.step L0 ks).Fin o T n := by
  have h1 : ∀ j, j ≤ ks.length → (Lm.run (bgO o) Kc.step L0 (ks.take j)).Fin o T n := fun j => by
    induction j with
    | zero => intro _; exact h
    | succ j ih =>
      intro hj
      rw [Lm.run_snoc (List.getElem?_eq_getElem (show j < ks.length by omega))]
      refine (ih (by omega)).any ?_ _
      by_cases e : j < ks.length
      · exact (hg j (by omega)).2.2 e
      · omega
  have h2 := h1 ks.length (Nat.le_refl _)
  rw [List.take_length] at h2
  exact h2
/-- The first processes are done. -/
def Fdone (L : Lm) (k : Nat) : Prop := ∀ (i : Nat) (p : Pr), i < k → L.ps[i]? = some p → p.done = true ∧ p.left = []
theorem turn_other {bg : Nat → Td → Kc} {st : Kc → List Int → Kc × List Int} {L L' : Lm} {k : Int} {i : Nat} (h : Lm.turn? bg st L k = some L') (hi : i ≠ k.toNat) : L'.ps[i]? = L.ps[i]? := by
  obtain ⟨p, hp, h1⟩ := Lm.turn_one h
  obtain ⟨L1, ts, c, q, hb, rfl⟩ := Lm.one_some h1
  show (L1.ps.set _ _)[i]? = _
  rw [List.getElem?_set_ne (Ne.symm hi)]
  rcases Lm.beg_some hb with ⟨rfl, _⟩ | ⟨t, ts', _, _, rfl⟩
  · rfl
  · exact List.getElem?_set_ne (Ne.symm hi)
theorem Fdone.turn {o : Ob} {L L' : Lm} {k : Nat} (h : Fdone L k) (h1 : Lm.turn? (bgO o) Kc.step L (k : Int) = some L') : Fdone L' k := fun i p hi hp => by
  rw [turn_other h1 (by rw [Int.toNat_natCast]; omega)] at hp
  exact h i p hi hp
theorem Fdone.next {o : Ob} {T n k : Nat} {L : Lm} (h : Fdone L k) (hF : L.Fin o T n) (h1 : Lm.turn? (bgO o) Kc.step L (k : Int) = none) : Fdone L (k + 1) := fun i p hi hp => by
  by_cases e : i < k
  · exact h i p e hp
  · obtain rfl : i = k := by omega
    exact turn_no hF hp h1
/-- All is done: all calls have ended, within the bound. -/
theorem Lm.Fin.all {o : Ob} {T n : Nat} {L : Lm} (h : L.Fin o T n) (hd : Fdone L L.ps.length) : L.calls.length = T ∧ ∀ x ∈ L.calls, 0 ≤ x.e ∧ x.e < (n : Int) := by
  have hz : todoL L = 0 := by
    unfold todoL
    have h1 : ∀ l : List Pr, (∀ p ∈ l, p.left = []) → (l.map fun p => p.left.length).sum = 0 := fun l => by
      induction l with
      | nil => intro _; rfl
      | cons a l ih =>
        intro hl
        rw [List.map_cons, List.sum_cons, ih (fun p hp => hl p (List.mem_cons_of_mem _ hp)), hl a List.mem_cons_self]
        rfl
    refine h1 _ fun p hp => ?_
    obtain ⟨i, hi⟩ := List.getElem?_of_mem hp
    exact (hd i p (List.getElem?_eq_some_iff.1 hi).1 hi).2
  refine ⟨by have := h.cl; omega, fun x hx => ?_⟩
  obtain ⟨i, hi⟩ := List.getElem?_of_mem hx
  have hn := h.now
  rcases h.ends i x hi with ⟨r1, r2⟩ | ⟨k, p, c, r1, r2, r3, _⟩
  · exact ⟨r1, by omega⟩
  · have := (hd k p (List.getElem?_eq_some_iff.1 r1).1 r1).1
    unfold Pr.done at this
    rw [r2] at this
    have this : c.over = true := this
    rw [r3] at this
    cases this
section
variable {N : Nat} {W : World} {o : Ob} {lb pb mb ml pc : Nat} {cv : Value} {tg : Nat → Nat} {L : Lm} {gs : List PG} {es : List CV} {w : World}
theorem wturn_fin {T n : Nat} (h : LoomS N W o lb pb mb ml pc cv tg L gs es w) (ho : o.Ok) (hF : L.Fin o T n) (hT1 : T ≤ 1000) (hn1 : n ≤ 1000000) (hlen : L.ps.length ≤ 1000) (hT : Tab64 W) (hG : (0 : Nat) < N) (k : Int) :
    Calls Tryz.prog 27 #[.pointer (some ⟨lb, 0, none⟩), .int .i64 k] w (TurnR N W o lb pb mb ml pc L k) := by
  obtain ⟨j, hg⟩ := hF.good
  by_cases hk : k < 0 ∨ (gs.length : Int) ≤ k
  · exact wturn_out h k hk
  · obtain ⟨i, rfl⟩ : ∃ i : Nat, k = i := ⟨k.toNat, by omega⟩
    have hl := h.len
    have hc := h.cx
    have hn := hF.cl
    have hw := hF.now
    have hes : es.length = L.calls.length := by rw [← hc, List.length_map]
    refine wturn_in h ho i (by omega) (by omega) hg.inv hg.call hT hG (fun g e t ht => ?_) (by omega) (by omega)
    obtain ⟨p, hp⟩ : ∃ p, L.ps[i]? = some p := ⟨_, List.getElem?_eq_getElem (by omega)⟩
    exact hg.left i p hp t.td (by rw [(h.ps i g p e hp).left]; exact List.mem_map_of_mem ht)
end
/-- What Finish comes to. -/
def finL (o : Ob) (gs : List PG) (m ks : List Int) : Lm := drains o (bndN o (tds gs)) gs.length (Lm.run (bgO o) Kc.step (lm0 (tds gs) m) ks)
def WFinR (o : Ob) (gs : List PG) (m ks : List Int) (w : World) (z : Ending) (w' : World) : Prop :=
  ∃ A c es, z = .returned (.tuple #[.slice A es.length c, .int .i64 0]) ∧ (finL o gs m ks).Fin o (opsN (tds gs)) (bndN o (tds gs)) ∧ Fdone (finL o gs m ks) (finL o gs m ks).ps.length ∧ Lm.GoodTo o (lm0 (tds gs) m) ks ks.length ∧ es.map (·.x) = (finL o gs m ks).calls ∧ SlOf cvE w' w'.heap.size A es ∧ (∀ e ∈ es, Ws w' w'.heap.size e.A e.x.r) ∧ Below w.heap.size w w' 
set_option maxRecDepth 100000 in
set_option maxHeartbeats 1000000 in
theorem wFin_1 (o : Ob) (ho : o.Ok) (A B : Option Addr) (cap kn kc : Nat) (gs : List PG) (w : World) (hin : ProcsIn w w.heap.size A gs) (hlen : gs.length ≤ 1000) (hts : ∀ g ∈ gs, g.ts.length ≤ 1000) (hrs : ∀ g ∈ gs, ∀ t ∈ g.ts, t.r.length ≤ 1000) (hf : faultP o (tds gs) ≠ 0) :
    Calls Tryz.prog 13 #[.agg (obA o), .slice A gs.length cap, .slice B kn kc] w fun e w' => e = .returned (.tuple #[.slice none 0 0, .int .i64 (faultP o (tds gs))]) ∧ Below w.heap.size w w' := by
  have hn := RowB.new w (obA o) 26
  have hB := (Below.refl w.heap.size w).alloc (Nat.le_refl _) (.cells (obA o) 26)
  unfold obA at hn hB
  have HB := Lib.hid hB
  have hr := wrun_1 o ho A B cap kn kc gs _ (hin.below hB hB.size) hlen hts hrs hf
  unfold obA at hr
  obtain ⟨fv, hfv⟩ : ∃ x, faultP o (tds gs) = x := ⟨_, rfl⟩
  rw [hfv] at hr hf ⊢
  have HR := Lib.hid hr
  have d0 : (fv != 0) = true := by simpa using hf
  clear hn hB hr hf hfv hin hlen hts hrs ho
  unfold obA
  go_enter Tryz.func13, Tryz.ntmps13
  go_wp2_with fail
  refine HR.out.mono ?_
  rintro e w1 ⟨rfl, hb⟩
  have HB1 := Lib.hid (HB.out.trans (hb.mono HB.out.size))
  clear hb
  go_wp2_with fail
  go_ret2
  exact ⟨rfl, HB1.out⟩
set_option maxRecDepth 100000 in
set_option maxHeartbeats 2000000 in
theorem wFin_2 (o : Ob) (ho : o.Ok) (A B : Option Addr) (cap kc : Nat) (gs : List PG) (l ks : List Int) (w : World) (hin : ProcsIn w w.heap.size A gs) (hlen : gs.length ≤ 1000) (hts : ∀ g ∈ gs, g.ts.length ≤ 1000) (hrs : ∀ g ∈ gs, ∀ t ∈ g.ts, t.r.length ≤ 1000) (hf : faultP o (tds gs) = 0)
    (hl : o.ni = l.length) (hI : Ws w w.heap.size o.I l) (hK : SlOf (ints .i64) w w.heap.size B ks) (hkn : ks.length ≤ 1000) (hT : Tab64 w) (hG : (0 : Nat) < w.heap.size) (hT1 : opsN (tds gs) ≤ 1000) (hn1 : bndN o (tds gs) ≤ 1000000) :
    Calls Tryz.prog 13 #[.agg (obA o), .slice A gs.length cap, .slice B ks.length kc] w (WFinR o gs (layZ o l) ks w) := by
  obtain ⟨hR, hgl, _⟩ := fault_zero hf
  have hgd : Lm.Good o 0 (lm0 (tds gs) (layZ o l)) := Lm.Good.start hf (layZ_len hR hl) (fun x hx t ht => by
    unfold tds at hx
    obtain ⟨g, hg, rfl⟩ := List.mem_map.1 hx
    obtain ⟨u, hu, rfl⟩ := List.mem_map.1 ht
    exact ⟨hrs g hg u hu, ws_w32 (hin.ws g hg u hu)⟩)
  have hn := RowB.new w (obA o) 26
  have hB := (Below.refl w.heap.size w).alloc (Nat.le_refl _) (.cells (obA o) 26)
  unfold obA at hn hB
  have HB := Lib.hid hB
  have hT' : Tab64 (w.alloc (.cells #[.int .i64 o.k, .int .i64 o.wd, .int .i64 o.s, .int .i64 o.c, .int .u32 o.st, .slice o.I o.ni o.ci, .int .i64 o.wr, .slice o.R o.nr o.cr] 26)) := fun j hj => (hB.cell (p := ⟨_, j, none⟩) hG).trans (hT j hj)
  have hG' := Nat.lt_of_lt_of_le hG hB.size
  have hr := wrun_2 o ho A B cap kc gs l ks _ (hin.below hB hB.size) hlen hts hrs hf hl (hI.below hB hB.size) (hK.below hB hB.size) hkn hT' hG'
  unfold obA at hr
  have HR := Lib.hid hr
  have HC := Lib.hid (And.intro ho (And.intro hT1 (And.intro hn1 (And.intro hlen (And.intro hT' hG')))))
  have HGD := Lib.hid hgd
  clear hn hr hf hin hlen hts hrs ho hl hI hK hkn hT hG hT1 hn1 hT' hG' hR hgl hgd hB
  unfold obA
  go_enter Tryz.func13, Tryz.ntmps13
  go_wp2_with fail
  generalize (w.alloc (.cells #[.int .i64 o.k, .int .i64 o.wd, .int .i64 o.s, .int .i64 o.c, .int .u32 o.st, .slice o.I o.ni o.ci, .int .i64 o.wr, .slice o.R o.nr o.cr] 26)) = w0 at HB HR HC ⊢
  refine HR.out.mono ?_
  rintro e w1 ⟨lb, pb, mb, ml, pc, cv, tg, gs', es, rfl, hgt, hL⟩
  have hFr := (Lm.Fin.start HGD.out).runs hgt
  have hps : (Lm.run (bgO o) Kc.step (lm0 (tds gs) (layZ o l)) ks).ps.length = gs.length := by rw [Lm.run_len]; show ((tds gs).map _).length = _; unfold tds; rw [List.length_map, List.length_map]
  have HGT := Lib.hid hgt
  obtain ⟨LK, hLK⟩ : ∃ x, Lm.run (bgO o) Kc.step (lm0 (tds gs) (layZ o l)) ks = x := ⟨_, rfl⟩
  have HLK := Lib.hid hLK
  rw [hLK] at hL hFr hps
  have HF0 := Lib.hid hFr
  have HL0 := Lib.hid hL
  have HPS := Lib.hid hps
  clear hgt hFr hL hps hLK HR
  go_wp2_with fail
  go_loopw [23] (fun jv wq => ∃ i : Nat, i ≤ gs.length ∧ jv = .int .i64 (i : Int) ∧ ∃ cv tg gs' es, LoomS w0.heap.size w0 o lb pb mb ml pc cv tg (drains o (bndN o (tds gs)) i LK) gs' es wq ∧ (drains o (bndN o (tds gs)) i LK).Fin o (opsN (tds gs)) (bndN o (tds gs)) ∧ Fdone (drains o (bndN o (tds gs)) i LK) i ∧ (drains o (bndN o (tds gs)) i LK).ps.length = gs.length) (fun jv _ => gs.length - (intOf jv).toNat)
  case atStart => exact ⟨0, Nat.zero_le _, rfl, cv, tg, gs', es, HL0.out, HF0.out, fun i p hi _ => absurd hi (by omega), HPS.out⟩
  case round =>
    clear HL0 HF0
    obtain ⟨i, hi, rfl, cv, tg, gs', es, hL, hF, hD, hps⟩ := hrel
    by_cases hlt : i < gs.length
    · have hd : decide ((i : Int) < (gs.length : Int)) = true := decide_eq_true (by omega)
      have hd2 : decide (i < gs.length) = true := decide_eq_true hlt
      have hwi : IntKind.i64.wrap ((i : Int) + 1) = (i : Int) + 1 := sh_wrap (by omega) (by have := HC.out.2.2.2.1; omega)
      have HL := Lib.hid hL
      have HF := Lib.hid hF
      have HD := Lib.hid hD
      have HP := Lib.hid hps
      have HI := Lib.hid hlt
      clear hL hF hD hps hlt hi
      go_wp2_with fail
      go_loopg [] (bndN o (tds gs)) (fun gk wq => ∃ L cv tg gs' es, LoomS w0.heap.size w0 o lb pb mb ml pc cv tg L gs' es wq ∧ L.Fin o (opsN (tds gs)) (bndN o (tds gs)) ∧ Fdone L i ∧ L.ps.length = gs.length ∧ leftL o L ≤ gk ∧ drain o (i : Int) gk L = drains o (bndN o (tds gs)) (i + 1) LK)
      case atStart => exact ⟨_, cv, tg, gs', es, HL.out, HF.out, HD.out, HP.out, by have := HF.out.now; omega, rfl⟩
      case round =>
        clear HL HF HD HP
        obtain ⟨L, cv, tg, gs', es, hL, hF, hD, hps, hlf, hdr⟩ := hrel
        have HT := Lib.hid (wturn_fin hL HC.out.1 hF HC.out.2.1 HC.out.2.2.1 (by rw [hps]; exact HC.out.2.2.2.1) HC.out.2.2.2.2.1 HC.out.2.2.2.2.2 (i : Int))
        have hw32 := hL.mem.w32
        cases ht : Lm.turn? (bgO o) Kc.step L (i : Int) with
        | none =>
          have HL := Lib.hid hL
          have HF := Lib.hid hF
          have HD := Lib.hid (hD.next hF ht)
          have HP := Lib.hid hps
          have HX := Lib.hid ((drain_none ht).symm.trans hdr)
          have HTN := Lib.hid ht
          clear hL hF hD hps hlf hdr hw32 ht
          go_wp2_with fail
          refine HT.out.mono ?_
          rintro e w2 ⟨rfl, cv1, tg1, gs1, es1, hL1⟩
          have e1 : Lm.turn (bgO o) Kc.step L (i : Int) = L := by unfold Lm.turn; rw [HTN.out]; rfl
          rw [e1] at hL1
          rw [HTN.out]
          have HL1 := Lib.hid hL1
          clear hL1 e1
          go_wp2_with fail
          go_roundw
          case rel => exact ⟨i + 1, by have := HI.out; omega, by go_num, cv1, tg1, gs1, es1, HX.out ▸ HL1.out, HX.out ▸ HF.out, HX.out ▸ HD.out, HX.out ▸ HP.out⟩
          case measure => have := HI.out; simp [intOf]; omega
        | some L' =>
          have HF := Lib.hid (hF.turn hw32 ht).1
          have HD := Lib.hid (hD.turn ht)
          have HP := Lib.hid (show L'.ps.length = gs.length by rw [← Lm.turn_is ht, Lm.turn_len, hps])
          obtain ⟨g', hg1, hg2⟩ : ∃ g', gk = g' + 1 ∧ (leftL o L' ≤ g' ∧ drain o (i : Int) g' L' = drains o (bndN o (tds gs)) (i + 1) LK) := by
            have h2 := (hF.turn hw32 ht).2
            obtain ⟨g, rfl⟩ : ∃ g, gk = g + 1 := ⟨gk - 1, by omega⟩
            rw [drain_some ht] at hdr
            exact ⟨g, rfl, by omega, hdr⟩
          have HG := Lib.hid (And.intro hg1 hg2)
          have HTN := Lib.hid ht
          clear hL hF hD hps hlf hdr hw32 ht hg1 hg2
          go_wp2_with fail
          refine HT.out.mono ?_
          rintro e w2 ⟨rfl, cv1, tg1, gs1, es1, hL1⟩
          rw [Lm.turn_is HTN.out] at hL1
          rw [HTN.out]
          have HL1 := Lib.hid hL1
          clear hL1
          go_wp2_with fail
          go_roundg g'
          case measure => have := HG.out.1; omega
          case rel => exact ⟨L', cv1, tg1, gs1, es1, HL1.out, HF.out, HD.out, HP.out, HG.out.2.1, HG.out.2.2⟩
    · have hd : decide ((i : Int) < (gs.length : Int)) = false := decide_eq_false (by omega)
      obtain rfl : i = gs.length := by omega
      obtain ⟨A1, c1, rfl, _, _, hsl⟩ := hL.calls.sl
      have c10 : wr.cell? ⟨lb, 10, none⟩ = some (.slice A1 es.length c1) := (hL.row.cell 10).trans rfl
      obtain ⟨jg, hg⟩ := hF.good
      have hcx := hL.cx
      have hlc : es.length ≤ 1000 := by
        have h1 := congrArg List.length hcx
        rw [List.length_map] at h1
        have h2 := hF.cl
        have h3 := HC.out.2.1
        omega
      have hsrt := hsort_o A1 c1 es wr (by omega) (fun e he => Nat.le_trans (hg.rl e.x (by rw [← hcx]; exact List.mem_map_of_mem he)) (by omega)) hsl (fun e he => (hL.recs e he).1) (by rw [hcx]; exact hg.up.up)
      rw [hcx] at hsrt
      have HS := Lib.hid hsrt
      have HX := Lib.hid (And.intro hF (And.intro hD (And.intro hps (HB.out.trans (hL.bel.mono HB.out.size)))))
      clear hL hF hD hps hlt hi hsl hg hcx hlc hsrt
      go_wp2_with fail
      refine HS.out.mono ?_
      rintro z w2 ⟨A2, c2, es2, rfl, hm, hsl, hrc, hb2⟩
      have HY := Lib.hid (And.intro hm (And.intro hsl (And.intro hrc (HX.out.2.2.2.trans (hb2.mono HX.out.2.2.2.size)))))
      clear hm hsl hrc hb2
      go_wp2_with fail
      go_ret2
      refine ⟨A2, c2, es2, rfl, ?_⟩
      unfold finL
      rw [HLK.out]
      exact ⟨HX.out.1, by rw [HX.out.2.2.1]; exact HX.out.2.1, HGT.out, HY.out⟩

end Go.Proofs.YtolmpehgeinlkaaGreatDoor

namespace Go.Proofs.YtolmpehgeinlkaaGreatDoor
open Go.RowKit

theorem bnd_is {o : Ob} {k : Nat} {t : Td} (h : begE o 0 t.op (rdK k) t.r.length = 0) : boundZ o t.op = (bnd o t : Int) := by
  have := most_is h
  unfold bnd
  omega
theorem bnd_le {o : Ob} (_h : anyR o) (t : Td) : bnd o t ≤ 1000 := by
  have hm : ∀ c d : Int, 1 ≤ c → c ≤ 16 → 1 ≤ d → d ≤ 8 → c * (d + 2) ≤ 160 := fun c d h1 h2 h3 h4 => by
    have := Int.mul_le_mul h2 (show d + 2 ≤ 10 by omega) (by omega) (by omega)
    omega
  unfold bnd boundZ
  split
  · rename_i h1; have := four_bd h1; repeat' split
    all_goals omega
  · split
    · rename_i h1; have := chen_bd h1; repeat' split
      all_goals omega
    · split
      · rename_i h1; have := seq_bd h1; have := hm o.c o.wd (by omega) (by omega) (by omega) (by omega); repeat' split
        all_goals omega
      · split
        · rename_i h1; have := ring_bd h1; have := hm o.c o.wd (by omega) (by omega) (by omega) (by omega); repeat' split
          all_goals omega
        · split
          · rename_i h1; have := cab_bd h1; repeat' split
            all_goals omega
          · split
            · rename_i h1; have := fifo_bd h1; repeat' split
              all_goals omega
            · omega
theorem sum_le {α : Type} (f : α → Nat) (m : Nat) : ∀ l : List α, (∀ x ∈ l, f x ≤ m) → (l.map f).sum ≤ l.length * m
  | [], _ => by simp
  | a :: l, h => by
    have h1 := sum_le f m l (fun x hx => h x (List.mem_cons_of_mem _ hx))
    have h2 := h a List.mem_cons_self
    rw [List.map_cons, List.sum_cons, List.length_cons, Nat.add_mul]
    omega
theorem opsN_le {gs : List PG} (h1 : gs.length ≤ 20) (h2 : ∀ g ∈ gs, g.ts.length ≤ 20) : opsN (tds gs) ≤ 400 := by
  unfold opsN tds
  have := sum_le List.length 20 (gs.map fun g => g.ts.map TV.td) (fun l hl => by obtain ⟨g, hg, rfl⟩ := List.mem_map.1 hl; rw [List.length_map]; exact h2 g hg)
  rw [List.length_map] at this
  omega
theorem bndN_le {o : Ob} (hR : anyR o) {gs : List PG} (h1 : gs.length ≤ 20) (h2 : ∀ g ∈ gs, g.ts.length ≤ 20) : bndN o (tds gs) ≤ 400000 := by
  unfold bndN tds
  have := sum_le (fun l : List Td => (l.map (bnd o)).sum) 20000 (gs.map fun g => g.ts.map TV.td) (fun l hl => by
    obtain ⟨g, hg, rfl⟩ := List.mem_map.1 hl
    have h3 := sum_le (bnd o) 1000 (g.ts.map TV.td) (fun t _ => bnd_le hR t)
    rw [List.length_map] at h3
    have := h2 g hg
    omega)
  rw [List.length_map] at this
  omega

end Go.Proofs.YtolmpehgeinlkaaGreatDoor

namespace Go.Proofs.YtolmpehgeinlkaaGreatDoor

/-- What holds of a loom in which one process's turns come one behind the other. -/
structure Lm.Solo (o : Ob) (k : Nat) (L : Lm) : Prop where
  calls : ∀ x ∈ L.calls, x.c ≠ 1 ∧ (x.e = -1 ∨ x.b ≤ x.e)
  rest : ∀ (i : Nat) (p : Pr) (c : Kc), L.ps[i]? = some p → p.op = some c → i ≠ k → c.over = true
  own : ∀ (p : Pr) (c : Kc), L.ps[k]? = some p → p.op = some c → Kc.Al c L.mem ∧ c.kd = o.k
  quiet : o.k = 3 → (∀ p : Pr, L.ps[k]? = some p → p.done = true) → L.mem.getD 0 0 % 2 = 0
theorem beg_done {o : Ob} {k : Nat} {L L1 : Lm} {p p1 : Pr} (hb : Lm.beg (bgO o) L k p = some (L1, p1)) : p.done = true ∨ (L1 = L ∧ p1 = p) := by
  unfold Lm.beg at hb
  by_cases e : p.done = true
  · exact .inl e
  · rw [if_neg e] at hb
    cases hb
    exact .inr ⟨rfl, rfl⟩
theorem Lm.Solo.one {o : Ob} {k j : Nat} {L L' : Lm} {p : Pr} (h : L.Solo o k) (hg : L.Good o j) (hp : L.ps[k]? = some p) (h1 : Lm.one (bgO o) Kc.step L k p = some L') : L'.Solo o k := by
  obtain ⟨L1, ts, c, q, hb, rfl⟩ := Lm.one_some h1
  obtain ⟨c', hc', hov, hinv, hbase, _, hp1, _, _⟩ := Lm.beg_op hg.inv hp hb
  cases hc'
  obtain ⟨hal, hkd⟩ : Kc.Al c L1.mem ∧ c.kd = o.k := by
    rcases Lm.beg_some hb with ⟨rfl, rfl⟩ | ⟨t, ts', hl, hp', rfl⟩
    · exact h.own _ c hp rfl
    · cases hp'
      have hq : o.k = 3 → L.mem.getD 0 0 % 2 = 0 := fun e => h.quiet e fun p' e' => by
        rw [hp] at e'
        cases e'
        rcases beg_done hb with d | ⟨_, d⟩
        · exact d
        · have := congrArg (fun x : Pr => x.left.length) d
          rw [← d] at hl
          have := congrArg List.length hl
          simp at this
      refine ⟨⟨by show (0 : Int) ≠ 1; decide, fun e => ⟨fun e' => absurd (show false = true from e') (by decide), fun _ => ⟨fun _ => ⟨fun _ => hq e, fun e' => absurd (show 1 ≤ 0 from e') (by decide)⟩, fun _ => ⟨hq e, fun e' => absurd (show 1 ≤ 0 from e') (by decide)⟩⟩⟩, fun _ _ _ e' => absurd (show 1 ≤ 0 from e') (by decide), fun _ _ _ => ⟨rfl, fun e' => absurd (show 1 ≤ 0 from e') (by decide)⟩⟩, rfl⟩
  have hs := hal.step hinv hbase hov
  have hk1 : (c.step L1.mem).1.kd = o.k := ((Kc.left_step (l := L1.mem) hov hinv.sta.wd1 hinv.sta.nr1 hinv.sta.cap1).2.1).trans hkd
  have hcl : ∀ x ∈ L1.calls, x.c ≠ 1 ∧ (x.e = -1 ∨ x.b ≤ x.e) ∧ x.b ≤ (L1.now : Int) := by
    rcases Lm.beg_some hb with ⟨rfl, _⟩ | ⟨t, ts', _, _, rfl⟩
    · intro x hx
      have h2 := hg.up.lt x hx
      exact ⟨(h.calls x hx).1, (h.calls x hx).2, by omega⟩
    · intro x hx
      rcases List.mem_append.1 hx with hx | hx
      · have h2 := hg.up.lt x hx
        exact ⟨(h.calls x hx).1, (h.calls x hx).2, by show x.b ≤ (L.now : Int); omega⟩
      · rw [List.mem_singleton.1 hx]
        exact ⟨by show (0 : Int) ≠ 1; decide, .inl rfl, Int.le_refl _⟩
  have hk : k < L1.ps.length := (List.getElem?_eq_some_iff.1 hp1).1
  refine ⟨fun x hx => ?_, fun i p' d e hd hi => ?_, fun p' d e hd => ?_, fun e hd => ?_⟩
  · unfold Lm.go at hx
    dsimp only at hx
    split at hx
    · obtain ⟨i, hi⟩ := List.getElem?_of_mem hx
      rw [List.getElem?_modify] at hi
      cases hy : L1.calls[i]? with
      | none => rw [hy] at hi; split at hi <;> cases hi
      | some y =>
        rw [hy] at hi
        have hy1 := hcl y (List.mem_of_getElem? hy)
        obtain rfl := Option.some.inj hi
        by_cases e : q = i
        · simp only [if_pos e]
          exact ⟨hs.cd, .inr hy1.2.2⟩
        · simp only [if_neg e]
          exact ⟨hy1.1, hy1.2.1⟩
    · exact ⟨(hcl x hx).1, (hcl x hx).2.1⟩
  · rcases set_get e with ⟨e', _⟩ | ⟨_, e⟩
    · exact absurd e' hi
    · rcases Lm.beg_some hb with ⟨rfl, _⟩ | ⟨t, ts', _, _, rfl⟩
      · exact h.rest i p' d e hd hi
      · rcases set_get e with ⟨e', _⟩ | ⟨_, e⟩
        · exact absurd e' hi
        · exact h.rest i p' d e hd hi
  · rcases set_get e with ⟨_, rfl⟩ | ⟨e', _⟩
    · cases hd
      exact ⟨hs, hk1⟩
    · exact absurd rfl e'
  · have ho : (c.step L1.mem).1.over = true := hd ⟨ts, some (c.step L1.mem).1, q⟩ (by show (L1.ps.set k _)[k]? = _; simp [hk])
    exact (hs.s3 (hk1.trans e)).1 ho
theorem Lm.one_w {o : Ob} {k j : Nat} {L L' : Lm} {p : Pr} (hg : L.Good o j) (hw : W32 L.mem) (hp : L.ps[k]? = some p) (h1 : Lm.one (bgO o) Kc.step L k p = some L') : W32 L'.mem := by
  obtain ⟨L1, ts, c, q, hb, rfl⟩ := Lm.one_some h1
  obtain ⟨c', hc', _, hinv, _, _, _, _, hm⟩ := Lm.beg_op hg.inv hp hb
  cases hc'
  exact Kc.step_w hinv (by rw [hm]; exact hw)
theorem drain_solo {o : Ob} {T n k : Nat} : ∀ (f : Nat) (L : Lm), L.Solo o k → L.Fin o T n → W32 L.mem → leftL o L ≤ f → (drain o (k : Int) f L).Solo o k ∧ (drain o (k : Int) f L).Fin o T n ∧ W32 (drain o (k : Int) f L).mem ∧ (drain o (k : Int) f L).ps.length = L.ps.length ∧ ∀ p, (drain o (k : Int) f L).ps[k]? = some p → p.done = true := by
  intro f
  induction f with
  | zero =>
    intro L h hF hw hf
    cases h1 : Lm.turn? (bgO o) Kc.step L (k : Int) with
    | none => exact ⟨h, hF, hw, rfl, fun p hp => (turn_no hF hp h1).1⟩
    | some L' => have := (hF.turn hw h1).2; omega
  | succ f ih =>
    intro L h hF hw hf
    cases h1 : Lm.turn? (bgO o) Kc.step L (k : Int) with
    | none => rw [drain_none h1]; exact ⟨h, hF, hw, rfl, fun p hp => (turn_no hF hp h1).1⟩
    | some L' =>
      rw [drain_some h1]
      obtain ⟨p, hp, h2⟩ := Lm.turn_one h1
      rw [Int.toNat_natCast] at hp h2
      obtain ⟨j, hg⟩ := hF.good
      obtain ⟨hF', hlt⟩ := hF.turn hw h1
      obtain ⟨a, b, c, d, e⟩ := ih L' (h.one hg hp h2) hF' (Lm.one_w hg hw hp h2) (by omega)
      refine ⟨a, b, c, d.trans ?_, e⟩
      obtain ⟨L1, ts, c, q, hb, rfl⟩ := Lm.one_some h2
      show (L1.ps.set k _).length = _
      rw [List.length_set]
      rcases Lm.beg_some hb with ⟨rfl, _⟩ | ⟨t, ts', _, _, rfl⟩
      · rfl
      · exact List.length_set
/-- The next one's turn. -/
theorem Lm.Solo.next {o : Ob} {k : Nat} {L : Lm} (h : L.Solo o k) (hd : ∀ p, L.ps[k]? = some p → p.done = true) (hk : ∀ p, L.ps[k + 1]? = some p → p.op = none) : L.Solo o (k + 1) :=
  ⟨h.calls, fun i p c e hc hi => by
    by_cases q : i = k
    · subst q
      have := hd p e
      unfold Pr.done at this
      rw [hc] at this
      exact this
    · exact h.rest i p c e hc q, fun p c e hc => (by rw [hk p e] at hc; cases hc), fun e _ => h.quiet e hd⟩
theorem drain_rest {o : Ob} {k i : Nat} (hi : i ≠ k) : ∀ (f : Nat) (L : Lm), (drain o (k : Int) f L).ps[i]? = L.ps[i]? := by
  intro f
  induction f with
  | zero => intro L; rfl
  | succ f ih =>
    intro L
    cases h1 : Lm.turn? (bgO o) Kc.step L (k : Int) with
    | none => rw [drain_none h1]
    | some L' => rw [drain_some h1, ih, turn_other h1 (by rw [Int.toNat_natCast]; exact hi)]
theorem drains_solo {o : Ob} {T n : Nat} {L0 : Lm} (h : L0.Solo o 0) (hF : L0.Fin o T n) (hw : W32 L0.mem) (h0 : ∀ (i : Nat) (p : Pr), L0.ps[i]? = some p → p.op = none) (f : Nat) (hf : ∀ L : Lm, L.Fin o T n → leftL o L ≤ f) : ∀ k, (drains o f k L0).Solo o k ∧ (drains o f k L0).Fin o T n ∧ W32 (drains o f k L0).mem ∧ ∀ (i : Nat) (p : Pr), k ≤ i → (drains o f k L0).ps[i]? = some p → p.op = none := by
  intro k
  induction k with
  | zero => exact ⟨h, hF, hw, fun i p _ => h0 i p⟩
  | succ k ih =>
    obtain ⟨a, b, c, d⟩ := ih
    obtain ⟨a1, b1, c1, _, e1⟩ := drain_solo f _ a b c (hf _ b)
    have hr : ∀ (i : Nat) (p : Pr), k + 1 ≤ i → (drains o f (k + 1) L0).ps[i]? = some p → p.op = none := fun i p hi hp => by
      have hp' : (drain o (k : Int) f (drains o f k L0)).ps[i]? = some p := hp
      rw [drain_rest (by omega)] at hp'
      exact d i p (by omega) hp'
    exact ⟨a1.next e1 (fun p hp => hr (k + 1) p (Nat.le_refl _) hp), b1, c1, hr⟩
/-- No call of a loom that is finished with no turns ahead ends with Retry, or before it begins. -/
theorem fin_solo {o : Ob} {gs : List PG} {m : List Int} (hF : (lm0 (tds gs) m).Fin o (opsN (tds gs)) (bndN o (tds gs))) (hw : W32 m) (hq : o.k = 3 → m.getD 0 0 % 2 = 0) : ∀ x ∈ (finL o gs m []).calls, x.c ≠ 1 ∧ (x.e = -1 ∨ x.b ≤ x.e) := by
  have h0 : ∀ (i : Nat) (p : Pr), (lm0 (tds gs) m).ps[i]? = some p → p.op = none := fun i p e => by
    unfold lm0 at e
    rw [List.getElem?_map] at e
    cases q : (tds gs)[i]? with
    | none => rw [q] at e; cases e
    | some l => rw [q] at e; rw [← Option.some.inj e]
  have hS : (lm0 (tds gs) m).Solo o 0 := ⟨fun x hx => (by cases hx), fun i p c e hc _ => (by rw [h0 i p e] at hc; cases hc), fun p c e hc => (by rw [h0 0 p e] at hc; cases hc), fun e _ => hq e⟩
  exact ((drains_solo hS hF hw h0 (bndN o (tds gs)) (fun L h => by have := h.now; omega) gs.length).1).calls
theorem lay_even {o : Ob} {l : List Int} (hR : anyR o) (hl : o.ni = l.length) (hk : o.k = 3) : (layZ o l).getD 0 0 % 2 = 0 := by
  obtain ⟨k1, k2, k3, k4, k5, k6⟩ := kind_of (o := o)
  have hs : seqR o := by
    rcases hR with q | q | q | q | q | q
    · have := k1 q; omega
    · have := k2 q; omega
    · exact q
    · have := k4 q; omega
    · have := k5 q; omega
    · have := k6 q; omega
  have hst := hs.2.2.2
  have hw := hs.1.2.1
  have hoff : (offZ o).toNat = 1 := by
    unfold offZ headZ slotZ
    rw [hk]
    simp
  obtain ⟨N, hN⟩ : ∃ N, (sizeZ o).toNat = N + 1 := ⟨(sizeZ o).toNat - 1, by have := layZ_len hR hl; have h1 := lay_bd hR hl; omega⟩
  unfold layZ
  rw [if_pos hR, hoff]
  unfold layB
  rw [if_neg (by omega), hN]
  show (spl ((0 :: zs N).set 0 o.st) 1 l).getD 0 0 % 2 = 0
  rw [List.set_cons_zero]
  unfold spl
  simpa using hst
theorem lay_w {o : Ob} {l : List Int} (ho : o.Ok) (hl : W32 l) : W32 (layZ o l) := by
  have hB : W32 (layB o) := fun z hz => by
    have := wf_layB ho z hz
    simp [Lit.wf, IntKind.min, IntKind.max, IntKind.signed, IntKind.bits] at this
    omega
  unfold layZ
  split
  · intro z hz
    unfold spl at hz
    rcases List.mem_append.1 hz with hz | hz
    · rcases List.mem_append.1 hz with hz | hz
      · exact hB z (List.mem_of_mem_take hz)
      · exact hl z hz
    · exact hB z (List.mem_of_mem_drop hz)
  · exact fun z hz => by cases hz
/-- What all calls are when all is finished. -/
theorem alone_all {o : Ob} {A : Option Addr} {gs : List PG} {l : List Int} {w : World} (ho : o.Ok) (hl : o.ni = l.length) (hw : W32 l) (hf : faultP o (tds gs) = 0) (hrs : ∀ g ∈ gs, ∀ t ∈ g.ts, t.r.length ≤ 1000) (hin : ProcsIn w w.heap.size A gs) : ∀ x ∈ (finL o gs (layZ o l) []).calls, x.c ≠ 1 ∧ (x.e = -1 ∨ x.b ≤ x.e) := by
  obtain ⟨hR, _, _⟩ := fault_zero hf
  have hg : Lm.Good o 0 (lm0 (tds gs) (layZ o l)) := Lm.Good.start hf (layZ_len hR hl) (fun x hx t ht => by
    unfold tds at hx
    obtain ⟨g, hg, rfl⟩ := List.mem_map.1 hx
    obtain ⟨u, hu, rfl⟩ := List.mem_map.1 ht
    exact ⟨hrs g hg u hu, ws_w32 (hin.ws g hg u hu)⟩)
  exact fin_solo (Lm.Fin.start hg) (lay_w ho hw) (lay_even hR hl)
theorem alone_es {o : Ob} {gs : List PG} {m : List Int} {es : List CV} {T n : Nat} (h : ∀ x ∈ (finL o gs m []).calls, x.c ≠ 1 ∧ (x.e = -1 ∨ x.b ≤ x.e)) (hF : (finL o gs m []).Fin o T n) (hd : Fdone (finL o gs m []) (finL o gs m []).ps.length) (hx : es.map (·.x) = (finL o gs m []).calls) : ∀ e ∈ es, ((e.x.c == 1) = false) ∧ decide (e.x.e < e.x.b) = false := fun e he => by
  have hm : e.x ∈ (finL o gs m []).calls := by rw [← hx]; exact List.mem_map_of_mem he
  obtain ⟨h1, h2⟩ := h _ hm
  have h3 := ((hF.all hd).2 _ hm).1
  exact ⟨by simpa using h1, decide_eq_false (by omega)⟩

end Go.Proofs.YtolmpehgeinlkaaGreatDoor
