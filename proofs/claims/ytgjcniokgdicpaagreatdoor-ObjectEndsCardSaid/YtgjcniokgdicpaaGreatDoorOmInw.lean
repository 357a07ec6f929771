/- The bounds of an operation of any kind, kept by each step: of no program text. -/
import Derived.Test.YtgjcniokgdicpaaGreatDoorOmInv
namespace Go.Proofs.YtgjcniokgdicpaaGreatDoor
namespace Kc

/-- The numbers of an operation that may be. -/
structure Sta (c : Kc) : Prop where
  kd : c.kd = 1 ∨ c.kd = 2 ∨ c.kd = 3 ∨ c.kd = 4 ∨ c.kd = 5 ∨ c.kd = 6
  wd1 : 1 ≤ c.wd
  wd8 : c.wd ≤ 8
  nr1 : 1 ≤ c.nr
  nr4 : c.nr ≤ 4
  op5 : c.kd ≠ 6 → c.op = 2 ∨ c.op = 1
  op6 : c.kd = 6 → c.op = 3 ∨ c.op = 4
  rd : c.rd < c.nr
  s1 : c.kd = 1 → c.size = 4 + 4 * c.wd
  s2 : c.kd = 2 → c.size = 1 + c.nr + (c.nr + 2) * c.wd
  s3 : c.kd = 3 → c.size = 1 + c.wd
  s4 : c.kd = 4 → c.size = 1 + c.sl * c.wd
  s5 : c.kd = 5 → c.size = 1 + c.nr + c.sl * c.wd
  s6 : c.kd = 6 → c.size = 2 + c.sl * c.wd
  sl4 : c.kd = 4 → 2 ≤ c.sl
  sl5 : c.kd = 5 → c.nr + 2 ≤ c.sl
  sl6 : c.kd = 6 → 1 ≤ c.sl
  sl16 : c.sl ≤ 16
  cap1 : c.kd = 3 ∨ c.kd = 4 ∨ c.kd = 5 → 1 ≤ c.cap
  cap16 : c.cap ≤ 16
theorem Sta.same {c d : Kc} (h : Sta c) (hs : Same { c with steps := c.steps + 1 } d) : Sta d := by
  obtain ⟨e1, e2, e3, e4, e5, e6, e7, e8, e9, e10⟩ := hs
  exact ⟨by rw [e1]; exact h.kd, by rw [e2]; exact h.wd1, by rw [e2]; exact h.wd8, by rw [e3]; exact h.nr1, by rw [e3]; exact h.nr4, by rw [e1, e6]; exact h.op5, by rw [e1, e6]; exact h.op6, by rw [e7, e3]; exact h.rd,
    by rw [e1, e9, e2]; exact h.s1, by rw [e1, e9, e2, e3]; exact h.s2, by rw [e1, e9, e2]; exact h.s3, by rw [e1, e9, e2, e4]; exact h.s4, by rw [e1, e9, e2, e3, e4]; exact h.s5, by rw [e1, e9, e2, e4]; exact h.s6,
    by rw [e1, e4]; exact h.sl4, by rw [e1, e3, e4]; exact h.sl5, by rw [e1, e4]; exact h.sl6, by rw [e4]; exact h.sl16, by rw [e1, e5]; exact h.cap1, by rw [e5]; exact h.cap16⟩
structure Inv (c : Kc) : Prop where
  sta : Sta c
  gen : Gen 0 c
  d1 : c.kd = 1 → D1 c
  d2 : c.kd = 2 → D2 c
  d3 : c.kd = 3 → D3 c
  d4 : c.kd = 4 → D4 c
  d5 : c.kd = 5 → D5 c
  d6 : c.kd = 6 → D6 c
  st : c.steps + c.left ≤ 200
theorem Gen.up {c : Kc} (h : Gen 0 c) : Gen 1 { c with steps := c.steps + 1 } := ⟨by have := h.tr; show c.tr + 1 ≤ c.steps + 1; omega, h.i8, by have := h.rcl; show c.rc.length + 1 ≤ 8 + (c.steps + 1); omega, h.w32, h.wrl⟩
theorem Inv.step {c : Kc} {l : List Int} (h : Inv c) (ho : c.over = false) (hl : W32 l) : Inv (c.step l).1 := by
  obtain ⟨hlf, hsm⟩ := left_step (l := l) ho h.sta.wd1 h.sta.nr1 h.sta.cap1
  have hst : (c.step l).1.steps + (c.step l).1.left ≤ 200 := by
    have h1 : (c.step l).1.steps = c.steps + 1 := hsm.2.2.2.2.2.2.2.2.2
    have := h.st
    omega
  have hk : (c.step l).1.kd = c.kd := hsm.1
  have hu := h.gen.up
  have S := h.sta
  have fin : ∀ (k : Int), c.kd = k → Gen 0 (c.step l).1 → (k = 1 → D1 (c.step l).1) → (k = 2 → D2 (c.step l).1) → (k = 3 → D3 (c.step l).1) → (k = 4 → D4 (c.step l).1) → (k = 5 → D5 (c.step l).1) → (k = 6 → D6 (c.step l).1) → Inv (c.step l).1 := fun k hkk hg a1 a2 a3 a4 a5 a6 => by
    rw [hkk] at hk
    exact ⟨S.same hsm, hg, fun q => a1 (hk.symm.trans q), fun q => a2 (hk.symm.trans q), fun q => a3 (hk.symm.trans q), fun q => a4 (hk.symm.trans q), fun q => a5 (hk.symm.trans q), fun q => a6 (hk.symm.trans q), hst⟩
  rcases S.kd with q | q | q | q | q | q
  · have e : c.step l = Kc.four { c with steps := c.steps + 1 } l := by simp [Kc.step, q]
    have := inv1 (l := l) hu (h.d1 q) ho hl S.wd1 S.wd8
    rw [e] at fin ⊢
    exact fin 1 q this.1 (fun _ => this.2) (fun x => absurd x (by decide)) (fun x => absurd x (by decide)) (fun x => absurd x (by decide)) (fun x => absurd x (by decide)) (fun x => absurd x (by decide))
  · have e : c.step l = Kc.chen { c with steps := c.steps + 1 } l := by simp [Kc.step, q]
    have := inv2 (l := l) hu (h.d2 q) ho hl S.wd1 S.wd8 S.nr1 S.nr4
    rw [e] at fin ⊢
    exact fin 2 q this.1 (fun x => absurd x (by decide)) (fun _ => this.2) (fun x => absurd x (by decide)) (fun x => absurd x (by decide)) (fun x => absurd x (by decide)) (fun x => absurd x (by decide))
  · have e : c.step l = Kc.seq { c with steps := c.steps + 1 } l := by simp [Kc.step, q]
    have := inv3 (l := l) hu (h.d3 q) ho hl S.wd1 S.wd8 (S.op5 (by omega))
    rw [e] at fin ⊢
    exact fin 3 q this.1 (fun x => absurd x (by decide)) (fun x => absurd x (by decide)) (fun _ => this.2) (fun x => absurd x (by decide)) (fun x => absurd x (by decide)) (fun x => absurd x (by decide))
  · have e : c.step l = Kc.ring { c with steps := c.steps + 1 } l := by simp [Kc.step, q]
    have := inv4 (l := l) hu (h.d4 q) ho hl S.wd1 S.wd8 (Nat.lt_of_lt_of_le (by omega) (S.sl4 q)) (S.op5 (by omega))
    rw [e] at fin ⊢
    exact fin 4 q this.1 (fun x => absurd x (by decide)) (fun x => absurd x (by decide)) (fun x => absurd x (by decide)) (fun _ => this.2) (fun x => absurd x (by decide)) (fun x => absurd x (by decide))
  · have e : c.step l = Kc.cab { c with steps := c.steps + 1 } l := by simp [Kc.step, q]
    have := inv5 (l := l) hu (h.d5 q) ho hl S.wd1 S.wd8 S.nr1 S.nr4 (S.sl5 q) S.sl16 (S.op5 (by omega))
    rw [e] at fin ⊢
    exact fin 5 q this.1 (fun x => absurd x (by decide)) (fun x => absurd x (by decide)) (fun x => absurd x (by decide)) (fun x => absurd x (by decide)) (fun _ => this.2) (fun x => absurd x (by decide))
  · have e : c.step l = Kc.fifo { c with steps := c.steps + 1 } l := by simp [Kc.step, q]
    have := inv6 (l := l) hu (h.d6 q) ho hl S.wd1 S.wd8 (Nat.lt_of_lt_of_le (by omega) (S.sl6 q))
    rw [e] at fin ⊢
    exact fin 6 q this.1 (fun x => absurd x (by decide)) (fun x => absurd x (by decide)) (fun x => absurd x (by decide)) (fun x => absurd x (by decide)) (fun x => absurd x (by decide)) (fun _ => this.2)
/-- What has just begun is within bounds. -/
theorem inv_start {kd : Int} {wd nr sl cap : Nat} {op : Int} {rd base size : Nat} {rc : List Int} (hS : Sta (start kd wd nr sl cap op rd base size rc)) (hw : W32 rc) (hr1 : (op = 2 ∨ op = 3) → rc.length = wd) (hr2 : ¬ (op = 2 ∨ op = 3) → rc = []) : Inv (start kd wd nr sl cap op rd base size rc) := by
  have hwd : wd ≤ 8 := hS.wd8
  have hcap : cap ≤ 16 := hS.cap16
  have hnr : nr ≤ 4 := hS.nr4
  have hwd1 : 1 ≤ wd := hS.wd1
  have hnr1 : 1 ≤ nr := hS.nr1
  have hlen : rc.length ≤ 8 := by
    by_cases h : op = 2 ∨ op = 3
    · rw [hr1 h]; exact hwd
    · rw [hr2 h]; exact Nat.zero_le _
  have hl : (start kd wd nr sl cap op rd base size rc).left ≤ 200 := by
    have := left_start (kd := kd) (wd := wd) (nr := nr) (sl := sl) (cap := cap) (op := op) (rd := rd) (base := base) (size := size) (rc := rc) hS.cap1
    refine Nat.le_trans this ?_
    unfold most
    have hm : cap * (wd + 2) ≤ 16 * 10 := Nat.mul_le_mul hcap (by omega)
    repeat' split
    all_goals omega
  refine ⟨hS, ⟨Nat.zero_le _, Nat.zero_le _, ?_, hw, fun h _ => ?_⟩, fun _ => ?_, fun _ => ?_, fun _ => ?_, fun q => ?_, fun q => ?_, fun q => ?_, ?_⟩
  · show rc.length + 0 ≤ 8 + 0
    omega
  · have h' : (op == 2 || op == 3) = true := h
    exact hr1 (by simpa using h')
  · exact ⟨⟨Int.le_refl _, by show (0 : Int) ≤ 1; omega⟩, ⟨Int.le_refl _, by show (0 : Int) ≤ 1; omega⟩, fun _ => ⟨fun _ => ⟨Nat.zero_le _, fun h => absurd (show (0 : Nat) = 2 from h) (by decide)⟩, fun _ => ⟨Nat.zero_le _, fun h => absurd (show (0 : Nat) = 3 from h) (by decide)⟩⟩⟩
  · exact ⟨⟨Int.le_refl _, by show (0 : Int) < _; omega⟩, ⟨Int.le_refl _, by show (0 : Int) ≤ (nr : Int) + 1; omega⟩, fun _ => ⟨fun _ => ⟨Nat.zero_le _, fun _ => rfl, fun _ => ⟨[], Nat.le_refl _, fun _ h => absurd (show false = true from h) (by decide)⟩, fun h => absurd (show (0 : Nat) = 1 from h) (by decide), fun h => absurd (show (0 : Nat) = 2 from h) (by decide), fun h => absurd (show (0 : Nat) = 4 from h) (by decide)⟩, fun _ => ⟨Nat.zero_le _, fun h => absurd (show (0 : Nat) = 4 from h) (by decide)⟩⟩⟩
  · exact ⟨⟨Int.le_refl _, by show (0 : Int) < _; omega⟩, rfl, fun _ => ⟨fun _ => ⟨Nat.zero_le _, fun h => absurd (show (0 : Nat) = 2 from h) (by decide)⟩, fun _ => ⟨Nat.zero_le _, fun h => absurd (show (0 : Nat) = 1 from h) (by decide)⟩⟩⟩
  · have hs : 2 ≤ sl := hS.sl4 q
    exact ⟨⟨Int.le_refl _, by show (0 : Int) < (sl : Int) * 1048576; omega⟩, rfl, fun _ => ⟨Nat.zero_le _, fun h => absurd (show (0 : Nat) = 1 from h) (by decide)⟩⟩
  · have hs : nr + 2 ≤ sl := hS.sl5 q
    exact ⟨⟨Int.le_refl _, by show (0 : Int) < (sl : Int); omega⟩, ⟨Int.le_refl _, by show (0 : Int) ≤ 16; omega⟩, fun _ => ⟨fun _ => ⟨by show (0 : Int) < (sl : Int); omega, Nat.zero_le _, fun _ => rfl, fun _ => ⟨[], Nat.le_refl _, fun _ h => absurd (show false = true from h) (by decide)⟩, fun h => absurd (show (0 : Nat) = 1 from h) (by decide), fun h => absurd (show (0 : Nat) = 2 from h) (by decide)⟩, fun _ => ⟨Nat.zero_le _, fun h => absurd (show (0 : Nat) = 3 from h) (by decide)⟩⟩⟩
  · have hs : 1 ≤ sl := hS.sl6 q
    exact ⟨⟨Int.le_refl _, by show (0 : Int) < 2 * (sl : Int); omega⟩, rfl, fun _ => ⟨Nat.zero_le _, fun h => absurd (show (0 : Nat) = 2 from h) (by decide)⟩⟩
  · show 0 + _ ≤ 200
    omega

end Kc
end Go.Proofs.YtgjcniokgdicpaaGreatDoor
