
/- The most steps that are left to an operation on an object, whatever others do to its memory: of no program text. -/
import Derived.Test.YtgjcniokgdicpaaGreatDoorOmDef
namespace Go.Proofs.YtgjcniokgdicpaaGreatDoor
namespace Kc

/-- The most steps that are left, of one that is not over, by kinds. -/
def leftFour (c : Kc) : Nat :=
  if c.op == 2 then (match c.ph with | 0 => c.wd + 4 | 1 => c.wd + 3 | 2 => (c.wd - c.i - 1) + 3 | 3 => 2 | _ => 1)
  else (match c.ph with | 0 => c.wd + 3 | 1 => c.wd + 2 | 2 => c.wd + 1 | _ => (c.wd - c.i - 1) + 1)
def leftChen (c : Kc) : Nat :=
  if c.op == 2 then (match c.ph with | 0 => c.wd + 2 * c.nr + 2 | 1 => (c.nr - c.i - 1) + 1 + c.wd + 1 + c.nr | 2 => (c.wd - c.i - 1) + 2 + c.nr | 3 => c.nr + 1 | _ => (c.nr - c.i - 1) + 1)
  else (match c.ph with | 0 => c.wd + 4 | 1 => c.wd + 3 | 2 => c.wd + 2 | 3 => c.wd + 1 | _ => (c.wd - c.i - 1) + 1)
def leftSeq (c : Kc) : Nat :=
  if c.op == 2 then (match c.ph with | 0 => c.wd + 3 | 1 => c.wd + 2 | 2 => (c.wd - c.i - 1) + 2 | _ => 1)
  else (c.cap - c.tr - 1) * (c.wd + 2) + (match c.ph with | 0 => c.wd + 2 | 1 => (c.wd - c.i - 1) + 2 | _ => 1)
def leftRing (c : Kc) : Nat :=
  (if c.op == 2 then 0 else (c.cap - c.tr - 1) * (c.wd + 2)) + (match c.ph with | 0 => c.wd + 2 | 1 => (c.wd - c.i - 1) + 2 | _ => 1)
def leftCab (c : Kc) : Nat :=
  if c.op == 2 then (match c.ph with | 0 => c.wd + c.nr + 2 | 1 => (c.nr - c.i - 1) + 1 + c.wd + 1 | 2 => (c.wd - c.i - 1) + 2 | _ => 1)
  else (match c.ph with | 0 => 3 * (c.cap - c.tr - 1) + c.wd + 4 | 1 => 3 * (c.cap - c.tr - 1) + c.wd + 3 | 2 => 3 * (c.cap - c.tr - 1) + c.wd + 2 | 3 => (c.wd - c.i - 1) + 2 | _ => 1)
def leftFifo (c : Kc) : Nat := match c.ph with | 0 => c.wd + 3 | 1 => c.wd + 2 | 2 => (c.wd - c.i - 1) + 2 | _ => 1
def left (c : Kc) : Nat :=
  if c.over then 0 else if c.kd = 1 then c.leftFour else if c.kd = 2 then c.leftChen else if c.kd = 3 then c.leftSeq else if c.kd = 4 then c.leftRing else if c.kd = 5 then c.leftCab else c.leftFifo

theorem word_is (c : Kc) (l : List Int) (frm : Nat) (last : Kc → Kc) : ∃ X l', c.word l frm last = (if c.wd ≤ c.i + 1 then last { c with rc := X, i := c.i + 1 } else { c with rc := X, i := c.i + 1 }, l') := by
  unfold word
  cases h : c.wr
  · exact ⟨_, _, rfl⟩
  · exact ⟨c.rc, _, rfl⟩
theorem fail_is (c : Kc) (last : Kc → Kc) : c.fail last = if c.cap ≤ c.tr + 1 then last { c with tr := c.tr + 1, rc := [], ph := 0, i := 0 } else { c with tr := c.tr + 1, rc := [], ph := 0, i := 0 } := rfl
/-- What a part of a kind keeps. -/
def Down (f : Kc → Nat) (c d : Kc) : Prop := d.over = true ∨ f d < f c

theorem left_four {c : Kc} {l : List Int} (hw : 1 ≤ c.wd) : Down leftFour c (c.four l).1 := by
  unfold four Down
  cases ho : c.op == 2
  · rcases hp : c.ph with _ | _ | _ | n
    · right; simp [go, leftFour, ho, hp]
    · right; simp [go, leftFour, ho, hp]
    · right; simp [go, leftFour, ho, hp]; omega
    · simp only [Bool.false_eq_true, if_false]
      obtain ⟨X, l', e⟩ := word_is c l (4 + (2 * c.A + c.B).toNat * c.wd) (·.fin 0)
      rw [e]; split
      · left; rfl
      · right; simp [leftFour, ho, hp]; omega
  · rcases hp : c.ph with _ | _ | _ | _ | n
    · right; simp [go, leftFour, ho, hp]
    · right; simp [go, leftFour, ho, hp]; omega
    · simp only [if_true]
      obtain ⟨X, l', e⟩ := word_is c l (4 + (2 * c.A + c.B).toNat * c.wd) (·.go 3)
      rw [e]; split
      · right; simp [go, leftFour, ho, hp]
      · right; simp [go, leftFour, ho, hp]; omega
    · right; simp [go, leftFour, ho, hp]
    · left; rfl
theorem left_fifo {c : Kc} {l : List Int} (hw : 1 ≤ c.wd) : Down leftFifo c (c.fifo l).1 := by
  unfold fifo Down
  rcases hp : c.ph with _ | _ | _ | n
  · right; simp [go, leftFifo, hp]
  · simp only
    split <;> split <;> first
      | (left; rfl)
      | (right; simp [go, leftFifo, hp]; omega)
  · simp only
    obtain ⟨X, l', e⟩ := word_is c l (2 + (c.A % c.sl).toNat * c.wd) (·.go 3)
    rw [e]; split
    · right; simp [go, leftFifo, hp]
    · right; simp [go, leftFifo, hp]; omega
  · left; rfl
theorem left_seq {c : Kc} {l : List Int} (hw : 1 ≤ c.wd) (hc : 1 ≤ c.cap) : Down leftSeq c (c.seq l).1 := by
  have hf : c.op ≠ 2 → ∀ c1 : Kc, c1.cap = c.cap → c1.tr = c.tr → c1.wd = c.wd → c1.op = c.op → (c1.fail (·.fin 1)).over = true ∨ (c1.fail (·.fin 1)).leftSeq < (c.cap - c.tr - 1) * (c.wd + 2) + 1 := by
    intro h2 c1 h h' h'' h3
    rw [fail_is, h, h']
    split
    · left; rfl
    · right
      have e : c.cap - c.tr - 1 = (c.cap - (c.tr + 1) - 1) + 1 := by omega
      simp only [leftSeq, h, h'', h3]
      rw [if_neg (by simpa using h2), e, Nat.add_mul, Nat.one_mul]
      omega
  unfold seq Down
  cases ho : c.op == 2
  · have h2 : c.op ≠ 2 := by simpa using ho
    rcases hp : c.ph with _ | _ | n
    · simp only [Bool.false_eq_true, if_false]
      split
      · rcases hf h2 { c with A := c.rdm l 0 } rfl rfl rfl rfl with h | h
        · exact Or.inl h
        · right; refine Nat.lt_of_lt_of_le h ?_
          simp [leftSeq, ho, hp]
      · right; simp [go, leftSeq, ho, hp]; omega
    · simp only [Bool.false_eq_true, if_false]
      obtain ⟨X, l', e⟩ := word_is c l 1 (·.go 2)
      rw [e]; split
      · right; simp [go, leftSeq, ho, hp]
      · right; simp [go, leftSeq, ho, hp]; omega
    · simp only [Bool.false_eq_true, if_false]
      split
      · left; rfl
      · rcases hf h2 c rfl rfl rfl rfl with h | h
        · exact Or.inl h
        · right; refine Nat.lt_of_lt_of_le h ?_
          simp [leftSeq, ho, hp]
  · rcases hp : c.ph with _ | _ | _ | n
    · right; simp [go, leftSeq, ho, hp]
    · right; simp [go, leftSeq, ho, hp]; omega
    · simp only [if_true]
      obtain ⟨X, l', e⟩ := word_is c l 1 (·.go 3)
      rw [e]; split
      · right; simp [go, leftSeq, ho, hp]
      · right; simp [go, leftSeq, ho, hp]; omega
    · left; rfl
theorem left_ring {c : Kc} {l : List Int} (hw : 1 ≤ c.wd) (hc : 1 ≤ c.cap) : Down leftRing c (c.ring l).1 := by
  have hf : c.op ≠ 2 → ∀ c1 : Kc, c1.cap = c.cap → c1.tr = c.tr → c1.wd = c.wd → c1.op = c.op → (c1.fail (·.fin 1)).over = true ∨ (c1.fail (·.fin 1)).leftRing < (c.cap - c.tr - 1) * (c.wd + 2) + 1 := by
    intro h2 c1 h h' h'' h3
    rw [fail_is, h, h']
    split
    · left; rfl
    · right
      have e : c.cap - c.tr - 1 = (c.cap - (c.tr + 1) - 1) + 1 := by omega
      simp only [leftRing, h, h'', h3]
      rw [if_neg (by simpa using h2), e, Nat.add_mul, Nat.one_mul]
      omega
  unfold ring Down
  rcases hp : c.ph with _ | _ | n
  · right; simp [go, leftRing, hp]; omega
  · simp only
    obtain ⟨X, l', e⟩ := word_is c l (1 + (c.A % c.sl).toNat * c.wd) (·.go 2)
    rw [e]; split
    · right; simp [go, leftRing, hp]
    · right; simp [go, leftRing, hp]; omega
  · simp only
    cases ho : c.op == 2
    · have h2 : c.op ≠ 2 := by simpa using ho
      simp only [Bool.false_eq_true, if_false]
      split
      · left; rfl
      · rcases hf h2 c rfl rfl rfl rfl with h | h
        · exact Or.inl h
        · right; refine Nat.lt_of_lt_of_le h ?_
          simp [leftRing, ho, hp]
    · left; rfl
theorem left_chen {c : Kc} {l : List Int} (hw : 1 ≤ c.wd) (hn : 1 ≤ c.nr) : Down leftChen c (c.chen l).1 := by
  unfold chen Down
  cases ho : c.op == 2
  · rcases hp : c.ph with _ | _ | _ | _ | n
    · right; simp [go, leftChen, ho, hp]
    · right; simp [go, leftChen, ho, hp]
    · right; simp [go, leftChen, ho, hp]
    · right; simp [go, leftChen, ho, hp]; omega
    · simp only [Bool.false_eq_true, if_false]
      obtain ⟨X, l', e⟩ := word_is c l (1 + c.nr + c.B.toNat * c.wd) (·.fin 0)
      rw [e]; split
      · left; rfl
      · right; simp [leftChen, ho, hp]; omega
  · rcases hp : c.ph with _ | _ | _ | _ | n
    · right; simp [go, leftChen, ho, hp]; omega
    · simp only [if_true]
      split
      · right; simp [go, mark, leftChen, ho, hp]; omega
      · right; simp [go, mark, leftChen, ho, hp]; omega
    · simp only [if_true]
      obtain ⟨X, l', e⟩ := word_is c l (1 + c.nr + c.B.toNat * c.wd) (·.go 3)
      rw [e]; split
      · right; simp [go, leftChen, ho, hp]; omega
      · right; simp [go, leftChen, ho, hp]; omega
    · right; simp [go, leftChen, ho, hp]; omega
    · simp only [if_true]
      split
      · left; rfl
      · right; simp [leftChen, ho, hp]; omega
theorem left_cab {c : Kc} {l : List Int} (hw : 1 ≤ c.wd) (hn : 1 ≤ c.nr) (hc : 1 ≤ c.cap) : Down leftCab c (c.cab l).1 := by
  unfold cab Down
  cases ho : c.op == 2
  · rcases hp : c.ph with _ | _ | _ | _ | n
    · right; simp [go, leftCab, ho, hp]
    · right; simp [go, leftCab, ho, hp]
    · simp only [Bool.false_eq_true, if_false]
      split
      · right; simp [go, leftCab, ho, hp]; omega
      · rw [fail_is]; split
        · right; simp [go, leftCab, ho, hp]
        · right; simp [leftCab, ho, hp]; omega
    · simp only [Bool.false_eq_true, if_false]
      obtain ⟨X, l', e⟩ := word_is c l (1 + c.nr + c.A.toNat * c.wd) (·.go 4)
      rw [e]; split
      · right; simp [go, leftCab, ho, hp]
      · right; simp [leftCab, ho, hp]; omega
    · left; rfl
  · rcases hp : c.ph with _ | _ | _ | n
    · right; simp [go, leftCab, ho, hp]; omega
    · simp only [if_true]
      by_cases hr : 0 < c.rdm l (1 + c.i)
      · simp only [hr, if_true]
        split
        · right; simp [go, mark, leftCab, ho, hp]; omega
        · right; simp [go, mark, leftCab, ho, hp]; simp [mark] at *; omega
      · simp only [hr, if_false]
        split
        · right; simp [go, mark, leftCab, ho, hp]; omega
        · right; simp [go, mark, leftCab, ho, hp]; omega
    · simp only [if_true]
      obtain ⟨X, l', e⟩ := word_is c l (1 + c.nr + c.B.toNat * c.wd) (·.go 3)
      rw [e]; split
      · right; simp [go, leftCab, ho, hp]
      · right; simp [go, leftCab, ho, hp]; omega
    · left; rfl
/-- What no step changes, as far as what is left needs it. -/
def Same (c d : Kc) : Prop := d.kd = c.kd ∧ d.wd = c.wd ∧ d.nr = c.nr ∧ d.sl = c.sl ∧ d.cap = c.cap ∧ d.op = c.op ∧ d.rd = c.rd ∧ d.base = c.base ∧ d.size = c.size ∧ d.steps = c.steps
theorem Same.rfl (c : Kc) : Same c c := ⟨.refl _, .refl _, .refl _, .refl _, .refl _, .refl _, .refl _, .refl _, .refl _, .refl _⟩
theorem same_word {c : Kc} {l : List Int} {frm : Nat} {last : Kc → Kc} (h : ∀ d, Same c d → Same c (last d)) : Same c (c.word l frm last).1 := by
  obtain ⟨X, l', e⟩ := word_is c l frm last
  rw [e]; split
  · exact h _ (Same.rfl c)
  · exact Same.rfl c
theorem same_fail {c c1 : Kc} {last : Kc → Kc} (h1 : Same c c1) (h : ∀ d, Same c d → Same c (last d)) : Same c (c1.fail last) := by
  rw [fail_is]; split
  · exact h _ h1
  · exact h1
theorem same_four (c : Kc) (l : List Int) : Same c (c.four l).1 := by
  unfold four
  split <;> split <;> first
    | exact Same.rfl c
    | exact same_word fun d h => h
theorem same_chen (c : Kc) (l : List Int) : Same c (c.chen l).1 := by
  unfold chen
  simp only
  split <;> split <;> first
    | exact Same.rfl c
    | exact same_word fun d h => h
    | (split <;> exact Same.rfl c)
theorem same_seq (c : Kc) (l : List Int) : Same c (c.seq l).1 := by
  unfold seq
  simp only
  split <;> split <;> first
    | exact Same.rfl c
    | exact same_word fun d h => h
    | (split <;> first | exact Same.rfl c | exact same_fail (Same.rfl c) fun d h => h)
theorem same_ring (c : Kc) (l : List Int) : Same c (c.ring l).1 := by
  unfold ring
  simp only
  split
  · exact Same.rfl c
  · exact same_word fun d h => h
  · split
    · exact Same.rfl c
    · simp only; split
      · exact Same.rfl c
      · exact same_fail (Same.rfl c) fun d h => h
theorem same_cab (c : Kc) (l : List Int) : Same c (c.cab l).1 := by
  unfold cab
  simp only
  split <;> split <;> first
    | exact Same.rfl c
    | exact same_word fun d h => h
    | (simp only; split <;> first | exact Same.rfl c | exact same_fail (Same.rfl c) fun d h => h)
    | (split <;> split <;> exact Same.rfl c)
theorem same_fifo (c : Kc) (l : List Int) : Same c (c.fifo l).1 := by
  unfold fifo
  simp only
  split
  · exact Same.rfl c
  · split <;> split <;> exact Same.rfl c
  · exact same_word fun d h => h
  · exact Same.rfl c

/-- One step of any kind: there is less left; what is kept stays; one more is counted. -/
theorem left_step {c : Kc} {l : List Int} (ho : c.over = false) (hw : 1 ≤ c.wd) (hn : 1 ≤ c.nr) (hc : c.kd = 3 ∨ c.kd = 4 ∨ c.kd = 5 → 1 ≤ c.cap) :
    (c.step l).1.left < c.left ∧ Same { c with steps := c.steps + 1 } (c.step l).1 := by
  have hS : Same { c with steps := c.steps + 1 } (c.step l).1 := by
    unfold step; simp only
    repeat' split
    all_goals first
      | exact same_four _ l
      | exact same_chen _ l
      | exact same_seq _ l
      | exact same_ring _ l
      | exact same_cab _ l
      | exact same_fifo _ l
  refine ⟨?_, hS⟩
  have hk : (c.step l).1.kd = c.kd := hS.1
  have key : ∀ f : Kc → Nat, (∀ d : Kc, d.over = false → d.kd = c.kd → d.left = f d) → (∀ d : Kc, 0 < f d) → Down f { c with steps := c.steps + 1 } (c.step l).1 → f { c with steps := c.steps + 1 } = f c → (c.step l).1.left < c.left := by
    intro f hf h0 hd he
    rw [hf c ho rfl]
    cases hov : (c.step l).1.over
    · rw [hf _ hov hk]
      rcases hd with h | h
      · rw [hov] at h; exact absurd h (by decide)
      · rw [he] at h; exact h
    · unfold left; rw [hov, if_pos rfl]; exact h0 c
  by_cases h1 : c.kd = 1
  · refine key leftFour (fun d h h' => by simp [left, h, h', h1]) (fun d => by unfold leftFour; split <;> split <;> omega) ?_ rfl
    have e : c.step l = Kc.four { c with steps := c.steps + 1 } l := by simp [step, h1]
    rw [e]; exact left_four hw
  by_cases h2 : c.kd = 2
  · refine key leftChen (fun d h h' => by simp [left, h, h', h2]) (fun d => by unfold leftChen; split <;> split <;> omega) ?_ rfl
    have e : c.step l = Kc.chen { c with steps := c.steps + 1 } l := by simp [step, h2]
    rw [e]; exact left_chen hw hn
  by_cases h3 : c.kd = 3
  · refine key leftSeq (fun d h h' => by simp [left, h, h', h3]) (fun d => by unfold leftSeq; split <;> split <;> omega) ?_ rfl
    have e : c.step l = Kc.seq { c with steps := c.steps + 1 } l := by simp [step, h3]
    rw [e]; exact left_seq hw (hc (Or.inl h3))
  by_cases h4 : c.kd = 4
  · refine key leftRing (fun d h h' => by simp [left, h, h', h4]) (fun d => by unfold leftRing; split <;> split <;> omega) ?_ rfl
    have e : c.step l = Kc.ring { c with steps := c.steps + 1 } l := by simp [step, h4]
    rw [e]; exact left_ring hw (hc (Or.inr (Or.inl h4)))
  by_cases h5 : c.kd = 5
  · refine key leftCab (fun d h h' => by simp [left, h, h', h5]) (fun d => by unfold leftCab; split <;> split <;> omega) ?_ rfl
    have e : c.step l = Kc.cab { c with steps := c.steps + 1 } l := by simp [step, h5]
    rw [e]; exact left_cab hw hn (hc (Or.inr (Or.inr h5)))
  · refine key leftFifo (fun d h h' => by simp [left, h, h', h1, h2, h3, h4, h5]) (fun d => by unfold leftFifo; split <;> omega) ?_ rfl
    have e : c.step l = Kc.fifo { c with steps := c.steps + 1 } l := by simp [step, h1, h2, h3, h4, h5]
    rw [e]; exact left_fifo hw
/-- Nothing is left of just those that are over. -/
theorem left_zero {c : Kc} : c.left = 0 ↔ c.over = true := by
  unfold left
  constructor
  · intro h
    cases ho : c.over
    · rw [ho] at h
      simp only [Bool.false_eq_true, if_false] at h
      repeat' split at h
      all_goals first
        | (unfold leftFour at h; split at h <;> split at h <;> omega)
        | (unfold leftChen at h; split at h <;> split at h <;> omega)
        | (unfold leftSeq at h; split at h <;> split at h <;> omega)
        | (unfold leftRing at h; split at h <;> split at h <;> omega)
        | (unfold leftCab at h; split at h <;> split at h <;> omega)
        | (unfold leftFifo at h; split at h <;> omega)
    · rfl
  · intro h; rw [h, if_pos rfl]
/-- An operation that has just begun. -/
def start (kd : Int) (wd nr sl cap : Nat) (op : Int) (rd base size : Nat) (rc : List Int) : Kc :=
  { kd := kd, wd := wd, nr := nr, sl := sl, cap := cap, op := op, rd := rd, ph := 0, i := 0, tr := 0, A := 0, B := 0, used := fun _ => false, rc := rc, base := base, size := size, code := 0, steps := 0, over := false }
/-- The bound of an operation, by kinds, as numbers. -/
def most (kd : Int) (wd nr cap : Nat) (op : Int) : Nat :=
  if kd = 1 then (if op = 2 then wd + 4 else wd + 3)
  else if kd = 2 then (if op = 2 then wd + 2 * nr + 2 else wd + 4)
  else if kd = 3 then (if op = 2 then wd + 3 else cap * (wd + 2))
  else if kd = 4 then (if op = 2 then wd + 2 else cap * (wd + 2))
  else if kd = 5 then (if op = 2 then wd + nr + 2 else 3 * cap + wd + 1)
  else wd + 3
theorem left_new {c : Kc} (ho : c.over = false) (hp : c.ph = 0) (ht : c.tr = 0) (hc : c.kd = 3 ∨ c.kd = 4 ∨ c.kd = 5 → 1 ≤ c.cap) : c.left ≤ most c.kd c.wd c.nr c.cap c.op := by
  have hm : 1 ≤ c.cap → (c.cap - 0 - 1) * (c.wd + 2) + (c.wd + 2) = c.cap * (c.wd + 2) := by
    intro h
    obtain ⟨k, e⟩ : ∃ k, c.cap = k + 1 := ⟨c.cap - 1, by omega⟩
    rw [e, Nat.add_mul, Nat.one_mul]; rfl
  unfold left most
  rw [ho, if_neg (by decide)]
  by_cases h1 : c.kd = 1
  · rw [if_pos h1, if_pos h1]
    by_cases h : c.op = 2 <;> simp [leftFour, h, hp]
  rw [if_neg h1, if_neg h1]
  by_cases h2 : c.kd = 2
  · rw [if_pos h2, if_pos h2]
    by_cases h : c.op = 2 <;> simp [leftChen, h, hp]
  rw [if_neg h2, if_neg h2]
  by_cases h3 : c.kd = 3
  · rw [if_pos h3, if_pos h3]
    have := hm (hc (Or.inl h3))
    by_cases h : c.op = 2
    · simp [leftSeq, h, hp]
    · simp only [leftSeq, hp, ht]
      rw [if_neg (by simpa using h), if_neg h, this]
      exact Nat.le_refl _
  rw [if_neg h3, if_neg h3]
  by_cases h4 : c.kd = 4
  · rw [if_pos h4, if_pos h4]
    have := hm (hc (Or.inr (Or.inl h4)))
    by_cases h : c.op = 2
    · simp [leftRing, h, hp]
    · simp only [leftRing, hp, ht]
      rw [if_neg (by simpa using h), if_neg h, this]
      exact Nat.le_refl _
  rw [if_neg h4, if_neg h4]
  by_cases h5 : c.kd = 5
  · rw [if_pos h5, if_pos h5]
    have := hc (Or.inr (Or.inr h5))
    by_cases h : c.op = 2
    · simp [leftCab, h, hp]
    · simp [leftCab, h, hp, ht]; omega
  rw [if_neg h5, if_neg h5]
  simp [leftFifo, hp]
theorem left_start {kd : Int} {wd nr sl cap : Nat} {op : Int} {rd base size : Nat} {rc : List Int} (hc : kd = 3 ∨ kd = 4 ∨ kd = 5 → 1 ≤ cap) :
    (start kd wd nr sl cap op rd base size rc).left ≤ most kd wd nr cap op :=
  left_new (c := start kd wd nr sl cap op rd base size rc) rfl rfl rfl hc

/-- At most so many steps on a memory that others change in between, until it is over. -/
def runs (pk : Nat → List Int → List Int) : Nat → Nat → Km → Km
  | 0, _, x => x
  | n + 1, t, x => if x.1.over then x else runs pk n (t + 1) (x.1.step (pk t x.2))
theorem runs_over {pk : Nat → List Int → List Int} : ∀ (n t : Nat) (c : Kc) (l : List Int), c.left ≤ n → 1 ≤ c.wd → 1 ≤ c.nr → (c.kd = 3 ∨ c.kd = 4 ∨ c.kd = 5 → 1 ≤ c.cap) → (runs pk n t (c, l)).1.over = true := by
  intro n
  induction n with
  | zero =>
    intro t c l h _ _ _
    have h0 : c.left = 0 := by omega
    exact left_zero.mp h0
  | succ n ih =>
    intro t c l h hw hn hc
    unfold runs
    cases ho : c.over
    · simp only [ho, Bool.false_eq_true, if_false]
      obtain ⟨hl, hs⟩ := left_step (l := pk t l) ho hw hn hc
      have e1 : (c.step (pk t l)).1.kd = c.kd := hs.1
      have e2 : (c.step (pk t l)).1.wd = c.wd := hs.2.1
      have e3 : (c.step (pk t l)).1.nr = c.nr := hs.2.2.1
      have e5 : (c.step (pk t l)).1.cap = c.cap := hs.2.2.2.2.1
      have hh := ih (t + 1) (c.step (pk t l)).1 (c.step (pk t l)).2 (by omega) (by rw [e2]; exact hw) (by rw [e3]; exact hn) (by rw [e1, e5]; exact hc)
      exact hh
    · simp only [ho, if_true]
/-- Any operation of any kind ends within its bound, whatever others do to its memory. -/
theorem ends {pk : Nat → List Int → List Int} {kd : Int} {wd nr sl cap : Nat} {op : Int} {rd base size : Nat} {rc l : List Int} (hw : 1 ≤ wd) (hn : 1 ≤ nr) (hc : kd = 3 ∨ kd = 4 ∨ kd = 5 → 1 ≤ cap) :
    (runs pk (most kd wd nr cap op) 0 (start kd wd nr sl cap op rd base size rc, l)).1.over = true :=
  runs_over _ _ _ _ (left_start hc) hw hn hc

end Kc
end Go.Proofs.YtgjcniokgdicpaaGreatDoor
