/- A law of my own for a range over a function whose iterator keeps a state of its own in one captured cell (strings.SplitSeq, strings.Lines): what is carried through the rounds must bear new blocks, draws, and stores into that cell. -/
import Derived.Test.YtkcdmonmgnmojaaDoorWalk
import Derived.RangeFuncNested
import Derived.RangeFuncBound
import Derived.RangeFuncCalls
import Derived.RangeFuncLeaves
import Derived.RangeFuncBox
namespace Go.Proofs.YtkcdmonmgnmojaaDoor
open Go.RowKit

variable {F : Fence} {n : Nat} {P : Program} {α : Type}

/-- What bears all that an iterator with a state in block B does by itself. -/
structure Calm (B : Nat) (J : World → Prop) : Prop where
  alloc : ∀ W o, J W → J (W.alloc o)
  set : ∀ W v, J W → J (W.setCell ⟨B, 0, none⟩ v)
  drew : ∀ W k, J W → J (W.drewN k)

theorem Calm.and {B : Nat} {J J' : World → Prop} (h : Calm B J) (h' : Calm B J') : Calm B (fun W => J W ∧ J' W) :=
  ⟨fun W o x => ⟨h.alloc W o x.1, h'.alloc W o x.2⟩, fun W v x => ⟨h.set W v x.1, h'.set W v x.2⟩, fun W k x => ⟨h.drew W k x.1, h'.drew W k x.2⟩⟩
theorem Calm.ex {β : Type} {B : Nat} {J : β → World → Prop} (h : ∀ b, Calm B (J b)) : Calm B (fun W => ∃ b, J b W) :=
  ⟨fun W o ⟨b, x⟩ => ⟨b, (h b).alloc W o x⟩, fun W v ⟨b, x⟩ => ⟨b, (h b).set W v x⟩, fun W k ⟨b, x⟩ => ⟨b, (h b).drew W k x⟩⟩
/-- That another block holds something. -/
theorem Calm.at {B l : Nat} (hne : l ≠ B) (o : Obj) : Calm B (fun W => W.heap[l]? = some o) where
  alloc W o' h := (Below.heap_alloc W o' l (Array.getElem?_eq_some_iff.1 h).1).trans h
  set W v h := ((grownBy_setCell' W B v).block l (Array.getElem?_eq_some_iff.1 h).1 (fun e => hne (by cases e; rfl))).trans h
  drew W k h := h
theorem Calm.boxed {B l : Nat} (hne : l ≠ B) (t : TypeId) (v : Value) : Calm B (fun W => Boxed W l t v) := Calm.at hne _
theorem Calm.below {B n₀ : Nat} {w : World} (h1 : n₀ ≤ B) (h2 : n₀ ≤ w.heap.size) : Calm B (fun W => Below n₀ w W) where
  alloc _ _ h := h.alloc (Nat.le_trans h2 h.size) _
  set _ _ h := h.setCell (p := ⟨B, 0, none⟩) h1 _
  drew _ k h := drewN_below h k

/-- The contract of an iterator with a state in block B: what it hands over one by one, S of all, Sp of what was handed over where it was stopped. -/
def SeqSt (F : Fence) (n : Nat) (P : Program) (g : Nat) (lb : Array Value) (enc : α → Value) (Kp : World → World → Prop) (S Sp : List α → Prop) (Ok : List α → α → Prop) (B : Nat) (w : World) : Prop :=
  ∀ (l : Nat) (J Jx : List α → World → Prop) (W : World), Below w.heap.size w W → (∀ s, Calm B (J s)) → (∀ s, Calm B (Jx s)) →
    (∀ pre x W1, J pre W1 → Ok pre x → YieldAt F (n - 1) P l #[enc x] W1 fun e W' =>
      (e = .returned (.bool true) ∧ J (pre ++ [x]) W' ∧ Kp W1 W') ∨ (e = .returned (.bool false) ∧ Jx (pre ++ [x]) W')) →
    J [] W →
    CallsIn F n P g (#[.func (.yield l) #[] #[]] ++ lb) W fun e W' => (∃ v, e = .returned v) ∧ ((∃ xs, S xs ∧ J xs W') ∨ (∃ pre, Sp pre ∧ Jx pre W'))

/-- How a round may be left: the loop's own two blocks lie from L on. -/
def roundEnds (L : Nat) (Kp : World → World → Prop) (I : World → Prop) (Ix : Code → World → Prop) (W : World) : Exit → Act → World → Prop
  | .normal, _, W' => KeepsFrom L W W' ∧ Kp W W' ∧ I W'
  | .ret, _, W' => KeepsFrom L W W' ∧ Ix .ret W'
  | .exit id, _, W' => KeepsFrom L W W' ∧ Ix (.exit id) W'
  | .goto t, _, W' => KeepsFrom L W W' ∧ Ix (.goto t) W'
  | .panic _, _, _ => False
  | .outgrown, _, _ => False

theorem wpIn_rangeFunc_st {g : Operand} {p : Tmp} {assign body : Code} {Q : Exit → Act → World → Prop} {a : Act} {w : World}
    (hro : F.round = none) (h1 : 1 ≤ n) {gf : Nat} {lb : Array Value} (hg : a.eval g = .func (.func gf) #[] lb) (hFg : F.fn gf) (eg : ∀ args w, (callFunc gf args).run P w = .ok (.enter gf args) w)
    {enc : α → Value} {Kp : World → World → Prop} {S Sp : List α → Prop} {Ok : List α → α → Prop} {B : Nat} {w0 : World} (hseq : SeqSt F (n - 1) P gf lb enc Kp S Sp Ok B w0) (hB : B < w.heap.size)
    (hKt : ∀ {X Y Z : World}, Kp X Y → Kp Y Z → Kp X Z) (hKb : ∀ (W : World) (l : Nat) (o o' : Obj), w.heap.size ≤ l → W.heap[l]? = some o → o.isCells = false → Kp W (W.putObj l o')) (hb0 : Below w0.heap.size w0 w)
    (I : List α → World → Prop) (Ix : Code → List α → World → Prop) (hI : ∀ s, Calm B (I s)) (hIx : ∀ c s, Calm B (Ix c s))
    (hIp : ∀ s W l o o', I s W → w.heap.size ≤ l → W.heap[l]? = some o → o.isCells = false → I s (W.putObj l o'))
    (hIxp : ∀ c s W l o o', Ix c s W → w.heap.size ≤ l → W.heap[l]? = some o → o.isCells = false → Ix c s (W.putObj l o')) (h0 : I [] w) (a₁ : α → Act)
    (hassign : ∀ (l : Nat) (x : α) (W : World) (K : Act → World → Prop), K (a₁ x) W →
      assign.wpIn (F.inRound l) (n - 1 - 1) P (Exit.then K (fun _ _ _ => False)) { tmps := (#[p].zip #[enc x]).foldl (fun t (q, v) => t.setIfInBounds q v) a.tmps, defers := [] } W)
    (hbody : ∀ (l : Nat) (pre : List α) (x : α) (W : World), I pre W → Ok pre x → body.wpIn (F.inRound l) (n - 1 - 1) P (roundEnds w.heap.size Kp (I (pre ++ [x])) (fun c => Ix c (pre ++ [x])) W) (a₁ x) W)
    (hdone : ∀ (D : Nat) (xs : List α) (W : World), w.heap.size ≤ D → S xs → I xs W → W.heap[D]? = some (.deferred (some [])) → Q .normal { a with defers := { target := .collected D, args := #[] } :: a.defers } W)
    (hstop : ∀ (D : Nat) (c : Code) (pre : List α) (W : World), w.heap.size ≤ D → Sp pre → Ix c pre W → W.heap[D]? = some (.deferred (some [])) → c.wpIn F n P Q { a with defers := { target := .collected D, args := #[] } :: a.defers } W) :
    (Code.rangeFunc g #[p] assign body).wpIn F n P Q a w := by
  refine wpIn_rangeFunc ?_
  intro fn hfn
  rw [hro]
  obtain ⟨D, hD⟩ : ∃ D, w.heap.size = D := ⟨_, rfl⟩
  obtain ⟨R, hR⟩ : ∃ R : LoopState → Option Code → Loop, R = fun s c => { state := s, pending := c, fn, tmps := a.tmps, params := #[p], assign, body, defers := D } := ⟨_, rfl⟩
  -- the two blocks of book-keeping
  obtain ⟨Bk, hBk⟩ : ∃ Bk : LoopState → Option Code → World → Prop, Bk = fun s c W => W.heap[D + 1]? = some (.loop (R s c)) ∧ W.heap[D]? = some (.deferred (some [])) := ⟨_, rfl⟩
  have calmBk : ∀ s c, Calm B (Bk s c) := fun s c => by rw [hBk]; exact (Calm.at (by omega) _).and (Calm.at (by omega) _)
  have turn : ∀ s c s' c' W, Bk s c W → Bk s' c' (W.putObj (D + 1) (.loop (R s' c'))) := fun s c s' c' W h => by
    rw [hBk] at h ⊢
    exact ⟨World.putObj_heap_same (Array.getElem?_eq_some_iff.1 h.1).1, (World.putObj_heap_other (by omega)).trans h.2⟩
  have kept : ∀ s c W W', Bk s c W → KeepsFrom D W W' → Bk s c W' := fun s c W W' h k => by
    rw [hBk] at h ⊢
    exact ⟨k.same _ _ (by omega) h.1 rfl, k.same _ _ (Nat.le_refl _) h.2 rfl⟩
  obtain ⟨W1, hW1⟩ : ∃ W1, (w.alloc (.deferred (some []))).alloc (.loop (R .ready none)) = W1 := ⟨_, rfl⟩
  have b1 : Bk .ready none W1 := by
    rw [hBk, ← hW1]
    refine ⟨?_, ?_⟩
    · have := World.alloc_heap_new (w.alloc (.deferred (some []))) (.loop (R .ready none))
      rwa [World.size_alloc, hD] at this
    · have := World.alloc_heap_new w (.deferred (some []))
      rw [hD] at this
      exact (Below.heap_alloc _ _ _ (by simp; omega)).trans this
  have i1 : I [] W1 := by rw [← hW1]; exact (hI _).alloc _ _ ((hI _).alloc _ _ h0)
  have bl1 : Below w0.heap.size w0 W1 := by rw [← hW1]; exact (hb0.alloc hb0.size _).alloc (by simp; have := hb0.size; omega) _
  refine ⟨D + 1, [{ target := .collected D, args := #[] }], W1, { target := .fn (.func gf) lb, args := #[.func (.yield (D + 1)) #[] #[]] }, W1, gf, #[.func (.yield (D + 1)) #[] #[]] ++ lb, W1, ?_, ?_, ?_, ?_, fun _ => h1, ?_⟩
  · have := run_enterLoop_outer (P := P) (w := w) fn a.tmps #[p] assign body
    rw [hD] at this
    rw [← hW1, hR]
    exact this
  · simp only [resolve, hg]
    simp [go_sem]
  · intro f' hf'
    simp [Target.leads] at hf'
    subst hf'
    exact hFg
  · simp [invoke, go_sem, eg]
  refine (hseq (D + 1) (fun pre W => I pre W ∧ Bk .ready none W) (fun pre W => ∃ c, Ix c pre W ∧ Bk .done (some c) W) W1 bl1 (fun s => (hI s).and (calmBk _ _)) (fun s => Calm.ex fun c => (hIx c s).and (calmBk _ _)) ?_ ⟨i1, b1⟩).mono ?_
  · rintro pre x W ⟨hi, hb⟩ hok
    have hl : W.heap[D + 1]? = some (.loop (R .ready none)) := by rw [hBk] at hb; exact hb.1
    have hy := run_yield (P := P) (args := #[enc x]) hl (by rw [hR]; rfl)
    rw [hR] at hy
    refine ⟨fn, _, assign, body, hy, roundIn_of_wpIn hfn (hassign _ x W _ ?_)⟩
    refine ⟨_, run_beginRound hl (by rw [hR]), ?_⟩
    have e1 : ({ R .ready none with state := .busy } : Loop) = R .busy none := by rw [hR]
    rw [e1]
    have hb2 := turn _ _ .busy none _ hb
    have k1 : Kp W (W.putObj (D + 1) (.loop (R .busy none))) := hKb _ _ _ _ (by omega) hl rfl
    refine wpIn_mono (hbody _ pre x _ (hIp _ _ _ _ _ hi (by omega) hl rfl) hok) ?_
    have fin : ∀ (c : Option Code) (W3 : World), KeepsFrom w.heap.size (W.putObj (D + 1) (.loop (R .busy none))) W3 →
        W3.heap[D + 1]? = some (.loop (R .busy none)) ∧ (Instr.endRound (D + 1) c).run P W3 = .ok (.bool c.isNone) (W3.putObj (D + 1) (.loop (R (if c.isNone then .ready else .done) c))) ∧ Bk (if c.isNone then .ready else .done) c (W3.putObj (D + 1) (.loop (R (if c.isNone then .ready else .done) c))) := fun c W3 k => by
      rw [hD] at k
      have hb3 := kept _ _ _ _ hb2 k
      have hl3 : W3.heap[D + 1]? = some (.loop (R .busy none)) := by rw [hBk] at hb3; exact hb3.1
      refine ⟨hl3, ?_, turn _ _ _ _ _ hb3⟩
      rw [run_endRound (P := P) c hl3, hR]
    rintro e a3 W3 hp
    cases e with
    | normal =>
      obtain ⟨k3, kp3, i3⟩ := hp
      obtain ⟨hl3, hr, hb3⟩ := fin none W3 k3
      exact ⟨_, _, hr, .inl ⟨rfl, ⟨hIp _ _ _ _ _ i3 (by omega) hl3 rfl, hb3⟩, hKt k1 (hKt kp3 (hKb _ _ _ _ (by omega) hl3 rfl))⟩⟩
    | ret =>
      obtain ⟨k3, i3⟩ := hp
      obtain ⟨hl3, hr, hb3⟩ := fin (some .ret) W3 k3
      exact ⟨_, _, hr, .inr ⟨rfl, .ret, hIxp _ _ _ _ _ _ i3 (by omega) hl3 rfl, hb3⟩⟩
    | exit id =>
      obtain ⟨k3, i3⟩ := hp
      obtain ⟨hl3, hr, hb3⟩ := fin (some (.exit id)) W3 k3
      exact ⟨_, _, hr, .inr ⟨rfl, .exit id, hIxp _ _ _ _ _ _ i3 (by omega) hl3 rfl, hb3⟩⟩
    | goto t =>
      obtain ⟨k3, i3⟩ := hp
      obtain ⟨hl3, hr, hb3⟩ := fin (some (.goto t)) W3 k3
      exact ⟨_, _, hr, .inr ⟨rfl, .goto t, hIxp _ _ _ _ _ _ i3 (by omega) hl3 rfl, hb3⟩⟩
    | panic ch => exact hp.elim
    | outgrown => exact hp.elim
  · rintro e W2 ⟨⟨v, rfl⟩, ⟨xs, hS, hi, hb⟩ | ⟨pre, hSp, c, hi, hb⟩⟩
    · have hl : W2.heap[D + 1]? = some (.loop (R .ready none)) := by rw [hBk] at hb; exact hb.1
      have hd : W2.heap[D]? = some (.deferred (some [])) := by rw [hBk] at hb; exact hb.2
      refine ⟨none, _, by have := run_endLoop (P := P) hl (by rw [hR]; simp); rw [hR] at this; exact this, ?_⟩
      exact hdone _ xs _ (by omega) hS (hIp _ _ _ _ _ hi (by omega) hl rfl) ((World.putObj_heap_other (by omega)).trans hd)
    · have hl : W2.heap[D + 1]? = some (.loop (R .done (some c))) := by rw [hBk] at hb; exact hb.1
      have hd : W2.heap[D]? = some (.deferred (some [])) := by rw [hBk] at hb; exact hb.2
      refine ⟨some c, _, by have := run_endLoop (P := P) hl (by rw [hR]; simp); rw [hR] at this; exact this, ?_⟩
      exact hstop _ c pre _ (by omega) hSp (hIxp _ _ _ _ _ _ hi (by omega) hl rfl) ((World.putObj_heap_other (by omega)).trans hd)

end Go.Proofs.YtkcdmonmgnmojaaDoor
