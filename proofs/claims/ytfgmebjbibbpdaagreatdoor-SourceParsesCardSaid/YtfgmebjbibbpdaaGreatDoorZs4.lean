/- Texts joined: strings.Builder: WriteString (its walk turned from the kit's, over this program's own text). A law of my own for a range over a function with any number of results, whose iterator makes new blocks only. strings.Builder: what a write leaves as it was. Sources: a system's lines, gone through. Rows of instructions: owned, and held against each other. The reference's Right and Words of instructions. The reference's Digits of a word. A slot set in a frame that is written out. The reference's part of a line. The reference's Line, kind for kind. -/
import Derived.Test.YtfgmebjbibbpdaaGreatDoorZs1
import Derived.Test.YtfgmebjbibbpdaaGreatDoorShelf
import Derived.Lib.Builder
import Derived.Lib.AppendStr
import Derived.Lib.UnsafeStr
import Derived.Laws.Externs
import Derived.Laws.IdiomCopy
import Derived.RangeFuncNested
import Derived.RangeFuncBound
import Derived.RangeFuncCalls
import Derived.RangeFuncLeaves
import Derived.RangeFuncBox
import Derived.Test.YtfgmebjbibbpdaaGreatDoorZs3
import Derived.Shelf.Abstract
import Derived.Shelf.RegionOpen
import Derived.OwnWalkIn
import Derived.TacticsInMore
import Derived.LoopNIn
import Derived.LoopIn
import Derived.Lib.Hide
import Derived.Deep.QuietTactic
import Derived.BigQuiet
import Derived.Laws.IdiomStrings
import Derived.IntWalk
import Derived.OpenShut
import Derived.Lib.ItoaLen
import Derived.Below
import Derived.Lib.ConvBytes
import Derived.Deep.RegionWith
import Derived.Deep.RegionHeld3
namespace Go.Proofs.YtfgmebjbibbpdaaGreatDoor
open Go.RowKit

theorem sizeBuilder : (Tryz.prog.info? 50).map (·.size) = some 2 := by kernel_rfl
theorem liesBuilder : liesAt Tryz.prog Tryz.prog.depth 50 (2 / Tryz.prog.cellsOf 50) 0 50 1 = true := by kernel_rfl
theorem infoByte : (Tryz.prog.info? 5).map (fun i => (i.zero, i.size, i.bytes)) = some (some (.int .u8 0), 1, 1) := by kernel_rfl

set_option maxHeartbeats 1000000 in
set_option maxRecDepth 100000 in
theorem copyCheck_used (b : Nat) (w : World) (h0 : w.cell? ⟨b, 0, none⟩ = some (.pointer (some ⟨b, 0, none⟩))) :
    Calls Tryz.prog 35 #[.pointer (some ⟨b, 0, none⟩)] w fun e w' => e = .returned (.tuple #[]) ∧ w' = w := by
  obtain ⟨j, hj, _⟩ := Option.map_eq_some_iff.1 sizeBuilder
  go_enter Tryz.func35, Tryz.ntmps35
  go_wp2
  rw [Lib.run_neq_ptr_same w _ Tryz.underlying47 hj]
  go_wp2
  go_end0
  exact ⟨rfl, rfl⟩

set_option maxHeartbeats 1000000 in
set_option maxRecDepth 100000 in
theorem copyCheck_fresh (b : Nat) (w : World) (h0 : w.cell? ⟨b, 0, none⟩ = some (.pointer none)) (hsh : w.shape? b = some (50, 2)) (hfz : w.frozen? ⟨b, 0, none⟩ = false) :
    Calls Tryz.prog 35 #[.pointer (some ⟨b, 0, none⟩)] w fun e w' => e = .returned (.tuple #[]) ∧ w' = w.setCell ⟨b, 0, none⟩ (.pointer (some ⟨b, 0, none⟩)) := by
  obtain ⟨j, hj, hjs⟩ := Option.map_eq_some_iff.1 sizeBuilder
  go_enter Tryz.func35, Tryz.ntmps35
  go_wp2
  rw [Lib.run_to_unsafe w ⟨b, 0, none⟩ Tryz.underlying47 Tryz.underlying113 hj (by rw [hjs]; decide) hsh (Nat.zero_lt_succ 1)]
  simp only [Result.andThen]
  rw [Oper.upon_value]
  go_wp2
  rw [run_callFunc_extern Tryz.func63 (by kernel_rfl) (by kernel_rfl) (by kernel_rfl) (e := Extern.AbiNoEscape.same) (by kernel_rfl)]
  rw [Lib.run_noEscape]
  simp only [Result.andThen]
  rw [Oper.upon_value]
  go_wp2
  rw [Lib.run_from_unsafe w ⟨b, 0, none⟩ Tryz.underlying113 Tryz.underlying47 hj hsh liesBuilder]
  simp only [Result.andThen]
  rw [Oper.upon_value]
  go_wp2
  go_end0
  exact ⟨rfl, rfl⟩

theorem copyCheck_any (B b : Nat) (bs : List Value) (w : World) (h : Lib.IsBuilder 50 5 B b bs w) :
    Calls Tryz.prog 35 #[.pointer (some ⟨b, 0, none⟩)] w fun e w' => e = .returned (.tuple #[]) ∧ (Lib.BuilderAt 50 5 B b (.pointer (some ⟨b, 0, none⟩)) bs w' ∧ Below B w w') := by
  rcases h with h | h
  · refine (copyCheck_fresh b w h.cell0 h.shape h.frozen0).mono ?_
    rintro e w' ⟨rfl, rfl⟩
    exact ⟨rfl, h.used _, (Below.refl B w).setCell (p := ⟨b, 0, none⟩) h.1 _⟩
  · refine (copyCheck_used b w h.cell0).mono ?_
    rintro e w' ⟨rfl, rfl⟩
    exact ⟨rfl, h, Below.refl B _⟩

set_option maxHeartbeats 2000000 in
set_option maxRecDepth 100000 in
theorem write_any (B b : Nat) (bs : List Value) (s : ByteArray) (w : World) (h : Lib.IsBuilder 50 5 B b bs w) (hlen : bs.length + s.size ≤ 140737488355328) (hBw : B ≤ w.heap.size) :
    Calls Tryz.prog 16 #[.pointer (some ⟨b, 0, none⟩), .string s] w fun e w' => e = .returned (.tuple #[.int .i64 s.size, .nilIface]) ∧ (Lib.IsBuilder 50 5 B b (bs ++ Lib.strCells s) w' ∧ Below B w w') := by
  obtain ⟨i0, hi, hz0, hz1, hz2⟩ := info_parts infoByte
  go_enter Tryz.func16, Tryz.ntmps16
  go_wp2_with fail
  refine (copyCheck_any B b bs _ h).mono ?_
  rintro e w1 ⟨rfl, h1, hb1⟩
  obtain ⟨hB, v, hbk, hown, hne⟩ := h1
  have c0 : w1.cell? ⟨b, 0, none⟩ = some (.pointer (some ⟨b, 0, none⟩)) := by rw [Lib.cell_of_heap hbk]; rfl
  have c1 : w1.cell? ⟨b, 1, none⟩ = some v := by rw [Lib.cell_of_heap hbk]; rfl
  have hlt : b < w1.heap.size := by
    rcases Nat.lt_or_ge b w1.heap.size with h' | h'
    · exact h'
    · simp [Array.getElem?_eq_none h'] at hbk
  have hBw1 : B ≤ w1.heap.size := by have := hb1.size; omega
  go_wp2_with (first
    | (at_builtin; refine Lib.wpList_append_own_string _ rfl _ _ 48 9 rfl B 5 i0 Tryz.underlying48 Tryz.underlying9 hi hz0 hz1 hz2 _ _ _ rfl hown s rfl (by unfold maxLen; omega) (by omega) hBw1 ?_
       intro v' w2 hown' hgrow _
       have hb2 : w2.heap[b]? = some (.cells #[.pointer (some ⟨b, 0, none⟩), v] 50 (0, 0)) := by
         rw [hgrow.block b hlt (fun e => hne e.symm)]
         exact hbk
       have d0 : w2.cell? ⟨b, 0, none⟩ = some (.pointer (some ⟨b, 0, none⟩)) := by rw [Lib.cell_of_heap hb2]; rfl
       have d1 : w2.cell? ⟨b, 1, none⟩ = some v := by rw [Lib.cell_of_heap hb2]; rfl
       have f1 : w2.frozen? ⟨b, 1, none⟩ = false := Lib.frozen_of_heap hb2 1
       obtain ⟨ao, n', cap, rfl⟩ : ∃ ao n' cap, v' = .slice ao n' cap := by
         rcases hown'.2 with ⟨hv, _⟩ | ⟨g, cap, cur, hv, _⟩
         · exact ⟨_, _, _, hv⟩
         · exact ⟨_, _, _, hv⟩)
    | fail)
  go_ret2
  refine ⟨rfl, .inr ?_, ?_⟩
  · exact Lib.BuilderAt.put (T := 50) (e := 5) hB hb2 (bs' := bs ++ Lib.strCells s) (by simpa [Lib.strCells_length] using hown') (by decide)
  · exact (hb1.grown hgrow (by have := hb1.size; omega) (fun k hk => (hown.lt k hk).1)).setCell (p := ⟨b, 1, none⟩) hB _

end Go.Proofs.YtfgmebjbibbpdaaGreatDoor

namespace Go.Proofs.YtfgmebjbibbpdaaGreatDoor
open Go.RowKit

variable {F : Fence} {n : Nat} {P : Program} {α : Type}

/-- What bears all that makes new blocks only. -/
def Bel (J : World → Prop) : Prop := ∀ W W', J W → Below W.heap.size W W' → J W'
theorem Bel.and {J J' : World → Prop} (h : Bel J) (h' : Bel J') : Bel (fun W => J W ∧ J' W) := fun W W' x hb => ⟨h W W' x.1 hb, h' W W' x.2 hb⟩
theorem Bel.ex {β : Type} {J : β → World → Prop} (h : ∀ b, Bel (J b)) : Bel (fun W => ∃ b, J b W) := fun W W' ⟨b, x⟩ hb => ⟨b, h b W W' x hb⟩
theorem Bel.at (l : Nat) (o : Obj) : Bel (fun W => W.heap[l]? = some o) := fun _ _ h hb => (hb.block l (Array.getElem?_eq_some_iff.1 h).1).trans h
theorem Bel.below {N : Nat} {w : World} (h : N ≤ w.heap.size) : Bel (fun W => Below N w W) := fun _ _ h' hb => h'.trans (hb.mono (Nat.le_trans h h'.size))
theorem Bel.const (p : Prop) : Bel (fun _ => p) := fun _ _ h _ => h
theorem Bel.size (N : Nat) : Bel (fun W => N ≤ W.heap.size) := fun _ _ h hb => Nat.le_trans h hb.size
theorem Bel.alloc {J : World → Prop} (h : Bel J) (W : World) (o : Obj) (x : J W) : J (W.alloc o) := h W _ x ((Below.refl _ W).alloc (Nat.le_refl _) o)
theorem Bel.drew {J : World → Prop} (h : Bel J) (W : World) (k : Nat) (x : J W) : J (W.drewN k) := h W _ x (drewN_below (Below.refl _ W) k)

/-- The contract of an iterator with a state in block B: what it hands over one by one, S of all, Sp of what was handed over where it was stopped. -/
def Seq0 (F : Fence) (n : Nat) (P : Program) (g : Nat) (lb : Array Value) (enc : α → Array Value) (Kp : World → World → Prop) (S Sp : List α → Prop) (Ok : List α → α → Prop) (w : World) : Prop :=
  ∀ (l : Nat) (J Jx : List α → World → Prop) (W : World), Below w.heap.size w W → (∀ s, Bel (J s)) → (∀ s, Bel (Jx s)) →
    (∀ pre x W1, J pre W1 → Ok pre x → YieldAt F (n - 1) P l (enc x) W1 fun e W' =>
      (e = .returned (.bool true) ∧ J (pre ++ [x]) W' ∧ Kp W1 W') ∨ (e = .returned (.bool false) ∧ Jx (pre ++ [x]) W')) →
    J [] W →
    CallsIn F n P g (#[.func (.yield l) #[] #[]] ++ lb) W fun e W' => (∃ v, e = .returned v) ∧ ((∃ xs, S xs ∧ J xs W') ∨ (∃ pre, Sp pre ∧ Jx pre W'))

/-- How a round may be left: the loop's own two blocks lie from L on. -/
def roundEnds0 (L : Nat) (Kp : World → World → Prop) (I : World → Prop) (Ix : Code → World → Prop) (W : World) : Exit → Act → World → Prop
  | .normal, _, W' => KeepsFrom L W W' ∧ Kp W W' ∧ I W'
  | .ret, _, W' => KeepsFrom L W W' ∧ Ix .ret W'
  | .exit id, _, W' => KeepsFrom L W W' ∧ Ix (.exit id) W'
  | .goto t, _, W' => KeepsFrom L W W' ∧ Ix (.goto t) W'
  | .panic _, _, _ => False
  | .outgrown, _, _ => False

theorem wpIn_rangeFunc_0 {g : Operand} {ps : Array Tmp} {assign body : Code} {Q : Exit → Act → World → Prop} {a : Act} {w : World}
    (hro : F.round = none) (h1 : 1 ≤ n) {gf : Nat} {lb : Array Value} (hg : a.eval g = .func (.func gf) #[] lb) (hFg : F.fn gf) (eg : ∀ args w, (callFunc gf args).run P w = .ok (.enter gf args) w)
    {enc : α → Array Value} {Kp : World → World → Prop} {S Sp : List α → Prop} {Ok : List α → α → Prop} {w0 : World} (hps : ∀ x, (enc x).size = ps.size) (hseq : Seq0 F (n - 1) P gf lb enc Kp S Sp Ok w0)
    (hKt : ∀ {X Y Z : World}, Kp X Y → Kp Y Z → Kp X Z) (hKb : ∀ (W : World) (l : Nat) (o o' : Obj), w.heap.size ≤ l → W.heap[l]? = some o → o.isCells = false → Kp W (W.putObj l o')) (hb0 : Below w0.heap.size w0 w)
    (I : List α → World → Prop) (Ix : Code → List α → World → Prop) (hI : ∀ s, Bel (I s)) (hIx : ∀ c s, Bel (Ix c s))
    (hIp : ∀ s W l o o', I s W → w.heap.size ≤ l → W.heap[l]? = some o → o.isCells = false → I s (W.putObj l o'))
    (hIxp : ∀ c s W l o o', Ix c s W → w.heap.size ≤ l → W.heap[l]? = some o → o.isCells = false → Ix c s (W.putObj l o')) (h0 : I [] w) (a₁ : α → Act)
    (hassign : ∀ (l : Nat) (x : α) (W : World) (K : Act → World → Prop), K (a₁ x) W →
      assign.wpIn (F.inRound l) (n - 1 - 1) P (Exit.then K (fun _ _ _ => False)) { tmps := (ps.zip (enc x)).foldl (fun t (q, v) => t.setIfInBounds q v) a.tmps, defers := [] } W)
    (hbody : ∀ (l : Nat) (pre : List α) (x : α) (W : World), I pre W → Ok pre x → body.wpIn (F.inRound l) (n - 1 - 1) P (roundEnds0 w.heap.size Kp (I (pre ++ [x])) (fun c => Ix c (pre ++ [x])) W) (a₁ x) W)
    (hdone : ∀ (D : Nat) (xs : List α) (W : World), w.heap.size ≤ D → S xs → I xs W → W.heap[D]? = some (.deferred (some [])) → Q .normal { a with defers := { target := .collected D, args := #[] } :: a.defers } W)
    (hstop : ∀ (D : Nat) (c : Code) (pre : List α) (W : World), w.heap.size ≤ D → Sp pre → Ix c pre W → W.heap[D]? = some (.deferred (some [])) → c.wpIn F n P Q { a with defers := { target := .collected D, args := #[] } :: a.defers } W) :
    (Code.rangeFunc g ps assign body).wpIn F n P Q a w := by
  refine wpIn_rangeFunc ?_
  intro fn hfn
  rw [hro]
  obtain ⟨D, hD⟩ : ∃ D, w.heap.size = D := ⟨_, rfl⟩
  obtain ⟨R, hR⟩ : ∃ R : LoopState → Option Code → Loop, R = fun s c => { state := s, pending := c, fn, tmps := a.tmps, params := ps, assign, body, defers := D } := ⟨_, rfl⟩
  -- the two blocks of book-keeping
  obtain ⟨Bk, hBk⟩ : ∃ Bk : LoopState → Option Code → World → Prop, Bk = fun s c W => W.heap[D + 1]? = some (.loop (R s c)) ∧ W.heap[D]? = some (.deferred (some [])) := ⟨_, rfl⟩
  have belBk : ∀ s c, Bel (Bk s c) := fun s c => by rw [hBk]; exact (Bel.at _ _).and (Bel.at _ _)
  have turn : ∀ s c s' c' W, Bk s c W → Bk s' c' (W.putObj (D + 1) (.loop (R s' c'))) := fun s c s' c' W h => by
    rw [hBk] at h ⊢
    exact ⟨World.putObj_heap_same (Array.getElem?_eq_some_iff.1 h.1).1, (World.putObj_heap_other (by omega)).trans h.2⟩
  have kept : ∀ s c W W', Bk s c W → KeepsFrom D W W' → Bk s c W' := fun s c W W' h k => by
    rw [hBk] at h ⊢
    exact ⟨k.same _ _ (by omega) h.1 rfl, k.same _ _ (Nat.le_refl _) h.2 rfl⟩
  obtain ⟨W1, hW1⟩ : ∃ W1, (w.alloc (.deferred (some []))).alloc (.loop (R .ready none)) = W1 := ⟨_, rfl⟩
  have b1 : Bk .ready none W1 := by
    rw [hBk, ← hW1]
    refine ⟨?_, ?_⟩
    · have := World.alloc_heap_new (w.alloc (.deferred (some []))) (.loop (R .ready none))
      rwa [World.size_alloc, hD] at this
    · have := World.alloc_heap_new w (.deferred (some []))
      rw [hD] at this
      exact (Below.heap_alloc _ _ _ (by simp; omega)).trans this
  have i1 : I [] W1 := by rw [← hW1]; exact (hI _).alloc _ _ ((hI _).alloc _ _ h0)
  have bl1 : Below w0.heap.size w0 W1 := by rw [← hW1]; exact (hb0.alloc hb0.size _).alloc (by simp; have := hb0.size; omega) _
  refine ⟨D + 1, [{ target := .collected D, args := #[] }], W1, { target := .fn (.func gf) lb, args := #[.func (.yield (D + 1)) #[] #[]] }, W1, gf, #[.func (.yield (D + 1)) #[] #[]] ++ lb, W1, ?_, ?_, ?_, ?_, fun _ => h1, ?_⟩
  · have := run_enterLoop_outer (P := P) (w := w) fn a.tmps ps assign body
    rw [hD] at this
    rw [← hW1, hR]
    exact this
  · simp only [resolve, hg]
    simp [go_sem]
  · intro f' hf'
    simp [Target.leads] at hf'
    subst hf'
    exact hFg
  · simp [invoke, go_sem, eg]
  refine (hseq (D + 1) (fun pre W => I pre W ∧ Bk .ready none W) (fun pre W => ∃ c, Ix c pre W ∧ Bk .done (some c) W) W1 bl1 (fun s => (hI s).and (belBk _ _)) (fun s => Bel.ex fun c => (hIx c s).and (belBk _ _)) ?_ ⟨i1, b1⟩).mono ?_
  · rintro pre x W ⟨hi, hb⟩ hok
    have hl : W.heap[D + 1]? = some (.loop (R .ready none)) := by rw [hBk] at hb; exact hb.1
    have hy := run_yield (P := P) (args := (enc x)) hl (by rw [hR]; exact hps x)
    rw [hR] at hy
    refine ⟨fn, _, assign, body, hy, roundIn_of_wpIn hfn (hassign _ x W _ ?_)⟩
    refine ⟨_, run_beginRound hl (by rw [hR]), ?_⟩
    have e1 : ({ R .ready none with state := .busy } : Loop) = R .busy none := by rw [hR]
    rw [e1]
    have hb2 := turn _ _ .busy none _ hb
    have k1 : Kp W (W.putObj (D + 1) (.loop (R .busy none))) := hKb _ _ _ _ (by omega) hl rfl
    refine wpIn_mono (hbody _ pre x _ (hIp _ _ _ _ _ hi (by omega) hl rfl) hok) ?_
    have fin : ∀ (c : Option Code) (W3 : World), KeepsFrom w.heap.size (W.putObj (D + 1) (.loop (R .busy none))) W3 →
        W3.heap[D + 1]? = some (.loop (R .busy none)) ∧ (Instr.endRound (D + 1) c).run P W3 = .ok (.bool c.isNone) (W3.putObj (D + 1) (.loop (R (if c.isNone then .ready else .done) c))) ∧ Bk (if c.isNone then .ready else .done) c (W3.putObj (D + 1) (.loop (R (if c.isNone then .ready else .done) c))) := fun c W3 k => by
      rw [hD] at k
      have hb3 := kept _ _ _ _ hb2 k
      have hl3 : W3.heap[D + 1]? = some (.loop (R .busy none)) := by rw [hBk] at hb3; exact hb3.1
      refine ⟨hl3, ?_, turn _ _ _ _ _ hb3⟩
      rw [run_endRound (P := P) c hl3, hR]
    rintro e a3 W3 hp
    cases e with
    | normal =>
      obtain ⟨k3, kp3, i3⟩ := hp
      obtain ⟨hl3, hr, hb3⟩ := fin none W3 k3
      exact ⟨_, _, hr, .inl ⟨rfl, ⟨hIp _ _ _ _ _ i3 (by omega) hl3 rfl, hb3⟩, hKt k1 (hKt kp3 (hKb _ _ _ _ (by omega) hl3 rfl))⟩⟩
    | ret =>
      obtain ⟨k3, i3⟩ := hp
      obtain ⟨hl3, hr, hb3⟩ := fin (some .ret) W3 k3
      exact ⟨_, _, hr, .inr ⟨rfl, .ret, hIxp _ _ _ _ _ _ i3 (by omega) hl3 rfl, hb3⟩⟩
    | exit id =>
      obtain ⟨k3, i3⟩ := hp
      obtain ⟨hl3, hr, hb3⟩ := fin (some (.exit id)) W3 k3
      exact ⟨_, _, hr, .inr ⟨rfl, .exit id, hIxp _ _ _ _ _ _ i3 (by omega) hl3 rfl, hb3⟩⟩
    | goto t =>
      obtain ⟨k3, i3⟩ := hp
      obtain ⟨hl3, hr, hb3⟩ := fin (some (.goto t)) W3 k3
      exact ⟨_, _, hr, .inr ⟨rfl, .goto t, hIxp _ _ _ _ _ _ i3 (by omega) hl3 rfl, hb3⟩⟩
    | panic ch => exact hp.elim
    | outgrown => exact hp.elim
  · rintro e W2 ⟨⟨v, rfl⟩, ⟨xs, hS, hi, hb⟩ | ⟨pre, hSp, c, hi, hb⟩⟩
    · have hl : W2.heap[D + 1]? = some (.loop (R .ready none)) := by rw [hBk] at hb; exact hb.1
      have hd : W2.heap[D]? = some (.deferred (some [])) := by rw [hBk] at hb; exact hb.2
      refine ⟨none, _, by have := run_endLoop (P := P) hl (by rw [hR]; simp); rw [hR] at this; exact this, ?_⟩
      exact hdone _ xs _ (by omega) hS (hIp _ _ _ _ _ hi (by omega) hl rfl) ((World.putObj_heap_other (by omega)).trans hd)
    · have hl : W2.heap[D + 1]? = some (.loop (R .done (some c))) := by rw [hBk] at hb; exact hb.1
      have hd : W2.heap[D]? = some (.deferred (some [])) := by rw [hBk] at hb; exact hb.2
      refine ⟨some c, _, by have := run_endLoop (P := P) hl (by rw [hR]; simp); rw [hR] at this; exact this, ?_⟩
      exact hstop _ c pre _ (by omega) hSp (hIxp _ _ _ _ _ _ hi (by omega) hl rfl) ((World.putObj_heap_other (by omega)).trans hd)

end Go.Proofs.YtfgmebjbibbpdaaGreatDoor

namespace Go.Proofs.YtfgmebjbibbpdaaGreatDoor
open Go.RowKit

/-- All blocks but bytes and builders stay as they are. -/
def KeepU (w w' : World) : Prop := w.heap.size ≤ w'.heap.size ∧ ∀ (g : Nat) (o : Obj), w.heap[g]? = some o → (∀ (cs : Array Value) (t : TypeId) (fr : Nat × Nat), o = .cells cs t fr → t ≠ 5 ∧ t ≠ 50) → w'.heap[g]? = some o
theorem KeepU.refl (w : World) : KeepU w w := ⟨Nat.le_refl _, fun _ _ h _ => h⟩
theorem KeepU.trans {w w' w'' : World} (h : KeepU w w') (h' : KeepU w' w'') : KeepU w w'' := ⟨Nat.le_trans h.1 h'.1, fun g o hg ho => h'.2 g o (h.2 g o hg ho) ho⟩
theorem KeepU.of_below {w w' : World} (h : Below w.heap.size w w') : KeepU w w' := ⟨h.size, fun g _ hg _ => (h.block g (Array.getElem?_eq_some_iff.1 hg).1).trans hg⟩
theorem KeepU.from {w w' : World} (h : KeepU w w') (L : Nat) : KeepsFrom L w w' := ⟨h.1, fun k o _ hk ho => h.2 k o hk (fun cs t fr e => by subst e; cases ho)⟩
/-- All cells but bytes and builders stay as they are. -/
def KeepC (w w' : World) : Prop := w.heap.size ≤ w'.heap.size ∧ ∀ (g : Nat) (cs : Array Value) (t : TypeId) (fr : Nat × Nat), w.heap[g]? = some (.cells cs t fr) → t ≠ 5 → t ≠ 50 → w'.heap[g]? = some (.cells cs t fr)
theorem KeepU.c {w w' : World} (h : KeepU w w') : KeepC w w' := ⟨h.1, fun g cs t fr hg h1 h2 => h.2 g _ hg (fun cs' t' fr' e => by injection e with e1 e2 e3; subst e2; exact ⟨h1, h2⟩)⟩
theorem KeepC.trans {w w' w'' : World} (h : KeepC w w') (h' : KeepC w' w'') : KeepC w w'' := ⟨Nat.le_trans h.1 h'.1, fun g cs t fr hg h1 h2 => h'.2 g cs t fr (h.2 g cs t fr hg h1 h2) h1 h2⟩
theorem KeepC.put' {w : World} {l : Nat} {o : Obj} (o' : Obj) (hl : w.heap[l]? = some o) (ho : o.isCells = false) : KeepC w (w.putObj l o') := by
  refine ⟨(below_putO (H := 0) o' (Nat.zero_le _) hl).size, fun g cs t fr hg _ _ => ?_⟩
  have hne : g ≠ l := fun e => by
    subst e
    rw [hl] at hg
    injection hg with hg
    subst hg
    cases ho
  exact (World.putObj_heap_other hne).trans hg
theorem KeepU.put {w : World} {l : Nat} {o : Obj} (o' : Obj) (hl : w.heap[l]? = some o) (ho : o.isCells = false) : ∀ (g : Nat) (cs : Array Value) (t : TypeId) (fr : Nat × Nat), w.heap[g]? = some (.cells cs t fr) → (w.putObj l o').heap[g]? = some (.cells cs t fr) := fun g cs t fr hg => by
  have hne : g ≠ l := fun e => by
    subst e
    rw [hl] at hg
    injection hg with hg
    subst hg
    cases ho
  exact (World.putObj_heap_other hne).trans hg
theorem keep_set {w : World} {b j : Nat} {v : Value} {cs0 : Array Value} {fr0 : Nat × Nat} (hb : w.heap[b]? = some (.cells cs0 50 fr0)) : KeepU w (w.setCell ⟨b, j, none⟩ v) := by
  refine ⟨by show _ ≤ (w.heap.modify b _).size; rw [Array.size_modify]; exact Nat.le_refl _, fun g o hg ho => ?_⟩
  have hne : g ≠ b := fun e => by
    subst e
    rw [hb] at hg
    injection hg with hg
    exact (ho _ _ _ hg.symm).2 rfl
  show (w.heap.modify b _)[g]? = _
  rw [Array.getElem?_modify, if_neg (fun e => hne e.symm)]
  exact hg
theorem keep_grown {w w' : World} {base n : Nat} {v : Value} {xs : List Value} (ho : w.ownsRow base 5 1 v n xs) (hg : w.grownBy w' v.ownBlock) : KeepU w w' := by
  refine ⟨hg.size, fun g o hgo hno => ?_⟩
  rw [hg.block g (Array.getElem?_eq_some_iff.1 hgo).1 ?_]
  · exact hgo
  · intro e
    rcases ho.2 with ⟨rfl, _⟩ | ⟨g', cap, cur, rfl, _, hh, _⟩
    · simp [Value.ownBlock] at e
    · obtain rfl : g = g' := by simpa [Value.ownBlock] using e
      rw [hh] at hgo
      injection hgo with hgo
      exact (hno _ _ _ hgo.symm).1 rfl
set_option maxHeartbeats 400000 in
theorem copyCheck_keep (B b : Nat) (bs : List Value) (w : World) (h : Lib.IsBuilder 50 5 B b bs w) :
    Calls Tryz.prog 35 #[.pointer (some ⟨b, 0, none⟩)] w fun e w' => e = .returned (.tuple #[]) ∧ (Lib.BuilderAt 50 5 B b (.pointer (some ⟨b, 0, none⟩)) bs w' ∧ Below B w w' ∧ KeepU w w') := by
  rcases h with h | h
  · refine (copyCheck_fresh b w h.cell0 h.shape h.frozen0).mono ?_
    rintro e w' ⟨rfl, rfl⟩
    exact ⟨rfl, h.used _, (Below.refl B w).setCell (p := ⟨b, 0, none⟩) h.1 _, (by obtain ⟨_, v, hbk, _⟩ := h; exact keep_set hbk)⟩
  · refine (copyCheck_used b w h.cell0).mono ?_
    rintro e w' ⟨rfl, rfl⟩
    exact ⟨rfl, h, Below.refl B _, KeepU.refl _⟩

set_option maxHeartbeats 2000000 in
set_option maxRecDepth 100000 in
theorem write_keep (B b : Nat) (bs : List Value) (s : ByteArray) (w : World) (h : Lib.IsBuilder 50 5 B b bs w) (hlen : bs.length + s.size ≤ 140737488355328) (hBw : B ≤ w.heap.size) :
    Calls Tryz.prog 16 #[.pointer (some ⟨b, 0, none⟩), .string s] w fun e w' => e = .returned (.tuple #[.int .i64 s.size, .nilIface]) ∧ (Lib.IsBuilder 50 5 B b (bs ++ Lib.strCells s) w' ∧ Below B w w' ∧ KeepU w w') := by
  obtain ⟨i0, hi, hz0, hz1, hz2⟩ := info_parts infoByte
  go_enter Tryz.func16, Tryz.ntmps16
  go_wp2_with fail
  refine (copyCheck_keep B b bs _ h).mono ?_
  rintro e w1 ⟨rfl, h1, hb1, hk1⟩
  obtain ⟨hB, v, hbk, hown, hne⟩ := h1
  have c0 : w1.cell? ⟨b, 0, none⟩ = some (.pointer (some ⟨b, 0, none⟩)) := by rw [Lib.cell_of_heap hbk]; rfl
  have c1 : w1.cell? ⟨b, 1, none⟩ = some v := by rw [Lib.cell_of_heap hbk]; rfl
  have hlt : b < w1.heap.size := by
    rcases Nat.lt_or_ge b w1.heap.size with h' | h'
    · exact h'
    · simp [Array.getElem?_eq_none h'] at hbk
  have hBw1 : B ≤ w1.heap.size := by have := hb1.size; omega
  go_wp2_with (first
    | (at_builtin; refine Lib.wpList_append_own_string _ rfl _ _ 48 9 rfl B 5 i0 Tryz.underlying48 Tryz.underlying9 hi hz0 hz1 hz2 _ _ _ rfl hown s rfl (by unfold maxLen; omega) (by omega) hBw1 ?_
       intro v' w2 hown' hgrow _
       have hb2 : w2.heap[b]? = some (.cells #[.pointer (some ⟨b, 0, none⟩), v] 50 (0, 0)) := by
         rw [hgrow.block b hlt (fun e => hne e.symm)]
         exact hbk
       have d0 : w2.cell? ⟨b, 0, none⟩ = some (.pointer (some ⟨b, 0, none⟩)) := by rw [Lib.cell_of_heap hb2]; rfl
       have d1 : w2.cell? ⟨b, 1, none⟩ = some v := by rw [Lib.cell_of_heap hb2]; rfl
       have f1 : w2.frozen? ⟨b, 1, none⟩ = false := Lib.frozen_of_heap hb2 1
       obtain ⟨ao, n', cap, rfl⟩ : ∃ ao n' cap, v' = .slice ao n' cap := by
         rcases hown'.2 with ⟨hv, _⟩ | ⟨g, cap, cur, hv, _⟩
         · exact ⟨_, _, _, hv⟩
         · exact ⟨_, _, _, hv⟩)
    | fail)
  go_ret2
  refine ⟨rfl, .inr ?_, ?_, ?_⟩
  · exact Lib.BuilderAt.put (T := 50) (e := 5) hB hb2 (bs' := bs ++ Lib.strCells s) (by simpa [Lib.strCells_length] using hown') (by decide)
  · exact (hb1.grown hgrow (by have := hb1.size; omega) (fun k hk => (hown.lt k hk).1)).setCell (p := ⟨b, 1, none⟩) hB _
  · exact hk1.trans ((keep_grown hown hgrow).trans (keep_set hb2))

end Go.Proofs.YtfgmebjbibbpdaaGreatDoor

namespace Go.Proofs.YtfgmebjbibbpdaaGreatDoor
open Go.RowKit Go.Shelf
attribute [local go_sem] Oper.semAt_some

/-! ### of no program -/
def codeLs (l : List Ins) : List (Option (List UInt8)) := l.map fun e => if insB e = true then some (lineL e) else none
def headLs (t : Tk) : Option (List UInt8) := if headB1 t = true then some (headL t) else none
def taskLs (t : Tk) : List (Option (List UInt8)) := headLs t :: (codeLs t.code ++ [some endW3])
def objLs (o : Oj) : Option (List UInt8) := if objB o = true then some (objL o) else none
def sysLs (s : Sy) : List (Option (List UInt8)) := s.ts.flatMap taskLs ++ s.os.map objLs
abbrev Item := ByteArray × Bool
/-- A line that is handed over. -/
def mt (x : Item) (o : Option (List UInt8)) : Prop := x.1.size ≤ 1000000 ∧ (o = none → x.2 = false) ∧ ∀ l, o = some l → x = (⟨l.toArray⟩, true)
def FM : List (Option (List UInt8)) → List Item → Prop
  | [], [] => True
  | o :: L, x :: p => mt x o ∧ FM L p
  | _, _ => False
theorem FM.snoc {L : List (Option (List UInt8))} {p : List Item} {o : Option (List UInt8)} {x : Item} (h : FM L p) (hx : mt x o) : FM (L ++ [o]) (p ++ [x]) := by
  induction L generalizing p with
  | nil =>
    cases p with
    | nil => exact ⟨hx, trivial⟩
    | cons y p => exact h.elim
  | cons a L ih =>
    cases p with
    | nil => exact h.elim
    | cons y p => exact ⟨h.1, ih h.2⟩
theorem mt_none {s : ByteArray} (h : s.size ≤ 1000000) : mt (s, false) none := ⟨h, fun _ => rfl, fun l e => by cases e⟩
theorem mt_some {l : List UInt8} {s : ByteArray} (h : s = ⟨l.toArray⟩) (hs : s.size ≤ 1000000) : mt (s, true) (some l) := ⟨hs, (fun e => by cases e), (fun l' e => by injection e with e; subst e; rw [h])⟩
theorem mt_if {b : Bool} {l : List UInt8} {s : ByteArray} (h : b = true → s = ⟨l.toArray⟩) (hs : s.size ≤ 1000000) : mt (s, b) (if b = true then some l else none) := by
  cases b with
  | true => exact mt_some (h rfl) hs
  | false => exact mt_none hs
theorem take_snoc_flat {s : Sy} {k : Nat} {t : Tk} (h : s.ts[k]? = some t) : (s.ts.take (k + 1)).flatMap taskLs = (s.ts.take k).flatMap taskLs ++ taskLs t := by rw [take_snoc h]; simp

theorem pre_task {s : Sy} {k : Nat} {t : Tk} (h : s.ts[k]? = some t) : (s.ts.take k).flatMap taskLs ++ taskLs t <+: sysLs s := by
  refine ⟨(s.ts.drop (k + 1)).flatMap taskLs ++ s.os.map objLs, ?_⟩
  have h1 := List.take_append_drop (k + 1) s.ts
  have h2 := take_snoc h
  unfold sysLs
  conv => rhs; rw [← h1, h2]
  simp
theorem pre_code {s : Sy} {k j : Nat} {t : Tk} {e : Ins} (h : t.code[j]? = some e) (hp : (s.ts.take k).flatMap taskLs ++ taskLs t <+: sysLs s) :
    ((s.ts.take k).flatMap taskLs ++ headLs t :: codeLs (t.code.take j)) ++ [if insB e = true then some (lineL e) else none] <+: sysLs s := by
  refine List.IsPrefix.trans ⟨codeLs (t.code.drop (j + 1)) ++ [some endW3], ?_⟩ hp
  have h1 := List.take_append_drop (j + 1) t.code
  have h2 := take_snoc h
  unfold taskLs
  conv => rhs; rw [← h1, h2]
  simp [codeLs]
theorem pre_end {s : Sy} {k : Nat} {t : Tk} (hp : (s.ts.take k).flatMap taskLs ++ taskLs t <+: sysLs s) : ((s.ts.take k).flatMap taskLs ++ headLs t :: codeLs t.code) ++ [some endW3] <+: sysLs s := by
  have e : ((s.ts.take k).flatMap taskLs ++ headLs t :: codeLs t.code) ++ [some endW3] = (s.ts.take k).flatMap taskLs ++ taskLs t := by unfold taskLs; simp
  rw [e]
  exact hp
theorem pre_obj {s : Sy} {j : Nat} {o : Oj} (h : s.os[j]? = some o) : (s.ts.flatMap taskLs ++ (s.os.take j).map objLs) ++ [objLs o] <+: sysLs s := by
  refine ⟨(s.os.drop (j + 1)).map objLs, ?_⟩
  have h1 := List.take_append_drop (j + 1) s.os
  have h2 := take_snoc h
  unfold sysLs
  conv => rhs; rw [← h1, h2]
  simp
theorem lineS_bd {e : Ins} (h : insB e = true) (hk : e.ok) : (lineS e).size ≤ 63 := lineL_len h hk

/-! ### in memory -/
def TkSl (w : World) (B : Nat) (A : Option Addr) (l : List Tk) : Prop := ∀ k t, l[k]? = some t → ∃ b off A' c', A = some ⟨b, off, none⟩ ∧ b < B ∧ (w.cell? ⟨b, off + k * 7, none⟩ = some (.int .i64 t.kd) ∧ w.cell? ⟨b, off + k * 7 + 1, none⟩ = some (.int .i64 t.pr) ∧ w.cell? ⟨b, off + k * 7 + 2, none⟩ = some (.int .i64 t.pe) ∧ w.cell? ⟨b, off + k * 7 + 3, none⟩ = some (.int .i64 t.off) ∧ w.cell? ⟨b, off + k * 7 + 4, none⟩ = some (.int .i64 t.dl) ∧ w.cell? ⟨b, off + k * 7 + 5, none⟩ = some (.int .i64 t.ow) ∧ w.cell? ⟨b, off + k * 7 + 6, none⟩ = some (.slice A' t.code.length c')) ∧
  InSl w B A' t.code ∧ (t.code.length ≤ c' ∧ c' ≤ maxLen) ∧ ∀ z ∈ t.kd :: t.five, -9223372036854775808 ≤ z ∧ z ≤ 9223372036854775807
def OjSl (w : World) (B : Nat) (A : Option Addr) (l : List Oj) : Prop := ∀ k o, l[k]? = some o → ∃ b off I ci R cr, A = some ⟨b, off, none⟩ ∧ b < B ∧ (w.cell? ⟨b, off + k * 8, none⟩ = some (.int .i64 o.kd) ∧ w.cell? ⟨b, off + k * 8 + 1, none⟩ = some (.int .i64 o.wd) ∧ w.cell? ⟨b, off + k * 8 + 2, none⟩ = some (.int .i64 o.sl) ∧ w.cell? ⟨b, off + k * 8 + 3, none⟩ = some (.int .i64 o.cp) ∧ w.cell? ⟨b, off + k * 8 + 4, none⟩ = some (.int .u32 o.st) ∧ w.cell? ⟨b, off + k * 8 + 5, none⟩ = some (.slice I o.ini.length ci) ∧ w.cell? ⟨b, off + k * 8 + 6, none⟩ = some (.int .i64 o.wr) ∧ w.cell? ⟨b, off + k * 8 + 7, none⟩ = some (.slice R o.rd.length cr)) ∧
  (Ws w B I o.ini ∧ o.ini.length ≤ ci ∧ ci ≤ maxLen) ∧ (SlOf (ints .i64) w B R o.rd ∧ o.rd.length ≤ cr ∧ cr ≤ maxLen) ∧ (0 ≤ o.st ∧ o.st < 4294967296) ∧ ∀ z ∈ o.kd :: o.wd :: o.sl :: o.cp :: o.wr :: o.rd, -9223372036854775808 ≤ z ∧ z ≤ 9223372036854775807
theorem TkSl.below {w w' : World} {B B' : Nat} {A : Option Addr} {l : List Tk} (h : TkSl w B A l) (hb : Below B w w') (hB : B ≤ B') : TkSl w' B' A l := fun k t hk => by
  obtain ⟨b, off, A', c', hA, hlt, ⟨c0, c1, c2, c3, c4, c5, c6⟩, hI, h7⟩ := h k t hk
  have key : ∀ {j : Nat} {u : Value}, w.cell? ⟨b, j, none⟩ = some u → w'.cell? ⟨b, j, none⟩ = some u := fun {j u} hc => (hb.cell (p := ⟨b, j, none⟩) hlt).trans hc
  exact ⟨b, off, A', c', hA, by omega, ⟨key c0, key c1, key c2, key c3, key c4, key c5, key c6⟩, hI.below hb hB, h7⟩
theorem OjSl.below {w w' : World} {B B' : Nat} {A : Option Addr} {l : List Oj} (h : OjSl w B A l) (hb : Below B w w') (hB : B ≤ B') : OjSl w' B' A l := fun k o hk => by
  obtain ⟨b, off, I, ci, R, cr, hA, hlt, ⟨c0, c1, c2, c3, c4, c5, c6, c7⟩, ⟨hI, hi⟩, ⟨hR, hr⟩, h7⟩ := h k o hk
  have key : ∀ {j : Nat} {u : Value}, w.cell? ⟨b, j, none⟩ = some u → w'.cell? ⟨b, j, none⟩ = some u := fun {j u} hc => (hb.cell (p := ⟨b, j, none⟩) hlt).trans hc
  exact ⟨b, off, I, ci, R, cr, hA, by omega, ⟨key c0, key c1, key c2, key c3, key c4, key c5, key c6, key c7⟩, ⟨hI.below hb hB, hi⟩, ⟨hR.below hb hB, hr⟩, h7⟩
def SyB (W : World) (sB : Nat) (At Ao : Option Addr) (nt ct no co : Nat) : Prop := W.heap[sB]? = some (.cells #[.slice At nt ct, .slice Ao no co] 25 (0, 0))
def KpI (N : Nat) (W W' : World) : Prop := KeepC W W' ∧ Below N W W'
def encI (x : Item) : Array Value := #[.string x.1, .bool x.2]
def OkI (s : Sy) (pre : List Item) (x : Item) : Prop := ∃ L o, FM L pre ∧ mt x o ∧ L ++ [o] <+: sysLs s
def SpI (s : Sy) (pre : List Item) : Prop := ∃ L, FM L pre ∧ L <+: sysLs s

set_option maxRecDepth 100000 in
set_option maxHeartbeats 4000000 in
theorem slines_in (n : Nat) (hn : 1 ≤ n) (lb sB : Nat) (s : Sy) (At Ao : Option Addr) (ct co : Nat) (J Jx : List Item → World → Prop) (w0 W : World) (hJ : ∀ q, Bel (J q)) (_hJx : ∀ q, Bel (Jx q))
    (ht : TkSl w0 w0.heap.size At s.ts) (ho : OjSl w0 w0.heap.size Ao s.os) (hcode : ∀ t ∈ s.ts, t.code.length ≤ 100000) (hobj : ∀ o ∈ s.os, o.ini.length ≤ 20000 ∧ o.rd.length ≤ 20000) (hnt : s.ts.length ≤ 100000) (hno : s.os.length ≤ 100000) (hT : Tab w0)
    (hY : ∀ pre x W1, J pre W1 → OkI s pre x → YieldAt Fence.wide (n - 1) Tryz.prog lb (encI x) W1 fun e W' => (e = .returned (.bool true) ∧ J (pre ++ [x]) W' ∧ KpI w0.heap.size W1 W') ∨ (e = .returned (.bool false) ∧ Jx (pre ++ [x]) W'))
    (hs : SyB W sB At Ao s.ts.length ct s.os.length co) (hb : Below w0.heap.size w0 W) (h0 : J [] W) :
    CallsIn Fence.wide n Tryz.prog 31 #[.func (.yield lb) #[] #[], .pointer (some ⟨sB, 0, none⟩)] W fun e W' => (∃ v, e = .returned v) ∧ ((∃ xs, FM (sysLs s) xs ∧ J xs W') ∨ (∃ pre, SpI s pre ∧ Jx pre W')) := by
  have b0 : W.cell? ⟨sB, 0, none⟩ = some (.slice At s.ts.length ct) := by simp [World.cell?, show W.heap[sB]? = _ from hs]
  have HS := Lib.hid hs
  have HB := Lib.hid hb
  have HT0 := Lib.hid hT
  have HTK := Lib.hid ht
  have HOJ := Lib.hid ho
  have HY := Lib.hid hY
  have HJ := Lib.hid hJ
  have HJ0 := Lib.hid h0
  have HCO := Lib.hid hcode
  have HOB := Lib.hid hobj
  clear hs hb hT ht ho hY hJ h0 hcode hobj
  refine callsIn_of_wp Tryz.func31 rfl trivial ?_ rfl
  simp only [Tryz.ntmps31, List.size_toArray, List.length_cons, List.length_nil, Nat.reduceAdd, Nat.reduceSub, Array.replicate_succ, Array.replicate_zero, List.push_toArray, List.append_toArray, List.nil_append, List.cons_append]
  gi_wp2
  gi_loopw [4, 6, 12, 26] (fun _ _ i _ wr => ∃ (k : Nat) (pre : List Item), k ≤ s.ts.length ∧ i = .int .i64 k ∧ FM ((s.ts.take k).flatMap taskLs) pre ∧ J pre wr ∧ SyB wr sB At Ao s.ts.length ct s.os.length co ∧ Below w0.heap.size w0 wr)
    (fun _ _ i _ _ => s.ts.length - (intOf i).toNat)
  case atStart => exact ⟨0, [], Nat.zero_le _, rfl, trivial, HJ0.out, HS.out, HB.out⟩
  case round =>
    obtain ⟨k, pre, hk, rfl, hfm, hj, hsy, hbw⟩ := hrel
    by_cases hlt : k < s.ts.length
    · obtain ⟨t, htk⟩ := get_some hlt
      obtain ⟨b, off, A', c', hA, hlb, ⟨z0, z1, z2, z3, z4, z5, z6⟩, hI, hcc, hzz⟩ := HTK.out k t htk
      subst hA
      have key : ∀ {j : Nat} {u : Value}, w0.cell? ⟨b, j, none⟩ = some u → wr.cell? ⟨b, j, none⟩ = some u := fun {j u} hc => (hbw.cell (p := ⟨b, j, none⟩) hlb).trans hc
      have c0 := key z0
      have c1 := key z1
      have c2 := key z2
      have c3 := key z3
      have c4 := key z4
      have c5 := key z5
      have c6 := key z6
      clear z0 z1 z2 z3 z4 z5 z6 key
      have hpf := pre_task htk
      have hcl := HCO.out t (List.mem_of_getElem? htk)
      have HPF := Lib.hid hpf
      have HSN := Lib.hid (take_snoc_flat htk)
      have HFM := Lib.hid hfm
      have HSY := Lib.hid hsy
      have HBW := Lib.hid hbw
      have HIN := Lib.hid hI
      have HZZ := Lib.hid hzz
      have hb1 := (Below.refl wr.heap.size wr).alloc (Nat.le_refl _) (.cells #[.int .i64 t.kd, .int .i64 t.pr, .int .i64 t.pe, .int .i64 t.off, .int .i64 t.dl, .int .i64 t.ow, .slice A' t.code.length c'] 46)
      have hrow := RowB.new wr #[.int .i64 t.kd, .int .i64 t.pr, .int .i64 t.pe, .int .i64 t.off, .int .i64 t.dl, .int .i64 t.ow, .slice A' t.code.length c'] 46
      obtain ⟨W1, hW1⟩ : ∃ x, wr.alloc (.cells #[.int .i64 t.kd, .int .i64 t.pr, .int .i64 t.pe, .int .i64 t.off, .int .i64 t.dl, .int .i64 t.ow, .slice A' t.code.length c'] 46) = x := ⟨_, rfl⟩
      obtain ⟨tb, htb⟩ : ∃ x, wr.heap.size = x := ⟨_, rfl⟩
      rw [hW1] at hb1 hrow
      have hj1 := (HJ.out pre) wr W1 hj hb1
      have hbw1 := hbw.trans (hb1.mono hbw.size)
      have hhd := head_any t A' t.code.length c' W1 (fun z hz => hzz z (List.mem_cons_of_mem _ hz)) (HT0.out.below hbw1)
      have hsy1 : SyB W1 sB _ Ao s.ts.length ct s.os.length co := (hb1.block sB (Array.getElem?_eq_some_iff.1 hsy).1).trans hsy
      rw [htb] at hrow
      have k0 : W1.cell? ⟨tb, 0, none⟩ = some (.int .i64 t.kd) := (hrow.cell 0).trans rfl
      have k1 : W1.cell? ⟨tb, 1, none⟩ = some (.int .i64 t.pr) := (hrow.cell 1).trans rfl
      have k2 : W1.cell? ⟨tb, 2, none⟩ = some (.int .i64 t.pe) := (hrow.cell 2).trans rfl
      have k3 : W1.cell? ⟨tb, 3, none⟩ = some (.int .i64 t.off) := (hrow.cell 3).trans rfl
      have k4 : W1.cell? ⟨tb, 4, none⟩ = some (.int .i64 t.dl) := (hrow.cell 4).trans rfl
      have k5 : W1.cell? ⟨tb, 5, none⟩ = some (.int .i64 t.ow) := (hrow.cell 5).trans rfl
      have k6 : W1.cell? ⟨tb, 6, none⟩ = some (.slice A' t.code.length c') := (hrow.cell 6).trans rfl
      unfold tkV at hhd
      have HHD := Lib.hid hhd
      have HJ1 := Lib.hid hj1
      have HBW1 := Lib.hid hbw1
      have HROW := Lib.hid hrow
      have HSY1 := Lib.hid hsy1
      clear hfm hj hsy hbw htk hI hcc hzz hpf hb1 hrow hj1 hbw1 hhd hsy1
      gi_wp2_with fail
      refine ⟨trivial, ?_⟩
      refine (callsIn_wide.2 HHD.out).mono ?_
      rintro e w2 ⟨sH, rfl, hHs, hHl, hb2⟩
      have hj2 := (HJ.out pre) W1 w2 HJ1.out hb2
      have hmt : mt (sH, headB1 t) (headLs t) := mt_if hHs hHl
      have hok : OkI s pre (sH, headB1 t) := ⟨_, _, HFM.out, hmt, (List.prefix_append_right_inj ((s.ts.take k).flatMap taskLs)).2 (show [headLs t] <+: taskLs t from ⟨_, rfl⟩) |>.trans HPF.out⟩
      have HMT := Lib.hid hmt
      have HOK := Lib.hid hok
      have hrow2 := HROW.out.kept hb2
      have HROW2 := Lib.hid hrow2
      have HSY2 := Lib.hid (show SyB w2 sB _ Ao s.ts.length ct s.os.length co from (hb2.block sB (Array.getElem?_eq_some_iff.1 HSY1.out).1).trans HSY1.out)
      have HBW2 := Lib.hid (HBW1.out.trans (hb2.mono HBW1.out.size))
      skip
      clear hHs hHl hmt hok hb2 hrow2 c0 c1 c2 c3 c4 c5 c6 k0 k1 k2 k3 k4 k5 k6
      obtain ⟨fn, tmps, assign, body, hy, hR⟩ := HY.out pre (sH, headB1 t) w2 hj2 HOK.out
      unfold encI at hy
      have HR := Lib.hid hR
      clear hR
      gi_wp2_with fail
      refine HR.out.mono ?_
      rintro e3 W3 (⟨rfl, hJ3, hk3⟩ | ⟨rfl, hJx3⟩)
      · have hrow3 : RowB W3 tb #[.int .i64 t.kd, .int .i64 t.pr, .int .i64 t.pe, .int .i64 t.off, .int .i64 t.dl, .int .i64 t.ow, .slice A' t.code.length c'] 46 := hk3.1.2 tb _ _ _ HROW2.out (by decide) (by decide)
        have hsy3 : SyB W3 sB _ Ao s.ts.length ct s.os.length co := hk3.1.2 sB _ _ _ HSY2.out (by decide) (by decide)
        have hbw3 : Below w0.heap.size w0 W3 := HBW2.out.trans hk3.2
        have d6 : W3.cell? ⟨tb, 6, none⟩ = some (.slice A' t.code.length c') := (hrow3.cell 6).trans rfl
        have hfm3 := HFM.out.snoc HMT.out
        have HFM3 := Lib.hid hfm3
        have HJ3 := Lib.hid hJ3
        have HROW3 := Lib.hid hrow3
        have HSY3 := Lib.hid hsy3
        have HBW3 := Lib.hid hbw3
        clear hfm3 hJ3 hrow3 hsy3 hbw3 hk3
        gi_wp2_with fail
        clear d6
        gi_loopw [6, 26] (fun _ i wq => ∃ (j : Nat) (pre : List Item), j ≤ t.code.length ∧ i = .int .i64 j ∧ FM (((s.ts.take k).flatMap taskLs) ++ headLs t :: codeLs (t.code.take j)) pre ∧ J pre wq ∧ SyB wq sB (some ⟨b, off, none⟩) Ao s.ts.length ct s.os.length co ∧ RowB wq tb #[.int .i64 t.kd, .int .i64 t.pr, .int .i64 t.pe, .int .i64 t.off, .int .i64 t.dl, .int .i64 t.ow, .slice A' t.code.length c'] 46 ∧ Below w0.heap.size w0 wq)
          (fun _ i _ => t.code.length - (intOf i).toNat)
        case atStart => exact ⟨0, _, Nat.zero_le _, rfl, HFM3.out, HJ3.out, HSY3.out, HROW3.out, HBW3.out⟩
        case round =>
          obtain ⟨wq, rfl⟩ : ∃ x : World, x = wr := ⟨_, rfl⟩
          obtain ⟨j, pre2, hj2, rfl, hfm, hj, hsy, hrow, hbw⟩ := hrel
          by_cases hlj : j < t.code.length
          · obtain ⟨e0, he0⟩ := get_some hlj
            obtain ⟨hek, b9, off9, hA9, hlb9, g0, g1, g2, g3, g4⟩ := (HIN.out.below hbw (Nat.le_refl _)).get he0
            have HEK := Lib.hid hek
            have HCS := Lib.hid (show codeLs (t.code.take (j + 1)) = codeLs (t.code.take j) ++ [if insB e0 = true then some (lineL e0) else none] by unfold codeLs; rw [take_snoc he0, List.map_append]; rfl)
            have HPC := Lib.hid (pre_code he0 HPF.out)
            subst hA9
            have hb1 := (Below.refl wq.heap.size wq).alloc (Nat.le_refl _) (.cells #[.int .i64 e0.op, .int .i64 e0.a, .int .i64 e0.b, .int .i64 e0.c, .int .u32 e0.n] 73)
            obtain ⟨W4, hW4⟩ : ∃ x, wq.alloc (.cells #[.int .i64 e0.op, .int .i64 e0.a, .int .i64 e0.b, .int .i64 e0.c, .int .u32 e0.n] 73) = x := ⟨_, rfl⟩
            have hib5 := RowB.new wq #[.int .i64 e0.op, .int .i64 e0.a, .int .i64 e0.b, .int .i64 e0.c, .int .u32 e0.n] 73
            obtain ⟨ib, hib⟩ : ∃ x, wq.heap.size = x := ⟨_, rfl⟩
            rw [hW4] at hb1 hib5
            rw [hib] at hib5
            have k0 : W4.cell? ⟨ib, 0, none⟩ = some (.int .i64 e0.op) := (hib5.cell 0).trans rfl
            have k1 : W4.cell? ⟨ib, 1, none⟩ = some (.int .i64 e0.a) := (hib5.cell 1).trans rfl
            have k2 : W4.cell? ⟨ib, 2, none⟩ = some (.int .i64 e0.b) := (hib5.cell 2).trans rfl
            have k3 : W4.cell? ⟨ib, 3, none⟩ = some (.int .i64 e0.c) := (hib5.cell 3).trans rfl
            have k4 : W4.cell? ⟨ib, 4, none⟩ = some (.int .u32 e0.n) := (hib5.cell 4).trans rfl
            clear hib5
            have hj4 := (HJ.out pre2) wq W4 hj hb1
            have hbw4 := hbw.trans (hb1.mono hbw.size)
            have hln := line_any e0 hek W4 (HT0.out.below hbw4)
            unfold insV at hln
            have HLN := Lib.hid hln
            have HJ4 := Lib.hid hj4
            have HBW4 := Lib.hid hbw4
            have HFM4 := Lib.hid hfm
            have HSY4 := Lib.hid (show SyB W4 sB _ Ao s.ts.length ct s.os.length co from (hb1.block sB (Array.getElem?_eq_some_iff.1 hsy).1).trans hsy)
            have HROW4 := Lib.hid (hrow.kept hb1)
            clear hfm hj hsy hrow hbw hb1 hj4 hbw4 hln he0 hek
            gi_wp2_with fail
            refine ⟨trivial, ?_⟩
            refine (callsIn_wide.2 HLN.out).mono ?_
            rintro e w5 ⟨rfl, hb5⟩
            have hj5 := (HJ.out pre2) W4 w5 HJ4.out hb5
            have hmt : mt ((if insB e0 = true then lineS e0 else ⟨#[]⟩), insB e0) (if insB e0 = true then some (lineL e0) else none) := by
              refine mt_if (fun h => by rw [if_pos h]; rfl) ?_
              split
              · next h => exact Nat.le_trans (lineS_bd h HEK.out) (by omega)
              · exact Nat.zero_le _
            have hok : OkI s pre2 ((if insB e0 = true then lineS e0 else ⟨#[]⟩), insB e0) := ⟨_, _, HFM4.out, hmt, HPC.out⟩
            have HMT5 := Lib.hid hmt
            have HSY5 := Lib.hid (show SyB w5 sB _ Ao s.ts.length ct s.os.length co from (hb5.block sB (Array.getElem?_eq_some_iff.1 HSY4.out).1).trans HSY4.out)
            have HROW5 := Lib.hid (HROW4.out.kept hb5)
            have HBW5 := Lib.hid (HBW4.out.trans (hb5.mono HBW4.out.size))
            obtain ⟨xl, hxl⟩ : ∃ x, (if insB e0 = true then lineS e0 else ⟨#[]⟩ : ByteArray) = x := ⟨_, rfl⟩
            have HXL := Lib.hid hxl
            have hmt2 := HMT5.out
            rw [hxl] at hok hmt2
            have HMT6 := Lib.hid hmt2
            have HOK5 := Lib.hid hok
            have HX2 := HXL
            simp only [hxl]
            clear hmt hmt2 hok hb5 g0 g1 g2 g3 g4 hxl k0 k1 k2 k3 k4
            obtain ⟨fn, tmps, assign, body, hy, hR⟩ := HY.out pre2 (xl, insB e0) w5 hj5 HOK5.out
            unfold encI at hy
            have HR := Lib.hid hR
            clear hR
            gi_wp2_with fail
            refine HR.out.mono ?_
            rintro e3 W6 (⟨rfl, hJ3, hk3⟩ | ⟨rfl, hJx3⟩)
            · have hf6 := HFM4.out.snoc HMT6.out
              have e6 : (((s.ts.take k).flatMap taskLs) ++ headLs t :: codeLs (t.code.take j)) ++ [if insB e0 = true then some (lineL e0) else none] = ((s.ts.take k).flatMap taskLs) ++ headLs t :: codeLs (t.code.take (j + 1)) := by rw [HCS.out]; simp
              rw [e6] at hf6
              have HF6 := Lib.hid hf6
              have HS6 : SyB W6 sB _ Ao s.ts.length ct s.os.length co := hk3.1.2 sB _ _ _ HSY5.out (by decide) (by decide)
              have HR6 : RowB W6 tb _ 46 := hk3.1.2 tb _ _ _ HROW5.out (by decide) (by decide)
              have HB6 : Below w0.heap.size w0 W6 := HBW5.out.trans hk3.2
              have HS6 := Lib.hid HS6
              have HR6 := Lib.hid HR6
              have HB6 := Lib.hid HB6
              clear hf6 e6 hk3
              gi_wp2_with fail
              go_roundw
              case rel => exact ⟨j + 1, _, by omega, by go_num, HF6.out, hJ3, HS6.out, HR6.out, HB6.out⟩
              case measure => simp [intOf]; omega
            · gi_wp2_with fail
              refine bodyPost_ret (results_none rfl _ _ _) rfl ?_
              exact ⟨⟨_, rfl⟩, .inr ⟨_, ⟨_, HFM4.out.snoc HMT6.out, HPC.out⟩, hJx3⟩⟩
          · obtain rfl : j = t.code.length := by omega
            rw [List.take_length] at hfm
            have hmt : mt (⟨#[101, 110, 100]⟩, true) (some endW3) := mt_some rfl (by decide)
            have hok : OkI s pre2 (⟨#[101, 110, 100]⟩, true) := ⟨_, _, hfm, hmt, (pre_end HPF.out)⟩
            have hnl : decide (t.code.length < t.code.length) = false := by simp
            have HSp := Lib.hid (show SpI s (pre2 ++ [(⟨#[101, 110, 100]⟩, true)]) from ⟨_, hfm.snoc hmt, pre_end HPF.out⟩)
            have hf7 := hfm.snoc hmt
            have e7 : (((s.ts.take k).flatMap taskLs) ++ headLs t :: codeLs t.code) ++ [some endW3] = (s.ts.take (k + 1)).flatMap taskLs := by rw [HSN.out]; unfold taskLs; simp
            rw [e7] at hf7
            have HF7 := Lib.hid hf7
            have HOK7 := Lib.hid hok
            have HSY7 := Lib.hid hsy
            have HBW7 := Lib.hid hbw
            have HJ7 := Lib.hid hj
            clear hfm hmt hok hf7 e7 hsy hbw hrow hj
            obtain ⟨fn, tmps, assign, body, hy, hR⟩ := HY.out pre2 (⟨#[101, 110, 100]⟩, true) wq HJ7.out HOK7.out
            unfold encI at hy
            have HR := Lib.hid hR
            clear hR
            gi_wp2_with fail
            refine HR.out.mono ?_
            rintro e3 W8 (⟨rfl, hJ3, hk3⟩ | ⟨rfl, hJx3⟩)
            · have HS8 : SyB W8 sB _ Ao s.ts.length ct s.os.length co := hk3.1.2 sB _ _ _ HSY7.out (by decide) (by decide)
              have HB8 : Below w0.heap.size w0 W8 := HBW7.out.trans hk3.2
              have HS8 := Lib.hid HS8
              have HB8 := Lib.hid HB8
              clear hk3
              gi_wp2_with fail
              go_roundw
              case rel => exact ⟨k + 1, _, by omega, by go_num, HF7.out, hJ3, HS8.out, HB8.out⟩
              case measure => simp [intOf]; omega
            · gi_wp2_with fail
              refine bodyPost_ret (results_none rfl _ _ _) rfl ?_
              exact ⟨⟨_, rfl⟩, .inr ⟨_, HSp.out, hJx3⟩⟩
      · gi_wp2_with fail
        refine bodyPost_ret (results_none rfl _ _ _) rfl ?_
        exact ⟨⟨_, rfl⟩, .inr ⟨_, ⟨_, HFM.out.snoc HMT.out, (List.prefix_append_right_inj ((s.ts.take k).flatMap taskLs)).2 (show [headLs t] <+: taskLs t from ⟨_, rfl⟩) |>.trans HPF.out⟩, hJx3⟩⟩
    · obtain rfl : k = s.ts.length := by omega
      rw [List.take_length] at hfm
      have hnl : decide (s.ts.length < s.ts.length) = false := by simp
      have b1 : wr.cell? ⟨sB, 1, none⟩ = some (.slice Ao s.os.length co) := by simp [World.cell?, show wr.heap[sB]? = _ from hsy]
      have HFM := Lib.hid hfm
      have HJ1 := Lib.hid hj
      have HSY := Lib.hid hsy
      have HBW := Lib.hid hbw
      clear hfm hj hsy hbw b0
      gi_wp2_with fail
      clear b1
      gi_loopw [8, 45] (fun _ i wq => ∃ (j : Nat) (pre : List Item), j ≤ s.os.length ∧ i = .int .i64 j ∧ FM (s.ts.flatMap taskLs ++ (s.os.take j).map objLs) pre ∧ J pre wq ∧ Below w0.heap.size w0 wq) (fun _ i _ => s.os.length - (intOf i).toNat)
      case atStart => exact ⟨0, _, Nat.zero_le _, rfl, by simpa using HFM.out, HJ1.out, HBW.out⟩
      case round =>
        obtain ⟨wq, rfl⟩ : ∃ x : World, x = wr := ⟨_, rfl⟩
        obtain ⟨j, pre2, hj2, rfl, hfm, hj, hbw⟩ := hrel
        by_cases hlj : j < s.os.length
        · obtain ⟨o, ho⟩ := get_some hlj
          obtain ⟨b9, off9, I, ci, R, cr, hA9, hlb9, ⟨g0, g1, g2, g3, g4, g5, g6, g7⟩, ⟨hI, _⟩, ⟨hR, _⟩, hst, hzz⟩ := (HOJ.out.below hbw (Nat.le_refl _)) j o ho
          subst hA9
          have hbd := HOB.out o (List.mem_of_getElem? ho)
          have HPO := Lib.hid (pre_obj ho)
          have HTS := Lib.hid (show (s.os.take (j + 1)).map objLs = (s.os.take j).map objLs ++ [objLs o] by rw [take_snoc ho, List.map_append]; rfl)
          have hb1 := (Below.refl wq.heap.size wq).alloc (Nat.le_refl _) (.cells #[.int .i64 o.kd, .int .i64 o.wd, .int .i64 o.sl, .int .i64 o.cp, .int .u32 o.st, .slice I o.ini.length ci, .int .i64 o.wr, .slice R o.rd.length cr] 42)
          obtain ⟨W4, hW4⟩ : ∃ x, wq.alloc (.cells #[.int .i64 o.kd, .int .i64 o.wd, .int .i64 o.sl, .int .i64 o.cp, .int .u32 o.st, .slice I o.ini.length ci, .int .i64 o.wr, .slice R o.rd.length cr] 42) = x := ⟨_, rfl⟩
          have hib5 := RowB.new wq #[.int .i64 o.kd, .int .i64 o.wd, .int .i64 o.sl, .int .i64 o.cp, .int .u32 o.st, .slice I o.ini.length ci, .int .i64 o.wr, .slice R o.rd.length cr] 42
          obtain ⟨ib, hib⟩ : ∃ x, wq.heap.size = x := ⟨_, rfl⟩
          rw [hW4] at hb1 hib5
          rw [hib] at hib5
          have k0 : W4.cell? ⟨ib, 0, none⟩ = some (.int .i64 o.kd) := (hib5.cell 0).trans rfl
          have k1 : W4.cell? ⟨ib, 1, none⟩ = some (.int .i64 o.wd) := (hib5.cell 1).trans rfl
          have k2 : W4.cell? ⟨ib, 2, none⟩ = some (.int .i64 o.sl) := (hib5.cell 2).trans rfl
          have k3 : W4.cell? ⟨ib, 3, none⟩ = some (.int .i64 o.cp) := (hib5.cell 3).trans rfl
          have k4 : W4.cell? ⟨ib, 4, none⟩ = some (.int .u32 o.st) := (hib5.cell 4).trans rfl
          have k5 : W4.cell? ⟨ib, 5, none⟩ = some (.slice I o.ini.length ci) := (hib5.cell 5).trans rfl
          have k6 : W4.cell? ⟨ib, 6, none⟩ = some (.int .i64 o.wr) := (hib5.cell 6).trans rfl
          have k7 : W4.cell? ⟨ib, 7, none⟩ = some (.slice R o.rd.length cr) := (hib5.cell 7).trans rfl
          clear hib5
          have hj4 := (HJ.out pre2) wq W4 hj hb1
          have hbw4 := hbw.trans (hb1.mono hbw.size)
          have hln := oline_any o I ci R cr W4 hst (fun z hz => hzz z (by simp at hz ⊢; rcases hz with h | h | h | h | h <;> simp [h])) hbd.1 hbd.2 (hI.below (hb1.mono hbw.size) hbw4.size) (hR.below (hb1.mono hbw.size) hbw4.size) (HT0.out.below hbw4)
          unfold ojV at hln
          have HLN := Lib.hid hln
          have HJ4 := Lib.hid hj4
          have HBW4 := Lib.hid hbw4
          have HFM4 := Lib.hid hfm
          clear hfm hj hbw hb1 hj4 hbw4 hln ho hI hR hst hzz hbd
          gi_wp2_with fail
          refine ⟨trivial, ?_⟩
          refine (callsIn_wide.2 HLN.out).mono ?_
          rintro e w5 ⟨sL, rfl, hls, hll, hb5⟩
          have hj5 := (HJ.out pre2) W4 w5 HJ4.out hb5
          have hmt : mt (sL, objB o) (objLs o) := mt_if hls hll
          have hok : OkI s pre2 (sL, objB o) := ⟨_, _, HFM4.out, hmt, HPO.out⟩
          have HMT5 := Lib.hid hmt
          have HOK5 := Lib.hid hok
          have HBW5 := Lib.hid (HBW4.out.trans (hb5.mono HBW4.out.size))
          clear hmt hok hb5 hls hll g0 g1 g2 g3 g4 g5 g6 g7 k0 k1 k2 k3 k4 k5 k6 k7
          obtain ⟨fn, tmps, assign, body, hy, hR⟩ := HY.out pre2 (sL, objB o) w5 hj5 HOK5.out
          unfold encI at hy
          have HR := Lib.hid hR
          clear hR
          gi_wp2_with fail
          refine HR.out.mono ?_
          rintro e3 W6 (⟨rfl, hJ3, hk3⟩ | ⟨rfl, hJx3⟩)
          · have hf6 := HFM4.out.snoc HMT5.out
            rw [List.append_assoc, ← HTS.out] at hf6
            have HF6 := Lib.hid hf6
            have HB6 : Below w0.heap.size w0 W6 := HBW5.out.trans hk3.2
            have HB6 := Lib.hid HB6
            clear hf6 hk3
            gi_wp2_with fail
            go_roundw
            case rel => exact ⟨j + 1, _, by omega, by go_num, HF6.out, hJ3, HB6.out⟩
            case measure => simp [intOf]; omega
          · gi_wp2_with fail
            refine bodyPost_ret (results_none rfl _ _ _) rfl ?_
            exact ⟨⟨_, rfl⟩, .inr ⟨_, ⟨_, HFM4.out.snoc HMT5.out, HPO.out⟩, hJx3⟩⟩
        · obtain rfl : j = s.os.length := by omega
          rw [List.take_length] at hfm
          have hnl2 : decide (s.os.length < s.os.length) = false := by simp
          have HFM9 := Lib.hid hfm
          have HJ9 := Lib.hid hj
          clear hfm hj hbw
          gi_wp2_with fail
          go_end0
          exact ⟨⟨_, rfl⟩, .inl ⟨_, HFM9.out, HJ9.out⟩⟩

end Go.Proofs.YtfgmebjbibbpdaaGreatDoor

namespace Go.Proofs.YtfgmebjbibbpdaaGreatDoor
open Go.RowKit
theorem InSl.nil (w : World) (B : Nat) (A : Option Addr) : InSl w B A [] := ⟨SlOf.nil, fun e h => by cases h⟩
theorem insTy : ElemTy Tryz.prog 44 73 5 40 := ElemTy.of (z := insV Ins.zero) Tryz.underlying44 (by kernel_rfl) rfl (by omega)

def OwnI (base : Nat) (w : World) (v : Value) (l : List Ins) : Prop := Own insE 73 base w v l ∧ ∀ e ∈ l, e.ok
theorem OwnI.nil (base : Nat) (w : World) : OwnI base w (.slice none 0 0) [] := ⟨Own.nil _ _, fun e h => by cases h⟩
theorem OwnI.sl {base : Nat} {w : World} {v : Value} {l : List Ins} (h : OwnI base w v l) : ∃ A c, v = .slice A l.length c ∧ (l.length ≤ c ∧ c ≤ maxLen) ∧ InSl w w.heap.size A l := by
  obtain ⟨A, c, e, hc, _, hs⟩ := h.1.sl
  exact ⟨A, c, e, hc, hs, h.2⟩
theorem OwnI.below {base B : Nat} {w w' : World} {v : Value} {l : List Ins} (h : OwnI base w v l) (hb : Below B w w') (hB : w.heap.size ≤ B) : OwnI base w' v l := ⟨h.1.below hb hB, h.2⟩
theorem OwnI.snoc {base : Nat} {w w1 : World} {v v' : Value} {l : List Ins} {e : Ins} (h : OwnI base w v l) (he : e.ok) (h2 : w1.ownsRow base 73 insE.size v' (l.length + 1) (insE.all l ++ e.cells)) : OwnI base w1 v' (l ++ [e]) :=
  ⟨Own.app h2 rfl, fun x hx => by
    rcases List.mem_append.1 hx with hx | hx
    · exact h.2 x hx
    · rw [List.mem_singleton.1 hx]; exact he⟩

/-! ### two rows of events -/
set_option maxHeartbeats 1000000 in
theorem code_any (A A' : Option Addr) (c c' : Nat) (l m : List Ins) (w : World) (hn : l.length ≤ 100000) (_hm : m.length ≤ 100000) (hl : InSl w w.heap.size A l) (hm' : InSl w w.heap.size A' m) :
    Calls Tryz.prog 50 #[.slice A l.length c, .slice A' m.length c'] w fun e w' => e = .returned (.bool (decide (l = m))) ∧ Below w.heap.size w w' := by
  by_cases hlen : l.length = m.length
  · have x0 : ((l.length : Int) != (m.length : Int)) = false := by simp [hlen]
    have hlen' := Lib.hid hlen
    clear hlen
    go_enter Tryz.func50, Tryz.ntmps50
    go_wp2
    go_loopw [5, 13] (fun i j wr => ∃ k : Nat, k ≤ l.length ∧ j = .int .i64 k ∧ l.take k = m.take k ∧ Below w.heap.size w wr) (fun _ j _ => l.length - (intOf j).toNat)
    case atStart => exact ⟨0, Nat.zero_le _, rfl, rfl, Below.refl _ _⟩
    case round =>
      obtain ⟨k, hk, rfl, heq, hb⟩ := hrel
      by_cases hlt : k < l.length
      · obtain ⟨x, hx⟩ := get_some hlt
        obtain ⟨y, hy⟩ := get_some (show k < m.length by have := hlen'.out; omega)
        obtain ⟨_, b, off, rfl, hlb, h0, h1, h2, h3, h4⟩ := (hl.below hb (Nat.le_refl _)).get hx
        obtain ⟨_, b2, off2, rfl, hlb2, g0, g1, g2, g3, g4⟩ := (hm'.below hb (Nat.le_refl _)).get hy
        have hmk : (k : Int) < m.length := by have := hlen'.out; omega
        have heq' := Lib.hid heq
        have hx' := Lib.hid hx
        have hy' := Lib.hid hy
        clear heq hx hy
        by_cases hxy : x = y
        · subst hxy
          go_wp2
          go_quiet (fail)
          go_wp2
          go_roundw
          case rel => exact ⟨k + 1, by omega, by go_num, by rw [take_snoc hx'.out, take_snoc hy'.out, heq'.out], drewN_below hb _⟩
          case measure => simp [intOf]; omega
        · have hxy' := Lib.hid hxy
          have hd : ((x.op == y.op) = false) ∨ ((x.op == y.op) = true ∧ (x.a == y.a) = false) ∨ ((x.op == y.op) = true ∧ (x.a == y.a) = true ∧ (x.b == y.b) = false) ∨ ((x.op == y.op) = true ∧ (x.a == y.a) = true ∧ (x.b == y.b) = true ∧ (x.c == y.c) = false) ∨ ((x.op == y.op) = true ∧ (x.a == y.a) = true ∧ (x.b == y.b) = true ∧ (x.c == y.c) = true ∧ (x.n == y.n) = false) := by
            obtain ⟨xt, xk, xp, xa, xb⟩ := x
            obtain ⟨yt, yk, yp, ya, yb⟩ := y
            simp only [Ins.mk.injEq] at hxy
            simp only [beq_eq_false_iff_ne, beq_iff_eq]
            by_cases e1 : xt = yt <;> by_cases e2 : xk = yk <;> by_cases e3 : xp = yp <;> by_cases e4 : xa = ya <;> by_cases e5 : xb = yb <;> simp_all
          clear hxy
          rcases hd with d1 | ⟨d1, d2⟩ | ⟨d1, d2, d3⟩ | ⟨d1, d2, d3, d4⟩ | ⟨d1, d2, d3, d4, d5⟩
          all_goals
            go_wp2
            go_quiet (fail)
            go_wp2
            go_ret
            refine ⟨ret_bool ?_, drewN_below hb _⟩
            symm
            rw [decide_eq_false_iff_not]
            intro e
            have := hx'.out
            rw [e, hy'.out] at this
            exact hxy'.out (by injection this with h; exact h.symm)
      · have h1 := take_all hlt
        have h2 : m.take k = m := take_all (by have := hlen'.out; omega)
        have h3 := Lib.hid (show l = m by rw [← h1, heq, h2])
        clear h1 h2 heq
        go_wp2
        go_ret
        exact ⟨ret_bool (by simpa using h3.out), hb⟩
  · have x0 : ((l.length : Int) != (m.length : Int)) = true := by simp; omega
    go_enter Tryz.func50, Tryz.ntmps50
    go_wp2
    go_ret
    exact ⟨ret_bool (by symm; rw [decide_eq_false_iff_not]; exact fun e => hlen (by rw [e])), Below.refl _ _⟩

end Go.Proofs.YtfgmebjbibbpdaaGreatDoor

namespace Go.Proofs.YtfgmebjbibbpdaaGreatDoor
open Go.RowKit

theorem reg8_any (n : Int) (w : World) : Calls Tryz.prog 65 #[.int .i64 n] w fun e w' => e = .returned (.bool (fitB 1 n)) ∧ w' = w := by
  rcases h1 : decide (0 ≤ n) with _ | _ <;> rcases h2 : decide (n ≤ 7) with _ | _
  all_goals
    have hr : fitB 1 n = (decide (0 ≤ n) && decide (n ≤ 7)) := by
      show (decide (0 ≤ n) && decide (n < 8)) = _
      congr 1
      exact decide_eq_decide.2 (by omega)
    rw [h1, h2] at hr
    have hr' := Lib.hid hr
    clear hr
    go_enter Tryz.func65, Tryz.ntmps65
    go_wp2_with fail
    go_ret
    exact ⟨ret_bool (by rw [hr'.out]; rfl), rfl⟩

set_option maxRecDepth 100000 in
theorem rright_0 (a b c m : Int) (w : World) : Calls Tryz.prog 37 #[.agg #[.int .i64 0, .int .i64 a, .int .i64 b, .int .i64 c, .int .u32 m]] w fun r w' => r = .returned (.bool (insB ⟨0, a, b, c, m⟩)) ∧ Below w.heap.size w w' := by
  have hr : insB ⟨0, a, b, c, m⟩ = ((a == 0) && (b == 0) && (c == 0) && (m == 0)) := rfl
  rw [hr]
  clear hr
  go_enter Tryz.func37, Tryz.ntmps37
  go_wp2_with (go_at_call 65; refine (reg8_any _ _).mono ?_; rintro e w1 ⟨rfl, rfl⟩)
  all_goals
    go_ret
    exact ⟨ret_bool (by simp [*] <;> omega), (Below.refl _ w).alloc (Nat.le_refl _) _⟩
set_option maxRecDepth 100000 in
theorem rright_1 (a b c m : Int) (w : World) : Calls Tryz.prog 37 #[.agg #[.int .i64 1, .int .i64 a, .int .i64 b, .int .i64 c, .int .u32 m]] w fun r w' => r = .returned (.bool (insB ⟨1, a, b, c, m⟩)) ∧ Below w.heap.size w w' := by
  have hr : insB ⟨1, a, b, c, m⟩ = (fitB 1 a && (b == 0) && (c == 0) && true) := rfl
  rw [hr]
  clear hr
  go_enter Tryz.func37, Tryz.ntmps37
  go_wp2_with (go_at_call 65; refine (reg8_any _ _).mono ?_; rintro e w1 ⟨rfl, rfl⟩)
  all_goals
    go_ret
    exact ⟨ret_bool (by simp [*] <;> omega), (Below.refl _ w).alloc (Nat.le_refl _) _⟩
set_option maxRecDepth 100000 in
theorem rright_2 (a b c m : Int) (w : World) : Calls Tryz.prog 37 #[.agg #[.int .i64 2, .int .i64 a, .int .i64 b, .int .i64 c, .int .u32 m]] w fun r w' => r = .returned (.bool (insB ⟨2, a, b, c, m⟩)) ∧ Below w.heap.size w w' := by
  have hr : insB ⟨2, a, b, c, m⟩ = (fitB 1 a && fitB 1 b && (c == 0) && (m == 0)) := rfl
  rw [hr]
  clear hr
  go_enter Tryz.func37, Tryz.ntmps37
  go_wp2_with (go_at_call 65; refine (reg8_any _ _).mono ?_; rintro e w1 ⟨rfl, rfl⟩)
  all_goals
    go_ret
    exact ⟨ret_bool (by simp [*] <;> omega), (Below.refl _ w).alloc (Nat.le_refl _) _⟩
set_option maxRecDepth 100000 in
theorem rright_3 (a b c m : Int) (w : World) : Calls Tryz.prog 37 #[.agg #[.int .i64 3, .int .i64 a, .int .i64 b, .int .i64 c, .int .u32 m]] w fun r w' => r = .returned (.bool (insB ⟨3, a, b, c, m⟩)) ∧ Below w.heap.size w w' := by
  have hr : insB ⟨3, a, b, c, m⟩ = (fitB 1 a && fitB 1 b && fitB 1 c && (m == 0)) := rfl
  rw [hr]
  clear hr
  go_enter Tryz.func37, Tryz.ntmps37
  go_wp2_with (go_at_call 65; refine (reg8_any _ _).mono ?_; rintro e w1 ⟨rfl, rfl⟩)
  all_goals
    go_ret
    exact ⟨ret_bool (by simp [*] <;> omega), (Below.refl _ w).alloc (Nat.le_refl _) _⟩
set_option maxRecDepth 100000 in
theorem rright_4 (a b c m : Int) (w : World) : Calls Tryz.prog 37 #[.agg #[.int .i64 4, .int .i64 a, .int .i64 b, .int .i64 c, .int .u32 m]] w fun r w' => r = .returned (.bool (insB ⟨4, a, b, c, m⟩)) ∧ Below w.heap.size w w' := by
  have hr : insB ⟨4, a, b, c, m⟩ = (fitB 1 a && fitB 1 b && fitB 1 c && (m == 0)) := rfl
  rw [hr]
  clear hr
  go_enter Tryz.func37, Tryz.ntmps37
  go_wp2_with (go_at_call 65; refine (reg8_any _ _).mono ?_; rintro e w1 ⟨rfl, rfl⟩)
  all_goals
    go_ret
    exact ⟨ret_bool (by simp [*] <;> omega), (Below.refl _ w).alloc (Nat.le_refl _) _⟩
set_option maxRecDepth 100000 in
theorem rright_5 (a b c m : Int) (w : World) : Calls Tryz.prog 37 #[.agg #[.int .i64 5, .int .i64 a, .int .i64 b, .int .i64 c, .int .u32 m]] w fun r w' => r = .returned (.bool (insB ⟨5, a, b, c, m⟩)) ∧ Below w.heap.size w w' := by
  have hr : insB ⟨5, a, b, c, m⟩ = (fitB 1 a && fitB 1 b && fitB 1 c && (m == 0)) := rfl
  rw [hr]
  clear hr
  go_enter Tryz.func37, Tryz.ntmps37
  go_wp2_with (go_at_call 65; refine (reg8_any _ _).mono ?_; rintro e w1 ⟨rfl, rfl⟩)
  all_goals
    go_ret
    exact ⟨ret_bool (by simp [*] <;> omega), (Below.refl _ w).alloc (Nat.le_refl _) _⟩
set_option maxRecDepth 100000 in
theorem rright_6 (a b c m : Int) (w : World) : Calls Tryz.prog 37 #[.agg #[.int .i64 6, .int .i64 a, .int .i64 b, .int .i64 c, .int .u32 m]] w fun r w' => r = .returned (.bool (insB ⟨6, a, b, c, m⟩)) ∧ Below w.heap.size w w' := by
  have hr : insB ⟨6, a, b, c, m⟩ = (fitB 1 a && fitB 1 b && fitB 1 c && (m == 0)) := rfl
  rw [hr]
  clear hr
  go_enter Tryz.func37, Tryz.ntmps37
  go_wp2_with (go_at_call 65; refine (reg8_any _ _).mono ?_; rintro e w1 ⟨rfl, rfl⟩)
  all_goals
    go_ret
    exact ⟨ret_bool (by simp [*] <;> omega), (Below.refl _ w).alloc (Nat.le_refl _) _⟩
set_option maxRecDepth 100000 in
theorem rright_7 (a b c m : Int) (w : World) : Calls Tryz.prog 37 #[.agg #[.int .i64 7, .int .i64 a, .int .i64 b, .int .i64 c, .int .u32 m]] w fun r w' => r = .returned (.bool (insB ⟨7, a, b, c, m⟩)) ∧ Below w.heap.size w w' := by
  have hr : insB ⟨7, a, b, c, m⟩ = (fitB 1 a && fitB 1 b && fitB 1 c && (m == 0)) := rfl
  rw [hr]
  clear hr
  go_enter Tryz.func37, Tryz.ntmps37
  go_wp2_with (go_at_call 65; refine (reg8_any _ _).mono ?_; rintro e w1 ⟨rfl, rfl⟩)
  all_goals
    go_ret
    exact ⟨ret_bool (by simp [*] <;> omega), (Below.refl _ w).alloc (Nat.le_refl _) _⟩
set_option maxRecDepth 100000 in
theorem rright_8 (a b c m : Int) (w : World) : Calls Tryz.prog 37 #[.agg #[.int .i64 8, .int .i64 a, .int .i64 b, .int .i64 c, .int .u32 m]] w fun r w' => r = .returned (.bool (insB ⟨8, a, b, c, m⟩)) ∧ Below w.heap.size w w' := by
  have hr : insB ⟨8, a, b, c, m⟩ = (fitB 1 a && fitB 1 b && fitB 1 c && (m == 0)) := rfl
  rw [hr]
  clear hr
  go_enter Tryz.func37, Tryz.ntmps37
  go_wp2_with (go_at_call 65; refine (reg8_any _ _).mono ?_; rintro e w1 ⟨rfl, rfl⟩)
  all_goals
    go_ret
    exact ⟨ret_bool (by simp [*] <;> omega), (Below.refl _ w).alloc (Nat.le_refl _) _⟩
set_option maxRecDepth 100000 in
theorem rright_9 (a b c m : Int) (w : World) : Calls Tryz.prog 37 #[.agg #[.int .i64 9, .int .i64 a, .int .i64 b, .int .i64 c, .int .u32 m]] w fun r w' => r = .returned (.bool (insB ⟨9, a, b, c, m⟩)) ∧ Below w.heap.size w w' := by
  have hr : insB ⟨9, a, b, c, m⟩ = (fitB 1 a && fitB 1 b && fitB 1 c && (m == 0)) := rfl
  rw [hr]
  clear hr
  go_enter Tryz.func37, Tryz.ntmps37
  go_wp2_with (go_at_call 65; refine (reg8_any _ _).mono ?_; rintro e w1 ⟨rfl, rfl⟩)
  all_goals
    go_ret
    exact ⟨ret_bool (by simp [*] <;> omega), (Below.refl _ w).alloc (Nat.le_refl _) _⟩
set_option maxRecDepth 100000 in
theorem rright_10 (a b c m : Int) (w : World) : Calls Tryz.prog 37 #[.agg #[.int .i64 10, .int .i64 a, .int .i64 b, .int .i64 c, .int .u32 m]] w fun r w' => r = .returned (.bool (insB ⟨10, a, b, c, m⟩)) ∧ Below w.heap.size w w' := by
  have hr : insB ⟨10, a, b, c, m⟩ = (fitB 1 a && fitB 1 b && fitB 1 c && (m == 0)) := rfl
  rw [hr]
  clear hr
  go_enter Tryz.func37, Tryz.ntmps37
  go_wp2_with (go_at_call 65; refine (reg8_any _ _).mono ?_; rintro e w1 ⟨rfl, rfl⟩)
  all_goals
    go_ret
    exact ⟨ret_bool (by simp [*] <;> omega), (Below.refl _ w).alloc (Nat.le_refl _) _⟩
set_option maxRecDepth 100000 in
theorem rright_11 (a b c m : Int) (w : World) : Calls Tryz.prog 37 #[.agg #[.int .i64 11, .int .i64 a, .int .i64 b, .int .i64 c, .int .u32 m]] w fun r w' => r = .returned (.bool (insB ⟨11, a, b, c, m⟩)) ∧ Below w.heap.size w w' := by
  have hr : insB ⟨11, a, b, c, m⟩ = (fitB 1 a && fitB 1 b && (c == 0) && true) := rfl
  rw [hr]
  clear hr
  go_enter Tryz.func37, Tryz.ntmps37
  go_wp2_with (go_at_call 65; refine (reg8_any _ _).mono ?_; rintro e w1 ⟨rfl, rfl⟩)
  all_goals
    go_ret
    exact ⟨ret_bool (by simp [*] <;> omega), (Below.refl _ w).alloc (Nat.le_refl _) _⟩
set_option maxRecDepth 100000 in
theorem rright_12 (a b c m : Int) (w : World) : Calls Tryz.prog 37 #[.agg #[.int .i64 12, .int .i64 a, .int .i64 b, .int .i64 c, .int .u32 m]] w fun r w' => r = .returned (.bool (insB ⟨12, a, b, c, m⟩)) ∧ Below w.heap.size w w' := by
  have hr : insB ⟨12, a, b, c, m⟩ = (fitB 1 a && fitB 1 b && (c == 0) && true) := rfl
  rw [hr]
  clear hr
  go_enter Tryz.func37, Tryz.ntmps37
  go_wp2_with (go_at_call 65; refine (reg8_any _ _).mono ?_; rintro e w1 ⟨rfl, rfl⟩)
  all_goals
    go_ret
    exact ⟨ret_bool (by simp [*] <;> omega), (Below.refl _ w).alloc (Nat.le_refl _) _⟩
set_option maxRecDepth 100000 in
theorem rright_13 (a b c m : Int) (w : World) : Calls Tryz.prog 37 #[.agg #[.int .i64 13, .int .i64 a, .int .i64 b, .int .i64 c, .int .u32 m]] w fun r w' => r = .returned (.bool (insB ⟨13, a, b, c, m⟩)) ∧ Below w.heap.size w w' := by
  have hr : insB ⟨13, a, b, c, m⟩ = (fitB 1 a && fitB 1 b && fitB 1 c && true) := rfl
  rw [hr]
  clear hr
  go_enter Tryz.func37, Tryz.ntmps37
  go_wp2_with (go_at_call 65; refine (reg8_any _ _).mono ?_; rintro e w1 ⟨rfl, rfl⟩)
  all_goals
    go_ret
    exact ⟨ret_bool (by simp [*] <;> omega), (Below.refl _ w).alloc (Nat.le_refl _) _⟩
set_option maxRecDepth 100000 in
theorem rright_14 (a b c m : Int) (w : World) : Calls Tryz.prog 37 #[.agg #[.int .i64 14, .int .i64 a, .int .i64 b, .int .i64 c, .int .u32 m]] w fun r w' => r = .returned (.bool (insB ⟨14, a, b, c, m⟩)) ∧ Below w.heap.size w w' := by
  have hr : insB ⟨14, a, b, c, m⟩ = ((a == 0) && (b == 0) && (c == 0) && decide (m < 64)) := rfl
  rw [hr]
  clear hr
  go_enter Tryz.func37, Tryz.ntmps37
  go_wp2_with (go_at_call 65; refine (reg8_any _ _).mono ?_; rintro e w1 ⟨rfl, rfl⟩)
  all_goals
    go_ret
    exact ⟨ret_bool (by simp [*] <;> omega), (Below.refl _ w).alloc (Nat.le_refl _) _⟩
set_option maxRecDepth 100000 in
theorem rright_15 (a b c m : Int) (w : World) : Calls Tryz.prog 37 #[.agg #[.int .i64 15, .int .i64 a, .int .i64 b, .int .i64 c, .int .u32 m]] w fun r w' => r = .returned (.bool (insB ⟨15, a, b, c, m⟩)) ∧ Below w.heap.size w w' := by
  have hr : insB ⟨15, a, b, c, m⟩ = (fitB 1 a && (b == 0) && (c == 0) && decide (m < 64)) := rfl
  rw [hr]
  clear hr
  go_enter Tryz.func37, Tryz.ntmps37
  go_wp2_with (go_at_call 65; refine (reg8_any _ _).mono ?_; rintro e w1 ⟨rfl, rfl⟩)
  all_goals
    go_ret
    exact ⟨ret_bool (by simp [*] <;> omega), (Below.refl _ w).alloc (Nat.le_refl _) _⟩
set_option maxRecDepth 100000 in
theorem rright_16 (a b c m : Int) (w : World) : Calls Tryz.prog 37 #[.agg #[.int .i64 16, .int .i64 a, .int .i64 b, .int .i64 c, .int .u32 m]] w fun r w' => r = .returned (.bool (insB ⟨16, a, b, c, m⟩)) ∧ Below w.heap.size w w' := by
  have hr : insB ⟨16, a, b, c, m⟩ = ((a == 0) && (b == 0) && (decide (1 ≤ c) && decide (c ≤ 255)) && decide (m < 64)) := rfl
  rw [hr]
  clear hr
  go_enter Tryz.func37, Tryz.ntmps37
  go_wp2_with (go_at_call 65; refine (reg8_any _ _).mono ?_; rintro e w1 ⟨rfl, rfl⟩)
  all_goals
    go_ret
    exact ⟨ret_bool (by simp [*] <;> omega), (Below.refl _ w).alloc (Nat.le_refl _) _⟩
set_option maxRecDepth 100000 in
theorem rright_17 (a b c m : Int) (w : World) : Calls Tryz.prog 37 #[.agg #[.int .i64 17, .int .i64 a, .int .i64 b, .int .i64 c, .int .u32 m]] w fun r w' => r = .returned (.bool (insB ⟨17, a, b, c, m⟩)) ∧ Below w.heap.size w w' := by
  have hr : insB ⟨17, a, b, c, m⟩ = (fitB 1 a && (decide (0 ≤ b) && decide (b < 8)) && (c == 0) && decide (m < 64)) := rfl
  rw [hr]
  clear hr
  go_enter Tryz.func37, Tryz.ntmps37
  go_wp2_with (go_at_call 65; refine (reg8_any _ _).mono ?_; rintro e w1 ⟨rfl, rfl⟩)
  all_goals
    go_ret
    exact ⟨ret_bool (by simp [*] <;> omega), (Below.refl _ w).alloc (Nat.le_refl _) _⟩
set_option maxRecDepth 100000 in
theorem rright_18 (a b c m : Int) (w : World) : Calls Tryz.prog 37 #[.agg #[.int .i64 18, .int .i64 a, .int .i64 b, .int .i64 c, .int .u32 m]] w fun r w' => r = .returned (.bool (insB ⟨18, a, b, c, m⟩)) ∧ Below w.heap.size w w' := by
  have hr : insB ⟨18, a, b, c, m⟩ = (fitB 1 a && (decide (0 ≤ b) && decide (b < 8)) && (c == 0) && decide (m < 64)) := rfl
  rw [hr]
  clear hr
  go_enter Tryz.func37, Tryz.ntmps37
  go_wp2_with (go_at_call 65; refine (reg8_any _ _).mono ?_; rintro e w1 ⟨rfl, rfl⟩)
  all_goals
    go_ret
    exact ⟨ret_bool (by simp [*] <;> omega), (Below.refl _ w).alloc (Nat.le_refl _) _⟩
set_option maxRecDepth 100000 in
theorem rright_19 (a b c m : Int) (w : World) : Calls Tryz.prog 37 #[.agg #[.int .i64 19, .int .i64 a, .int .i64 b, .int .i64 c, .int .u32 m]] w fun r w' => r = .returned (.bool (insB ⟨19, a, b, c, m⟩)) ∧ Below w.heap.size w w' := by
  have hr : insB ⟨19, a, b, c, m⟩ = (fitB 1 a && (decide (0 ≤ b) && decide (b < 8)) && (c == 0) && decide (m < 64)) := rfl
  rw [hr]
  clear hr
  go_enter Tryz.func37, Tryz.ntmps37
  go_wp2_with (go_at_call 65; refine (reg8_any _ _).mono ?_; rintro e w1 ⟨rfl, rfl⟩)
  all_goals
    go_ret
    exact ⟨ret_bool (by simp [*] <;> omega), (Below.refl _ w).alloc (Nat.le_refl _) _⟩
set_option maxRecDepth 100000 in
theorem rright_20 (a b c m : Int) (w : World) : Calls Tryz.prog 37 #[.agg #[.int .i64 20, .int .i64 a, .int .i64 b, .int .i64 c, .int .u32 m]] w fun r w' => r = .returned (.bool (insB ⟨20, a, b, c, m⟩)) ∧ Below w.heap.size w w' := by
  have hr : insB ⟨20, a, b, c, m⟩ = (fitB 1 a && (decide (0 ≤ b) && decide (b < 8)) && (c == 0) && decide (m < 64)) := rfl
  rw [hr]
  clear hr
  go_enter Tryz.func37, Tryz.ntmps37
  go_wp2_with (go_at_call 65; refine (reg8_any _ _).mono ?_; rintro e w1 ⟨rfl, rfl⟩)
  all_goals
    go_ret
    exact ⟨ret_bool (by simp [*] <;> omega), (Below.refl _ w).alloc (Nat.le_refl _) _⟩
set_option maxRecDepth 100000 in
theorem rright_21 (a b c m : Int) (w : World) : Calls Tryz.prog 37 #[.agg #[.int .i64 21, .int .i64 a, .int .i64 b, .int .i64 c, .int .u32 m]] w fun r w' => r = .returned (.bool (insB ⟨21, a, b, c, m⟩)) ∧ Below w.heap.size w w' := by
  have hr : insB ⟨21, a, b, c, m⟩ = ((a == 0) && (b == 0) && (c == 0) && (m == 0)) := rfl
  rw [hr]
  clear hr
  go_enter Tryz.func37, Tryz.ntmps37
  go_wp2_with (go_at_call 65; refine (reg8_any _ _).mono ?_; rintro e w1 ⟨rfl, rfl⟩)
  all_goals
    go_ret
    exact ⟨ret_bool (by simp [*] <;> omega), (Below.refl _ w).alloc (Nat.le_refl _) _⟩
set_option maxRecDepth 100000 in
theorem rright_no (op a b c m : Int) (w : World) (h : known op = false) : Calls Tryz.prog 37 #[.agg #[.int .i64 op, .int .i64 a, .int .i64 b, .int .i64 c, .int .u32 m]] w fun r w' => r = .returned (.bool false) ∧ Below w.heap.size w w' := by
  have ho : ¬(0 ≤ op ∧ op < 22) := fun e => by rw [known_iff.2 e] at h; cases h
  have x0 : (op == 0) = false := by rw [beq_eq_false_iff_ne]; omega
  have x1 : (op == 1) = false := by rw [beq_eq_false_iff_ne]; omega
  have x2 : (op == 2) = false := by rw [beq_eq_false_iff_ne]; omega
  have x3 : (op == 3) = false := by rw [beq_eq_false_iff_ne]; omega
  have x4 : (op == 4) = false := by rw [beq_eq_false_iff_ne]; omega
  have x5 : (op == 5) = false := by rw [beq_eq_false_iff_ne]; omega
  have x6 : (op == 6) = false := by rw [beq_eq_false_iff_ne]; omega
  have x7 : (op == 7) = false := by rw [beq_eq_false_iff_ne]; omega
  have x8 : (op == 8) = false := by rw [beq_eq_false_iff_ne]; omega
  have x9 : (op == 9) = false := by rw [beq_eq_false_iff_ne]; omega
  have x10 : (op == 10) = false := by rw [beq_eq_false_iff_ne]; omega
  have x11 : (op == 11) = false := by rw [beq_eq_false_iff_ne]; omega
  have x12 : (op == 12) = false := by rw [beq_eq_false_iff_ne]; omega
  have x13 : (op == 13) = false := by rw [beq_eq_false_iff_ne]; omega
  have x14 : (op == 14) = false := by rw [beq_eq_false_iff_ne]; omega
  have x15 : (op == 15) = false := by rw [beq_eq_false_iff_ne]; omega
  have x16 : (op == 16) = false := by rw [beq_eq_false_iff_ne]; omega
  have x17 : (op == 17) = false := by rw [beq_eq_false_iff_ne]; omega
  have x18 : (op == 18) = false := by rw [beq_eq_false_iff_ne]; omega
  have x19 : (op == 19) = false := by rw [beq_eq_false_iff_ne]; omega
  have x20 : (op == 20) = false := by rw [beq_eq_false_iff_ne]; omega
  have x21 : (op == 21) = false := by rw [beq_eq_false_iff_ne]; omega
  clear h ho
  go_enter Tryz.func37, Tryz.ntmps37
  go_wp2_with fail
  go_ret
  exact ⟨rfl, (Below.refl _ w).alloc (Nat.le_refl _) _⟩
theorem rright_any (e : Ins) (w : World) : Calls Tryz.prog 37 #[insV e] w fun r w' => r = .returned (.bool (insB e)) ∧ Below w.heap.size w w' := by
  obtain ⟨op, a, b, c, m⟩ := e
  unfold insV
  simp only
  rcases h : known op with _ | _
  · have hi : insB ⟨op, a, b, c, m⟩ = false := by unfold insB; simp only [h, Bool.false_and]
    rw [hi]
    exact rright_no op a b c m w h
  · refine op_all (P := fun op => Calls Tryz.prog 37 #[.agg #[.int .i64 op, .int .i64 a, .int .i64 b, .int .i64 c, .int .u32 m]] w fun r w' => r = .returned (.bool (insB ⟨op, a, b, c, m⟩)) ∧ Below w.heap.size w w') ?_ op h
    intro k hk
    have hc : k = 0 ∨ k = 1 ∨ k = 2 ∨ k = 3 ∨ k = 4 ∨ k = 5 ∨ k = 6 ∨ k = 7 ∨ k = 8 ∨ k = 9 ∨ k = 10 ∨ k = 11 ∨ k = 12 ∨ k = 13 ∨ k = 14 ∨ k = 15 ∨ k = 16 ∨ k = 17 ∨ k = 18 ∨ k = 19 ∨ k = 20 ∨ k = 21 := by omega
    rcases hc with rfl | rfl | rfl | rfl | rfl | rfl | rfl | rfl | rfl | rfl | rfl | rfl | rfl | rfl | rfl | rfl | rfl | rfl | rfl | rfl | rfl | rfl
    · exact rright_0 a b c m w
    · exact rright_1 a b c m w
    · exact rright_2 a b c m w
    · exact rright_3 a b c m w
    · exact rright_4 a b c m w
    · exact rright_5 a b c m w
    · exact rright_6 a b c m w
    · exact rright_7 a b c m w
    · exact rright_8 a b c m w
    · exact rright_9 a b c m w
    · exact rright_10 a b c m w
    · exact rright_11 a b c m w
    · exact rright_12 a b c m w
    · exact rright_13 a b c m w
    · exact rright_14 a b c m w
    · exact rright_15 a b c m w
    · exact rright_16 a b c m w
    · exact rright_17 a b c m w
    · exact rright_18 a b c m w
    · exact rright_19 a b c m w
    · exact rright_20 a b c m w
    · exact rright_21 a b c m w

def wordsB : List ByteArray := shs.map fun s => ⟨s.w.toArray⟩
theorem rwords_any (w : World) : Calls Tryz.prog 48 #[] w fun e w' => ∃ b, e = .returned (.slice (some ⟨b, 0, none⟩) 22 22) ∧ (∀ (j : Nat) x, wordsB[j]? = some x → w'.cell? ⟨b, j, none⟩ = some (.string x)) ∧ w.heap.size ≤ b ∧ Below w.heap.size w w' := by
  go_enter Tryz.func48, Tryz.ntmps48
  go_wp2_with fail
  go_ret
  refine ⟨_, rfl, fun j x hx => ?_, Nat.le_refl _, (Below.refl _ w).alloc (Nat.le_refl _) _⟩
  have h1 := cells_new w (wordsB.map Value.string).toArray 9 j
  rw [Addr.add_lit, Nat.zero_add, List.getElem?_toArray, List.getElem?_map, hx] at h1
  exact h1

end Go.Proofs.YtfgmebjbibbpdaaGreatDoor

namespace Go.Proofs.YtfgmebjbibbpdaaGreatDoor
open Go.RowKit

theorem byte_back4 {d : Nat} {b : UInt8} (h : d < 10) (hb : UInt8.ofNat (48 + d) = b) (W : World) (a : Addr) (cap : Nat) (hc : W.cell? a = some (.int .u8 (48 + (d : Int)))) :
    (convert 48 9 (.slice (some a) 1 cap)).run Tryz.prog W = .ok (.string ⟨#[b]⟩) W :=
  run_convert_bytes_back W 48 9 5 a cap [b] Tryz.underlying48 Tryz.underlying5 Tryz.underlying9 (fun j hj => by
    have : j = 0 := by simpa using hj
    subst this
    have e : a.add 0 = a := by simp [Addr.add]
    rw [e, hc]
    have : b.toNat = 48 + d := by rw [← hb, UInt8.toNat_ofNat']; omega
    simp [this])

theorem numS_size {u : Nat} (h : u < 4294967296) : (numS u).size ≤ 20 := by
  have h2 : (numS u).size = (Lib.decDigits u).length := rfl
  rw [h2, Lib.decDigits_length]
  exact Lib.nDigits_le20 _ (by omega)
set_option maxHeartbeats 1000000 in
theorem digits_any : ∀ (n u : Nat) (x : Int) (w : World), x = (u : Int) → u < n → u < 4294967296 → Calls Tryz.prog 40 #[.int .u32 x] w fun e w' => e = .returned (.string (numS u)) ∧ Below w.heap.size w w' := by
  intro n
  induction n with
  | zero => intro u _ w _ h _; omega
  | succ n ih =>
    rintro u _ w rfl hn hu
    by_cases h10 : u < 10
    · rw [numS_small h10]
      obtain ⟨b, hb⟩ : ∃ b, UInt8.ofNat (48 + u) = b := ⟨_, rfl⟩
      rw [hb]
      have t1 : decide ((u : Int) < 10) = true := by rw [decide_eq_true_iff]; omega
      have hcb := byte_back4 h10 hb
      clear hb ih
      go_enter Tryz.func40, Tryz.ntmps40
      go_wp2_with fail
      go_ret
      exact ⟨rfl, (Below.refl _ w).alloc (Nat.le_refl _) _⟩
    · rw [numS_big h10]
      obtain ⟨b, hb⟩ : ∃ b, UInt8.ofNat (48 + u % 10) = b := ⟨_, rfl⟩
      rw [hb]
      have t1 : decide ((u : Int) < 10) = false := by rw [decide_eq_false_iff_not]; omega
      have hcb := byte_back4 (show u % 10 < 10 by omega) hb
      obtain ⟨q, hq⟩ : ∃ q, u / 10 = q := ⟨_, rfl⟩
      obtain ⟨r, hr⟩ : ∃ r, u % 10 = r := ⟨_, rfl⟩
      have hr10 : r < 10 := by omega
      rw [hr] at hcb
      have e1 : IntKind.u32.wrap ((u : Int) / 10) = (q : Int) := by rw [wrap_u32 (by omega) (by omega)]; omega
      have e2 : (u : Int).tmod 10 = (r : Int) := by rw [Int.tmod_eq_emod_of_nonneg (by omega)]; omega
      have e3 : IntKind.u32.wrap (48 + (r : Int)) = 48 + (r : Int) := wrap_u32 (by omega) (by omega)
      have e4 : IntKind.u8.wrap (48 + (r : Int)) = 48 + (r : Int) := wrap_u8 (by omega) (by omega)
      have hz1 : (numS q).size ≤ 20 := numS_size (by omega)
      have hz2 : ¬ 9223372036854775807 ≤ (numS q).size := by omega
      have hz3 : ¬ 9223372036854775807 < (numS q).size + 1 := by omega
      have ih' := fun w => ih q (q : Int) w rfl (by omega) (by omega)
      rw [hq]
      have ih2 := Lib.hid ih'
      clear hb ih ih' hq hr hn h10 hz1
      go_enter Tryz.func40, Tryz.ntmps40
      go_wp2_with fail
      go_region_with (go_at_call 40; refine (ih2.out _).mono ?_; rintro e w1 ⟨rfl, hb⟩
                      have hc := fun p hp => hb.cell (p := p) hp)
      all_goals
        go_wp2_with fail
        go_ret
        first
          | exact ⟨rfl, (((Below.refl _ w).drew).trans (hb.mono (by simp))).alloc (by have := hb.size; simpa using this) _⟩
          | exact ⟨rfl, (((Below.refl _ w).drew.alloc (by simp) _).trans (hb.mono (by simp)))⟩


end Go.Proofs.YtfgmebjbibbpdaaGreatDoor

namespace Go.Proofs.YtfgmebjbibbpdaaGreatDoor
open Go.RowKit

theorem pS (l : List Value) (e : List Deferred) (k : Nat) (v : Value) : (Act.mk l.toArray e).put (some k) v = ⟨(l.set k v).toArray, e⟩ := by simp [Act.put]
theorem pN (a : Act) (v : Value) : a.put none v = a := rfl

end Go.Proofs.YtfgmebjbibbpdaaGreatDoor

namespace Go.Proofs.YtfgmebjbibbpdaaGreatDoor
open Go.RowKit

def partR (l : List UInt8) (z : Int) : ByteArray := ⟨(32 :: partL (l, z)).toArray⟩
theorem partR_eq (l : List UInt8) (z : Int) : (⟨#[32]⟩ : ByteArray) ++ ⟨l.toArray⟩ ++ numS z.toNat = partR l z := by
  refine ByteArray.ext ?_
  simp [partR, partL, numS]
theorem partR_size {l : List UInt8} {z : Int} (hl : l.length ≤ 1) (h : 0 ≤ z ∧ z < 4294967296) : (partR l z).size ≤ 12 := by
  have h1 := dd_len 9 z.toNat (by omega)
  have : (partR l z).size = l.length + (Lib.decDigits z.toNat).length + 1 := by simp [partR, partL, ByteArray.size]
  omega
theorem rpart_any (l : List UInt8) (z : Int) (w : World) (hl : l.length ≤ 1) (h : 0 ≤ z ∧ z < 4294967296) :
    Calls Tryz.prog 66 #[.string ⟨l.toArray⟩, .int .i64 z] w fun e w' => e = .returned (.string (partR l z)) ∧ Below w.heap.size w w' := by
  rw [← partR_eq]
  have hz : IntKind.u32.wrap z = z := wrap_u32 h.1 h.2
  have hd := fun W => digits_any (z.toNat + 1) z.toNat z W (by omega) (by omega) (by omega)
  have hsz : (numS z.toNat).size ≤ 20 := numS_size (by omega)
  obtain ⟨D, hD⟩ : ∃ D, numS z.toNat = D := ⟨_, rfl⟩
  rw [hD] at hd hsz ⊢
  have hL : (⟨l.toArray⟩ : ByteArray).size ≤ 1 := by simp [ByteArray.size]; exact hl
  obtain ⟨L, hLe⟩ : ∃ L, (⟨l.toArray⟩ : ByteArray) = L := ⟨_, rfl⟩
  rw [hLe] at hL ⊢
  have hd' := Lib.hid hd
  have z1 : ¬ 9223372036854775807 < 1 + L.size := by omega
  have z2 : ¬ 9223372036854775807 < 1 + L.size + D.size := by omega
  clear hd hD hLe
  go_enter Tryz.func66, Tryz.ntmps66
  go_wp2_with fail
  refine (hd'.out _).mono ?_
  rintro e w1 ⟨rfl, hb⟩
  go_wp2_with fail
  go_ret
  exact ⟨rfl, hb⟩

def RlSt (w2 : World) (n : Nat) (a b c m : Int) (w' : World) : Prop :=
  Below w2.heap.size w2 w' ∧ w'.cell? ⟨n, 1, none⟩ = some (.int .i64 a) ∧ w'.cell? ⟨n, 2, none⟩ = some (.int .i64 b) ∧ w'.cell? ⟨n, 3, none⟩ = some (.int .i64 c) ∧ w'.cell? ⟨n, 4, none⟩ = some (.int .u32 m)
theorem RlSt.below {w2 w w' : World} {n : Nat} {a b c m : Int} (h : RlSt w2 n a b c m w) (hb : Below w.heap.size w w') : RlSt w2 n a b c m w' := by
  obtain ⟨h1, h2, h3, h4, h5⟩ := h
  refine ⟨h1.trans (hb.mono h1.size), ?_, ?_, ?_, ?_⟩
  · exact (hb.cell (p := ⟨n, 1, none⟩) (cell_lt h2)).trans h2
  · exact (hb.cell (p := ⟨n, 2, none⟩) (cell_lt h3)).trans h3
  · exact (hb.cell (p := ⟨n, 3, none⟩) (cell_lt h4)).trans h4
  · exact (hb.cell (p := ⟨n, 4, none⟩) (cell_lt h5)).trans h5
theorem RlSt.drew {w2 w : World} {n : Nat} {a b c m : Int} (h : RlSt w2 n a b c m w) : RlSt w2 n a b c m w.drew := h.below (Below.refl _ w).drew
def rlineS (i : Ins) : ByteArray := ⟨((shOf i.op).w ++ (opsL i).flatMap fun p => 32 :: partL p).toArray⟩
theorem rline_eq (i : Ins) : rlineS i = lineS i := by
  unfold rlineS lineS lineL partsL
  rw [Lib.join_cons]
  congr 2
  congr 1
  unfold Lib.joinTail
  rw [List.map_map, List.flatMap_def]
  rfl

end Go.Proofs.YtfgmebjbibbpdaaGreatDoor

namespace Go.Proofs.YtfgmebjbibbpdaaGreatDoor
open Go.RowKit

set_option maxRecDepth 100000 in
set_option maxHeartbeats 4000000 in
theorem rline_0 (a b c m : Int) (w : World) (_ha : 0 ≤ a ∧ a < 256) (_hb : 0 ≤ b ∧ b < 256) (_hc : 0 ≤ c ∧ c < 256) (hm : 0 ≤ m ∧ m < 4294967296) :
    Calls Tryz.prog 38 #[.agg #[.int .i64 0, .int .i64 a, .int .i64 b, .int .i64 c, .int .u32 m]] w fun r w' => r = .returned (.string (rlineS ⟨0, a, b, c, m⟩)) ∧ Below w.heap.size w w' := by
  have hew : IntKind.i64.wrap m = m := by simp [IntKind.wrap, IntKind.signed, IntKind.bits]; omega
  have heq : rlineS ⟨0, a, b, c, m⟩ = (⟨#[110, 111, 112]⟩ : ByteArray) := by
    refine ByteArray.ext ?_
    simp [rlineS, shOf, shs, opsL]
  rw [heq]
  clear heq
  have hbx := InBox.new w ⟨0, a, b, c, m⟩
  simp only at hbx
  have hB1 := (Below.refl _ w).alloc (Nat.le_refl _) (.cells #[.int .i64 0, .int .i64 a, .int .i64 b, .int .i64 c, .int .u32 m] 73)
  have hbx' := Lib.hid hbx
  have hB1' := Lib.hid hB1
  clear hbx hB1
  go_enter Tryz.func38, Tryz.ntmps38
  go_wp2_with fail
  have hbx := hbx'.out
  have hB1 := hB1'.out
  obtain ⟨w1, hw1⟩ : ∃ x, w.alloc (.cells #[.int .i64 0, .int .i64 a, .int .i64 b, .int .i64 c, .int .u32 m] 73) = x := ⟨_, rfl⟩
  obtain ⟨n, hn⟩ : ∃ n, w.heap.size = n := ⟨_, rfl⟩
  rw [hw1] at hbx hB1 ⊢
  rw [hn] at hbx
  simp only [hn]
  clear hw1 hbx' hB1'
  obtain ⟨c0, c1, c2, c3, c4⟩ := hbx.cells
  refine region_to (fun bw => { tmps := #[.agg #[.int .i64 0, .int .i64 a, .int .i64 b, .int .i64 c, .int .u32 m], .pointer (some ⟨n, 0, none⟩), .string ⟨#[]⟩, .string ⟨#[110, 111, 112]⟩, undef, .slice (some ⟨bw, 0, none⟩) 22 22, .pointer (some ⟨n, 0, none⟩), .int .i64 0, .pointer (some ⟨bw, 0, none⟩), .string ⟨#[110, 111, 112]⟩, undef, undef, undef, undef, undef, undef, undef, undef, undef, undef, undef, undef, undef, undef, undef, undef, undef, undef, undef, undef, undef, undef, undef, undef, undef, undef, undef, undef, undef, undef, undef, undef, undef, undef, undef, undef, undef, undef, undef, undef, undef, undef, undef, undef, undef, undef, undef, undef, undef, undef, undef, undef, undef, undef, undef, undef, undef, undef, undef, undef, undef, undef, undef, undef, undef, undef, undef, undef, undef, undef, undef, undef, undef, undef, undef, undef, undef, undef, undef, undef, undef, undef, undef, undef, undef, undef, undef, undef, undef, undef, undef, undef, undef, undef, undef, undef, undef, undef, undef, undef, undef, undef, undef, undef, undef, undef, undef, undef, undef, undef, undef, undef, undef, undef, undef, undef], defers := [] }) (fun bw w' => Below w1.heap.size w1 w' ∧ InBox w' n ⟨0, a, b, c, m⟩) ?reg ?cont
  case reg =>
    refine wp_region_held_drew (S := fun w' => Below w1.heap.size w1 w' ∧ InBox w' n ⟨0, a, b, c, m⟩ ∧ w'.cell? ⟨n, 0, none⟩ = some (.int .i64 0)) (by kernel_rfl) (⟨(Below.refl _ w1).drew, hbx, c0⟩ : RgSt w1 n ⟨0, a, b, c, m⟩ w1.drew) (fun hHeld => ?_)
    generalize w1.drew = wd at hHeld ⊢
    refine tkH 1 ?_
    try first | simp only [pS, List.set] | simp only [pN]
    refine tkH 2 ?_
    try first | simp only [pS, List.set] | simp only [pN]
    refine wpAnyH_ready (rs := [0]) (by kernel_rfl) (by simp) ?_
    refine AllReadyH.cons (o := ?_) ?_ (fun K hK => ?_) AllReadyH.nil
    rotate_left
    · (simp only [List.getElem?_toArray, List.getElem?_cons_zero]; rfl)
    go_simp
    go_at_call 48
    refine (rwords_any _).mono ?_
    rintro e wx ⟨bw, rfl, hcw, hlw, hbw⟩
    have hSx := RgSt.below (w1 := w1) (n := n) (e := ⟨0, a, b, c, m⟩) hHeld hbw
    have hcw0 := hcw 0 ⟨#[110, 111, 112]⟩ rfl
    refine hK.out _ _ hSx (fun hHeld => ?_)
    clear hK K
    try first | simp only [pS, List.set] | simp only [pN]
    have hSy : (RgSt w1 n ⟨0, a, b, c, m⟩ _) ∧ _ := ⟨hHeld, hcw0⟩
    refine wpAnyH_strong (S' := fun w' => (Below w1.heap.size w1 w' ∧ InBox w' n ⟨0, a, b, c, m⟩ ∧ w'.cell? ⟨n, 0, none⟩ = some (.int .i64 0)) ∧ w'.cell? ⟨bw, 0, none⟩ = some (.string ⟨#[110, 111, 112]⟩)) (fun w h => h.1) _ _ _ _ ?_
    refine tkH 3 ?_
    try first | simp only [pS, List.set] | simp only [pN]
    refine tkH 4 ?_
    try first | simp only [pS, List.set] | simp only [pN]
    refine tkH 5 ?_
    try first | simp only [pS, List.set] | simp only [pN]
    refine wpAnyH_done (by kernel_rfl) ?_ _
    exact ⟨rfl, bw, rfl, hHeld.1, hHeld.2.1⟩
  rintro bw w2 ⟨hb2, hbx2⟩
  dsimp only
  clear c0 c1 c2 c3 c4
  obtain ⟨c0, c1, c2, c3, c4⟩ := hbx2.cells
  have hBf : Below n w w2 := by rw [← hn]; exact hB1.trans (hb2.mono hB1.size)
  have hBf' := Lib.hid hBf
  clear hB1 hb2 hbx hbx2 hBf
  go_wp2_with fail
  go_ret
  exact ⟨rfl, by first | exact hBf'.out | (rw [hn]; exact hBf'.out)⟩

set_option maxRecDepth 100000 in
set_option maxHeartbeats 4000000 in
theorem rline_21 (a b c m : Int) (w : World) (_ha : 0 ≤ a ∧ a < 256) (_hb : 0 ≤ b ∧ b < 256) (_hc : 0 ≤ c ∧ c < 256) (hm : 0 ≤ m ∧ m < 4294967296) :
    Calls Tryz.prog 38 #[.agg #[.int .i64 21, .int .i64 a, .int .i64 b, .int .i64 c, .int .u32 m]] w fun r w' => r = .returned (.string (rlineS ⟨21, a, b, c, m⟩)) ∧ Below w.heap.size w w' := by
  have hew : IntKind.i64.wrap m = m := by simp [IntKind.wrap, IntKind.signed, IntKind.bits]; omega
  have heq : rlineS ⟨21, a, b, c, m⟩ = (⟨#[100, 111, 110, 101]⟩ : ByteArray) := by
    refine ByteArray.ext ?_
    simp [rlineS, shOf, shs, opsL]
  rw [heq]
  clear heq
  have hbx := InBox.new w ⟨21, a, b, c, m⟩
  simp only at hbx
  have hB1 := (Below.refl _ w).alloc (Nat.le_refl _) (.cells #[.int .i64 21, .int .i64 a, .int .i64 b, .int .i64 c, .int .u32 m] 73)
  have hbx' := Lib.hid hbx
  have hB1' := Lib.hid hB1
  clear hbx hB1
  go_enter Tryz.func38, Tryz.ntmps38
  go_wp2_with fail
  have hbx := hbx'.out
  have hB1 := hB1'.out
  obtain ⟨w1, hw1⟩ : ∃ x, w.alloc (.cells #[.int .i64 21, .int .i64 a, .int .i64 b, .int .i64 c, .int .u32 m] 73) = x := ⟨_, rfl⟩
  obtain ⟨n, hn⟩ : ∃ n, w.heap.size = n := ⟨_, rfl⟩
  rw [hw1] at hbx hB1 ⊢
  rw [hn] at hbx
  simp only [hn]
  clear hw1 hbx' hB1'
  obtain ⟨c0, c1, c2, c3, c4⟩ := hbx.cells
  refine region_to (fun bw => { tmps := #[.agg #[.int .i64 21, .int .i64 a, .int .i64 b, .int .i64 c, .int .u32 m], .pointer (some ⟨n, 0, none⟩), .string ⟨#[]⟩, .string ⟨#[100, 111, 110, 101]⟩, undef, .slice (some ⟨bw, 0, none⟩) 22 22, .pointer (some ⟨n, 0, none⟩), .int .i64 21, .pointer (some ⟨bw, 21, none⟩), .string ⟨#[100, 111, 110, 101]⟩, undef, undef, undef, undef, undef, undef, undef, undef, undef, undef, undef, undef, undef, undef, undef, undef, undef, undef, undef, undef, undef, undef, undef, undef, undef, undef, undef, undef, undef, undef, undef, undef, undef, undef, undef, undef, undef, undef, undef, undef, undef, undef, undef, undef, undef, undef, undef, undef, undef, undef, undef, undef, undef, undef, undef, undef, undef, undef, undef, undef, undef, undef, undef, undef, undef, undef, undef, undef, undef, undef, undef, undef, undef, undef, undef, undef, undef, undef, undef, undef, undef, undef, undef, undef, undef, undef, undef, undef, undef, undef, undef, undef, undef, undef, undef, undef, undef, undef, undef, undef, undef, undef, undef, undef, undef, undef, undef, undef, undef, undef, undef, undef, undef, undef, undef, undef], defers := [] }) (fun bw w' => Below w1.heap.size w1 w' ∧ InBox w' n ⟨21, a, b, c, m⟩) ?reg ?cont
  case reg =>
    refine wp_region_held_drew (S := fun w' => Below w1.heap.size w1 w' ∧ InBox w' n ⟨21, a, b, c, m⟩ ∧ w'.cell? ⟨n, 0, none⟩ = some (.int .i64 21)) (by kernel_rfl) (⟨(Below.refl _ w1).drew, hbx, c0⟩ : RgSt w1 n ⟨21, a, b, c, m⟩ w1.drew) (fun hHeld => ?_)
    generalize w1.drew = wd at hHeld ⊢
    refine tkH 1 ?_
    try first | simp only [pS, List.set] | simp only [pN]
    refine tkH 2 ?_
    try first | simp only [pS, List.set] | simp only [pN]
    refine wpAnyH_ready (rs := [0]) (by kernel_rfl) (by simp) ?_
    refine AllReadyH.cons (o := ?_) ?_ (fun K hK => ?_) AllReadyH.nil
    rotate_left
    · (simp only [List.getElem?_toArray, List.getElem?_cons_zero]; rfl)
    go_simp
    go_at_call 48
    refine (rwords_any _).mono ?_
    rintro e wx ⟨bw, rfl, hcw, hlw, hbw⟩
    have hSx := RgSt.below (w1 := w1) (n := n) (e := ⟨21, a, b, c, m⟩) hHeld hbw
    have hcw0 := hcw 21 ⟨#[100, 111, 110, 101]⟩ rfl
    refine hK.out _ _ hSx (fun hHeld => ?_)
    clear hK K
    try first | simp only [pS, List.set] | simp only [pN]
    have hSy : (RgSt w1 n ⟨21, a, b, c, m⟩ _) ∧ _ := ⟨hHeld, hcw0⟩
    refine wpAnyH_strong (S' := fun w' => (Below w1.heap.size w1 w' ∧ InBox w' n ⟨21, a, b, c, m⟩ ∧ w'.cell? ⟨n, 0, none⟩ = some (.int .i64 21)) ∧ w'.cell? ⟨bw, 21, none⟩ = some (.string ⟨#[100, 111, 110, 101]⟩)) (fun w h => h.1) _ _ _ _ ?_
    refine tkH 3 ?_
    try first | simp only [pS, List.set] | simp only [pN]
    refine tkH 4 ?_
    try first | simp only [pS, List.set] | simp only [pN]
    refine tkH 5 ?_
    try first | simp only [pS, List.set] | simp only [pN]
    refine wpAnyH_done (by kernel_rfl) ?_ _
    exact ⟨rfl, bw, rfl, hHeld.1, hHeld.2.1⟩
  rintro bw w2 ⟨hb2, hbx2⟩
  dsimp only
  clear c0 c1 c2 c3 c4
  obtain ⟨c0, c1, c2, c3, c4⟩ := hbx2.cells
  have hBf : Below n w w2 := by rw [← hn]; exact hB1.trans (hb2.mono hB1.size)
  have hBf' := Lib.hid hBf
  clear hB1 hb2 hbx hbx2 hBf
  go_wp2_with fail
  go_ret
  exact ⟨rfl, by first | exact hBf'.out | (rw [hn]; exact hBf'.out)⟩

set_option maxRecDepth 100000 in
set_option maxHeartbeats 4000000 in
theorem rline_14 (a b c m : Int) (w : World) (_ha : 0 ≤ a ∧ a < 256) (_hb : 0 ≤ b ∧ b < 256) (_hc : 0 ≤ c ∧ c < 256) (hm : 0 ≤ m ∧ m < 4294967296) :
    Calls Tryz.prog 38 #[.agg #[.int .i64 14, .int .i64 a, .int .i64 b, .int .i64 c, .int .u32 m]] w fun r w' => r = .returned (.string (rlineS ⟨14, a, b, c, m⟩)) ∧ Below w.heap.size w w' := by
  have hew : IntKind.i64.wrap m = m := by simp [IntKind.wrap, IntKind.signed, IntKind.bits]; omega
  have hs1 := partR_size (l := []) (z := m) (by simp) (by omega)
  have heq : rlineS ⟨14, a, b, c, m⟩ = ((⟨#[106, 117, 109, 112]⟩ : ByteArray) ++ partR [] m) := by
    refine ByteArray.ext ?_
    simp [rlineS, shOf, shs, opsL, partR, partL]
  rw [heq]
  clear heq
  have q1 : ¬ 9223372036854775807 < 4 + (partR [] m).size := by omega
  have hbx := InBox.new w ⟨14, a, b, c, m⟩
  simp only at hbx
  have hB1 := (Below.refl _ w).alloc (Nat.le_refl _) (.cells #[.int .i64 14, .int .i64 a, .int .i64 b, .int .i64 c, .int .u32 m] 73)
  have hbx' := Lib.hid hbx
  have hB1' := Lib.hid hB1
  clear hbx hB1
  go_enter Tryz.func38, Tryz.ntmps38
  go_wp2_with fail
  have hbx := hbx'.out
  have hB1 := hB1'.out
  obtain ⟨w1, hw1⟩ : ∃ x, w.alloc (.cells #[.int .i64 14, .int .i64 a, .int .i64 b, .int .i64 c, .int .u32 m] 73) = x := ⟨_, rfl⟩
  obtain ⟨n, hn⟩ : ∃ n, w.heap.size = n := ⟨_, rfl⟩
  rw [hw1] at hbx hB1 ⊢
  rw [hn] at hbx
  simp only [hn]
  clear hw1 hbx' hB1'
  obtain ⟨c0, c1, c2, c3, c4⟩ := hbx.cells
  refine region_to (fun bw => { tmps := #[.agg #[.int .i64 14, .int .i64 a, .int .i64 b, .int .i64 c, .int .u32 m], .pointer (some ⟨n, 0, none⟩), .string ⟨#[]⟩, .string ⟨#[106, 117, 109, 112]⟩, undef, .slice (some ⟨bw, 0, none⟩) 22 22, .pointer (some ⟨n, 0, none⟩), .int .i64 14, .pointer (some ⟨bw, 14, none⟩), .string ⟨#[106, 117, 109, 112]⟩, undef, undef, undef, undef, undef, undef, undef, undef, undef, undef, undef, undef, undef, undef, undef, undef, undef, undef, undef, undef, undef, undef, undef, undef, undef, undef, undef, undef, undef, undef, undef, undef, undef, undef, undef, undef, undef, undef, undef, undef, undef, undef, undef, undef, undef, undef, undef, undef, undef, undef, undef, undef, undef, undef, undef, undef, undef, undef, undef, undef, undef, undef, undef, undef, undef, undef, undef, undef, undef, undef, undef, undef, undef, undef, undef, undef, undef, undef, undef, undef, undef, undef, undef, undef, undef, undef, undef, undef, undef, undef, undef, undef, undef, undef, undef, undef, undef, undef, undef, undef, undef, undef, undef, undef, undef, undef, undef, undef, undef, undef, undef, undef, undef, undef, undef, undef], defers := [] }) (fun bw w' => Below w1.heap.size w1 w' ∧ InBox w' n ⟨14, a, b, c, m⟩) ?reg ?cont
  case reg =>
    refine wp_region_held_drew (S := fun w' => Below w1.heap.size w1 w' ∧ InBox w' n ⟨14, a, b, c, m⟩ ∧ w'.cell? ⟨n, 0, none⟩ = some (.int .i64 14)) (by kernel_rfl) (⟨(Below.refl _ w1).drew, hbx, c0⟩ : RgSt w1 n ⟨14, a, b, c, m⟩ w1.drew) (fun hHeld => ?_)
    generalize w1.drew = wd at hHeld ⊢
    refine tkH 1 ?_
    try first | simp only [pS, List.set] | simp only [pN]
    refine tkH 2 ?_
    try first | simp only [pS, List.set] | simp only [pN]
    refine wpAnyH_ready (rs := [0]) (by kernel_rfl) (by simp) ?_
    refine AllReadyH.cons (o := ?_) ?_ (fun K hK => ?_) AllReadyH.nil
    rotate_left
    · (simp only [List.getElem?_toArray, List.getElem?_cons_zero]; rfl)
    go_simp
    go_at_call 48
    refine (rwords_any _).mono ?_
    rintro e wx ⟨bw, rfl, hcw, hlw, hbw⟩
    have hSx := RgSt.below (w1 := w1) (n := n) (e := ⟨14, a, b, c, m⟩) hHeld hbw
    have hcw0 := hcw 14 ⟨#[106, 117, 109, 112]⟩ rfl
    refine hK.out _ _ hSx (fun hHeld => ?_)
    clear hK K
    try first | simp only [pS, List.set] | simp only [pN]
    have hSy : (RgSt w1 n ⟨14, a, b, c, m⟩ _) ∧ _ := ⟨hHeld, hcw0⟩
    refine wpAnyH_strong (S' := fun w' => (Below w1.heap.size w1 w' ∧ InBox w' n ⟨14, a, b, c, m⟩ ∧ w'.cell? ⟨n, 0, none⟩ = some (.int .i64 14)) ∧ w'.cell? ⟨bw, 14, none⟩ = some (.string ⟨#[106, 117, 109, 112]⟩)) (fun w h => h.1) _ _ _ _ ?_
    refine tkH 3 ?_
    try first | simp only [pS, List.set] | simp only [pN]
    refine tkH 4 ?_
    try first | simp only [pS, List.set] | simp only [pN]
    refine tkH 5 ?_
    try first | simp only [pS, List.set] | simp only [pN]
    refine wpAnyH_done (by kernel_rfl) ?_ _
    exact ⟨rfl, bw, rfl, hHeld.1, hHeld.2.1⟩
  rintro bw w2 ⟨hb2, hbx2⟩
  dsimp only
  clear c0 c1 c2 c3 c4
  obtain ⟨c0, c1, c2, c3, c4⟩ := hbx2.cells
  have hBf : Below n w w2 := by rw [← hn]; exact hB1.trans (hb2.mono hB1.size)
  have hBf' := Lib.hid hBf
  clear hB1 hb2 hbx hbx2 hBf
  go_wp2_with fail
  refine (rpart_any _ _ _ (by simp) (by omega)).mono ?_
  rintro e w3 ⟨rfl, hbx3⟩
  have hK3 : Below w2.heap.size w2 w3 := hbx3
  go_wp2_with fail
  go_ret
  exact ⟨rfl, by first | exact hBf'.out.trans (hK3.mono (by have := hBf'.out.size; omega)) | (rw [hn]; exact hBf'.out.trans (hK3.mono (by have := hBf'.out.size; omega)))⟩

set_option maxRecDepth 100000 in
set_option maxHeartbeats 4000000 in
theorem rline_1 (a b c m : Int) (w : World) (ha : 0 ≤ a ∧ a < 256) (_hb : 0 ≤ b ∧ b < 256) (_hc : 0 ≤ c ∧ c < 256) (hm : 0 ≤ m ∧ m < 4294967296) :
    Calls Tryz.prog 38 #[.agg #[.int .i64 1, .int .i64 a, .int .i64 b, .int .i64 c, .int .u32 m]] w fun r w' => r = .returned (.string (rlineS ⟨1, a, b, c, m⟩)) ∧ Below w.heap.size w w' := by
  have hew : IntKind.i64.wrap m = m := by simp [IntKind.wrap, IntKind.signed, IntKind.bits]; omega
  have hs1 := partR_size (l := [114]) (z := a) (by simp) (by omega)
  have hs2 := partR_size (l := []) (z := m) (by simp) (by omega)
  have heq : rlineS ⟨1, a, b, c, m⟩ = (((⟨#[115, 101, 116]⟩ : ByteArray) ++ partR [114] a) ++ partR [] m) := by
    refine ByteArray.ext ?_
    simp [rlineS, shOf, shs, opsL, partR, partL]
  rw [heq]
  clear heq
  have q1 : ¬ 9223372036854775807 < 3 + (partR [114] a).size := by omega
  have q2 : ¬ 9223372036854775807 < 3 + (partR [114] a).size + (partR [] m).size := by omega
  have hbx := InBox.new w ⟨1, a, b, c, m⟩
  simp only at hbx
  have hB1 := (Below.refl _ w).alloc (Nat.le_refl _) (.cells #[.int .i64 1, .int .i64 a, .int .i64 b, .int .i64 c, .int .u32 m] 73)
  have hbx' := Lib.hid hbx
  have hB1' := Lib.hid hB1
  clear hbx hB1
  go_enter Tryz.func38, Tryz.ntmps38
  go_wp2_with fail
  have hbx := hbx'.out
  have hB1 := hB1'.out
  obtain ⟨w1, hw1⟩ : ∃ x, w.alloc (.cells #[.int .i64 1, .int .i64 a, .int .i64 b, .int .i64 c, .int .u32 m] 73) = x := ⟨_, rfl⟩
  obtain ⟨n, hn⟩ : ∃ n, w.heap.size = n := ⟨_, rfl⟩
  rw [hw1] at hbx hB1 ⊢
  rw [hn] at hbx
  simp only [hn]
  clear hw1 hbx' hB1'
  obtain ⟨c0, c1, c2, c3, c4⟩ := hbx.cells
  refine region_to (fun bw => { tmps := #[.agg #[.int .i64 1, .int .i64 a, .int .i64 b, .int .i64 c, .int .u32 m], .pointer (some ⟨n, 0, none⟩), .string ⟨#[]⟩, .string ⟨#[115, 101, 116]⟩, undef, .slice (some ⟨bw, 0, none⟩) 22 22, .pointer (some ⟨n, 0, none⟩), .int .i64 1, .pointer (some ⟨bw, 1, none⟩), .string ⟨#[115, 101, 116]⟩, undef, undef, undef, undef, undef, undef, undef, undef, undef, undef, undef, undef, undef, undef, undef, undef, undef, undef, undef, undef, undef, undef, undef, undef, undef, undef, undef, undef, undef, undef, undef, undef, undef, undef, undef, undef, undef, undef, undef, undef, undef, undef, undef, undef, undef, undef, undef, undef, undef, undef, undef, undef, undef, undef, undef, undef, undef, undef, undef, undef, undef, undef, undef, undef, undef, undef, undef, undef, undef, undef, undef, undef, undef, undef, undef, undef, undef, undef, undef, undef, undef, undef, undef, undef, undef, undef, undef, undef, undef, undef, undef, undef, undef, undef, undef, undef, undef, undef, undef, undef, undef, undef, undef, undef, undef, undef, undef, undef, undef, undef, undef, undef, undef, undef, undef, undef], defers := [] }) (fun bw w' => Below w1.heap.size w1 w' ∧ InBox w' n ⟨1, a, b, c, m⟩) ?reg ?cont
  case reg =>
    refine wp_region_held_drew (S := fun w' => Below w1.heap.size w1 w' ∧ InBox w' n ⟨1, a, b, c, m⟩ ∧ w'.cell? ⟨n, 0, none⟩ = some (.int .i64 1)) (by kernel_rfl) (⟨(Below.refl _ w1).drew, hbx, c0⟩ : RgSt w1 n ⟨1, a, b, c, m⟩ w1.drew) (fun hHeld => ?_)
    generalize w1.drew = wd at hHeld ⊢
    refine tkH 1 ?_
    try first | simp only [pS, List.set] | simp only [pN]
    refine tkH 2 ?_
    try first | simp only [pS, List.set] | simp only [pN]
    refine wpAnyH_ready (rs := [0]) (by kernel_rfl) (by simp) ?_
    refine AllReadyH.cons (o := ?_) ?_ (fun K hK => ?_) AllReadyH.nil
    rotate_left
    · (simp only [List.getElem?_toArray, List.getElem?_cons_zero]; rfl)
    go_simp
    go_at_call 48
    refine (rwords_any _).mono ?_
    rintro e wx ⟨bw, rfl, hcw, hlw, hbw⟩
    have hSx := RgSt.below (w1 := w1) (n := n) (e := ⟨1, a, b, c, m⟩) hHeld hbw
    have hcw0 := hcw 1 ⟨#[115, 101, 116]⟩ rfl
    refine hK.out _ _ hSx (fun hHeld => ?_)
    clear hK K
    try first | simp only [pS, List.set] | simp only [pN]
    have hSy : (RgSt w1 n ⟨1, a, b, c, m⟩ _) ∧ _ := ⟨hHeld, hcw0⟩
    refine wpAnyH_strong (S' := fun w' => (Below w1.heap.size w1 w' ∧ InBox w' n ⟨1, a, b, c, m⟩ ∧ w'.cell? ⟨n, 0, none⟩ = some (.int .i64 1)) ∧ w'.cell? ⟨bw, 1, none⟩ = some (.string ⟨#[115, 101, 116]⟩)) (fun w h => h.1) _ _ _ _ ?_
    refine tkH 3 ?_
    try first | simp only [pS, List.set] | simp only [pN]
    refine tkH 4 ?_
    try first | simp only [pS, List.set] | simp only [pN]
    refine tkH 5 ?_
    try first | simp only [pS, List.set] | simp only [pN]
    refine wpAnyH_done (by kernel_rfl) ?_ _
    exact ⟨rfl, bw, rfl, hHeld.1, hHeld.2.1⟩
  rintro bw w2 ⟨hb2, hbx2⟩
  dsimp only
  clear c0 c1 c2 c3 c4
  obtain ⟨c0, c1, c2, c3, c4⟩ := hbx2.cells
  have hBf : Below n w w2 := by rw [← hn]; exact hB1.trans (hb2.mono hB1.size)
  have hBf' := Lib.hid hBf
  clear hB1 hb2 hbx hbx2 hBf
  go_wp2_with fail
  refine (rpart_any _ _ _ (by simp) (by omega)).mono ?_
  rintro e w3 ⟨rfl, hbx3⟩
  have hK3 : Below w2.heap.size w2 w3 := hbx3
  go_wp2_with fail
  refine (rpart_any _ _ _ (by simp) (by omega)).mono ?_
  rintro e w4 ⟨rfl, hbx4⟩
  have hK4 : Below w2.heap.size w2 w4 := hK3.trans (hbx4.mono hK3.size)
  go_wp2_with fail
  go_ret
  exact ⟨rfl, by first | exact hBf'.out.trans (hK4.mono (by have := hBf'.out.size; omega)) | (rw [hn]; exact hBf'.out.trans (hK4.mono (by have := hBf'.out.size; omega)))⟩

set_option maxRecDepth 100000 in
set_option maxHeartbeats 4000000 in
theorem rline_15 (a b c m : Int) (w : World) (ha : 0 ≤ a ∧ a < 256) (_hb : 0 ≤ b ∧ b < 256) (_hc : 0 ≤ c ∧ c < 256) (hm : 0 ≤ m ∧ m < 4294967296) :
    Calls Tryz.prog 38 #[.agg #[.int .i64 15, .int .i64 a, .int .i64 b, .int .i64 c, .int .u32 m]] w fun r w' => r = .returned (.string (rlineS ⟨15, a, b, c, m⟩)) ∧ Below w.heap.size w w' := by
  have hew : IntKind.i64.wrap m = m := by simp [IntKind.wrap, IntKind.signed, IntKind.bits]; omega
  have hs1 := partR_size (l := [114]) (z := a) (by simp) (by omega)
  have hs2 := partR_size (l := []) (z := m) (by simp) (by omega)
  have heq : rlineS ⟨15, a, b, c, m⟩ = (((⟨#[122, 101, 114, 111]⟩ : ByteArray) ++ partR [114] a) ++ partR [] m) := by
    refine ByteArray.ext ?_
    simp [rlineS, shOf, shs, opsL, partR, partL]
  rw [heq]
  clear heq
  have q1 : ¬ 9223372036854775807 < 4 + (partR [114] a).size := by omega
  have q2 : ¬ 9223372036854775807 < 4 + (partR [114] a).size + (partR [] m).size := by omega
  have hbx := InBox.new w ⟨15, a, b, c, m⟩
  simp only at hbx
  have hB1 := (Below.refl _ w).alloc (Nat.le_refl _) (.cells #[.int .i64 15, .int .i64 a, .int .i64 b, .int .i64 c, .int .u32 m] 73)
  have hbx' := Lib.hid hbx
  have hB1' := Lib.hid hB1
  clear hbx hB1
  go_enter Tryz.func38, Tryz.ntmps38
  go_wp2_with fail
  have hbx := hbx'.out
  have hB1 := hB1'.out
  obtain ⟨w1, hw1⟩ : ∃ x, w.alloc (.cells #[.int .i64 15, .int .i64 a, .int .i64 b, .int .i64 c, .int .u32 m] 73) = x := ⟨_, rfl⟩
  obtain ⟨n, hn⟩ : ∃ n, w.heap.size = n := ⟨_, rfl⟩
  rw [hw1] at hbx hB1 ⊢
  rw [hn] at hbx
  simp only [hn]
  clear hw1 hbx' hB1'
  obtain ⟨c0, c1, c2, c3, c4⟩ := hbx.cells
  refine region_to (fun bw => { tmps := #[.agg #[.int .i64 15, .int .i64 a, .int .i64 b, .int .i64 c, .int .u32 m], .pointer (some ⟨n, 0, none⟩), .string ⟨#[]⟩, .string ⟨#[122, 101, 114, 111]⟩, undef, .slice (some ⟨bw, 0, none⟩) 22 22, .pointer (some ⟨n, 0, none⟩), .int .i64 15, .pointer (some ⟨bw, 15, none⟩), .string ⟨#[122, 101, 114, 111]⟩, undef, undef, undef, undef, undef, undef, undef, undef, undef, undef, undef, undef, undef, undef, undef, undef, undef, undef, undef, undef, undef, undef, undef, undef, undef, undef, undef, undef, undef, undef, undef, undef, undef, undef, undef, undef, undef, undef, undef, undef, undef, undef, undef, undef, undef, undef, undef, undef, undef, undef, undef, undef, undef, undef, undef, undef, undef, undef, undef, undef, undef, undef, undef, undef, undef, undef, undef, undef, undef, undef, undef, undef, undef, undef, undef, undef, undef, undef, undef, undef, undef, undef, undef, undef, undef, undef, undef, undef, undef, undef, undef, undef, undef, undef, undef, undef, undef, undef, undef, undef, undef, undef, undef, undef, undef, undef, undef, undef, undef, undef, undef, undef, undef, undef, undef, undef], defers := [] }) (fun bw w' => Below w1.heap.size w1 w' ∧ InBox w' n ⟨15, a, b, c, m⟩) ?reg ?cont
  case reg =>
    refine wp_region_held_drew (S := fun w' => Below w1.heap.size w1 w' ∧ InBox w' n ⟨15, a, b, c, m⟩ ∧ w'.cell? ⟨n, 0, none⟩ = some (.int .i64 15)) (by kernel_rfl) (⟨(Below.refl _ w1).drew, hbx, c0⟩ : RgSt w1 n ⟨15, a, b, c, m⟩ w1.drew) (fun hHeld => ?_)
    generalize w1.drew = wd at hHeld ⊢
    refine tkH 1 ?_
    try first | simp only [pS, List.set] | simp only [pN]
    refine tkH 2 ?_
    try first | simp only [pS, List.set] | simp only [pN]
    refine wpAnyH_ready (rs := [0]) (by kernel_rfl) (by simp) ?_
    refine AllReadyH.cons (o := ?_) ?_ (fun K hK => ?_) AllReadyH.nil
    rotate_left
    · (simp only [List.getElem?_toArray, List.getElem?_cons_zero]; rfl)
    go_simp
    go_at_call 48
    refine (rwords_any _).mono ?_
    rintro e wx ⟨bw, rfl, hcw, hlw, hbw⟩
    have hSx := RgSt.below (w1 := w1) (n := n) (e := ⟨15, a, b, c, m⟩) hHeld hbw
    have hcw0 := hcw 15 ⟨#[122, 101, 114, 111]⟩ rfl
    refine hK.out _ _ hSx (fun hHeld => ?_)
    clear hK K
    try first | simp only [pS, List.set] | simp only [pN]
    have hSy : (RgSt w1 n ⟨15, a, b, c, m⟩ _) ∧ _ := ⟨hHeld, hcw0⟩
    refine wpAnyH_strong (S' := fun w' => (Below w1.heap.size w1 w' ∧ InBox w' n ⟨15, a, b, c, m⟩ ∧ w'.cell? ⟨n, 0, none⟩ = some (.int .i64 15)) ∧ w'.cell? ⟨bw, 15, none⟩ = some (.string ⟨#[122, 101, 114, 111]⟩)) (fun w h => h.1) _ _ _ _ ?_
    refine tkH 3 ?_
    try first | simp only [pS, List.set] | simp only [pN]
    refine tkH 4 ?_
    try first | simp only [pS, List.set] | simp only [pN]
    refine tkH 5 ?_
    try first | simp only [pS, List.set] | simp only [pN]
    refine wpAnyH_done (by kernel_rfl) ?_ _
    exact ⟨rfl, bw, rfl, hHeld.1, hHeld.2.1⟩
  rintro bw w2 ⟨hb2, hbx2⟩
  dsimp only
  clear c0 c1 c2 c3 c4
  obtain ⟨c0, c1, c2, c3, c4⟩ := hbx2.cells
  have hBf : Below n w w2 := by rw [← hn]; exact hB1.trans (hb2.mono hB1.size)
  have hBf' := Lib.hid hBf
  clear hB1 hb2 hbx hbx2 hBf
  go_wp2_with fail
  refine (rpart_any _ _ _ (by simp) (by omega)).mono ?_
  rintro e w3 ⟨rfl, hbx3⟩
  have hK3 : Below w2.heap.size w2 w3 := hbx3
  go_wp2_with fail
  refine (rpart_any _ _ _ (by simp) (by omega)).mono ?_
  rintro e w4 ⟨rfl, hbx4⟩
  have hK4 : Below w2.heap.size w2 w4 := hK3.trans (hbx4.mono hK3.size)
  go_wp2_with fail
  go_ret
  exact ⟨rfl, by first | exact hBf'.out.trans (hK4.mono (by have := hBf'.out.size; omega)) | (rw [hn]; exact hBf'.out.trans (hK4.mono (by have := hBf'.out.size; omega)))⟩

set_option maxRecDepth 100000 in
set_option maxHeartbeats 4000000 in
theorem rline_2 (a b c m : Int) (w : World) (ha : 0 ≤ a ∧ a < 256) (hb : 0 ≤ b ∧ b < 256) (_hc : 0 ≤ c ∧ c < 256) (hm : 0 ≤ m ∧ m < 4294967296) :
    Calls Tryz.prog 38 #[.agg #[.int .i64 2, .int .i64 a, .int .i64 b, .int .i64 c, .int .u32 m]] w fun r w' => r = .returned (.string (rlineS ⟨2, a, b, c, m⟩)) ∧ Below w.heap.size w w' := by
  have hew : IntKind.i64.wrap m = m := by simp [IntKind.wrap, IntKind.signed, IntKind.bits]; omega
  have hs1 := partR_size (l := [114]) (z := a) (by simp) (by omega)
  have hs2 := partR_size (l := [114]) (z := b) (by simp) (by omega)
  have heq : rlineS ⟨2, a, b, c, m⟩ = (((⟨#[109, 111, 118, 101]⟩ : ByteArray) ++ partR [114] a) ++ partR [114] b) := by
    refine ByteArray.ext ?_
    simp [rlineS, shOf, shs, opsL, partR, partL]
  rw [heq]
  clear heq
  have q1 : ¬ 9223372036854775807 < 4 + (partR [114] a).size := by omega
  have q2 : ¬ 9223372036854775807 < 4 + (partR [114] a).size + (partR [114] b).size := by omega
  have hbx := InBox.new w ⟨2, a, b, c, m⟩
  simp only at hbx
  have hB1 := (Below.refl _ w).alloc (Nat.le_refl _) (.cells #[.int .i64 2, .int .i64 a, .int .i64 b, .int .i64 c, .int .u32 m] 73)
  have hbx' := Lib.hid hbx
  have hB1' := Lib.hid hB1
  clear hbx hB1
  go_enter Tryz.func38, Tryz.ntmps38
  go_wp2_with fail
  have hbx := hbx'.out
  have hB1 := hB1'.out
  obtain ⟨w1, hw1⟩ : ∃ x, w.alloc (.cells #[.int .i64 2, .int .i64 a, .int .i64 b, .int .i64 c, .int .u32 m] 73) = x := ⟨_, rfl⟩
  obtain ⟨n, hn⟩ : ∃ n, w.heap.size = n := ⟨_, rfl⟩
  rw [hw1] at hbx hB1 ⊢
  rw [hn] at hbx
  simp only [hn]
  clear hw1 hbx' hB1'
  obtain ⟨c0, c1, c2, c3, c4⟩ := hbx.cells
  refine region_to (fun bw => { tmps := #[.agg #[.int .i64 2, .int .i64 a, .int .i64 b, .int .i64 c, .int .u32 m], .pointer (some ⟨n, 0, none⟩), .string ⟨#[]⟩, .string ⟨#[109, 111, 118, 101]⟩, undef, .slice (some ⟨bw, 0, none⟩) 22 22, .pointer (some ⟨n, 0, none⟩), .int .i64 2, .pointer (some ⟨bw, 2, none⟩), .string ⟨#[109, 111, 118, 101]⟩, undef, undef, undef, undef, undef, undef, undef, undef, undef, undef, undef, undef, undef, undef, undef, undef, undef, undef, undef, undef, undef, undef, undef, undef, undef, undef, undef, undef, undef, undef, undef, undef, undef, undef, undef, undef, undef, undef, undef, undef, undef, undef, undef, undef, undef, undef, undef, undef, undef, undef, undef, undef, undef, undef, undef, undef, undef, undef, undef, undef, undef, undef, undef, undef, undef, undef, undef, undef, undef, undef, undef, undef, undef, undef, undef, undef, undef, undef, undef, undef, undef, undef, undef, undef, undef, undef, undef, undef, undef, undef, undef, undef, undef, undef, undef, undef, undef, undef, undef, undef, undef, undef, undef, undef, undef, undef, undef, undef, undef, undef, undef, undef, undef, undef, undef, undef], defers := [] }) (fun bw w' => Below w1.heap.size w1 w' ∧ InBox w' n ⟨2, a, b, c, m⟩) ?reg ?cont
  case reg =>
    refine wp_region_held_drew (S := fun w' => Below w1.heap.size w1 w' ∧ InBox w' n ⟨2, a, b, c, m⟩ ∧ w'.cell? ⟨n, 0, none⟩ = some (.int .i64 2)) (by kernel_rfl) (⟨(Below.refl _ w1).drew, hbx, c0⟩ : RgSt w1 n ⟨2, a, b, c, m⟩ w1.drew) (fun hHeld => ?_)
    generalize w1.drew = wd at hHeld ⊢
    refine tkH 1 ?_
    try first | simp only [pS, List.set] | simp only [pN]
    refine tkH 2 ?_
    try first | simp only [pS, List.set] | simp only [pN]
    refine wpAnyH_ready (rs := [0]) (by kernel_rfl) (by simp) ?_
    refine AllReadyH.cons (o := ?_) ?_ (fun K hK => ?_) AllReadyH.nil
    rotate_left
    · (simp only [List.getElem?_toArray, List.getElem?_cons_zero]; rfl)
    go_simp
    go_at_call 48
    refine (rwords_any _).mono ?_
    rintro e wx ⟨bw, rfl, hcw, hlw, hbw⟩
    have hSx := RgSt.below (w1 := w1) (n := n) (e := ⟨2, a, b, c, m⟩) hHeld hbw
    have hcw0 := hcw 2 ⟨#[109, 111, 118, 101]⟩ rfl
    refine hK.out _ _ hSx (fun hHeld => ?_)
    clear hK K
    try first | simp only [pS, List.set] | simp only [pN]
    have hSy : (RgSt w1 n ⟨2, a, b, c, m⟩ _) ∧ _ := ⟨hHeld, hcw0⟩
    refine wpAnyH_strong (S' := fun w' => (Below w1.heap.size w1 w' ∧ InBox w' n ⟨2, a, b, c, m⟩ ∧ w'.cell? ⟨n, 0, none⟩ = some (.int .i64 2)) ∧ w'.cell? ⟨bw, 2, none⟩ = some (.string ⟨#[109, 111, 118, 101]⟩)) (fun w h => h.1) _ _ _ _ ?_
    refine tkH 3 ?_
    try first | simp only [pS, List.set] | simp only [pN]
    refine tkH 4 ?_
    try first | simp only [pS, List.set] | simp only [pN]
    refine tkH 5 ?_
    try first | simp only [pS, List.set] | simp only [pN]
    refine wpAnyH_done (by kernel_rfl) ?_ _
    exact ⟨rfl, bw, rfl, hHeld.1, hHeld.2.1⟩
  rintro bw w2 ⟨hb2, hbx2⟩
  dsimp only
  clear c0 c1 c2 c3 c4
  obtain ⟨c0, c1, c2, c3, c4⟩ := hbx2.cells
  have hBf : Below n w w2 := by rw [← hn]; exact hB1.trans (hb2.mono hB1.size)
  have hBf' := Lib.hid hBf
  clear hB1 hb2 hbx hbx2 hBf
  go_wp2_with fail
  have hSd : RlSt w2 n a b c m w2.drew := RlSt.drew ⟨Below.refl _ _, c1, c2, c3, c4⟩
  go_region_held3 (fun w' => Below w2.heap.size w2 w' ∧ w'.cell? ⟨n, 1, none⟩ = some (.int .i64 a) ∧ w'.cell? ⟨n, 2, none⟩ = some (.int .i64 b) ∧ w'.cell? ⟨n, 3, none⟩ = some (.int .i64 c) ∧ w'.cell? ⟨n, 4, none⟩ = some (.int .u32 m))
    (first | exact hSd | assumption)
    (first
      | (go_at_call 66; refine (rpart_any _ _ _ (by simp) (by omega)).mono ?_; rintro e wx ⟨rfl, hbx⟩; have hSx := RlSt.below (w2 := w2) (n := n) (a := a) (b := b) (c := c) (m := m) (by assumption) hbx))
  all_goals
    go_wp2_with fail
    go_ret
    exact ⟨rfl, by first | exact hBf'.out.trans (hSx.1.mono (by have := hBf'.out.size; omega)) | (rw [hn]; exact hBf'.out.trans (hSx.1.mono (by have := hBf'.out.size; omega)))⟩

set_option maxRecDepth 100000 in
set_option maxHeartbeats 4000000 in
theorem rline_16 (a b c m : Int) (w : World) (_ha : 0 ≤ a ∧ a < 256) (_hb : 0 ≤ b ∧ b < 256) (hc : 0 ≤ c ∧ c < 256) (hm : 0 ≤ m ∧ m < 4294967296) :
    Calls Tryz.prog 38 #[.agg #[.int .i64 16, .int .i64 a, .int .i64 b, .int .i64 c, .int .u32 m]] w fun r w' => r = .returned (.string (rlineS ⟨16, a, b, c, m⟩)) ∧ Below w.heap.size w w' := by
  have hew : IntKind.i64.wrap m = m := by simp [IntKind.wrap, IntKind.signed, IntKind.bits]; omega
  have hs1 := partR_size (l := []) (z := m) (by simp) (by omega)
  have hs2 := partR_size (l := []) (z := c) (by simp) (by omega)
  have heq : rlineS ⟨16, a, b, c, m⟩ = (((⟨#[98, 97, 99, 107]⟩ : ByteArray) ++ partR [] m) ++ partR [] c) := by
    refine ByteArray.ext ?_
    simp [rlineS, shOf, shs, opsL, partR, partL]
  rw [heq]
  clear heq
  have q1 : ¬ 9223372036854775807 < 4 + (partR [] m).size := by omega
  have q2 : ¬ 9223372036854775807 < 4 + (partR [] m).size + (partR [] c).size := by omega
  have hbx := InBox.new w ⟨16, a, b, c, m⟩
  simp only at hbx
  have hB1 := (Below.refl _ w).alloc (Nat.le_refl _) (.cells #[.int .i64 16, .int .i64 a, .int .i64 b, .int .i64 c, .int .u32 m] 73)
  have hbx' := Lib.hid hbx
  have hB1' := Lib.hid hB1
  clear hbx hB1
  go_enter Tryz.func38, Tryz.ntmps38
  go_wp2_with fail
  have hbx := hbx'.out
  have hB1 := hB1'.out
  obtain ⟨w1, hw1⟩ : ∃ x, w.alloc (.cells #[.int .i64 16, .int .i64 a, .int .i64 b, .int .i64 c, .int .u32 m] 73) = x := ⟨_, rfl⟩
  obtain ⟨n, hn⟩ : ∃ n, w.heap.size = n := ⟨_, rfl⟩
  rw [hw1] at hbx hB1 ⊢
  rw [hn] at hbx
  simp only [hn]
  clear hw1 hbx' hB1'
  obtain ⟨c0, c1, c2, c3, c4⟩ := hbx.cells
  refine region_to (fun bw => { tmps := #[.agg #[.int .i64 16, .int .i64 a, .int .i64 b, .int .i64 c, .int .u32 m], .pointer (some ⟨n, 0, none⟩), .string ⟨#[]⟩, .string ⟨#[98, 97, 99, 107]⟩, undef, .slice (some ⟨bw, 0, none⟩) 22 22, .pointer (some ⟨n, 0, none⟩), .int .i64 16, .pointer (some ⟨bw, 16, none⟩), .string ⟨#[98, 97, 99, 107]⟩, undef, undef, undef, undef, undef, undef, undef, undef, undef, undef, undef, undef, undef, undef, undef, undef, undef, undef, undef, undef, undef, undef, undef, undef, undef, undef, undef, undef, undef, undef, undef, undef, undef, undef, undef, undef, undef, undef, undef, undef, undef, undef, undef, undef, undef, undef, undef, undef, undef, undef, undef, undef, undef, undef, undef, undef, undef, undef, undef, undef, undef, undef, undef, undef, undef, undef, undef, undef, undef, undef, undef, undef, undef, undef, undef, undef, undef, undef, undef, undef, undef, undef, undef, undef, undef, undef, undef, undef, undef, undef, undef, undef, undef, undef, undef, undef, undef, undef, undef, undef, undef, undef, undef, undef, undef, undef, undef, undef, undef, undef, undef, undef, undef, undef, undef, undef], defers := [] }) (fun bw w' => Below w1.heap.size w1 w' ∧ InBox w' n ⟨16, a, b, c, m⟩) ?reg ?cont
  case reg =>
    refine wp_region_held_drew (S := fun w' => Below w1.heap.size w1 w' ∧ InBox w' n ⟨16, a, b, c, m⟩ ∧ w'.cell? ⟨n, 0, none⟩ = some (.int .i64 16)) (by kernel_rfl) (⟨(Below.refl _ w1).drew, hbx, c0⟩ : RgSt w1 n ⟨16, a, b, c, m⟩ w1.drew) (fun hHeld => ?_)
    generalize w1.drew = wd at hHeld ⊢
    refine tkH 1 ?_
    try first | simp only [pS, List.set] | simp only [pN]
    refine tkH 2 ?_
    try first | simp only [pS, List.set] | simp only [pN]
    refine wpAnyH_ready (rs := [0]) (by kernel_rfl) (by simp) ?_
    refine AllReadyH.cons (o := ?_) ?_ (fun K hK => ?_) AllReadyH.nil
    rotate_left
    · (simp only [List.getElem?_toArray, List.getElem?_cons_zero]; rfl)
    go_simp
    go_at_call 48
    refine (rwords_any _).mono ?_
    rintro e wx ⟨bw, rfl, hcw, hlw, hbw⟩
    have hSx := RgSt.below (w1 := w1) (n := n) (e := ⟨16, a, b, c, m⟩) hHeld hbw
    have hcw0 := hcw 16 ⟨#[98, 97, 99, 107]⟩ rfl
    refine hK.out _ _ hSx (fun hHeld => ?_)
    clear hK K
    try first | simp only [pS, List.set] | simp only [pN]
    have hSy : (RgSt w1 n ⟨16, a, b, c, m⟩ _) ∧ _ := ⟨hHeld, hcw0⟩
    refine wpAnyH_strong (S' := fun w' => (Below w1.heap.size w1 w' ∧ InBox w' n ⟨16, a, b, c, m⟩ ∧ w'.cell? ⟨n, 0, none⟩ = some (.int .i64 16)) ∧ w'.cell? ⟨bw, 16, none⟩ = some (.string ⟨#[98, 97, 99, 107]⟩)) (fun w h => h.1) _ _ _ _ ?_
    refine tkH 3 ?_
    try first | simp only [pS, List.set] | simp only [pN]
    refine tkH 4 ?_
    try first | simp only [pS, List.set] | simp only [pN]
    refine tkH 5 ?_
    try first | simp only [pS, List.set] | simp only [pN]
    refine wpAnyH_done (by kernel_rfl) ?_ _
    exact ⟨rfl, bw, rfl, hHeld.1, hHeld.2.1⟩
  rintro bw w2 ⟨hb2, hbx2⟩
  dsimp only
  clear c0 c1 c2 c3 c4
  obtain ⟨c0, c1, c2, c3, c4⟩ := hbx2.cells
  have hBf : Below n w w2 := by rw [← hn]; exact hB1.trans (hb2.mono hB1.size)
  have hBf' := Lib.hid hBf
  clear hB1 hb2 hbx hbx2 hBf
  go_wp2_with fail
  have hSd : RlSt w2 n a b c m w2.drew := RlSt.drew ⟨Below.refl _ _, c1, c2, c3, c4⟩
  go_region_held3 (fun w' => Below w2.heap.size w2 w' ∧ w'.cell? ⟨n, 1, none⟩ = some (.int .i64 a) ∧ w'.cell? ⟨n, 2, none⟩ = some (.int .i64 b) ∧ w'.cell? ⟨n, 3, none⟩ = some (.int .i64 c) ∧ w'.cell? ⟨n, 4, none⟩ = some (.int .u32 m))
    (first | exact hSd | assumption)
    (first
      | (go_at_call 66; refine (rpart_any _ _ _ (by simp) (by omega)).mono ?_; rintro e wx ⟨rfl, hbx⟩; have hSx := RlSt.below (w2 := w2) (n := n) (a := a) (b := b) (c := c) (m := m) (by assumption) hbx))
  all_goals
    go_wp2_with fail
    go_ret
    exact ⟨rfl, by first | exact hBf'.out.trans (hSx.1.mono (by have := hBf'.out.size; omega)) | (rw [hn]; exact hBf'.out.trans (hSx.1.mono (by have := hBf'.out.size; omega)))⟩

end Go.Proofs.YtfgmebjbibbpdaaGreatDoor
