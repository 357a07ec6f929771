/- Texts joined: strings.Builder: WriteString (its walk turned from the kit's, over this program's own text). A law of my own for a range over a function with any number of results, whose iterator makes new blocks only. strings.Builder: what a write leaves as it was. Sources: a system's lines, gone through. Rows of instructions: owned, and held against each other. trace.Print, and the reference's: events' text. The reference's numbers in digits: Num, Digits. Sources: source.Print. The reference's Digits: the number that digits are. The reference's Split: a text's pieces. Sources: a word's number, words' numbers. What strings.Split gives at a separator of one byte: the pieces. Of no program. strings.Split at a separator of one byte. -/
import Derived.Test.YtfgmebjbibbpdaaDoorZl1
import Derived.Test.YtfgmebjbibbpdaaDoorShelf
import Derived.Lib.Builder
import Derived.Lib.AppendStr
import Derived.Lib.UnsafeStr
import Derived.Laws.Externs
import Derived.Laws.IdiomCopy
import Derived.RangeFuncNested
import Derived.RangeFuncBound
import Derived.RangeFuncCalls
import Derived.RangeFuncLeaves
import Derived.RangeFuncBox
import Derived.Test.YtfgmebjbibbpdaaDoorZl3
import Derived.Shelf.Abstract
import Derived.Shelf.RegionOpen
import Derived.OwnWalkIn
import Derived.TacticsInMore
import Derived.LoopNIn
import Derived.LoopIn
import Derived.Lib.Hide
import Derived.Deep.QuietTactic
import Derived.BigQuiet
import Derived.Laws.IdiomStrings
import Derived.IntWalk
import Derived.OpenShut
import Derived.Test.YtfgmebjbibbpdaaDoorZl2
import Derived.Below
import Derived.Deep.RegionWith
import Derived.Lib.ConvBytes
import Derived.Lib.SplitLaws
namespace Go.Proofs.YtfgmebjbibbpdaaDoor
open Go.RowKit

theorem sizeBuilder : (Tryd.prog.info? 62).map (·.size) = some 2 := by kernel_rfl
theorem liesBuilder : liesAt Tryd.prog Tryd.prog.depth 62 (2 / Tryd.prog.cellsOf 62) 0 62 1 = true := by kernel_rfl
theorem infoByte : (Tryd.prog.info? 5).map (fun i => (i.zero, i.size, i.bytes)) = some (some (.int .u8 0), 1, 1) := by kernel_rfl

set_option maxHeartbeats 1000000 in
set_option maxRecDepth 100000 in
theorem copyCheck_used (b : Nat) (w : World) (h0 : w.cell? ⟨b, 0, none⟩ = some (.pointer (some ⟨b, 0, none⟩))) :
    Calls Tryd.prog 34 #[.pointer (some ⟨b, 0, none⟩)] w fun e w' => e = .returned (.tuple #[]) ∧ w' = w := by
  obtain ⟨j, hj, _⟩ := Option.map_eq_some_iff.1 sizeBuilder
  go_enter Tryd.func34, Tryd.ntmps34
  go_wp2
  rw [Lib.run_neq_ptr_same w _ Tryd.underlying59 hj]
  go_wp2
  go_end0
  exact ⟨rfl, rfl⟩

set_option maxHeartbeats 1000000 in
set_option maxRecDepth 100000 in
theorem copyCheck_fresh (b : Nat) (w : World) (h0 : w.cell? ⟨b, 0, none⟩ = some (.pointer none)) (hsh : w.shape? b = some (62, 2)) (hfz : w.frozen? ⟨b, 0, none⟩ = false) :
    Calls Tryd.prog 34 #[.pointer (some ⟨b, 0, none⟩)] w fun e w' => e = .returned (.tuple #[]) ∧ w' = w.setCell ⟨b, 0, none⟩ (.pointer (some ⟨b, 0, none⟩)) := by
  obtain ⟨j, hj, hjs⟩ := Option.map_eq_some_iff.1 sizeBuilder
  go_enter Tryd.func34, Tryd.ntmps34
  go_wp2
  rw [Lib.run_to_unsafe w ⟨b, 0, none⟩ Tryd.underlying59 Tryd.underlying113 hj (by rw [hjs]; decide) hsh (Nat.zero_lt_succ 1)]
  simp only [Result.andThen]
  rw [Oper.upon_value]
  go_wp2
  rw [run_callFunc_extern Tryd.func54 (by kernel_rfl) (by kernel_rfl) (by kernel_rfl) (e := Extern.AbiNoEscape.same) (by kernel_rfl)]
  rw [Lib.run_noEscape]
  simp only [Result.andThen]
  rw [Oper.upon_value]
  go_wp2
  rw [Lib.run_from_unsafe w ⟨b, 0, none⟩ Tryd.underlying113 Tryd.underlying59 hj hsh liesBuilder]
  simp only [Result.andThen]
  rw [Oper.upon_value]
  go_wp2
  go_end0
  exact ⟨rfl, rfl⟩

theorem copyCheck_any (B b : Nat) (bs : List Value) (w : World) (h : Lib.IsBuilder 62 5 B b bs w) :
    Calls Tryd.prog 34 #[.pointer (some ⟨b, 0, none⟩)] w fun e w' => e = .returned (.tuple #[]) ∧ (Lib.BuilderAt 62 5 B b (.pointer (some ⟨b, 0, none⟩)) bs w' ∧ Below B w w') := by
  rcases h with h | h
  · refine (copyCheck_fresh b w h.cell0 h.shape h.frozen0).mono ?_
    rintro e w' ⟨rfl, rfl⟩
    exact ⟨rfl, h.used _, (Below.refl B w).setCell (p := ⟨b, 0, none⟩) h.1 _⟩
  · refine (copyCheck_used b w h.cell0).mono ?_
    rintro e w' ⟨rfl, rfl⟩
    exact ⟨rfl, h, Below.refl B _⟩

set_option maxHeartbeats 2000000 in
set_option maxRecDepth 100000 in
theorem write_any (B b : Nat) (bs : List Value) (s : ByteArray) (w : World) (h : Lib.IsBuilder 62 5 B b bs w) (hlen : bs.length + s.size ≤ 140737488355328) (hBw : B ≤ w.heap.size) :
    Calls Tryd.prog 17 #[.pointer (some ⟨b, 0, none⟩), .string s] w fun e w' => e = .returned (.tuple #[.int .i64 s.size, .nilIface]) ∧ (Lib.IsBuilder 62 5 B b (bs ++ Lib.strCells s) w' ∧ Below B w w') := by
  obtain ⟨i0, hi, hz0, hz1, hz2⟩ := info_parts infoByte
  go_enter Tryd.func17, Tryd.ntmps17
  go_wp2_with fail
  refine (copyCheck_any B b bs _ h).mono ?_
  rintro e w1 ⟨rfl, h1, hb1⟩
  obtain ⟨hB, v, hbk, hown, hne⟩ := h1
  have c0 : w1.cell? ⟨b, 0, none⟩ = some (.pointer (some ⟨b, 0, none⟩)) := by rw [Lib.cell_of_heap hbk]; rfl
  have c1 : w1.cell? ⟨b, 1, none⟩ = some v := by rw [Lib.cell_of_heap hbk]; rfl
  have hlt : b < w1.heap.size := by
    rcases Nat.lt_or_ge b w1.heap.size with h' | h'
    · exact h'
    · simp [Array.getElem?_eq_none h'] at hbk
  have hBw1 : B ≤ w1.heap.size := by have := hb1.size; omega
  go_wp2_with (first
    | (at_builtin; refine Lib.wpList_append_own_string _ rfl _ _ 60 9 rfl B 5 i0 Tryd.underlying60 Tryd.underlying9 hi hz0 hz1 hz2 _ _ _ rfl hown s rfl (by unfold maxLen; omega) (by omega) hBw1 ?_
       intro v' w2 hown' hgrow _
       have hb2 : w2.heap[b]? = some (.cells #[.pointer (some ⟨b, 0, none⟩), v] 62 (0, 0)) := by
         rw [hgrow.block b hlt (fun e => hne e.symm)]
         exact hbk
       have d0 : w2.cell? ⟨b, 0, none⟩ = some (.pointer (some ⟨b, 0, none⟩)) := by rw [Lib.cell_of_heap hb2]; rfl
       have d1 : w2.cell? ⟨b, 1, none⟩ = some v := by rw [Lib.cell_of_heap hb2]; rfl
       have f1 : w2.frozen? ⟨b, 1, none⟩ = false := Lib.frozen_of_heap hb2 1
       obtain ⟨ao, n', cap, rfl⟩ : ∃ ao n' cap, v' = .slice ao n' cap := by
         rcases hown'.2 with ⟨hv, _⟩ | ⟨g, cap, cur, hv, _⟩
         · exact ⟨_, _, _, hv⟩
         · exact ⟨_, _, _, hv⟩)
    | fail)
  go_ret2
  refine ⟨rfl, .inr ?_, ?_⟩
  · exact Lib.BuilderAt.put (T := 62) (e := 5) hB hb2 (bs' := bs ++ Lib.strCells s) (by simpa [Lib.strCells_length] using hown') (by decide)
  · exact (hb1.grown hgrow (by have := hb1.size; omega) (fun k hk => (hown.lt k hk).1)).setCell (p := ⟨b, 1, none⟩) hB _

end Go.Proofs.YtfgmebjbibbpdaaDoor

namespace Go.Proofs.YtfgmebjbibbpdaaDoor
open Go.RowKit

variable {F : Fence} {n : Nat} {P : Program} {α : Type}

/-- What bears all that makes new blocks only. -/
def Bel (J : World → Prop) : Prop := ∀ W W', J W → Below W.heap.size W W' → J W'
theorem Bel.and {J J' : World → Prop} (h : Bel J) (h' : Bel J') : Bel (fun W => J W ∧ J' W) := fun W W' x hb => ⟨h W W' x.1 hb, h' W W' x.2 hb⟩
theorem Bel.ex {β : Type} {J : β → World → Prop} (h : ∀ b, Bel (J b)) : Bel (fun W => ∃ b, J b W) := fun W W' ⟨b, x⟩ hb => ⟨b, h b W W' x hb⟩
theorem Bel.at (l : Nat) (o : Obj) : Bel (fun W => W.heap[l]? = some o) := fun _ _ h hb => (hb.block l (Array.getElem?_eq_some_iff.1 h).1).trans h
theorem Bel.below {N : Nat} {w : World} (h : N ≤ w.heap.size) : Bel (fun W => Below N w W) := fun _ _ h' hb => h'.trans (hb.mono (Nat.le_trans h h'.size))
theorem Bel.const (p : Prop) : Bel (fun _ => p) := fun _ _ h _ => h
theorem Bel.size (N : Nat) : Bel (fun W => N ≤ W.heap.size) := fun _ _ h hb => Nat.le_trans h hb.size
theorem Bel.alloc {J : World → Prop} (h : Bel J) (W : World) (o : Obj) (x : J W) : J (W.alloc o) := h W _ x ((Below.refl _ W).alloc (Nat.le_refl _) o)
theorem Bel.drew {J : World → Prop} (h : Bel J) (W : World) (k : Nat) (x : J W) : J (W.drewN k) := h W _ x (drewN_below (Below.refl _ W) k)

/-- The contract of an iterator with a state in block B: what it hands over one by one, S of all, Sp of what was handed over where it was stopped. -/
def Seq0 (F : Fence) (n : Nat) (P : Program) (g : Nat) (lb : Array Value) (enc : α → Array Value) (Kp : World → World → Prop) (S Sp : List α → Prop) (Ok : List α → α → Prop) (w : World) : Prop :=
  ∀ (l : Nat) (J Jx : List α → World → Prop) (W : World), Below w.heap.size w W → (∀ s, Bel (J s)) → (∀ s, Bel (Jx s)) →
    (∀ pre x W1, J pre W1 → Ok pre x → YieldAt F (n - 1) P l (enc x) W1 fun e W' =>
      (e = .returned (.bool true) ∧ J (pre ++ [x]) W' ∧ Kp W1 W') ∨ (e = .returned (.bool false) ∧ Jx (pre ++ [x]) W')) →
    J [] W →
    CallsIn F n P g (#[.func (.yield l) #[] #[]] ++ lb) W fun e W' => (∃ v, e = .returned v) ∧ ((∃ xs, S xs ∧ J xs W') ∨ (∃ pre, Sp pre ∧ Jx pre W'))

/-- How a round may be left: the loop's own two blocks lie from L on. -/
def roundEnds0 (L : Nat) (Kp : World → World → Prop) (I : World → Prop) (Ix : Code → World → Prop) (W : World) : Exit → Act → World → Prop
  | .normal, _, W' => KeepsFrom L W W' ∧ Kp W W' ∧ I W'
  | .ret, _, W' => KeepsFrom L W W' ∧ Ix .ret W'
  | .exit id, _, W' => KeepsFrom L W W' ∧ Ix (.exit id) W'
  | .goto t, _, W' => KeepsFrom L W W' ∧ Ix (.goto t) W'
  | .panic _, _, _ => False
  | .outgrown, _, _ => False

theorem wpIn_rangeFunc_0 {g : Operand} {ps : Array Tmp} {assign body : Code} {Q : Exit → Act → World → Prop} {a : Act} {w : World}
    (hro : F.round = none) (h1 : 1 ≤ n) {gf : Nat} {lb : Array Value} (hg : a.eval g = .func (.func gf) #[] lb) (hFg : F.fn gf) (eg : ∀ args w, (callFunc gf args).run P w = .ok (.enter gf args) w)
    {enc : α → Array Value} {Kp : World → World → Prop} {S Sp : List α → Prop} {Ok : List α → α → Prop} {w0 : World} (hps : ∀ x, (enc x).size = ps.size) (hseq : Seq0 F (n - 1) P gf lb enc Kp S Sp Ok w0)
    (hKt : ∀ {X Y Z : World}, Kp X Y → Kp Y Z → Kp X Z) (hKb : ∀ (W : World) (l : Nat) (o o' : Obj), w.heap.size ≤ l → W.heap[l]? = some o → o.isCells = false → Kp W (W.putObj l o')) (hb0 : Below w0.heap.size w0 w)
    (I : List α → World → Prop) (Ix : Code → List α → World → Prop) (hI : ∀ s, Bel (I s)) (hIx : ∀ c s, Bel (Ix c s))
    (hIp : ∀ s W l o o', I s W → w.heap.size ≤ l → W.heap[l]? = some o → o.isCells = false → I s (W.putObj l o'))
    (hIxp : ∀ c s W l o o', Ix c s W → w.heap.size ≤ l → W.heap[l]? = some o → o.isCells = false → Ix c s (W.putObj l o')) (h0 : I [] w) (a₁ : α → Act)
    (hassign : ∀ (l : Nat) (x : α) (W : World) (K : Act → World → Prop), K (a₁ x) W →
      assign.wpIn (F.inRound l) (n - 1 - 1) P (Exit.then K (fun _ _ _ => False)) { tmps := (ps.zip (enc x)).foldl (fun t (q, v) => t.setIfInBounds q v) a.tmps, defers := [] } W)
    (hbody : ∀ (l : Nat) (pre : List α) (x : α) (W : World), I pre W → Ok pre x → body.wpIn (F.inRound l) (n - 1 - 1) P (roundEnds0 w.heap.size Kp (I (pre ++ [x])) (fun c => Ix c (pre ++ [x])) W) (a₁ x) W)
    (hdone : ∀ (D : Nat) (xs : List α) (W : World), w.heap.size ≤ D → S xs → I xs W → W.heap[D]? = some (.deferred (some [])) → Q .normal { a with defers := { target := .collected D, args := #[] } :: a.defers } W)
    (hstop : ∀ (D : Nat) (c : Code) (pre : List α) (W : World), w.heap.size ≤ D → Sp pre → Ix c pre W → W.heap[D]? = some (.deferred (some [])) → c.wpIn F n P Q { a with defers := { target := .collected D, args := #[] } :: a.defers } W) :
    (Code.rangeFunc g ps assign body).wpIn F n P Q a w := by
  refine wpIn_rangeFunc ?_
  intro fn hfn
  rw [hro]
  obtain ⟨D, hD⟩ : ∃ D, w.heap.size = D := ⟨_, rfl⟩
  obtain ⟨R, hR⟩ : ∃ R : LoopState → Option Code → Loop, R = fun s c => { state := s, pending := c, fn, tmps := a.tmps, params := ps, assign, body, defers := D } := ⟨_, rfl⟩
  -- the two blocks of book-keeping
  obtain ⟨Bk, hBk⟩ : ∃ Bk : LoopState → Option Code → World → Prop, Bk = fun s c W => W.heap[D + 1]? = some (.loop (R s c)) ∧ W.heap[D]? = some (.deferred (some [])) := ⟨_, rfl⟩
  have belBk : ∀ s c, Bel (Bk s c) := fun s c => by rw [hBk]; exact (Bel.at _ _).and (Bel.at _ _)
  have turn : ∀ s c s' c' W, Bk s c W → Bk s' c' (W.putObj (D + 1) (.loop (R s' c'))) := fun s c s' c' W h => by
    rw [hBk] at h ⊢
    exact ⟨World.putObj_heap_same (Array.getElem?_eq_some_iff.1 h.1).1, (World.putObj_heap_other (by omega)).trans h.2⟩
  have kept : ∀ s c W W', Bk s c W → KeepsFrom D W W' → Bk s c W' := fun s c W W' h k => by
    rw [hBk] at h ⊢
    exact ⟨k.same _ _ (by omega) h.1 rfl, k.same _ _ (Nat.le_refl _) h.2 rfl⟩
  obtain ⟨W1, hW1⟩ : ∃ W1, (w.alloc (.deferred (some []))).alloc (.loop (R .ready none)) = W1 := ⟨_, rfl⟩
  have b1 : Bk .ready none W1 := by
    rw [hBk, ← hW1]
    refine ⟨?_, ?_⟩
    · have := World.alloc_heap_new (w.alloc (.deferred (some []))) (.loop (R .ready none))
      rwa [World.size_alloc, hD] at this
    · have := World.alloc_heap_new w (.deferred (some []))
      rw [hD] at this
      exact (Below.heap_alloc _ _ _ (by simp; omega)).trans this
  have i1 : I [] W1 := by rw [← hW1]; exact (hI _).alloc _ _ ((hI _).alloc _ _ h0)
  have bl1 : Below w0.heap.size w0 W1 := by rw [← hW1]; exact (hb0.alloc hb0.size _).alloc (by simp; have := hb0.size; omega) _
  refine ⟨D + 1, [{ target := .collected D, args := #[] }], W1, { target := .fn (.func gf) lb, args := #[.func (.yield (D + 1)) #[] #[]] }, W1, gf, #[.func (.yield (D + 1)) #[] #[]] ++ lb, W1, ?_, ?_, ?_, ?_, fun _ => h1, ?_⟩
  · have := run_enterLoop_outer (P := P) (w := w) fn a.tmps ps assign body
    rw [hD] at this
    rw [← hW1, hR]
    exact this
  · simp only [resolve, hg]
    simp [go_sem]
  · intro f' hf'
    simp [Target.leads] at hf'
    subst hf'
    exact hFg
  · simp [invoke, go_sem, eg]
  refine (hseq (D + 1) (fun pre W => I pre W ∧ Bk .ready none W) (fun pre W => ∃ c, Ix c pre W ∧ Bk .done (some c) W) W1 bl1 (fun s => (hI s).and (belBk _ _)) (fun s => Bel.ex fun c => (hIx c s).and (belBk _ _)) ?_ ⟨i1, b1⟩).mono ?_
  · rintro pre x W ⟨hi, hb⟩ hok
    have hl : W.heap[D + 1]? = some (.loop (R .ready none)) := by rw [hBk] at hb; exact hb.1
    have hy := run_yield (P := P) (args := (enc x)) hl (by rw [hR]; exact hps x)
    rw [hR] at hy
    refine ⟨fn, _, assign, body, hy, roundIn_of_wpIn hfn (hassign _ x W _ ?_)⟩
    refine ⟨_, run_beginRound hl (by rw [hR]), ?_⟩
    have e1 : ({ R .ready none with state := .busy } : Loop) = R .busy none := by rw [hR]
    rw [e1]
    have hb2 := turn _ _ .busy none _ hb
    have k1 : Kp W (W.putObj (D + 1) (.loop (R .busy none))) := hKb _ _ _ _ (by omega) hl rfl
    refine wpIn_mono (hbody _ pre x _ (hIp _ _ _ _ _ hi (by omega) hl rfl) hok) ?_
    have fin : ∀ (c : Option Code) (W3 : World), KeepsFrom w.heap.size (W.putObj (D + 1) (.loop (R .busy none))) W3 →
        W3.heap[D + 1]? = some (.loop (R .busy none)) ∧ (Instr.endRound (D + 1) c).run P W3 = .ok (.bool c.isNone) (W3.putObj (D + 1) (.loop (R (if c.isNone then .ready else .done) c))) ∧ Bk (if c.isNone then .ready else .done) c (W3.putObj (D + 1) (.loop (R (if c.isNone then .ready else .done) c))) := fun c W3 k => by
      rw [hD] at k
      have hb3 := kept _ _ _ _ hb2 k
      have hl3 : W3.heap[D + 1]? = some (.loop (R .busy none)) := by rw [hBk] at hb3; exact hb3.1
      refine ⟨hl3, ?_, turn _ _ _ _ _ hb3⟩
      rw [run_endRound (P := P) c hl3, hR]
    rintro e a3 W3 hp
    cases e with
    | normal =>
      obtain ⟨k3, kp3, i3⟩ := hp
      obtain ⟨hl3, hr, hb3⟩ := fin none W3 k3
      exact ⟨_, _, hr, .inl ⟨rfl, ⟨hIp _ _ _ _ _ i3 (by omega) hl3 rfl, hb3⟩, hKt k1 (hKt kp3 (hKb _ _ _ _ (by omega) hl3 rfl))⟩⟩
    | ret =>
      obtain ⟨k3, i3⟩ := hp
      obtain ⟨hl3, hr, hb3⟩ := fin (some .ret) W3 k3
      exact ⟨_, _, hr, .inr ⟨rfl, .ret, hIxp _ _ _ _ _ _ i3 (by omega) hl3 rfl, hb3⟩⟩
    | exit id =>
      obtain ⟨k3, i3⟩ := hp
      obtain ⟨hl3, hr, hb3⟩ := fin (some (.exit id)) W3 k3
      exact ⟨_, _, hr, .inr ⟨rfl, .exit id, hIxp _ _ _ _ _ _ i3 (by omega) hl3 rfl, hb3⟩⟩
    | goto t =>
      obtain ⟨k3, i3⟩ := hp
      obtain ⟨hl3, hr, hb3⟩ := fin (some (.goto t)) W3 k3
      exact ⟨_, _, hr, .inr ⟨rfl, .goto t, hIxp _ _ _ _ _ _ i3 (by omega) hl3 rfl, hb3⟩⟩
    | panic ch => exact hp.elim
    | outgrown => exact hp.elim
  · rintro e W2 ⟨⟨v, rfl⟩, ⟨xs, hS, hi, hb⟩ | ⟨pre, hSp, c, hi, hb⟩⟩
    · have hl : W2.heap[D + 1]? = some (.loop (R .ready none)) := by rw [hBk] at hb; exact hb.1
      have hd : W2.heap[D]? = some (.deferred (some [])) := by rw [hBk] at hb; exact hb.2
      refine ⟨none, _, by have := run_endLoop (P := P) hl (by rw [hR]; simp); rw [hR] at this; exact this, ?_⟩
      exact hdone _ xs _ (by omega) hS (hIp _ _ _ _ _ hi (by omega) hl rfl) ((World.putObj_heap_other (by omega)).trans hd)
    · have hl : W2.heap[D + 1]? = some (.loop (R .done (some c))) := by rw [hBk] at hb; exact hb.1
      have hd : W2.heap[D]? = some (.deferred (some [])) := by rw [hBk] at hb; exact hb.2
      refine ⟨some c, _, by have := run_endLoop (P := P) hl (by rw [hR]; simp); rw [hR] at this; exact this, ?_⟩
      exact hstop _ c pre _ (by omega) hSp (hIxp _ _ _ _ _ _ hi (by omega) hl rfl) ((World.putObj_heap_other (by omega)).trans hd)

end Go.Proofs.YtfgmebjbibbpdaaDoor

namespace Go.Proofs.YtfgmebjbibbpdaaDoor
open Go.RowKit

/-- All blocks but bytes and builders stay as they are. -/
def KeepU (w w' : World) : Prop := w.heap.size ≤ w'.heap.size ∧ ∀ (g : Nat) (o : Obj), w.heap[g]? = some o → (∀ (cs : Array Value) (t : TypeId) (fr : Nat × Nat), o = .cells cs t fr → t ≠ 5 ∧ t ≠ 62) → w'.heap[g]? = some o
theorem KeepU.refl (w : World) : KeepU w w := ⟨Nat.le_refl _, fun _ _ h _ => h⟩
theorem KeepU.trans {w w' w'' : World} (h : KeepU w w') (h' : KeepU w' w'') : KeepU w w'' := ⟨Nat.le_trans h.1 h'.1, fun g o hg ho => h'.2 g o (h.2 g o hg ho) ho⟩
theorem KeepU.of_below {w w' : World} (h : Below w.heap.size w w') : KeepU w w' := ⟨h.size, fun g _ hg _ => (h.block g (Array.getElem?_eq_some_iff.1 hg).1).trans hg⟩
theorem KeepU.from {w w' : World} (h : KeepU w w') (L : Nat) : KeepsFrom L w w' := ⟨h.1, fun k o _ hk ho => h.2 k o hk (fun cs t fr e => by subst e; cases ho)⟩
/-- All cells but bytes and builders stay as they are. -/
def KeepC (w w' : World) : Prop := w.heap.size ≤ w'.heap.size ∧ ∀ (g : Nat) (cs : Array Value) (t : TypeId) (fr : Nat × Nat), w.heap[g]? = some (.cells cs t fr) → t ≠ 5 → t ≠ 62 → w'.heap[g]? = some (.cells cs t fr)
theorem KeepU.c {w w' : World} (h : KeepU w w') : KeepC w w' := ⟨h.1, fun g cs t fr hg h1 h2 => h.2 g _ hg (fun cs' t' fr' e => by injection e with e1 e2 e3; subst e2; exact ⟨h1, h2⟩)⟩
theorem KeepC.trans {w w' w'' : World} (h : KeepC w w') (h' : KeepC w' w'') : KeepC w w'' := ⟨Nat.le_trans h.1 h'.1, fun g cs t fr hg h1 h2 => h'.2 g cs t fr (h.2 g cs t fr hg h1 h2) h1 h2⟩
theorem KeepC.put' {w : World} {l : Nat} {o : Obj} (o' : Obj) (hl : w.heap[l]? = some o) (ho : o.isCells = false) : KeepC w (w.putObj l o') := by
  refine ⟨(below_putO (H := 0) o' (Nat.zero_le _) hl).size, fun g cs t fr hg _ _ => ?_⟩
  have hne : g ≠ l := fun e => by
    subst e
    rw [hl] at hg
    injection hg with hg
    subst hg
    cases ho
  exact (World.putObj_heap_other hne).trans hg
theorem KeepU.put {w : World} {l : Nat} {o : Obj} (o' : Obj) (hl : w.heap[l]? = some o) (ho : o.isCells = false) : ∀ (g : Nat) (cs : Array Value) (t : TypeId) (fr : Nat × Nat), w.heap[g]? = some (.cells cs t fr) → (w.putObj l o').heap[g]? = some (.cells cs t fr) := fun g cs t fr hg => by
  have hne : g ≠ l := fun e => by
    subst e
    rw [hl] at hg
    injection hg with hg
    subst hg
    cases ho
  exact (World.putObj_heap_other hne).trans hg
theorem keep_set {w : World} {b j : Nat} {v : Value} {cs0 : Array Value} {fr0 : Nat × Nat} (hb : w.heap[b]? = some (.cells cs0 62 fr0)) : KeepU w (w.setCell ⟨b, j, none⟩ v) := by
  refine ⟨by show _ ≤ (w.heap.modify b _).size; rw [Array.size_modify]; exact Nat.le_refl _, fun g o hg ho => ?_⟩
  have hne : g ≠ b := fun e => by
    subst e
    rw [hb] at hg
    injection hg with hg
    exact (ho _ _ _ hg.symm).2 rfl
  show (w.heap.modify b _)[g]? = _
  rw [Array.getElem?_modify, if_neg (fun e => hne e.symm)]
  exact hg
theorem keep_grown {w w' : World} {base n : Nat} {v : Value} {xs : List Value} (ho : w.ownsRow base 5 1 v n xs) (hg : w.grownBy w' v.ownBlock) : KeepU w w' := by
  refine ⟨hg.size, fun g o hgo hno => ?_⟩
  rw [hg.block g (Array.getElem?_eq_some_iff.1 hgo).1 ?_]
  · exact hgo
  · intro e
    rcases ho.2 with ⟨rfl, _⟩ | ⟨g', cap, cur, rfl, _, hh, _⟩
    · simp [Value.ownBlock] at e
    · obtain rfl : g = g' := by simpa [Value.ownBlock] using e
      rw [hh] at hgo
      injection hgo with hgo
      exact (hno _ _ _ hgo.symm).1 rfl
set_option maxHeartbeats 400000 in
theorem copyCheck_keep (B b : Nat) (bs : List Value) (w : World) (h : Lib.IsBuilder 62 5 B b bs w) :
    Calls Tryd.prog 34 #[.pointer (some ⟨b, 0, none⟩)] w fun e w' => e = .returned (.tuple #[]) ∧ (Lib.BuilderAt 62 5 B b (.pointer (some ⟨b, 0, none⟩)) bs w' ∧ Below B w w' ∧ KeepU w w') := by
  rcases h with h | h
  · refine (copyCheck_fresh b w h.cell0 h.shape h.frozen0).mono ?_
    rintro e w' ⟨rfl, rfl⟩
    exact ⟨rfl, h.used _, (Below.refl B w).setCell (p := ⟨b, 0, none⟩) h.1 _, (by obtain ⟨_, v, hbk, _⟩ := h; exact keep_set hbk)⟩
  · refine (copyCheck_used b w h.cell0).mono ?_
    rintro e w' ⟨rfl, rfl⟩
    exact ⟨rfl, h, Below.refl B _, KeepU.refl _⟩

set_option maxHeartbeats 2000000 in
set_option maxRecDepth 100000 in
theorem write_keep (B b : Nat) (bs : List Value) (s : ByteArray) (w : World) (h : Lib.IsBuilder 62 5 B b bs w) (hlen : bs.length + s.size ≤ 140737488355328) (hBw : B ≤ w.heap.size) :
    Calls Tryd.prog 17 #[.pointer (some ⟨b, 0, none⟩), .string s] w fun e w' => e = .returned (.tuple #[.int .i64 s.size, .nilIface]) ∧ (Lib.IsBuilder 62 5 B b (bs ++ Lib.strCells s) w' ∧ Below B w w' ∧ KeepU w w') := by
  obtain ⟨i0, hi, hz0, hz1, hz2⟩ := info_parts infoByte
  go_enter Tryd.func17, Tryd.ntmps17
  go_wp2_with fail
  refine (copyCheck_keep B b bs _ h).mono ?_
  rintro e w1 ⟨rfl, h1, hb1, hk1⟩
  obtain ⟨hB, v, hbk, hown, hne⟩ := h1
  have c0 : w1.cell? ⟨b, 0, none⟩ = some (.pointer (some ⟨b, 0, none⟩)) := by rw [Lib.cell_of_heap hbk]; rfl
  have c1 : w1.cell? ⟨b, 1, none⟩ = some v := by rw [Lib.cell_of_heap hbk]; rfl
  have hlt : b < w1.heap.size := by
    rcases Nat.lt_or_ge b w1.heap.size with h' | h'
    · exact h'
    · simp [Array.getElem?_eq_none h'] at hbk
  have hBw1 : B ≤ w1.heap.size := by have := hb1.size; omega
  go_wp2_with (first
    | (at_builtin; refine Lib.wpList_append_own_string _ rfl _ _ 60 9 rfl B 5 i0 Tryd.underlying60 Tryd.underlying9 hi hz0 hz1 hz2 _ _ _ rfl hown s rfl (by unfold maxLen; omega) (by omega) hBw1 ?_
       intro v' w2 hown' hgrow _
       have hb2 : w2.heap[b]? = some (.cells #[.pointer (some ⟨b, 0, none⟩), v] 62 (0, 0)) := by
         rw [hgrow.block b hlt (fun e => hne e.symm)]
         exact hbk
       have d0 : w2.cell? ⟨b, 0, none⟩ = some (.pointer (some ⟨b, 0, none⟩)) := by rw [Lib.cell_of_heap hb2]; rfl
       have d1 : w2.cell? ⟨b, 1, none⟩ = some v := by rw [Lib.cell_of_heap hb2]; rfl
       have f1 : w2.frozen? ⟨b, 1, none⟩ = false := Lib.frozen_of_heap hb2 1
       obtain ⟨ao, n', cap, rfl⟩ : ∃ ao n' cap, v' = .slice ao n' cap := by
         rcases hown'.2 with ⟨hv, _⟩ | ⟨g, cap, cur, hv, _⟩
         · exact ⟨_, _, _, hv⟩
         · exact ⟨_, _, _, hv⟩)
    | fail)
  go_ret2
  refine ⟨rfl, .inr ?_, ?_, ?_⟩
  · exact Lib.BuilderAt.put (T := 62) (e := 5) hB hb2 (bs' := bs ++ Lib.strCells s) (by simpa [Lib.strCells_length] using hown') (by decide)
  · exact (hb1.grown hgrow (by have := hb1.size; omega) (fun k hk => (hown.lt k hk).1)).setCell (p := ⟨b, 1, none⟩) hB _
  · exact hk1.trans ((keep_grown hown hgrow).trans (keep_set hb2))

end Go.Proofs.YtfgmebjbibbpdaaDoor

namespace Go.Proofs.YtfgmebjbibbpdaaDoor
open Go.RowKit Go.Shelf
attribute [local go_sem] Oper.semAt_some

/-! ### of no program -/
def codeLs (l : List Ins) : List (Option (List UInt8)) := l.map fun e => if insB e = true then some (lineL e) else none
def headLs (t : Tk) : Option (List UInt8) := if headB1 t = true then some (headL t) else none
def taskLs (t : Tk) : List (Option (List UInt8)) := headLs t :: (codeLs t.code ++ [some endW3])
def objLs (o : Oj) : Option (List UInt8) := if objB o = true then some (objL o) else none
def sysLs (s : Sy) : List (Option (List UInt8)) := s.ts.flatMap taskLs ++ s.os.map objLs
abbrev Item := ByteArray × Bool
/-- A line that is handed over. -/
def mt (x : Item) (o : Option (List UInt8)) : Prop := x.1.size ≤ 1000000 ∧ (o = none → x.2 = false) ∧ ∀ l, o = some l → x = (⟨l.toArray⟩, true)
def FM : List (Option (List UInt8)) → List Item → Prop
  | [], [] => True
  | o :: L, x :: p => mt x o ∧ FM L p
  | _, _ => False
theorem FM.snoc {L : List (Option (List UInt8))} {p : List Item} {o : Option (List UInt8)} {x : Item} (h : FM L p) (hx : mt x o) : FM (L ++ [o]) (p ++ [x]) := by
  induction L generalizing p with
  | nil =>
    cases p with
    | nil => exact ⟨hx, trivial⟩
    | cons y p => exact h.elim
  | cons a L ih =>
    cases p with
    | nil => exact h.elim
    | cons y p => exact ⟨h.1, ih h.2⟩
theorem mt_none {s : ByteArray} (h : s.size ≤ 1000000) : mt (s, false) none := ⟨h, fun _ => rfl, fun l e => by cases e⟩
theorem mt_some {l : List UInt8} {s : ByteArray} (h : s = ⟨l.toArray⟩) (hs : s.size ≤ 1000000) : mt (s, true) (some l) := ⟨hs, (fun e => by cases e), (fun l' e => by injection e with e; subst e; rw [h])⟩
theorem mt_if {b : Bool} {l : List UInt8} {s : ByteArray} (h : b = true → s = ⟨l.toArray⟩) (hs : s.size ≤ 1000000) : mt (s, b) (if b = true then some l else none) := by
  cases b with
  | true => exact mt_some (h rfl) hs
  | false => exact mt_none hs
theorem take_snoc_flat {s : Sy} {k : Nat} {t : Tk} (h : s.ts[k]? = some t) : (s.ts.take (k + 1)).flatMap taskLs = (s.ts.take k).flatMap taskLs ++ taskLs t := by rw [take_snoc h]; simp

theorem pre_task {s : Sy} {k : Nat} {t : Tk} (h : s.ts[k]? = some t) : (s.ts.take k).flatMap taskLs ++ taskLs t <+: sysLs s := by
  refine ⟨(s.ts.drop (k + 1)).flatMap taskLs ++ s.os.map objLs, ?_⟩
  have h1 := List.take_append_drop (k + 1) s.ts
  have h2 := take_snoc h
  unfold sysLs
  conv => rhs; rw [← h1, h2]
  simp
theorem pre_code {s : Sy} {k j : Nat} {t : Tk} {e : Ins} (h : t.code[j]? = some e) (hp : (s.ts.take k).flatMap taskLs ++ taskLs t <+: sysLs s) :
    ((s.ts.take k).flatMap taskLs ++ headLs t :: codeLs (t.code.take j)) ++ [if insB e = true then some (lineL e) else none] <+: sysLs s := by
  refine List.IsPrefix.trans ⟨codeLs (t.code.drop (j + 1)) ++ [some endW3], ?_⟩ hp
  have h1 := List.take_append_drop (j + 1) t.code
  have h2 := take_snoc h
  unfold taskLs
  conv => rhs; rw [← h1, h2]
  simp [codeLs]
theorem pre_end {s : Sy} {k : Nat} {t : Tk} (hp : (s.ts.take k).flatMap taskLs ++ taskLs t <+: sysLs s) : ((s.ts.take k).flatMap taskLs ++ headLs t :: codeLs t.code) ++ [some endW3] <+: sysLs s := by
  have e : ((s.ts.take k).flatMap taskLs ++ headLs t :: codeLs t.code) ++ [some endW3] = (s.ts.take k).flatMap taskLs ++ taskLs t := by unfold taskLs; simp
  rw [e]
  exact hp
theorem pre_obj {s : Sy} {j : Nat} {o : Oj} (h : s.os[j]? = some o) : (s.ts.flatMap taskLs ++ (s.os.take j).map objLs) ++ [objLs o] <+: sysLs s := by
  refine ⟨(s.os.drop (j + 1)).map objLs, ?_⟩
  have h1 := List.take_append_drop (j + 1) s.os
  have h2 := take_snoc h
  unfold sysLs
  conv => rhs; rw [← h1, h2]
  simp
theorem lineS_bd {e : Ins} (h : insB e = true) (hk : e.ok) : (lineS e).size ≤ 63 := lineL_len h hk

/-! ### in memory -/
def TkSl (w : World) (B : Nat) (A : Option Addr) (l : List Tk) : Prop := ∀ k t, l[k]? = some t → ∃ b off A' c', A = some ⟨b, off, none⟩ ∧ b < B ∧ (w.cell? ⟨b, off + k * 7, none⟩ = some (.int .i64 t.kd) ∧ w.cell? ⟨b, off + k * 7 + 1, none⟩ = some (.int .i64 t.pr) ∧ w.cell? ⟨b, off + k * 7 + 2, none⟩ = some (.int .i64 t.pe) ∧ w.cell? ⟨b, off + k * 7 + 3, none⟩ = some (.int .i64 t.off) ∧ w.cell? ⟨b, off + k * 7 + 4, none⟩ = some (.int .i64 t.dl) ∧ w.cell? ⟨b, off + k * 7 + 5, none⟩ = some (.int .i64 t.ow) ∧ w.cell? ⟨b, off + k * 7 + 6, none⟩ = some (.slice A' t.code.length c')) ∧
  InSl w B A' t.code ∧ (t.code.length ≤ c' ∧ c' ≤ maxLen) ∧ ∀ z ∈ t.kd :: t.five, -9223372036854775808 ≤ z ∧ z ≤ 9223372036854775807
def OjSl (w : World) (B : Nat) (A : Option Addr) (l : List Oj) : Prop := ∀ k o, l[k]? = some o → ∃ b off I ci R cr, A = some ⟨b, off, none⟩ ∧ b < B ∧ (w.cell? ⟨b, off + k * 8, none⟩ = some (.int .i64 o.kd) ∧ w.cell? ⟨b, off + k * 8 + 1, none⟩ = some (.int .i64 o.wd) ∧ w.cell? ⟨b, off + k * 8 + 2, none⟩ = some (.int .i64 o.sl) ∧ w.cell? ⟨b, off + k * 8 + 3, none⟩ = some (.int .i64 o.cp) ∧ w.cell? ⟨b, off + k * 8 + 4, none⟩ = some (.int .u32 o.st) ∧ w.cell? ⟨b, off + k * 8 + 5, none⟩ = some (.slice I o.ini.length ci) ∧ w.cell? ⟨b, off + k * 8 + 6, none⟩ = some (.int .i64 o.wr) ∧ w.cell? ⟨b, off + k * 8 + 7, none⟩ = some (.slice R o.rd.length cr)) ∧
  (Ws w B I o.ini ∧ o.ini.length ≤ ci ∧ ci ≤ maxLen) ∧ (SlOf (ints .i64) w B R o.rd ∧ o.rd.length ≤ cr ∧ cr ≤ maxLen) ∧ (0 ≤ o.st ∧ o.st < 4294967296) ∧ ∀ z ∈ o.kd :: o.wd :: o.sl :: o.cp :: o.wr :: o.rd, -9223372036854775808 ≤ z ∧ z ≤ 9223372036854775807
theorem TkSl.below {w w' : World} {B B' : Nat} {A : Option Addr} {l : List Tk} (h : TkSl w B A l) (hb : Below B w w') (hB : B ≤ B') : TkSl w' B' A l := fun k t hk => by
  obtain ⟨b, off, A', c', hA, hlt, ⟨c0, c1, c2, c3, c4, c5, c6⟩, hI, h7⟩ := h k t hk
  have key : ∀ {j : Nat} {u : Value}, w.cell? ⟨b, j, none⟩ = some u → w'.cell? ⟨b, j, none⟩ = some u := fun {j u} hc => (hb.cell (p := ⟨b, j, none⟩) hlt).trans hc
  exact ⟨b, off, A', c', hA, by omega, ⟨key c0, key c1, key c2, key c3, key c4, key c5, key c6⟩, hI.below hb hB, h7⟩
theorem OjSl.below {w w' : World} {B B' : Nat} {A : Option Addr} {l : List Oj} (h : OjSl w B A l) (hb : Below B w w') (hB : B ≤ B') : OjSl w' B' A l := fun k o hk => by
  obtain ⟨b, off, I, ci, R, cr, hA, hlt, ⟨c0, c1, c2, c3, c4, c5, c6, c7⟩, ⟨hI, hi⟩, ⟨hR, hr⟩, h7⟩ := h k o hk
  have key : ∀ {j : Nat} {u : Value}, w.cell? ⟨b, j, none⟩ = some u → w'.cell? ⟨b, j, none⟩ = some u := fun {j u} hc => (hb.cell (p := ⟨b, j, none⟩) hlt).trans hc
  exact ⟨b, off, I, ci, R, cr, hA, by omega, ⟨key c0, key c1, key c2, key c3, key c4, key c5, key c6, key c7⟩, ⟨hI.below hb hB, hi⟩, ⟨hR.below hb hB, hr⟩, h7⟩
def SyB (W : World) (sB : Nat) (At Ao : Option Addr) (nt ct no co : Nat) : Prop := W.heap[sB]? = some (.cells #[.slice At nt ct, .slice Ao no co] 25 (0, 0))
def KpI (N : Nat) (W W' : World) : Prop := KeepC W W' ∧ Below N W W'
def encI (x : Item) : Array Value := #[.string x.1, .bool x.2]
def OkI (s : Sy) (pre : List Item) (x : Item) : Prop := ∃ L o, FM L pre ∧ mt x o ∧ L ++ [o] <+: sysLs s
def SpI (s : Sy) (pre : List Item) : Prop := ∃ L, FM L pre ∧ L <+: sysLs s

set_option maxRecDepth 100000 in
set_option maxHeartbeats 4000000 in
theorem slines_in (n : Nat) (hn : 1 ≤ n) (lb sB : Nat) (s : Sy) (At Ao : Option Addr) (ct co : Nat) (J Jx : List Item → World → Prop) (w0 W : World) (hJ : ∀ q, Bel (J q)) (_hJx : ∀ q, Bel (Jx q))
    (ht : TkSl w0 w0.heap.size At s.ts) (ho : OjSl w0 w0.heap.size Ao s.os) (hcode : ∀ t ∈ s.ts, t.code.length ≤ 100000) (hobj : ∀ o ∈ s.os, o.ini.length ≤ 20000 ∧ o.rd.length ≤ 20000) (hnt : s.ts.length ≤ 100000) (hno : s.os.length ≤ 100000) (hT : Tab w0)
    (hY : ∀ pre x W1, J pre W1 → OkI s pre x → YieldAt Fence.wide (n - 1) Tryd.prog lb (encI x) W1 fun e W' => (e = .returned (.bool true) ∧ J (pre ++ [x]) W' ∧ KpI w0.heap.size W1 W') ∨ (e = .returned (.bool false) ∧ Jx (pre ++ [x]) W'))
    (hs : SyB W sB At Ao s.ts.length ct s.os.length co) (hb : Below w0.heap.size w0 W) (h0 : J [] W) :
    CallsIn Fence.wide n Tryd.prog 33 #[.func (.yield lb) #[] #[], .pointer (some ⟨sB, 0, none⟩)] W fun e W' => (∃ v, e = .returned v) ∧ ((∃ xs, FM (sysLs s) xs ∧ J xs W') ∨ (∃ pre, SpI s pre ∧ Jx pre W')) := by
  have b0 : W.cell? ⟨sB, 0, none⟩ = some (.slice At s.ts.length ct) := by simp [World.cell?, show W.heap[sB]? = _ from hs]
  have HS := Lib.hid hs
  have HB := Lib.hid hb
  have HT0 := Lib.hid hT
  have HTK := Lib.hid ht
  have HOJ := Lib.hid ho
  have HY := Lib.hid hY
  have HJ := Lib.hid hJ
  have HJ0 := Lib.hid h0
  have HCO := Lib.hid hcode
  have HOB := Lib.hid hobj
  clear hs hb hT ht ho hY hJ h0 hcode hobj
  refine callsIn_of_wp Tryd.func33 rfl trivial ?_ rfl
  simp only [Tryd.ntmps33, List.size_toArray, List.length_cons, List.length_nil, Nat.reduceAdd, Nat.reduceSub, Array.replicate_succ, Array.replicate_zero, List.push_toArray, List.append_toArray, List.nil_append, List.cons_append]
  gi_wp2
  gi_loopw [4, 6, 12, 26] (fun _ _ i _ wr => ∃ (k : Nat) (pre : List Item), k ≤ s.ts.length ∧ i = .int .i64 k ∧ FM ((s.ts.take k).flatMap taskLs) pre ∧ J pre wr ∧ SyB wr sB At Ao s.ts.length ct s.os.length co ∧ Below w0.heap.size w0 wr)
    (fun _ _ i _ _ => s.ts.length - (intOf i).toNat)
  case atStart => exact ⟨0, [], Nat.zero_le _, rfl, trivial, HJ0.out, HS.out, HB.out⟩
  case round =>
    obtain ⟨k, pre, hk, rfl, hfm, hj, hsy, hbw⟩ := hrel
    by_cases hlt : k < s.ts.length
    · obtain ⟨t, htk⟩ := get_some hlt
      obtain ⟨b, off, A', c', hA, hlb, ⟨z0, z1, z2, z3, z4, z5, z6⟩, hI, hcc, hzz⟩ := HTK.out k t htk
      subst hA
      have key : ∀ {j : Nat} {u : Value}, w0.cell? ⟨b, j, none⟩ = some u → wr.cell? ⟨b, j, none⟩ = some u := fun {j u} hc => (hbw.cell (p := ⟨b, j, none⟩) hlb).trans hc
      have c0 := key z0
      have c1 := key z1
      have c2 := key z2
      have c3 := key z3
      have c4 := key z4
      have c5 := key z5
      have c6 := key z6
      clear z0 z1 z2 z3 z4 z5 z6 key
      have hpf := pre_task htk
      have hcl := HCO.out t (List.mem_of_getElem? htk)
      have HPF := Lib.hid hpf
      have HSN := Lib.hid (take_snoc_flat htk)
      have HFM := Lib.hid hfm
      have HSY := Lib.hid hsy
      have HBW := Lib.hid hbw
      have HIN := Lib.hid hI
      have HZZ := Lib.hid hzz
      have hb1 := (Below.refl wr.heap.size wr).alloc (Nat.le_refl _) (.cells #[.int .i64 t.kd, .int .i64 t.pr, .int .i64 t.pe, .int .i64 t.off, .int .i64 t.dl, .int .i64 t.ow, .slice A' t.code.length c'] 43)
      have hrow := RowB.new wr #[.int .i64 t.kd, .int .i64 t.pr, .int .i64 t.pe, .int .i64 t.off, .int .i64 t.dl, .int .i64 t.ow, .slice A' t.code.length c'] 43
      obtain ⟨W1, hW1⟩ : ∃ x, wr.alloc (.cells #[.int .i64 t.kd, .int .i64 t.pr, .int .i64 t.pe, .int .i64 t.off, .int .i64 t.dl, .int .i64 t.ow, .slice A' t.code.length c'] 43) = x := ⟨_, rfl⟩
      obtain ⟨tb, htb⟩ : ∃ x, wr.heap.size = x := ⟨_, rfl⟩
      rw [hW1] at hb1 hrow
      have hj1 := (HJ.out pre) wr W1 hj hb1
      have hbw1 := hbw.trans (hb1.mono hbw.size)
      have hhd := head_any t A' t.code.length c' W1 (fun z hz => hzz z (List.mem_cons_of_mem _ hz)) (HT0.out.below hbw1)
      have hsy1 : SyB W1 sB _ Ao s.ts.length ct s.os.length co := (hb1.block sB (Array.getElem?_eq_some_iff.1 hsy).1).trans hsy
      rw [htb] at hrow
      have k0 : W1.cell? ⟨tb, 0, none⟩ = some (.int .i64 t.kd) := (hrow.cell 0).trans rfl
      have k1 : W1.cell? ⟨tb, 1, none⟩ = some (.int .i64 t.pr) := (hrow.cell 1).trans rfl
      have k2 : W1.cell? ⟨tb, 2, none⟩ = some (.int .i64 t.pe) := (hrow.cell 2).trans rfl
      have k3 : W1.cell? ⟨tb, 3, none⟩ = some (.int .i64 t.off) := (hrow.cell 3).trans rfl
      have k4 : W1.cell? ⟨tb, 4, none⟩ = some (.int .i64 t.dl) := (hrow.cell 4).trans rfl
      have k5 : W1.cell? ⟨tb, 5, none⟩ = some (.int .i64 t.ow) := (hrow.cell 5).trans rfl
      have k6 : W1.cell? ⟨tb, 6, none⟩ = some (.slice A' t.code.length c') := (hrow.cell 6).trans rfl
      unfold tkV at hhd
      have HHD := Lib.hid hhd
      have HJ1 := Lib.hid hj1
      have HBW1 := Lib.hid hbw1
      have HROW := Lib.hid hrow
      have HSY1 := Lib.hid hsy1
      clear hfm hj hsy hbw htk hI hcc hzz hpf hb1 hrow hj1 hbw1 hhd hsy1
      gi_wp2_with fail
      refine ⟨trivial, ?_⟩
      refine (callsIn_wide.2 HHD.out).mono ?_
      rintro e w2 ⟨sH, rfl, hHs, hHl, hb2⟩
      have hj2 := (HJ.out pre) W1 w2 HJ1.out hb2
      have hmt : mt (sH, headB1 t) (headLs t) := mt_if hHs hHl
      have hok : OkI s pre (sH, headB1 t) := ⟨_, _, HFM.out, hmt, (List.prefix_append_right_inj ((s.ts.take k).flatMap taskLs)).2 (show [headLs t] <+: taskLs t from ⟨_, rfl⟩) |>.trans HPF.out⟩
      have HMT := Lib.hid hmt
      have HOK := Lib.hid hok
      have hrow2 := HROW.out.kept hb2
      have HROW2 := Lib.hid hrow2
      have HSY2 := Lib.hid (show SyB w2 sB _ Ao s.ts.length ct s.os.length co from (hb2.block sB (Array.getElem?_eq_some_iff.1 HSY1.out).1).trans HSY1.out)
      have HBW2 := Lib.hid (HBW1.out.trans (hb2.mono HBW1.out.size))
      skip
      clear hHs hHl hmt hok hb2 hrow2 c0 c1 c2 c3 c4 c5 c6 k0 k1 k2 k3 k4 k5 k6
      obtain ⟨fn, tmps, assign, body, hy, hR⟩ := HY.out pre (sH, headB1 t) w2 hj2 HOK.out
      unfold encI at hy
      have HR := Lib.hid hR
      clear hR
      gi_wp2_with fail
      refine HR.out.mono ?_
      rintro e3 W3 (⟨rfl, hJ3, hk3⟩ | ⟨rfl, hJx3⟩)
      · have hrow3 : RowB W3 tb #[.int .i64 t.kd, .int .i64 t.pr, .int .i64 t.pe, .int .i64 t.off, .int .i64 t.dl, .int .i64 t.ow, .slice A' t.code.length c'] 43 := hk3.1.2 tb _ _ _ HROW2.out (by decide) (by decide)
        have hsy3 : SyB W3 sB _ Ao s.ts.length ct s.os.length co := hk3.1.2 sB _ _ _ HSY2.out (by decide) (by decide)
        have hbw3 : Below w0.heap.size w0 W3 := HBW2.out.trans hk3.2
        have d6 : W3.cell? ⟨tb, 6, none⟩ = some (.slice A' t.code.length c') := (hrow3.cell 6).trans rfl
        have hfm3 := HFM.out.snoc HMT.out
        have HFM3 := Lib.hid hfm3
        have HJ3 := Lib.hid hJ3
        have HROW3 := Lib.hid hrow3
        have HSY3 := Lib.hid hsy3
        have HBW3 := Lib.hid hbw3
        clear hfm3 hJ3 hrow3 hsy3 hbw3 hk3
        gi_wp2_with fail
        clear d6
        gi_loopw [6, 26] (fun _ i wq => ∃ (j : Nat) (pre : List Item), j ≤ t.code.length ∧ i = .int .i64 j ∧ FM (((s.ts.take k).flatMap taskLs) ++ headLs t :: codeLs (t.code.take j)) pre ∧ J pre wq ∧ SyB wq sB (some ⟨b, off, none⟩) Ao s.ts.length ct s.os.length co ∧ RowB wq tb #[.int .i64 t.kd, .int .i64 t.pr, .int .i64 t.pe, .int .i64 t.off, .int .i64 t.dl, .int .i64 t.ow, .slice A' t.code.length c'] 43 ∧ Below w0.heap.size w0 wq)
          (fun _ i _ => t.code.length - (intOf i).toNat)
        case atStart => exact ⟨0, _, Nat.zero_le _, rfl, HFM3.out, HJ3.out, HSY3.out, HROW3.out, HBW3.out⟩
        case round =>
          obtain ⟨wq, rfl⟩ : ∃ x : World, x = wr := ⟨_, rfl⟩
          obtain ⟨j, pre2, hj2, rfl, hfm, hj, hsy, hrow, hbw⟩ := hrel
          by_cases hlj : j < t.code.length
          · obtain ⟨e0, he0⟩ := get_some hlj
            obtain ⟨hek, b9, off9, hA9, hlb9, g0, g1, g2, g3, g4⟩ := (HIN.out.below hbw (Nat.le_refl _)).get he0
            have HEK := Lib.hid hek
            have HCS := Lib.hid (show codeLs (t.code.take (j + 1)) = codeLs (t.code.take j) ++ [if insB e0 = true then some (lineL e0) else none] by unfold codeLs; rw [take_snoc he0, List.map_append]; rfl)
            have HPC := Lib.hid (pre_code he0 HPF.out)
            subst hA9
            have hb1 := (Below.refl wq.heap.size wq).alloc (Nat.le_refl _) (.cells #[.int .i64 e0.op, .int .i64 e0.a, .int .i64 e0.b, .int .i64 e0.c, .int .u32 e0.n] 47)
            obtain ⟨W4, hW4⟩ : ∃ x, wq.alloc (.cells #[.int .i64 e0.op, .int .i64 e0.a, .int .i64 e0.b, .int .i64 e0.c, .int .u32 e0.n] 47) = x := ⟨_, rfl⟩
            have hib5 := RowB.new wq #[.int .i64 e0.op, .int .i64 e0.a, .int .i64 e0.b, .int .i64 e0.c, .int .u32 e0.n] 47
            obtain ⟨ib, hib⟩ : ∃ x, wq.heap.size = x := ⟨_, rfl⟩
            rw [hW4] at hb1 hib5
            rw [hib] at hib5
            have k0 : W4.cell? ⟨ib, 0, none⟩ = some (.int .i64 e0.op) := (hib5.cell 0).trans rfl
            have k1 : W4.cell? ⟨ib, 1, none⟩ = some (.int .i64 e0.a) := (hib5.cell 1).trans rfl
            have k2 : W4.cell? ⟨ib, 2, none⟩ = some (.int .i64 e0.b) := (hib5.cell 2).trans rfl
            have k3 : W4.cell? ⟨ib, 3, none⟩ = some (.int .i64 e0.c) := (hib5.cell 3).trans rfl
            have k4 : W4.cell? ⟨ib, 4, none⟩ = some (.int .u32 e0.n) := (hib5.cell 4).trans rfl
            clear hib5
            have hj4 := (HJ.out pre2) wq W4 hj hb1
            have hbw4 := hbw.trans (hb1.mono hbw.size)
            have hln := line_any e0 hek W4 (HT0.out.below hbw4)
            unfold insV at hln
            have HLN := Lib.hid hln
            have HJ4 := Lib.hid hj4
            have HBW4 := Lib.hid hbw4
            have HFM4 := Lib.hid hfm
            have HSY4 := Lib.hid (show SyB W4 sB _ Ao s.ts.length ct s.os.length co from (hb1.block sB (Array.getElem?_eq_some_iff.1 hsy).1).trans hsy)
            have HROW4 := Lib.hid (hrow.kept hb1)
            clear hfm hj hsy hrow hbw hb1 hj4 hbw4 hln he0 hek
            gi_wp2_with fail
            refine ⟨trivial, ?_⟩
            refine (callsIn_wide.2 HLN.out).mono ?_
            rintro e w5 ⟨rfl, hb5⟩
            have hj5 := (HJ.out pre2) W4 w5 HJ4.out hb5
            have hmt : mt ((if insB e0 = true then lineS e0 else ⟨#[]⟩), insB e0) (if insB e0 = true then some (lineL e0) else none) := by
              refine mt_if (fun h => by rw [if_pos h]; rfl) ?_
              split
              · next h => exact Nat.le_trans (lineS_bd h HEK.out) (by omega)
              · exact Nat.zero_le _
            have hok : OkI s pre2 ((if insB e0 = true then lineS e0 else ⟨#[]⟩), insB e0) := ⟨_, _, HFM4.out, hmt, HPC.out⟩
            have HMT5 := Lib.hid hmt
            have HSY5 := Lib.hid (show SyB w5 sB _ Ao s.ts.length ct s.os.length co from (hb5.block sB (Array.getElem?_eq_some_iff.1 HSY4.out).1).trans HSY4.out)
            have HROW5 := Lib.hid (HROW4.out.kept hb5)
            have HBW5 := Lib.hid (HBW4.out.trans (hb5.mono HBW4.out.size))
            obtain ⟨xl, hxl⟩ : ∃ x, (if insB e0 = true then lineS e0 else ⟨#[]⟩ : ByteArray) = x := ⟨_, rfl⟩
            have HXL := Lib.hid hxl
            have hmt2 := HMT5.out
            rw [hxl] at hok hmt2
            have HMT6 := Lib.hid hmt2
            have HOK5 := Lib.hid hok
            have HX2 := HXL
            simp only [hxl]
            clear hmt hmt2 hok hb5 g0 g1 g2 g3 g4 hxl k0 k1 k2 k3 k4
            obtain ⟨fn, tmps, assign, body, hy, hR⟩ := HY.out pre2 (xl, insB e0) w5 hj5 HOK5.out
            unfold encI at hy
            have HR := Lib.hid hR
            clear hR
            gi_wp2_with fail
            refine HR.out.mono ?_
            rintro e3 W6 (⟨rfl, hJ3, hk3⟩ | ⟨rfl, hJx3⟩)
            · have hf6 := HFM4.out.snoc HMT6.out
              have e6 : (((s.ts.take k).flatMap taskLs) ++ headLs t :: codeLs (t.code.take j)) ++ [if insB e0 = true then some (lineL e0) else none] = ((s.ts.take k).flatMap taskLs) ++ headLs t :: codeLs (t.code.take (j + 1)) := by rw [HCS.out]; simp
              rw [e6] at hf6
              have HF6 := Lib.hid hf6
              have HS6 : SyB W6 sB _ Ao s.ts.length ct s.os.length co := hk3.1.2 sB _ _ _ HSY5.out (by decide) (by decide)
              have HR6 : RowB W6 tb _ 43 := hk3.1.2 tb _ _ _ HROW5.out (by decide) (by decide)
              have HB6 : Below w0.heap.size w0 W6 := HBW5.out.trans hk3.2
              have HS6 := Lib.hid HS6
              have HR6 := Lib.hid HR6
              have HB6 := Lib.hid HB6
              clear hf6 e6 hk3
              gi_wp2_with fail
              go_roundw
              case rel => exact ⟨j + 1, _, by omega, by go_num, HF6.out, hJ3, HS6.out, HR6.out, HB6.out⟩
              case measure => simp [intOf]; omega
            · gi_wp2_with fail
              refine bodyPost_ret (results_none rfl _ _ _) rfl ?_
              exact ⟨⟨_, rfl⟩, .inr ⟨_, ⟨_, HFM4.out.snoc HMT6.out, HPC.out⟩, hJx3⟩⟩
          · obtain rfl : j = t.code.length := by omega
            rw [List.take_length] at hfm
            have hmt : mt (⟨#[101, 110, 100]⟩, true) (some endW3) := mt_some rfl (by decide)
            have hok : OkI s pre2 (⟨#[101, 110, 100]⟩, true) := ⟨_, _, hfm, hmt, (pre_end HPF.out)⟩
            have hnl : decide (t.code.length < t.code.length) = false := by simp
            have HSp := Lib.hid (show SpI s (pre2 ++ [(⟨#[101, 110, 100]⟩, true)]) from ⟨_, hfm.snoc hmt, pre_end HPF.out⟩)
            have hf7 := hfm.snoc hmt
            have e7 : (((s.ts.take k).flatMap taskLs) ++ headLs t :: codeLs t.code) ++ [some endW3] = (s.ts.take (k + 1)).flatMap taskLs := by rw [HSN.out]; unfold taskLs; simp
            rw [e7] at hf7
            have HF7 := Lib.hid hf7
            have HOK7 := Lib.hid hok
            have HSY7 := Lib.hid hsy
            have HBW7 := Lib.hid hbw
            have HJ7 := Lib.hid hj
            clear hfm hmt hok hf7 e7 hsy hbw hrow hj
            obtain ⟨fn, tmps, assign, body, hy, hR⟩ := HY.out pre2 (⟨#[101, 110, 100]⟩, true) wq HJ7.out HOK7.out
            unfold encI at hy
            have HR := Lib.hid hR
            clear hR
            gi_wp2_with fail
            refine HR.out.mono ?_
            rintro e3 W8 (⟨rfl, hJ3, hk3⟩ | ⟨rfl, hJx3⟩)
            · have HS8 : SyB W8 sB _ Ao s.ts.length ct s.os.length co := hk3.1.2 sB _ _ _ HSY7.out (by decide) (by decide)
              have HB8 : Below w0.heap.size w0 W8 := HBW7.out.trans hk3.2
              have HS8 := Lib.hid HS8
              have HB8 := Lib.hid HB8
              clear hk3
              gi_wp2_with fail
              go_roundw
              case rel => exact ⟨k + 1, _, by omega, by go_num, HF7.out, hJ3, HS8.out, HB8.out⟩
              case measure => simp [intOf]; omega
            · gi_wp2_with fail
              refine bodyPost_ret (results_none rfl _ _ _) rfl ?_
              exact ⟨⟨_, rfl⟩, .inr ⟨_, HSp.out, hJx3⟩⟩
      · gi_wp2_with fail
        refine bodyPost_ret (results_none rfl _ _ _) rfl ?_
        exact ⟨⟨_, rfl⟩, .inr ⟨_, ⟨_, HFM.out.snoc HMT.out, (List.prefix_append_right_inj ((s.ts.take k).flatMap taskLs)).2 (show [headLs t] <+: taskLs t from ⟨_, rfl⟩) |>.trans HPF.out⟩, hJx3⟩⟩
    · obtain rfl : k = s.ts.length := by omega
      rw [List.take_length] at hfm
      have hnl : decide (s.ts.length < s.ts.length) = false := by simp
      have b1 : wr.cell? ⟨sB, 1, none⟩ = some (.slice Ao s.os.length co) := by simp [World.cell?, show wr.heap[sB]? = _ from hsy]
      have HFM := Lib.hid hfm
      have HJ1 := Lib.hid hj
      have HSY := Lib.hid hsy
      have HBW := Lib.hid hbw
      clear hfm hj hsy hbw b0
      gi_wp2_with fail
      clear b1
      gi_loopw [8, 45] (fun _ i wq => ∃ (j : Nat) (pre : List Item), j ≤ s.os.length ∧ i = .int .i64 j ∧ FM (s.ts.flatMap taskLs ++ (s.os.take j).map objLs) pre ∧ J pre wq ∧ Below w0.heap.size w0 wq) (fun _ i _ => s.os.length - (intOf i).toNat)
      case atStart => exact ⟨0, _, Nat.zero_le _, rfl, by simpa using HFM.out, HJ1.out, HBW.out⟩
      case round =>
        obtain ⟨wq, rfl⟩ : ∃ x : World, x = wr := ⟨_, rfl⟩
        obtain ⟨j, pre2, hj2, rfl, hfm, hj, hbw⟩ := hrel
        by_cases hlj : j < s.os.length
        · obtain ⟨o, ho⟩ := get_some hlj
          obtain ⟨b9, off9, I, ci, R, cr, hA9, hlb9, ⟨g0, g1, g2, g3, g4, g5, g6, g7⟩, ⟨hI, _⟩, ⟨hR, _⟩, hst, hzz⟩ := (HOJ.out.below hbw (Nat.le_refl _)) j o ho
          subst hA9
          have hbd := HOB.out o (List.mem_of_getElem? ho)
          have HPO := Lib.hid (pre_obj ho)
          have HTS := Lib.hid (show (s.os.take (j + 1)).map objLs = (s.os.take j).map objLs ++ [objLs o] by rw [take_snoc ho, List.map_append]; rfl)
          have hb1 := (Below.refl wq.heap.size wq).alloc (Nat.le_refl _) (.cells #[.int .i64 o.kd, .int .i64 o.wd, .int .i64 o.sl, .int .i64 o.cp, .int .u32 o.st, .slice I o.ini.length ci, .int .i64 o.wr, .slice R o.rd.length cr] 56)
          obtain ⟨W4, hW4⟩ : ∃ x, wq.alloc (.cells #[.int .i64 o.kd, .int .i64 o.wd, .int .i64 o.sl, .int .i64 o.cp, .int .u32 o.st, .slice I o.ini.length ci, .int .i64 o.wr, .slice R o.rd.length cr] 56) = x := ⟨_, rfl⟩
          have hib5 := RowB.new wq #[.int .i64 o.kd, .int .i64 o.wd, .int .i64 o.sl, .int .i64 o.cp, .int .u32 o.st, .slice I o.ini.length ci, .int .i64 o.wr, .slice R o.rd.length cr] 56
          obtain ⟨ib, hib⟩ : ∃ x, wq.heap.size = x := ⟨_, rfl⟩
          rw [hW4] at hb1 hib5
          rw [hib] at hib5
          have k0 : W4.cell? ⟨ib, 0, none⟩ = some (.int .i64 o.kd) := (hib5.cell 0).trans rfl
          have k1 : W4.cell? ⟨ib, 1, none⟩ = some (.int .i64 o.wd) := (hib5.cell 1).trans rfl
          have k2 : W4.cell? ⟨ib, 2, none⟩ = some (.int .i64 o.sl) := (hib5.cell 2).trans rfl
          have k3 : W4.cell? ⟨ib, 3, none⟩ = some (.int .i64 o.cp) := (hib5.cell 3).trans rfl
          have k4 : W4.cell? ⟨ib, 4, none⟩ = some (.int .u32 o.st) := (hib5.cell 4).trans rfl
          have k5 : W4.cell? ⟨ib, 5, none⟩ = some (.slice I o.ini.length ci) := (hib5.cell 5).trans rfl
          have k6 : W4.cell? ⟨ib, 6, none⟩ = some (.int .i64 o.wr) := (hib5.cell 6).trans rfl
          have k7 : W4.cell? ⟨ib, 7, none⟩ = some (.slice R o.rd.length cr) := (hib5.cell 7).trans rfl
          clear hib5
          have hj4 := (HJ.out pre2) wq W4 hj hb1
          have hbw4 := hbw.trans (hb1.mono hbw.size)
          have hln := oline_any o I ci R cr W4 hst (fun z hz => hzz z (by simp at hz ⊢; rcases hz with h | h | h | h | h <;> simp [h])) hbd.1 hbd.2 (hI.below (hb1.mono hbw.size) hbw4.size) (hR.below (hb1.mono hbw.size) hbw4.size) (HT0.out.below hbw4)
          unfold ojV at hln
          have HLN := Lib.hid hln
          have HJ4 := Lib.hid hj4
          have HBW4 := Lib.hid hbw4
          have HFM4 := Lib.hid hfm
          clear hfm hj hbw hb1 hj4 hbw4 hln ho hI hR hst hzz hbd
          gi_wp2_with fail
          refine ⟨trivial, ?_⟩
          refine (callsIn_wide.2 HLN.out).mono ?_
          rintro e w5 ⟨sL, rfl, hls, hll, hb5⟩
          have hj5 := (HJ.out pre2) W4 w5 HJ4.out hb5
          have hmt : mt (sL, objB o) (objLs o) := mt_if hls hll
          have hok : OkI s pre2 (sL, objB o) := ⟨_, _, HFM4.out, hmt, HPO.out⟩
          have HMT5 := Lib.hid hmt
          have HOK5 := Lib.hid hok
          have HBW5 := Lib.hid (HBW4.out.trans (hb5.mono HBW4.out.size))
          clear hmt hok hb5 hls hll g0 g1 g2 g3 g4 g5 g6 g7 k0 k1 k2 k3 k4 k5 k6 k7
          obtain ⟨fn, tmps, assign, body, hy, hR⟩ := HY.out pre2 (sL, objB o) w5 hj5 HOK5.out
          unfold encI at hy
          have HR := Lib.hid hR
          clear hR
          gi_wp2_with fail
          refine HR.out.mono ?_
          rintro e3 W6 (⟨rfl, hJ3, hk3⟩ | ⟨rfl, hJx3⟩)
          · have hf6 := HFM4.out.snoc HMT5.out
            rw [List.append_assoc, ← HTS.out] at hf6
            have HF6 := Lib.hid hf6
            have HB6 : Below w0.heap.size w0 W6 := HBW5.out.trans hk3.2
            have HB6 := Lib.hid HB6
            clear hf6 hk3
            gi_wp2_with fail
            go_roundw
            case rel => exact ⟨j + 1, _, by omega, by go_num, HF6.out, hJ3, HB6.out⟩
            case measure => simp [intOf]; omega
          · gi_wp2_with fail
            refine bodyPost_ret (results_none rfl _ _ _) rfl ?_
            exact ⟨⟨_, rfl⟩, .inr ⟨_, ⟨_, HFM4.out.snoc HMT5.out, HPO.out⟩, hJx3⟩⟩
        · obtain rfl : j = s.os.length := by omega
          rw [List.take_length] at hfm
          have hnl2 : decide (s.os.length < s.os.length) = false := by simp
          have HFM9 := Lib.hid hfm
          have HJ9 := Lib.hid hj
          clear hfm hj hbw
          gi_wp2_with fail
          go_end0
          exact ⟨⟨_, rfl⟩, .inl ⟨_, HFM9.out, HJ9.out⟩⟩

end Go.Proofs.YtfgmebjbibbpdaaDoor

namespace Go.Proofs.YtfgmebjbibbpdaaDoor
open Go.RowKit
theorem InSl.nil (w : World) (B : Nat) (A : Option Addr) : InSl w B A [] := ⟨SlOf.nil, fun e h => by cases h⟩
theorem insTy : ElemTy Tryd.prog 41 47 5 40 := ElemTy.of (z := insV Ins.zero) Tryd.underlying41 (by kernel_rfl) rfl (by omega)

def OwnI (base : Nat) (w : World) (v : Value) (l : List Ins) : Prop := Own insE 47 base w v l ∧ ∀ e ∈ l, e.ok
theorem OwnI.nil (base : Nat) (w : World) : OwnI base w (.slice none 0 0) [] := ⟨Own.nil _ _, fun e h => by cases h⟩
theorem OwnI.sl {base : Nat} {w : World} {v : Value} {l : List Ins} (h : OwnI base w v l) : ∃ A c, v = .slice A l.length c ∧ (l.length ≤ c ∧ c ≤ maxLen) ∧ InSl w w.heap.size A l := by
  obtain ⟨A, c, e, hc, _, hs⟩ := h.1.sl
  exact ⟨A, c, e, hc, hs, h.2⟩
theorem OwnI.below {base B : Nat} {w w' : World} {v : Value} {l : List Ins} (h : OwnI base w v l) (hb : Below B w w') (hB : w.heap.size ≤ B) : OwnI base w' v l := ⟨h.1.below hb hB, h.2⟩
theorem OwnI.snoc {base : Nat} {w w1 : World} {v v' : Value} {l : List Ins} {e : Ins} (h : OwnI base w v l) (he : e.ok) (h2 : w1.ownsRow base 47 insE.size v' (l.length + 1) (insE.all l ++ e.cells)) : OwnI base w1 v' (l ++ [e]) :=
  ⟨Own.app h2 rfl, fun x hx => by
    rcases List.mem_append.1 hx with hx | hx
    · exact h.2 x hx
    · rw [List.mem_singleton.1 hx]; exact he⟩

/-! ### two rows of events -/
end Go.Proofs.YtfgmebjbibbpdaaDoor

namespace Go.Proofs.YtfgmebjbibbpdaaDoor
open Go.RowKit

def textS (l : List Ins) : ByteArray := ⟨(textOf l).toArray⟩
def printS (l : List Ins) : ByteArray := if okAll l = true then textS l else ⟨#[]⟩
theorem okAll_snoc {l : List Ins} {k : Nat} {e : Ins} (h : l[k]? = some e) : okAll (l.take (k + 1)) = (okAll (l.take k) && insB e) := by
  rw [take_snoc h]
  unfold okAll
  rw [List.all_append]
  simp
theorem okAll_no {l : List Ins} {k : Nat} {e : Ins} (h : l[k]? = some e) (he : insB e = false) : okAll l = false := by
  unfold okAll
  rw [List.all_eq_false]
  exact ⟨e, List.mem_of_getElem? h, by rw [he]; simp⟩
theorem textOf_take {l : List Ins} {k : Nat} {e : Ins} (h : l[k]? = some e) : textOf (l.take (k + 1)) = textOf (l.take k) ++ (lineL e ++ [10]) := by rw [take_snoc h, textOf_snoc]
theorem textOf_len (l : List Ins) (h : okAll l = true) (hk : ∀ e ∈ l, e.ok) : (textOf l).length ≤ 64 * l.length := by
  induction l with
  | nil => simp [textOf]
  | cons e l ih =>
    unfold okAll at h ih
    rw [List.all_cons, Bool.and_eq_true] at h
    have h1 := lineL_len h.1 (hk e (by simp))
    have h2 := ih h.2 (fun x hx => hk x (by simp [hx]))
    have : textOf (e :: l) = lineL e ++ [10] ++ textOf l := by simp [textOf]
    rw [this]
    simp only [List.length_append, List.length_cons, List.length_nil]
    omega
theorem lineS_size {e : Ins} (h : insB e = true) (hk : e.ok) : (lineS e).size ≤ 63 := by
  have h1 := lineL_len h hk
  have : (lineS e).size = (lineL e).length := by simp [lineS, ByteArray.size]
  omega

theorem builder_kept {B b : Nat} {bs : List Value} {w w' : World} (h : Lib.IsBuilder 62 5 B b bs w) (hb : Below w.heap.size w w') : Lib.IsBuilder 62 5 B b bs w' := by
  have key : ∀ p, Lib.BuilderAt 62 5 B b p bs w → Lib.BuilderAt 62 5 B b p bs w' := fun p ⟨h1, v, h2, h3, h4⟩ =>
    ⟨h1, v, (hb.block b (Array.getElem?_eq_some_iff.1 h2).1).trans h2, (by
      refine ⟨h3.1, ?_⟩
      rcases h3.2 with h5 | ⟨g, cap, cur, hv, hg, hh, r⟩
      · exact .inl h5
      · exact .inr ⟨g, cap, cur, hv, hg, (hb.block g (Array.getElem?_eq_some_iff.1 hh).1).trans hh, r⟩), h4⟩
  rcases h with h | h
  · exact .inl (key _ h)
  · exact .inr (key _ h)
theorem builder_new (w : World) : Lib.IsBuilder 62 5 w.heap.size w.heap.size [] (w.alloc (.cells #[.pointer none, .slice none 0 0] 62)) :=
  .inl ⟨Nat.le_refl _, .slice none 0 0, heap_alloc_new w _, World.ownsRow_nil _ _ _ _, by simp [Value.ownBlock]⟩
theorem str_bytes (l : List UInt8) (s : ByteArray) : Lib.byteCells l ++ Lib.strCells s = Lib.byteCells (l ++ s.data.toList) := by rw [Lib.byteCells_append]; rfl

end Go.Proofs.YtfgmebjbibbpdaaDoor

namespace Go.Proofs.YtfgmebjbibbpdaaDoor
open Go.RowKit

theorem byte_back {d : Nat} {b : UInt8} (h : d < 10) (hb : UInt8.ofNat (48 + d) = b) (W : World) (a : Addr) (cap : Nat) (hc : W.cell? a = some (.int .u8 (48 + (d : Int)))) :
    (convert 60 9 (.slice (some a) 1 cap)).run Tryd.prog W = .ok (.string ⟨#[b]⟩) W :=
  run_convert_bytes_back W 60 9 5 a cap [b] Tryd.underlying60 Tryd.underlying5 Tryd.underlying9 (fun j hj => by
    have : j = 0 := by simpa using hj
    subst this
    have e : a.add 0 = a := by simp [Addr.add]
    rw [e, hc]
    have : b.toNat = 48 + d := by rw [← hb, UInt8.toNat_ofNat']; omega
    simp [this])
theorem numS_le {u : Nat} (h : u < 18446744073709551616) : (numS u).size ≤ 20 := by
  have h2 : (numS u).size = (Lib.decDigits u).length := rfl
  rw [h2]
  exact dd_len 19 u (by omega)
theorem i64_wrap {x : Int} (h0 : 0 ≤ x) (h : x < 9223372036854775808) : IntKind.i64.wrap x = x := by
  simp [IntKind.wrap, IntKind.signed, IntKind.bits]
  omega

end Go.Proofs.YtfgmebjbibbpdaaDoor

namespace Go.Proofs.YtfgmebjbibbpdaaDoor
open Go.RowKit Go.Shelf
attribute [local go_sem] Oper.semAt_some

/-! ### of no program -/
def optT (o : Option (List UInt8)) : List UInt8 := match o with
  | some l => l ++ [10]
  | none => []
def txtI (p : List Item) : List UInt8 := p.flatMap fun x => x.1.data.toList ++ [10]
def goodI (p : List Item) : Prop := (∀ x ∈ p, x.2 = true) ∧ (txtI p).length ≤ 65536
theorem flatMap_same {α β : Type} {l : List α} {f g : α → List β} (h : ∀ x ∈ l, f x = g x) : l.flatMap f = l.flatMap g := by
  induction l with
  | nil => rfl
  | cons a l ih => rw [List.flatMap_cons, List.flatMap_cons, h a (by simp), ih (fun x hx => h x (by simp [hx]))]
theorem txtI_snoc (p : List Item) (x : Item) : txtI (p ++ [x]) = txtI p ++ (x.1.data.toList ++ [10]) := by simp [txtI]
theorem FM.good {L : List (Option (List UInt8))} : ∀ {p : List Item}, FM L p → (∀ x ∈ p, x.2 = true) → (∀ o ∈ L, o ≠ none) ∧ txtI p = L.flatMap optT := by
  induction L with
  | nil =>
    intro p h _
    cases p with
    | nil => exact ⟨(fun o ho => by cases ho), rfl⟩
    | cons y p => exact h.elim
  | cons a L ih =>
    intro p h hg
    cases p with
    | nil => exact h.elim
    | cons y p =>
      obtain ⟨h1, h2⟩ := ih h.2 (fun x hx => hg x (by simp [hx]))
      cases a with
      | none =>
        have := h.1.2.1 rfl
        rw [hg y (by simp)] at this
        cases this
      | some l =>
        have hy := h.1.2.2 l rfl
        refine ⟨fun o ho => ?_, ?_⟩
        · rcases List.mem_cons.1 ho with rfl | ho
          · exact fun e => by cases e
          · exact h1 o ho
        · have e1 : txtI (y :: p) = (y.1.data.toList ++ [10]) ++ txtI p := by simp [txtI]
          have e2 : (some l :: L).flatMap optT = (l ++ [10]) ++ L.flatMap optT := by simp [optT]
          rw [e1, e2, h2, hy]
theorem FM.all {L : List (Option (List UInt8))} : ∀ {p : List Item}, FM L p → (∀ o ∈ L, o ≠ none) → ∀ x ∈ p, x.2 = true := by
  induction L with
  | nil =>
    intro p h _
    cases p with
    | nil => exact fun x hx => by cases hx
    | cons y p => exact h.elim
  | cons a L ih =>
    intro p h hg
    cases p with
    | nil => exact h.elim
    | cons y p =>
      intro x hx
      rcases List.mem_cons.1 hx with rfl | hx
      · cases a with
        | none => exact absurd rfl (hg none (by simp))
        | some l => rw [h.1.2.2 l rfl]
      · exact ih h.2 (fun o ho => hg o (by simp [ho])) x hx
theorem sysLs_some (s : Sy) : (∀ o ∈ sysLs s, o ≠ none) ↔ sysOk s = true := by
  unfold sysLs sysOk
  rw [Bool.and_eq_true, List.all_eq_true, List.all_eq_true]
  constructor
  · intro h
    refine ⟨fun t ht => ?_, fun o ho => ?_⟩
    · have h1 : ∀ o ∈ taskLs t, o ≠ none := fun o ho => h o (by simp only [List.mem_append, List.mem_flatMap]; exact .inl ⟨t, ht, ho⟩)
      unfold taskOk
      rw [Bool.and_eq_true]
      constructor
      · have := h1 (headLs t) (by simp [taskLs])
        unfold headLs at this
        split at this
        · assumption
        · exact absurd rfl this
      · unfold okAll
        rw [List.all_eq_true]
        intro e he
        have := h1 (if insB e = true then some (lineL e) else none) (by
          unfold taskLs codeLs
          simp only [List.mem_cons, List.mem_append, List.mem_map]
          exact .inr (.inl ⟨e, he, rfl⟩))
        split at this
        · assumption
        · exact absurd rfl this
    · have := h (objLs o) (by simp only [List.mem_append, List.mem_map]; exact .inr ⟨o, ho, rfl⟩)
      unfold objLs at this
      split at this
      · assumption
      · exact absurd rfl this
  · rintro ⟨h1, h2⟩ o ho
    simp only [List.mem_append, List.mem_flatMap, List.mem_map] at ho
    rcases ho with ⟨t, ht, ho⟩ | ⟨u, hu, rfl⟩
    · have h3 := h1 t ht
      unfold taskOk at h3
      rw [Bool.and_eq_true] at h3
      unfold taskLs codeLs at ho
      simp only [List.mem_cons, List.mem_append, List.mem_map, List.not_mem_nil, or_false] at ho
      rcases ho with rfl | ⟨e, he, rfl⟩ | rfl
      · unfold headLs; rw [if_pos h3.1]; simp
      · have h4 := h3.2
        unfold okAll at h4
        rw [if_pos (List.all_eq_true.1 h4 e he)]
        simp
      · simp
    · unfold objLs; rw [if_pos (h2 u hu)]; simp
theorem sysLs_text {s : Sy} (h : sysOk s = true) : (sysLs s).flatMap optT = sysT s := by
  unfold sysOk at h
  rw [Bool.and_eq_true, List.all_eq_true, List.all_eq_true] at h
  obtain ⟨h1, h2⟩ := h
  unfold sysLs sysT
  rw [List.flatMap_append]
  congr 1
  · unfold tasksT
    rw [List.flatMap_assoc]
    refine flatMap_same fun t ht => ?_
    have h3 := h1 t ht
    unfold taskOk at h3
    rw [Bool.and_eq_true] at h3
    have h4 := h3.2
    unfold okAll at h4
    rw [List.all_eq_true] at h4
    unfold taskLs taskT codeLs headLs textOf
    rw [if_pos h3.1]
    simp only [List.flatMap_cons, List.flatMap_append, List.flatMap_map, List.flatMap_nil, optT, List.append_nil]
    congr 2
    refine flatMap_same fun e he => ?_
    rw [if_pos (h4 e he)]
  · unfold objsT
    rw [List.flatMap_map]
    refine flatMap_same fun o ho => ?_
    unfold objLs
    rw [if_pos (h2 o ho)]
    rfl
theorem done_good {s : Sy} {xs : List Item} (h : FM (sysLs s) xs) (hg : goodI xs) : printOk s = true ∧ txtI xs = sysT s := by
  obtain ⟨h1, h2⟩ := h.good hg.1
  have h3 := (sysLs_some s).1 h1
  rw [sysLs_text h3] at h2
  refine ⟨?_, h2⟩
  unfold printOk
  rw [h3, ← h2]
  simpa using hg.2
theorem prefix_flat {α β : Type} {l m : List α} (f : α → List β) (h : l <+: m) : (l.flatMap f).length ≤ (m.flatMap f).length := by
  obtain ⟨r, rfl⟩ := h
  rw [List.flatMap_append, List.length_append]
  omega
theorem stop_bad {s : Sy} {pre : List Item} (h : SpI s pre) (hb : ¬ goodI pre) : printOk s = false := by
  cases hp : printOk s with
  | false => rfl
  | true =>
    exfalso
    unfold printOk at hp
    rw [Bool.and_eq_true, decide_eq_true_iff] at hp
    obtain ⟨L, h1, h2⟩ := h
    have h3 := (sysLs_some s).2 hp.1
    have h4 := h1.all (fun o ho => h3 o (h2.subset ho))
    refine hb ⟨h4, ?_⟩
    rw [(h1.good h4).2]
    have := prefix_flat optT h2
    rw [sysLs_text hp.1] at this
    omega

/-- The text that is printed, or nothing. -/
def printT (s : Sy) : ByteArray := if printOk s = true then ⟨(sysT s).toArray⟩ else ⟨#[]⟩
theorem printT_ok {s : Sy} (h : printOk s = true) : printT s = ⟨(sysT s).toArray⟩ := by unfold printT; rw [if_pos h]
theorem printT_bad {s : Sy} (h : printOk s = false) : printT s = ⟨#[]⟩ := by unfold printT; rw [if_neg (by rw [h]; decide)]

/-! ### walked -/
theorem slines_st (n : Nat) (hn : 1 ≤ n) (s : Sy) (At Ao : Option Addr) (ct co sB : Nat) (w0 w : World) (hw : Below w0.heap.size w0 w)
    (ht : TkSl w0 w0.heap.size At s.ts) (ho : OjSl w0 w0.heap.size Ao s.os) (hcode : ∀ t ∈ s.ts, t.code.length ≤ 100000) (hobj : ∀ o ∈ s.os, o.ini.length ≤ 20000 ∧ o.rd.length ≤ 20000) (hnt : s.ts.length ≤ 100000) (hno : s.os.length ≤ 100000) (hT : Tab w0) (hs : SyB w sB At Ao s.ts.length ct s.os.length co) :
    Seq0 Fence.wide n Tryd.prog 33 #[.pointer (some ⟨sB, 0, none⟩)] encI (KpI w0.heap.size) (FM (sysLs s)) (SpI s) (OkI s) w :=
  fun lb J Jx W hW hJ hJx hY h0 => slines_in n hn lb sB s At Ao ct co J Jx w0 W hJ hJx ht ho hcode hobj hnt hno hT hY ((hW.block sB (Array.getElem?_eq_some_iff.1 hs).1).trans hs) (hw.trans (hW.mono hw.size)) h0
theorem linesOf_any (At Ao : Option Addr) (nt ct no co : Nat) (w : World) :
    Calls Tryd.prog 16 #[.agg #[.slice At nt ct, .slice Ao no co]] w fun e w' => ∃ B, B = w.heap.size ∧ e = .returned (.func (.func 33) #[] #[.pointer (some ⟨B, 0, none⟩)]) ∧ w.alloc (.cells #[.slice At nt ct, .slice Ao no co] 25) = w' := by
  go_enter Tryd.func16, Tryd.ntmps16
  go_wp2_with (first | go_in | fail)
  go_ret
  exact ⟨_, rfl, rfl, rfl⟩
theorem res_print (tmps : Array Value) (w : World) {a b : Addr} {s : ByteArray} {x : Bool} (ha : tmps[2]?.getD undef = .pointer (some a)) (hb : tmps[3]?.getD undef = .pointer (some b)) (hv : w.cell? a = some (.string s)) (hx : w.cell? b = some (.bool x)) :
    (results Tryd.f9 tmps).run Tryd.prog w = .ok (.tuple #[.string s, .bool x]) w := by
  simp [results, ha, hb, hv, hx, go_sem]
theorem belBuilder {B b : Nat} {bs : List Value} : Bel (fun W => Lib.IsBuilder 62 5 B b bs W) := fun _ _ h hb => builder_kept h hb
theorem builder_putO {B b l : Nat} {bs : List Value} {W : World} {o : Obj} (o' : Obj) (h : Lib.IsBuilder 62 5 B b bs W) (hl : W.heap[l]? = some o) (ho : o.isCells = false) : Lib.IsBuilder 62 5 B b bs (W.putObj l o') := by
  have far : ∀ {g : Nat} {cs : Array Value} {t : TypeId} {fr : Nat × Nat}, W.heap[g]? = some (.cells cs t fr) → (W.putObj l o').heap[g]? = some (.cells cs t fr) := fun {g cs t fr} hg => by
    have hne : g ≠ l := fun e => by
      subst e
      rw [hl] at hg
      injection hg with hg
      subst hg
      cases ho
    exact (World.putObj_heap_other hne).trans hg
  have key : ∀ p, Lib.BuilderAt 62 5 B b p bs W → Lib.BuilderAt 62 5 B b p bs (W.putObj l o') := fun p ⟨h1, v, h2, h3, h4⟩ =>
    ⟨h1, v, far h2, (by
      refine ⟨h3.1, ?_⟩
      rcases h3.2 with h5 | ⟨g, cap, cur, hv, hg, hh, r⟩
      · exact .inl h5
      · exact .inr ⟨g, cap, cur, hv, hg, far hh, r⟩), h4⟩
  rcases h with h | h
  · exact .inl (key _ h)
  · exact .inr (key _ h)
set_option maxRecDepth 100000 in
set_option maxHeartbeats 4000000 in
theorem sprint_any (s : Sy) (At Ao : Option Addr) (ct co : Nat) (w : World)
    (ht : TkSl w w.heap.size At s.ts) (ho : OjSl w w.heap.size Ao s.os) (hcode : ∀ t ∈ s.ts, t.code.length ≤ 100000) (hobj : ∀ o ∈ s.os, o.ini.length ≤ 20000 ∧ o.rd.length ≤ 20000) (hnt : s.ts.length ≤ 100000) (hno : s.os.length ≤ 100000) (hT : Tab w) :
    Calls Tryd.prog 9 #[.agg #[.slice At s.ts.length ct, .slice Ao s.os.length co]] w fun e w' => e = .returned (.tuple #[.string (printT s), .bool (printOk s)]) ∧ Below w.heap.size w w' := by
  have hls := fun W hw hs => slines_st (6 - 1) (by omega) s At Ao ct co (w.heap.size + 1 + 1 + 1 + 1) w W hw ht ho hcode hobj hnt hno hT hs
  have HLS := Lib.hid hls
  clear hls ht ho hcode hobj hT
  refine (callsIn_wide (n := 6)).1 ?_
  refine callsIn_of_wp_marks Tryd.func9 rfl trivial ?_ rfl
  simp only [Tryd.ntmps9, List.size_toArray, List.length_cons, List.length_nil, Nat.reduceAdd, Nat.reduceSub, Array.replicate_succ, Array.replicate_zero, List.push_toArray, List.append_toArray, List.nil_append, List.cons_append]
  gi_wp2_with fail
  refine ⟨trivial, ?_⟩
  refine (callsIn_wide.2 (linesOf_any At Ao s.ts.length ct s.os.length co _)).mono ?_
  rintro e W0 ⟨B, hB, rfl, hW0⟩
  gi_wp2_with fail
  clear hB
  have hbox : Boxed W0 (w.heap.size + 1) 9 (.string ⟨#[]⟩) ∧ Boxed W0 (w.heap.size + 1 + 1) 4 (.bool false) ∧ Lib.IsBuilder 62 5 (w.heap.size + 1 + 1 + 1) (w.heap.size + 1 + 1 + 1) [] W0 ∧ SyB W0 (w.heap.size + 1 + 1 + 1 + 1) At Ao s.ts.length ct s.os.length co ∧ Below w.heap.size w W0 ∧ W0.heap.size = w.heap.size + 5 := by
    obtain ⟨w1, hw1⟩ : ∃ x, w.alloc (.cells #[.slice At s.ts.length ct, .slice Ao s.os.length co] 25) = x := ⟨_, rfl⟩
    obtain ⟨w2, hw2⟩ : ∃ x, w1.alloc (.cells #[.string ⟨#[]⟩] 9) = x := ⟨_, rfl⟩
    obtain ⟨w3, hw3⟩ : ∃ x, w2.alloc (.cells #[.bool false] 4) = x := ⟨_, rfl⟩
    obtain ⟨w4, hw4⟩ : ∃ x, w3.alloc (.cells #[.pointer none, .slice none 0 0] 62) = x := ⟨_, rfl⟩
    rw [hw1, hw2, hw3, hw4] at hW0
    have s1 : w1.heap.size = w.heap.size + 1 := by rw [← hw1, World.size_alloc]
    have s2 : w2.heap.size = w.heap.size + 1 + 1 := by rw [← hw2, World.size_alloc, s1]
    have s3 : w3.heap.size = w.heap.size + 1 + 1 + 1 := by rw [← hw3, World.size_alloc, s2]
    have s4 : w4.heap.size = w.heap.size + 1 + 1 + 1 + 1 := by rw [← hw4, World.size_alloc, s3]
    have s5 : W0.heap.size = w.heap.size + 5 := by rw [← hW0, World.size_alloc, s4]
    have x2 := box_new hw2 s1
    have x3 := box_new hw3 s2
    have x4 := builder_new w3
    rw [hw4, s3] at x4
    have hb5 : Below w4.heap.size w4 W0 := by rw [← hW0]; exact (Below.refl _ _).alloc (Nat.le_refl _) _
    refine ⟨box_al (box_al (box_al x2.1 hw3) hw4) hW0, box_al (box_al x3.1 hw4) hW0, builder_kept x4 hb5, ?_, ?_, s5⟩
    · have := heap_alloc_new w4 (.cells #[.slice At s.ts.length ct, .slice Ao s.os.length co] 25)
      rw [hW0, s4] at this
      exact this
    · exact below_al (below_al (below_al (below_al (below_al (Below.refl w.heap.size w) (Nat.le_refl _) hw1) (by omega) hw2) (by omega) hw3) (by omega) hw4) (by omega) hW0
  obtain ⟨y1, y2, y3, y4, hb0, hsz⟩ := hbox
  clear hW0
  refine wpIn_rangeFunc_0 rfl (by omega) (gf := 33) (lb := #[.pointer (some ⟨w.heap.size + 1 + 1 + 1 + 1, 0, none⟩)]) rfl trivial (enters_of Tryd.func33 (by kernel_rfl) rfl)
    (fun _ => rfl) (HLS.out W0 hb0 y4) (fun h k => ⟨h.1.trans k.1, h.2.trans k.2⟩) (fun W l o o' hl hlo hoc => ⟨KeepC.put' o' hlo hoc, below_putO (H := w.heap.size) o' (by omega) hlo⟩) (Below.refl _ _)
    (fun pre W => (Boxed W (w.heap.size + 1) 9 (.string ⟨#[]⟩) ∧ Boxed W (w.heap.size + 1 + 1) 4 (.bool false)) ∧ (Lib.IsBuilder 62 5 (w.heap.size + 1 + 1 + 1) (w.heap.size + 1 + 1 + 1) (Lib.byteCells (txtI pre)) W ∧ goodI pre) ∧ (Below w.heap.size w W ∧ w.heap.size + 5 ≤ W.heap.size))
    (fun c pre W => (Boxed W (w.heap.size + 1) 9 (.string ⟨#[]⟩) ∧ Boxed W (w.heap.size + 1 + 1) 4 (.bool false)) ∧ ¬ goodI pre ∧ Below w.heap.size w W ∧ c = .ret)
    ?_ ?_ ?_ ?_ ⟨⟨y1, y2⟩, ⟨y3, (fun x hx => by cases hx), by simp [txtI]⟩, hb0, by omega⟩
    (fun x => { tmps := #[.agg #[.slice At s.ts.length ct, .slice Ao s.os.length co], .pointer (some ⟨w.heap.size, 0, none⟩), .pointer (some ⟨w.heap.size + 1, 0, none⟩), .pointer (some ⟨w.heap.size + 1 + 1, 0, none⟩), .pointer (some ⟨w.heap.size + 1 + 1 + 1, 0, none⟩), .string x.1, .bool x.2, .agg #[.slice At s.ts.length ct, .slice Ao s.os.length co], .func (.func 33) #[] #[.pointer (some ⟨w.heap.size + 1 + 1 + 1 + 1, 0, none⟩)], .string x.1, .bool x.2, undef, undef, undef, undef, undef, undef, undef, undef, undef, undef], defers := [] })
    ?assign ?body ?done ?stop
  · exact fun pre => ((Bel.at _ _).and (Bel.at _ _)).and ((belBuilder.and (Bel.const _)).and ((Bel.below (Nat.le_refl _)).and (Bel.size _)))
  · exact fun c pre => ((Bel.at _ _).and (Bel.at _ _)).and ((Bel.const _).and ((Bel.below (Nat.le_refl _)).and (Bel.const _)))
  · rintro pre W l o o' ⟨⟨r1, r2⟩, ⟨hbl, hg⟩, hbw, hNW⟩ hl ho hc
    have hbp := below_putO (H := w.heap.size) o' (by omega) ho
    exact ⟨⟨box_putO o' r1 ho hc, box_putO o' r2 ho hc⟩, ⟨builder_putO o' hbl ho hc, hg⟩, hbw.trans hbp, Nat.le_trans hNW hbp.size⟩
  · rintro c pre W l o o' ⟨⟨r1, r2⟩, hg, hbw, hr⟩ hl ho hc
    have hbp := below_putO (H := w.heap.size) o' (by omega) ho
    exact ⟨⟨box_putO o' r1 ho hc, box_putO o' r2 ho hc⟩, hg, hbw.trans hbp, hr⟩
  case assign =>
    intro l x W K hK
    unfold encI
    gi_wp2
    exact hK
  case body =>
    rintro lb pre ⟨xs, xo⟩ W ⟨⟨r1, r2⟩, ⟨hbl, hgood⟩, hbw, hNW⟩ hok
    obtain ⟨L, o, hfm, hmt, hpf⟩ := hok
    have hxs : xs.size ≤ 1000000 := hmt.1
    have z2 : ¬ 9223372036854775807 < xs.size + 1 := by omega
    have z3 : ¬ 9223372036854775807 ≤ xs.size := by omega
    have hDn : (xs ++ (⟨#[10]⟩ : ByteArray)).size = xs.size + 1 := by rw [ByteArray.size_append]; rfl
    have hwr := write_keep (w.heap.size + 1 + 1 + 1) (w.heap.size + 1 + 1 + 1) (Lib.byteCells (txtI pre)) (xs ++ ⟨#[10]⟩) W hbl (by rw [Lib.byteCells_length, hDn]; have := hgood.2; omega) (by omega)
    rw [str_bytes, show (xs ++ (⟨#[10]⟩ : ByteArray)).data.toList = xs.data.toList ++ [10] by simp, ← txtI_snoc pre (xs, xo)] at hwr
    have hwr' := Lib.hid hwr
    have hgd := Lib.hid hgood
    clear hwr hbl hgood hfm hmt hpf
    gi_wp2_with fail
    refine ⟨trivial, ?_⟩
    refine (CallsIn.inRound lb (callsIn_wide.2 hwr'.out)).mono ?_
    rintro e1 W1 ⟨rfl, hbl1, hb1, hk1⟩
    have r1' : Boxed W1 (w.heap.size + 1) 9 (.string ⟨#[]⟩) := hk1.c.2 _ _ _ _ r1 (by decide) (by decide)
    have r2' : Boxed W1 (w.heap.size + 1 + 1) 4 (.bool false) := hk1.c.2 _ _ _ _ r2 (by decide) (by decide)
    have hbw1 := hbw.trans (hb1.mono (show w.heap.size ≤ w.heap.size + 1 + 1 + 1 by omega))
    have HK1 := Lib.hid hk1
    have HBW1 := Lib.hid hbw1
    have HBL1 := Lib.hid hbl1
    have hs1 := hk1.1
    have hb1' := Lib.hid (hb1.mono (show w.heap.size ≤ w.heap.size + 1 + 1 + 1 by omega))
    clear hk1 hbw1 hbl1 hb1 r1 r2
    cases xo with
    | false =>
      have g1 := r1'.cell
      have g2 := r2'.cell
      have f1 := r1'.frozen
      have f2 := r2'.frozen
      have hng := Lib.hid (show ¬ goodI (pre ++ [(xs, false)]) from fun h => by have := h.1 (xs, false) (by simp); cases this)
      gi_wp2_with fail
      refine ⟨trivial, ?_⟩
      gi_wp2_with fail
      have k1 := (r1'.set (.string ⟨#[]⟩)).other (B' := w.heap.size + 1 + 1) (by omega) (.bool false)
      have k2 := (r2'.other (B' := w.heap.size + 1) (by omega) (.string ⟨#[]⟩)).set (.bool false)
      exact ⟨(HK1.out.from _).trans (((KeepsOthers.setCell _ _ _).trans (KeepsOthers.setCell _ _ _)).from _), ⟨k1, k2⟩, hng.out, (HBW1.out.setCell (p := ⟨w.heap.size + 1, 0, none⟩) (by simp) _).setCell (p := ⟨w.heap.size + 1 + 1, 0, none⟩) (by simp; omega) _, rfl⟩
    | true =>
      have hle := Tryd.Builder_Len _ _ _ W1 HBL1.out
      rw [Lib.byteCells_length] at hle
      have hle' := Lib.hid hle
      clear hle
      gi_wp2_with fail
      refine ⟨trivial, ?_⟩
      refine (CallsIn.inRound lb (callsIn_wide.2 hle'.out)).mono ?_
      rintro e2 W2 ⟨rfl, rfl⟩
      by_cases hbig : 65536 < (txtI (pre ++ [(xs, true)])).length
      · have t1 : decide ((65536 : Int) < ((txtI (pre ++ [(xs, true)])).length : Int)) = true := by rw [decide_eq_true_iff]; omega
        have t2 : decide (65536 < (txtI (pre ++ [(xs, true)])).length) = true := by rw [decide_eq_true_iff]; omega
        have g1 := r1'.cell
        have g2 := r2'.cell
        have f1 := r1'.frozen
        have f2 := r2'.frozen
        have hng := Lib.hid (show ¬ goodI (pre ++ [(xs, true)]) from fun h => by have := h.2; omega)
        gi_wp2_with fail
        have k1 := (r1'.set (.string ⟨#[]⟩)).other (B' := w.heap.size + 1 + 1) (by omega) (.bool false)
        have k2 := (r2'.other (B' := w.heap.size + 1) (by omega) (.string ⟨#[]⟩)).set (.bool false)
        exact ⟨(HK1.out.from _).trans (((KeepsOthers.setCell _ _ _).trans (KeepsOthers.setCell _ _ _)).from _), ⟨k1, k2⟩, hng.out, (HBW1.out.setCell (p := ⟨w.heap.size + 1, 0, none⟩) (by simp) _).setCell (p := ⟨w.heap.size + 1 + 1, 0, none⟩) (by simp; omega) _, rfl⟩
      · have t1 : decide ((65536 : Int) < ((txtI (pre ++ [(xs, true)])).length : Int)) = false := by rw [decide_eq_false_iff_not]; omega
        have t2 : decide (65536 < (txtI (pre ++ [(xs, true)])).length) = false := by rw [decide_eq_false_iff_not]; omega
        have hg2 := Lib.hid (show goodI (pre ++ [(xs, true)]) from ⟨fun x hx => by
          rcases List.mem_append.1 hx with h | h
          · exact hgd.out.1 x h
          · rw [List.mem_singleton.1 h], by omega⟩)
        clear hbig
        gi_wp2_with fail
        exact ⟨HK1.out.from _, ⟨HK1.out.c, hb1'.out⟩, ⟨r1', r2'⟩, ⟨HBL1.out, hg2.out⟩, HBW1.out, Nat.le_trans hNW hs1⟩
  case done =>
    rintro D ys W hD hfm ⟨⟨r1, r2⟩, ⟨hbl, hgood⟩, hbw, hNW⟩ hK
    obtain ⟨hp1, hp2⟩ := done_good hfm hgood
    have HP1 := Lib.hid hp1
    have HP2 := Lib.hid hp2
    have hst := Tryd.Builder_String_any_k _ _ (txtI ys) W (Lib.IsBuilderF.of hbl) (by omega)
    have HST := Lib.hid hst
    have HBW := Lib.hid hbw
    clear hst hbl hgood hfm hp1 hp2 hbw
    gi_wp2_with fail
    refine ⟨trivial, ?_⟩
    refine (callsIn_wide.2 HST.out).mono ?_
    rintro e2 W2 ⟨rfl, -, hb2, ho2⟩
    have q1 : Boxed W2 (w.heap.size + 1) 9 (.string ⟨#[]⟩) := ho2 _ _ r1 (by intro e; injection e with e; omega) (by intro c fz e; injection e with e1 e2 e3; exact absurd e2 (by decide))
    have q2 : Boxed W2 (w.heap.size + 1 + 1) 4 (.bool false) := ho2 _ _ r2 (by intro e; injection e with e; omega) (by intro c fz e; injection e with e1 e2 e3; exact absurd e2 (by decide))
    have hK2 := ho2 _ _ hK (by intro e; injection e with e; omega) (by intro c fz e; cases e)
    clear hK r1 r2 ho2
    have HB2 := Lib.hid (HBW.out.trans (hb2.mono (show w.heap.size ≤ w.heap.size + 1 + 1 + 1 by omega)))
    have hs2 := hb2.size
    clear hb2
    have g1 := q1.cell
    have g2 := q2.cell
    have f1 := q1.frozen
    have f2 := q2.frozen
    gi_wp2_with fail
    have hK3 := (((KeepsOthers.setCell W2 ⟨w.heap.size + 1, 0, none⟩ (.string ⟨(txtI ys).toArray⟩)).trans (KeepsOthers.setCell _ ⟨w.heap.size + 1 + 1, 0, none⟩ (.bool true))).from 0).2 _ _ (Nat.zero_le _) hK2 rfl
    have k1 := (q1.set (.string ⟨(txtI ys).toArray⟩)).other (B' := w.heap.size + 1 + 1) (by omega) (.bool true)
    have k2 := (q2.other (B' := w.heap.size + 1) (by omega) (.string ⟨(txtI ys).toArray⟩)).set (.bool true)
    have hbw3 := (HB2.out.setCell (p := ⟨w.heap.size + 1, 0, none⟩) (by simp) (.string ⟨(txtI ys).toArray⟩)).setCell (p := ⟨w.heap.size + 1 + 1, 0, none⟩) (by simp; omega) (.bool true)
    have hbp := below_putO (H := w.heap.size) (.deferred none) (by omega) hK3
    refine ⟨by simp, .inl ⟨_, _, rfl, run_takeDeferred hK3, ?_⟩⟩
    exact ⟨_, res_print _ _ rfl rfl (box_putO (.deferred none) k1 hK3 rfl).cell (box_putO (.deferred none) k2 hK3 rfl).cell, by rw [printT_ok HP1.out, HP1.out, HP2.out], hbw3.trans hbp⟩
  case stop =>
    rintro D c pre W hD hsp ⟨⟨r1, r2⟩, hng, hbw, rfl⟩ hK
    have g1 := r1.cell
    have g2 := r2.cell
    have HP := Lib.hid (stop_bad hsp hng)
    have hbp := below_putO (H := w.heap.size) (.deferred none) (by omega) hK
    clear hng hsp
    gi_wp2_with fail
    refine ⟨by simp, .inl ⟨_, _, rfl, run_takeDeferred hK, ?_⟩⟩
    exact ⟨_, res_print _ _ rfl rfl (box_putO (.deferred none) r1 hK rfl).cell (box_putO (.deferred none) r2 hK rfl).cell, by rw [HP.out, printT_bad HP.out], hbw.trans hbp⟩

end Go.Proofs.YtfgmebjbibbpdaaDoor

namespace Go.Proofs.YtfgmebjbibbpdaaDoor
open Go.RowKit

def digN (l : List UInt8) : Option Nat := if l.all digB = true ∧ l.length ≤ 14 then some (dv l) else none
def digNV (l : List UInt8) : Int := match digN l with
  | some n => n
  | none => -9
theorem digNV_yes {l : List UInt8} (h : l.all digB = true) (h2 : l.length ≤ 14) : digNV l = dv l := by unfold digNV digN; rw [if_pos ⟨h, h2⟩]
theorem digNV_no {l : List UInt8} (h : ¬(l.all digB = true ∧ l.length ≤ 14)) : digNV l = -9 := by unfold digNV digN; rw [if_neg h]
theorem all_no {l : List UInt8} {k : Nat} {x : UInt8} (hx : l[k]? = some x) (hd : digB x = false) : ¬ l.all digB = true := fun h => by
  have := List.all_eq_true.1 h x (List.mem_of_getElem? hx)
  rw [hd] at this
  cases this

end Go.Proofs.YtfgmebjbibbpdaaDoor

namespace Go.Proofs.YtfgmebjbibbpdaaDoor
open Go.RowKit

def toB (l : List (List UInt8)) : List ByteArray := l.map fun p => ⟨p.toArray⟩
theorem toB_snoc (l : List (List UInt8)) (x : List UInt8) (b : ByteArray) (h : b.data.toList = x) : toB l ++ [b] = toB (l ++ [x]) := by
  unfold toB
  rw [List.map_append, ← h]
  rfl
theorem toB_len (l : List (List UInt8)) : (toB l).length = l.length := by simp [toB]
theorem ext_data (s : ByteArray) (a b : Nat) (_h : a ≤ b) : (s.extract a b).data.toList = (s.data.toList.drop a).take (b - a) := by
  rw [ByteArray.data_extract, Array.toList_extract, List.extract_eq_take_drop]

end Go.Proofs.YtfgmebjbibbpdaaDoor

namespace Go.Proofs.YtfgmebjbibbpdaaDoor
open Go.RowKit Go.Shelf
attribute [local go_sem] Oper.semAt_some

theorem numG_no {l : List UInt8} (h : ¬ (l.all digB = true ∧ l ≠ [] ∧ l.length ≤ 13)) : numG l = -1 := by unfold numG; rw [if_neg h]
theorem numG_yes {l : List UInt8} (h : l.all digB = true ∧ l ≠ [] ∧ l.length ≤ 13) : numG l = dv l := by unfold numG; rw [if_pos h]
theorem digNV_R (l : List UInt8) : digNV l = numR l := by
  by_cases h : l.all digB = true ∧ l.length ≤ 14
  · rw [digNV_yes h.1 h.2]; unfold numR; rw [if_pos h]
  · rw [digNV_no h]; unfold numR; rw [if_neg h]
set_option maxRecDepth 100000 in
set_option maxHeartbeats 1000000 in
theorem snumber_any (s : ByteArray) (w : World) :
    Calls Tryd.prog 45 #[.string s] w fun e w' => e = .returned (.int .i64 (numG s.data.toList)) ∧ Below w.heap.size w w' := by
  obtain ⟨l, hl⟩ : ∃ l, s.data.toList = l := ⟨_, rfl⟩
  have hlen : l.length = s.size := by rw [← hl]; exact Array.length_toList
  rw [hl]
  by_cases z : s.size = 0
  · have hn : numG l = -1 := numG_no (fun h => h.2.1 (List.eq_nil_of_length_eq_zero (by omega)))
    have t1 : ((s.size : Int) == 0) = true := by simp [z]
    have hn' := Lib.hid hn
    clear hn hl hlen
    go_enter Tryd.func45, Tryd.ntmps45
    go_wp2_with fail
    go_ret
    exact ⟨by rw [hn'.out]; rfl, Below.refl _ _⟩
  · have t1 : ((s.size : Int) == 0) = false := by rw [beq_eq_false_iff_ne]; omega
    by_cases z10 : 13 < s.size
    · have hn : numG l = -1 := numG_no (fun h => by have := h.2.2; omega)
      have t2 : decide ((13 : Int) < (s.size : Int)) = true := by rw [decide_eq_true_iff]; omega
      have hn' := Lib.hid hn
      clear hn hl hlen z z10
      go_enter Tryd.func45, Tryd.ntmps45
      go_wp2_with fail
      go_ret
      exact ⟨by rw [hn'.out]; rfl, Below.refl _ _⟩
    · have t2 : decide ((13 : Int) < (s.size : Int)) = false := by rw [decide_eq_false_iff_not]; omega
      have hcv := fun w => Lib.run_convert_string_bytes (P := Tryd.prog) w 9 60 5 s (u := .string) Tryd.underlying9 Tryd.underlying60 Tryd.underlying5
      have hcell : ∀ t, t < s.size → (Lib.bytesWorld w 5 s).cell? ⟨w.heap.size, t, none⟩ = some (.int .u8 (l.getD t 0).toNat) := fun t ht => by
        rw [← hl]; exact Lib.bytesWorld_cell w 5 s t ht
      have hbw : Below w.heap.size w (Lib.bytesWorld w 5 s) := Lib.bytesWorld_below w 5 s
      have hcell' := Lib.hid hcell
      have hcv' := Lib.hid hcv
      have hlen' := Lib.hid hlen
      clear hcell hcv hl hlen
      go_enter Tryd.func45, Tryd.ntmps45
      go_wp2_with fail
      rw [hcv'.out]
      simp only [Result.andThen]
      rw [Oper.upon_value]
      obtain ⟨W1, hW1⟩ : ∃ W1, W1 = Lib.bytesWorld w 5 s := ⟨_, rfl⟩
      rw [← hW1] at hcell' hbw ⊢
      have hws : W1.heap.size = w.heap.size + 1 := by rw [hW1]; exact Lib.bytesWorld_size w 5 s
      clear hW1
      go_wp2_with fail
      go_loopw [3, 17] (fun m j wr => ∃ k : Nat, k ≤ s.size ∧ j = .int .i64 k ∧ m = .int .i64 ((dv (l.take k) : Nat) : Int) ∧ (l.take k).all digB = true ∧ Below W1.heap.size W1 wr)
        (fun _ j _ => s.size - (intOf j).toNat)
      case atStart => exact ⟨0, Nat.zero_le _, rfl, by simp [dv], by simp, Below.refl _ _⟩
      case round =>
        obtain ⟨k, hk, rfl, rfl, hall, hbr⟩ := hrel
        have hmx := dv_lt hall
        have hp10 : (10 : Nat) ^ (l.take k).length ≤ 10 ^ 13 := Nat.pow_le_pow_right (by omega) (by rw [List.length_take]; omega)
        have hm10 : dv (l.take k) < 10000000000000 := by omega
        clear hmx hp10
        by_cases hlt : k < s.size
        · obtain ⟨x, hx⟩ := get_some (show k < l.length by rw [hlen'.out]; exact hlt)
          have hcx : wr.cell? ⟨w.heap.size, k, none⟩ = some (.int .u8 (x.toNat : Int)) := by
            rw [hbr.cell (p := ⟨w.heap.size, k, none⟩) (by rw [hws]; exact Nat.lt_succ_self _), hcell'.out k hlt, List.getD_eq_getElem?_getD, hx]
            rfl
          have hxt : x.toNat < 256 := UInt8.toNat_lt x
          have hstep := Lib.hid (take_snoc hx)
          have hx' := Lib.hid hx
          have hall' := Lib.hid hall
          clear hx hall
          by_cases hd : 48 ≤ x.toNat ∧ x.toNat ≤ 57
          · obtain ⟨hd1, hd2⟩ := hd
            have d1 : decide ((x.toNat : Int) < 48) = false := by rw [decide_eq_false_iff_not]; omega
            have d2 : decide ((57 : Int) < (x.toNat : Int)) = false := by rw [decide_eq_false_iff_not]; omega
            go_wp2_with fail
            go_roundw
            case rel => exact ⟨k + 1, by omega, by go_num, congrArg (Value.int .i64) (by rw [hstep.out, dv_snoc]; omega), by rw [hstep.out, List.all_append, hall'.out]; simp [digB, hd1, hd2], hbr⟩
            case measure => simp [intOf]; omega
          · have hnf' := Lib.hid (numG_no (l := l) (fun h => by
              have h1 := List.all_eq_true.1 h.1 x (List.mem_of_getElem? hx'.out)
              unfold digB at h1
              simp only [Bool.and_eq_true, decide_eq_true_eq] at h1
              exact hd h1))
            rcases d1 : decide ((x.toNat : Int) < 48) with _ | _
            · have d2 : decide ((57 : Int) < (x.toNat : Int)) = true := by
                have := of_decide_eq_false d1
                rw [decide_eq_true_iff]; omega
              go_wp2_with fail
              go_ret
              exact ⟨by rw [hnf'.out]; rfl, hbw.trans (hbr.mono (by omega))⟩
            · go_wp2_with fail
              go_ret
              exact ⟨by rw [hnf'.out]; rfl, hbw.trans (hbr.mono (by omega))⟩
        · have ht : l.take k = l := take_all (by rw [hlen'.out]; exact hlt)
          rw [ht] at hall hm10 ⊢
          have hnum' := Lib.hid (numG_yes (l := l) ⟨hall, (fun e => by rw [e] at hlen'; have := hlen'.out; simp at this; omega), by rw [hlen'.out]; omega⟩)
          clear hall ht
          go_wp2_with fail
          go_ret
          exact ⟨by rw [hnum'.out]; rfl, hbw.trans (hbr.mono (by omega))⟩

theorem intTy : ElemTy Tryd.prog 54 3 1 8 := ElemTy.of (z := .int .i64 0) Tryd.underlying54 (by kernel_rfl) rfl (by omega)
set_option maxRecDepth 100000 in
set_option maxHeartbeats 2000000 in
theorem snumbers_any (A : Option Addr) (c : Nat) (ps : List (List UInt8)) (w : World) (hn : ps.length ≤ 1000000) (hp : ∀ p ∈ ps, p.length ≤ 1000000) (hl : SlOf strs w w.heap.size A (toB ps)) :
    Calls Tryd.prog 26 #[.slice A ps.length c] w fun e w' => ∃ v, e = .returned v ∧ Own (ints .i64) 3 w.heap.size w' v (ps.map numG) ∧ Below w.heap.size w w' := by
  go_enter Tryd.func26, Tryd.ntmps26
  go_wp2_with fail
  go_loopw [3, 8] (fun v j wr => ∃ k : Nat, k ≤ ps.length ∧ j = .int .i64 k ∧ Own (ints .i64) 3 w.heap.size wr v ((ps.take k).map numG) ∧ Below w.heap.size w wr) (fun _ j _ => ps.length - (intOf j).toNat)
  case atStart => exact ⟨0, Nat.zero_le _, rfl, Own.nil _ _, Below.refl _ _⟩
  case round =>
    obtain ⟨k, hk, rfl, hown, hb⟩ := hrel
    by_cases hlt : k < ps.length
    · obtain ⟨x, hx⟩ := get_some hlt
      have hx2 : (toB ps)[k]? = some ⟨x.toArray⟩ := by unfold toB; rw [List.getElem?_map, hx]; rfl
      obtain ⟨b, off, rfl, hlb, hc⟩ := hl k _ hx2
      have hc' : wr.cell? ⟨b, off + k, none⟩ = some (.string ⟨x.toArray⟩) := (hb.cell (p := ⟨b, off + k, none⟩) hlb).trans (by have := hc 0 (.string ⟨x.toArray⟩) rfl; simpa [strs, Enc.of1] using this)
      have hxl := hp x (List.mem_of_getElem? hx)
      have hnm := fun W => snumber_any ⟨x.toArray⟩ W
      have hts := Lib.hid (show (ps.take (k + 1)).map numG = (ps.take k).map numG ++ [numG x] by rw [take_snoc hx, List.map_append]; rfl)
      have hlen := Lib.hid (show ((ps.take k).map numG).length = k by simp; omega)
      have HN := Lib.hid hnm
      have HO := Lib.hid hown
      have hbs := hb.size
      clear hx hx2 hc hnm hown hxl
      go_wp2_with fail
      refine (HN.out _).mono ?_
      rintro e w1 ⟨rfl, hb1⟩
      have hown1 := Lib.hid (Own.below HO.out hb1 (Nat.le_refl _))
      have hB1 := hb.trans (hb1.mono hbs)
      have hbs1 := hb1.size
      go_wp2_with (first
        | (at_builtin; refine wpList_app1 rfl _ _ 54 rfl intTy w.heap.size hown1.out rfl rfl rfl rfl (by rw [hlen.out]; unfold maxLen; omega) (by rw [hlen.out]; omega) (by omega) ?_; intro v' w2 hown2 hbel2 _)
        | fail)
      go_roundw
      case rel => exact ⟨k + 1, by omega, by go_num, by rw [hts.out]; exact Own.app hown2 (by rfl), hB1.trans hbel2⟩
      case measure => simp [intOf]; omega
    · have ht := take_all hlt
      rw [ht] at hown
      have HO := Lib.hid hown
      clear hown ht
      go_wp2_with fail
      go_ret
      exact ⟨_, rfl, HO.out, hb⟩
end Go.Proofs.YtfgmebjbibbpdaaDoor

namespace Go.Proofs.YtfgmebjbibbpdaaDoor
open Go.RowKit

theorem splitK_ne (c b : UInt8) (l : List UInt8) (h : b ≠ c) (k : Nat) : Lib.splitK [c] 0 k (b :: l) = (b :: (Lib.splitK [c] 0 k l).headD []) :: (Lib.splitK [c] 0 k l).tail := by
  cases k with
  | zero => rfl
  | succ k =>
    have hp : ([c] : List UInt8).isPrefixOf (b :: l) = false := by
      simp [List.isPrefixOf]
      exact fun e => h e.symm
    have hidx : Lib.index (b :: l) [c] = if Lib.index l [c] == -1 then -1 else Lib.index l [c] + 1 := by
      rw [Lib.index, hp]
      rfl
    unfold Lib.splitK
    rw [hidx]
    by_cases hi : Lib.index l [c] = -1
    · rw [hi]
      rfl
    · have h1 : ¬ (Lib.index l [c] == -1) = true := fun e => hi (beq_iff_eq.1 e)
      have h0 : 0 ≤ Lib.index l [c] := by
        have := Lib.index_ge l [c]
        omega
      have h2 : ¬ (Lib.index l [c] + 1 == -1) = true := fun e => by have := beq_iff_eq.1 e; omega
      have e2 : (Lib.index l [c] + 1).toNat = (Lib.index l [c]).toNat + 1 := by omega
      rw [if_neg h1, if_neg h2, if_neg h1, e2]
      simp
theorem split_pcs (c : UInt8) (l : List UInt8) : Lib.split l [c] = pcs c l := by
  unfold Lib.split
  rw [Lib.count_one]
  induction l with
  | nil => rfl
  | cons b l ih =>
    unfold pcs
    by_cases h : b = c
    · subst h
      rw [if_pos rfl, List.count_cons_self]
      have hp : ([b] : List UInt8).isPrefixOf (b :: l) = true := by simp [List.isPrefixOf]
      have hi : Lib.index (b :: l) [b] = 0 := by unfold Lib.index; rw [hp, if_pos rfl]
      unfold Lib.splitK
      rw [hi, if_neg (by decide), ← ih]
      simp
    · rw [if_neg h, List.count_cons_of_ne h, splitK_ne c b l h, ih]
theorem split_cells (c : UInt8) (s : ByteArray) : Lib.splitB ⟨#[c]⟩ 0 (Lib.countB s ⟨#[c]⟩) s = (pcs c s.data.toList).map fun p => ⟨p.toArray⟩ := by
  have h := Lib.splitB_data ⟨#[c]⟩ 0 (Lib.countB s ⟨#[c]⟩) s
  have e : Lib.countB s ⟨#[c]⟩ = Lib.count s.data.toList [c] := rfl
  rw [← split_pcs, Lib.split, ← e]
  have h2 : (Lib.splitK [c] 0 (Lib.countB s ⟨#[c]⟩) s.data.toList) = (Lib.splitB ⟨#[c]⟩ 0 (Lib.countB s ⟨#[c]⟩) s).map (·.data.toList) := h.symm
  rw [h2, List.map_map]
  conv => lhs; rw [← List.map_id (Lib.splitB ⟨#[c]⟩ 0 (Lib.countB s ⟨#[c]⟩) s)]
  refine List.map_congr_left fun x _ => ?_
  rfl

end Go.Proofs.YtfgmebjbibbpdaaDoor

namespace Go.Proofs.YtfgmebjbibbpdaaDoor
open Go.RowKit Go.Lib

def Mx (w : World) : Prop := ∃ m, w.cell? ⟨0, 0, none⟩ = some (.int .i64 m)
theorem Mx.below {w w' : World} (h : Mx w) (hb : Below w.heap.size w w') : Mx w' := by
  obtain ⟨m, hm⟩ := h
  exact ⟨m, (hb.cell (p := ⟨0, 0, none⟩) (cell_lt hm)).trans hm⟩
theorem split_any (s : ByteArray) (c : UInt8) (w : World) (hM : Mx w) (hs : s.size ≤ 1000000) :
    Calls Tryd.prog 24 #[.string s, .string ⟨#[c]⟩] w fun e w' => e = .returned (.slice (some ⟨w.heap.size, 0, none⟩) (pcs c s.data.toList).length (pcs c s.data.toList).length) ∧
      (∀ (j : Nat) x, (pcs c s.data.toList)[j]? = some x → w'.cell? ⟨w.heap.size, j, none⟩ = some (.string ⟨x.toArray⟩)) ∧ Below w.heap.size w w' := by
  obtain ⟨m, hm⟩ := hM
  have hc : (pcs c s.data.toList).length = Lib.countB s ⟨#[c]⟩ + 1 := by
    have := Lib.splitB_all ⟨#[c]⟩ (Nat.le_refl 1) 0 _ s rfl
    rw [split_cells, List.length_map] at this
    exact this
  refine (Tryd.strings_Split s ⟨#[c]⟩ m w (by omega) hm (Nat.le_refl 1)).mono ?_
  rintro e w' ⟨rfl, rfl⟩
  refine ⟨by rw [hc], fun j x hx => ?_, (Below.refl _ w).alloc (Nat.le_refl _) _⟩
  have h1 := cells_new w ((Lib.splitB ⟨#[c]⟩ 0 (Lib.countB s ⟨#[c]⟩) s).map Value.string).toArray 9 j
  rw [Addr.add_lit, Nat.zero_add] at h1
  rw [h1, split_cells, List.getElem?_toArray, List.getElem?_map, List.getElem?_map, hx]
  rfl
theorem index_any (b n : Nat) (zs : List ByteArray) (x : ByteArray) (w : World) (hn : n = zs.length) (hbig : zs.length ≤ 1000000) (hc : ∀ (j : Nat) z, zs[j]? = some z → w.cell? ⟨b, j, none⟩ = some (.string z)) :
    Calls Tryd.prog 27 #[.slice (some ⟨b, 0, none⟩) n n, .string x] w fun e w' => e = .returned (.int .i64 (Lib.idxOfS zs x)) ∧ w' = w := by
  subst hn
  have h := Tryd.slices_Index_string b 0 zs.length zs.length zs x w (Nat.le_refl _) (by omega) (fun j hj => by
    rw [Nat.zero_add]
    exact hc j _ (by rw [List.getD_eq_getElem?_getD, List.getElem?_eq_getElem hj]; rfl))
  rw [List.take_length] at h
  exact h

end Go.Proofs.YtfgmebjbibbpdaaDoor
