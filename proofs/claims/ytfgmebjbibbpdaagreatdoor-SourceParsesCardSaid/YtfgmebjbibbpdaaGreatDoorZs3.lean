/- Texts joined: Sources: a line's text. Layer 20: kinds and their words. A law of my own for a range over a function whose iterator keeps a state of its own in one captured cell (strings.SplitSeq, strings.Lines): what is carried through the rounds must bear new blocks, draws, and stores into that cell. strings.SplitSeq at a separator of one byte: the iterator, which keeps what is left in a captured cell. record.number: a canonical decimal of a word. Boxes and rows, carried through a range over a function. record.Read: a text as a record. Systems as text: an object's line: of no program. Systems as text, and back: of no program. Sources: a task's first line, an object's line. Sources: an object's line. -/
import Derived.Test.YtfgmebjbibbpdaaGreatDoorZs2
import Derived.Test.YtfgmebjbibbpdaaGreatDoorZs1
import Derived.RangeFuncNested
import Derived.RangeFuncBound
import Derived.RangeFuncCalls
import Derived.RangeFuncLeaves
import Derived.RangeFuncBox
import Derived.Test.YtfgmebjbibbpdaaGreatDoorShelf
import Derived.Shelf.Abstract
import Derived.Shelf.RegionOpen
import Derived.OwnWalkIn
import Derived.TacticsInMore
import Derived.LoopNIn
import Derived.LoopIn
import Derived.Deep.QuietTactic
import Derived.BigQuiet
import Derived.Lib.IndexLaws
import Derived.Lib.ConvBytes
import Derived.Lib.AtoiErrMem
namespace Go.Proofs.YtfgmebjbibbpdaaGreatDoor
open Go.RowKit
attribute [local go_sem] Oper.semAt_some

def joinS (ps : List ByteArray) : ByteArray := ⟨(Lib.join (ps.map (·.data.toList)) [32]).toArray⟩
set_option maxRecDepth 100000 in
set_option maxHeartbeats 4000000 in
theorem ltext_any (b : Nat) (ps : List ByteArray) (odd : Bool) (w0 w : World) (h : LnB w0.heap.size b ps odd w0 w) (h0 : ps ≠ []) (hlen : ps.length ≤ 100000) (hs : (Lib.join (ps.map (·.data.toList)) [32]).length ≤ 1000000) :
    Calls Tryz.prog 56 #[.pointer (some ⟨b, 0, none⟩)] w fun e w' => e = .returned (.tuple #[.string (joinS ps), .bool (!odd)]) ∧ Below w.heap.size w w' := by
  obtain ⟨v, hr, hown, _⟩ := h
  obtain ⟨A, cp, rfl, hcl, hne, hsl⟩ := hown.sl
  obtain ⟨s0, hs0⟩ := get_some (show 0 < ps.length by cases ps with | nil => exact absurd rfl h0 | cons a t => simp)
  obtain ⟨bk, o, hA, hbk, _⟩ := hsl 0 s0 hs0
  have hcells : ∀ (W : World), Below w.heap.size w W → ∀ (j : Nat) x, ps[j]? = some x → W.cell? ⟨bk, o + j, none⟩ = some (.string x) := by
    intro W hb j x hx
    obtain ⟨b1, o1, e1, hb1, hc1⟩ := hsl j x hx
    rw [hA] at e1
    injection e1 with e1
    injection e1 with e1 e2
    subst e1 e2
    have := hc1 0 _ rfl
    exact (hb.cell (p := ⟨bk, o + j, none⟩) hb1).trans (by simpa [strs, Enc.of1] using this)
  have hcon := fun (W : World) (hb : Below w.heap.size w W) => Tryz.strings_Join bk o cp ps ⟨#[32]⟩ W (hcells W hb) (by have := hb.size; omega) (by omega) hcl.1 (Nat.le_trans hs (by omega))
  rw [show (⟨#[32]⟩ : ByteArray).data.toList = [32] from rfl] at hcon
  have c0 : w.cell? ⟨b, 0, none⟩ = some (.slice A ps.length cp) := (hr.cell 0).trans rfl
  have c1 : w.cell? ⟨b, 1, none⟩ = some (.bool odd) := (hr.cell 1).trans rfl
  have hSd : (fun w' : World => Below w.heap.size w w' ∧ w'.cell? ⟨b, 0, none⟩ = some (.slice A ps.length cp) ∧ w'.cell? ⟨b, 1, none⟩ = some (.bool odd)) w.drew := ⟨(Below.refl _ w).drew, c0, c1⟩
  have HC := Lib.hid hcon
  have HA := Lib.hid hA
  clear hcon hcells hsl hne hown hr c0 c1 hs0 hA hs
  go_enter Tryz.func56, Tryz.ntmps56
  go_wp2_with fail
  refine wp_region_held_drew (S := (fun w' : World => Below w.heap.size w w' ∧ w'.cell? ⟨b, 0, none⟩ = some (.slice A ps.length cp) ∧ w'.cell? ⟨b, 1, none⟩ = some (.bool odd))) (by kernel_rfl) hSd (fun hHeld => ?_)
  generalize w.drew = wd at hHeld ⊢
  have hHeld : (fun w' : World => Below w.heap.size w w' ∧ w'.cell? ⟨b, 0, none⟩ = some (.slice A ps.length cp) ∧ w'.cell? ⟨b, 1, none⟩ = some (.bool odd)) wd := hHeld
  refine wpAnyH_take (i := 0) (oi := ?_) (v := ?_) ?_ (by kernel_rfl) (by kernel_rfl) (by kernel_rfl) ?_ (Or.inl ⟨?_, ?_⟩) (by assumption) ?_
  rotate_left 2
  · (simp only [List.getElem?_toArray, List.getElem?_cons_zero]; rfl)
  · first | exact fun _ _ _ h => h | exact fun _ _ _ h => by cases h.1
  · rfl
  · ((intro wq hSq; (try dsimp only at hSq); go_simp); (try with_reducible rfl))
  try simp only [Act.put, List.setIfInBounds_toArray, List.set_cons_zero, List.set_cons_succ]
  refine wpAnyH_take (i := 1) (oi := ?_) (v := ?_) ?_ (by kernel_rfl) (by kernel_rfl) (by kernel_rfl) ?_ (Or.inl ⟨?_, ?_⟩) (by assumption) ?_
  rotate_left 2
  · (simp only [List.getElem?_toArray, List.getElem?_cons_succ, List.getElem?_cons_zero]; rfl)
  · first | exact fun _ _ _ h => h | exact fun _ _ _ h => by cases h.1
  · rfl
  · ((intro wq hSq; (try dsimp only at hSq); go_simp); (try with_reducible rfl))
  try simp only [Act.put, List.setIfInBounds_toArray, List.set_cons_zero, List.set_cons_succ]
  refine wpAnyH_take (i := 2) (oi := ?_) (v := ?_) ?_ (by kernel_rfl) (by kernel_rfl) (by kernel_rfl) ?_ (Or.inl ⟨?_, ?_⟩) (by assumption) ?_
  rotate_left 2
  · (simp only [List.getElem?_toArray, List.getElem?_cons_succ, List.getElem?_cons_zero]; rfl)
  · first | exact fun _ _ _ h => h | exact fun _ _ _ h => by cases h.1
  · rfl
  · ((intro wq hSq; (try dsimp only at hSq); go_simp); (try with_reducible rfl))
  try simp only [Act.put, List.setIfInBounds_toArray, List.set_cons_zero, List.set_cons_succ]
  refine wpAnyH_take (i := 3) (oi := ?_) (v := ?_) ?_ (by kernel_rfl) (by kernel_rfl) (by kernel_rfl) ?_ (Or.inl ⟨?_, ?_⟩) (by assumption) ?_
  rotate_left 2
  · (simp only [List.getElem?_toArray, List.getElem?_cons_succ, List.getElem?_cons_zero]; rfl)
  · first | exact fun _ _ _ h => h | exact fun _ _ _ h => by cases h.1
  · rfl
  · ((intro wq hSq; (try dsimp only at hSq); go_simp); (try with_reducible rfl))
  try simp only [Act.put, List.setIfInBounds_toArray, List.set_cons_zero, List.set_cons_succ]
  refine wpAnyH_take (i := 5) (oi := ?_) (v := ?_) ?_ (by kernel_rfl) (by kernel_rfl) (by kernel_rfl) ?_ (Or.inl ⟨?_, ?_⟩) (by assumption) ?_
  rotate_left 2
  · (simp only [List.getElem?_toArray, List.getElem?_cons_succ, List.getElem?_cons_zero]; rfl)
  · first | exact fun _ _ _ h => h | exact fun _ _ _ h => by cases h.1
  · rfl
  · ((intro wq hSq; (try dsimp only at hSq); go_simp); (try with_reducible rfl))
  try simp only [Act.put, List.setIfInBounds_toArray, List.set_cons_zero, List.set_cons_succ]
  refine wpAnyH_take (i := 6) (oi := ?_) (v := ?_) ?_ (by kernel_rfl) (by kernel_rfl) (by kernel_rfl) ?_ (Or.inl ⟨?_, ?_⟩) (by assumption) ?_
  rotate_left 2
  · (simp only [List.getElem?_toArray, List.getElem?_cons_succ, List.getElem?_cons_zero]; rfl)
  · first | exact fun _ _ _ h => h | exact fun _ _ _ h => by cases h.1
  · rfl
  · ((intro wq hSq; (try dsimp only at hSq); go_simp); (try with_reducible rfl))
  try simp only [Act.put, List.setIfInBounds_toArray, List.set_cons_zero, List.set_cons_succ]
  refine wpAnyH_take (i := 7) (oi := ?_) (v := ?_) ?_ (by kernel_rfl) (by kernel_rfl) (by kernel_rfl) ?_ (Or.inl ⟨?_, ?_⟩) (by assumption) ?_
  rotate_left 2
  · (simp only [List.getElem?_toArray, List.getElem?_cons_succ, List.getElem?_cons_zero]; rfl)
  · first | exact fun _ _ _ h => h | exact fun _ _ _ h => by cases h.1
  · rfl
  · ((intro wq hSq; (try dsimp only at hSq); go_simp); (try with_reducible rfl))
  try simp only [Act.put, List.setIfInBounds_toArray, List.set_cons_zero, List.set_cons_succ]
  refine wpAnyH_take (i := 8) (oi := ?_) (v := ?_) ?_ (by kernel_rfl) (by kernel_rfl) (by kernel_rfl) ?_ (Or.inl ⟨?_, ?_⟩) (by assumption) ?_
  rotate_left 2
  · (simp only [List.getElem?_toArray, List.getElem?_cons_succ, List.getElem?_cons_zero]; rfl)
  · first | exact fun _ _ _ h => h | exact fun _ _ _ h => by cases h.1
  · rfl
  · ((intro wq hSq; (try dsimp only at hSq); go_simp); (try with_reducible rfl))
  try simp only [Act.put, List.setIfInBounds_toArray, List.set_cons_zero, List.set_cons_succ]
  refine wpAnyH_take (i := 9) (oi := ?_) (v := ?_) ?_ (by kernel_rfl) (by kernel_rfl) (by kernel_rfl) ?_ (Or.inl ⟨?_, ?_⟩) (by assumption) ?_
  rotate_left 2
  · (simp only [List.getElem?_toArray, List.getElem?_cons_succ, List.getElem?_cons_zero]; rfl)
  · first | exact fun _ _ _ h => h | exact fun _ _ _ h => by cases h.1
  · rfl
  · ((intro wq hSq; (try dsimp only at hSq); go_simp); (try with_reducible rfl))
  try simp only [Act.put, List.setIfInBounds_toArray, List.set_cons_zero, List.set_cons_succ]
  refine wpAnyH_ready (rs := [4]) (by kernel_rfl) (by simp) ?_
  refine AllReadyH.cons (o := ?_) ?_ (fun K hK => ?_) AllReadyH.nil
  rotate_left
  · (simp only [List.getElem?_toArray, List.getElem?_cons_succ, List.getElem?_cons_zero]; rfl)
  · go_simp
    go_at_call 61
    refine (HA.out ▸ (HC.out _ hHeld.1)).mono ?_
    rintro ex wx ⟨rfl, hbx⟩
    have hSx : (fun w' : World => Below w.heap.size w w' ∧ w'.cell? ⟨b, 0, none⟩ = some (.slice A ps.length cp) ∧ w'.cell? ⟨b, 1, none⟩ = some (.bool odd)) wx := ⟨hHeld.1.trans (hbx.mono hHeld.1.size), (hbx.cell (p := ⟨b, 0, none⟩) (cell_lt hHeld.2.1)).trans hHeld.2.1, (hbx.cell (p := ⟨b, 1, none⟩) (cell_lt hHeld.2.2)).trans hHeld.2.2⟩
    refine hK.out _ _ hSx (fun hHeld => ?_)
    clear hK K
    try simp only [Act.put, List.setIfInBounds_toArray, List.set_cons_zero, List.set_cons_succ]
    refine wpAnyH_take (i := 10) (oi := ?_) (v := ?_) ?_ (by kernel_rfl) (by kernel_rfl) (by kernel_rfl) ?_ (Or.inl ⟨?_, ?_⟩) (by assumption) ?_
    rotate_left 2
    · (simp only [List.getElem?_toArray, List.getElem?_cons_succ, List.getElem?_cons_zero]; rfl)
    · first | exact fun _ _ _ h => h | exact fun _ _ _ h => by cases h.1
    · rfl
    · ((intro wq hSq; (try dsimp only at hSq); go_simp); (try with_reducible rfl))
    try simp only [Act.put, List.setIfInBounds_toArray, List.set_cons_zero, List.set_cons_succ]
    refine wpAnyH_take (i := 11) (oi := ?_) (v := ?_) ?_ (by kernel_rfl) (by kernel_rfl) (by kernel_rfl) ?_ (Or.inl ⟨?_, ?_⟩) (by assumption) ?_
    rotate_left 2
    · (simp only [List.getElem?_toArray, List.getElem?_cons_succ, List.getElem?_cons_zero]; rfl)
    · first | exact fun _ _ _ h => h | exact fun _ _ _ h => by cases h.1
    · rfl
    · ((intro wq hSq; (try dsimp only at hSq); go_simp); (try with_reducible rfl))
    try simp only [Act.put, List.setIfInBounds_toArray, List.set_cons_zero, List.set_cons_succ]
    refine wpAnyH_done (by kernel_rfl) ?_ _
    clear hSd
    go_wp2_with fail
    go_ret2
    exact ⟨rfl, hHeld.1⟩

end Go.Proofs.YtfgmebjbibbpdaaGreatDoor

namespace Go.Proofs.YtfgmebjbibbpdaaGreatDoor
open Go.RowKit
attribute [local go_sem] Oper.semAt_some

def kindsT : List (List UInt8) := [[102, 111, 117, 114], [99, 104, 101, 110], [115, 101, 113], [114, 105, 110, 103], [99, 97, 98], [102, 105, 102, 111]]
def kindsW : List (List UInt8) := [] :: kindsT
def kindsA : Array Value := #[.string ⟨#[]⟩, .string ⟨#[102, 111, 117, 114]⟩, .string ⟨#[99, 104, 101, 110]⟩, .string ⟨#[115, 101, 113]⟩, .string ⟨#[114, 105, 110, 103]⟩, .string ⟨#[99, 97, 98]⟩, .string ⟨#[102, 105, 102, 111]⟩]
def isK (k : Int) : Bool := decide (1 ≤ k) && decide (k ≤ 6)
def kword (k : Int) : List UInt8 := if 0 ≤ k ∧ k ≤ 6 then kindsW.getD k.toNat [] else []
def kidx (x : List UInt8) : Int := match kindsT.findIdx? fun z => z == x with
  | some k => k
  | none => -1
theorem kwords_any (w : World) : Calls Tryz.prog 83 #[] w fun e w' => e = .returned (.agg kindsA) ∧ Below w.heap.size w w' := by
  go_enter Tryz.func83, Tryz.ntmps83
  go_wp2_with fail
  refine bodyPost_ret (v := .agg kindsA) (by simp [results, go_sem]; rfl) rfl ?_
  exact ⟨rfl, (Below.refl _ w).alloc (Nat.le_refl _) _⟩
theorem rkwords_any (w : World) : Calls Tryz.prog 39 #[] w fun e w' => ∃ b, e = .returned (.slice (some ⟨b, 0, none⟩) 7 7) ∧ (∀ (j : Nat) x, kindsW[j]? = some x → w'.cell? ⟨b, j, none⟩ = some (.string ⟨x.toArray⟩)) ∧ b < w'.heap.size ∧ Below w.heap.size w w' := by
  go_enter Tryz.func39, Tryz.ntmps39
  go_wp2_with fail
  go_ret
  refine ⟨_, rfl, fun j x hx => ?_, by simp, (Below.refl _ w).alloc (Nat.le_refl _) _⟩
  have h1 := cells_new w (kindsW.map fun x => Value.string ⟨x.toArray⟩).toArray 9 j
  rw [Addr.add_lit, Nat.zero_add, List.getElem?_toArray, List.getElem?_map, hx] at h1
  exact h1
theorem word_at {k : Int} (h : 0 ≤ k ∧ k ≤ 6) (W : World) : (Instr.index 135 (.agg kindsA) (.int .i64 k)).run Tryz.prog W = .ok (.string ⟨(kword k).toArray⟩) W := by
  have : k = 0 ∨ k = 1 ∨ k = 2 ∨ k = 3 ∨ k = 4 ∨ k = 5 ∨ k = 6 := by omega
  rcases this with rfl | rfl | rfl | rfl | rfl | rfl | rfl <;> (simp [Instr.index, kindsA, go_sem] <;> rfl)
set_option maxRecDepth 100000 in
theorem kword_any (k : Int) (w : World) : Calls Tryz.prog 62 #[.int .i64 k] w fun e w' => e = .returned (.string ⟨(kword k).toArray⟩) ∧ Below w.heap.size w w' := by
  by_cases h1 : k < 0
  · have t1 : decide (k < 0) = true := decide_eq_true h1
    have e1 : kword k = [] := by unfold kword; rw [if_neg (by omega)]
    rw [e1]
    clear e1 h1
    go_enter Tryz.func62, Tryz.ntmps62
    go_wp2_with fail
    go_ret
    exact ⟨rfl, Below.refl _ w⟩
  · have t1 : decide (k < 0) = false := decide_eq_false h1
    by_cases h2 : 6 < k
    · have t2 : decide (6 < k) = true := decide_eq_true h2
      have e1 : kword k = [] := by unfold kword; rw [if_neg (by omega)]
      rw [e1]
      clear e1 h1 h2
      go_enter Tryz.func62, Tryz.ntmps62
      go_wp2_with fail
      go_ret
      exact ⟨rfl, Below.refl _ w⟩
    · have t2 : decide (6 < k) = false := decide_eq_false h2
      have hw := Lib.hid (kwords_any w)
      have hi := word_at (k := k) (by omega)
      obtain ⟨X, hX⟩ : ∃ X, kword k = X := ⟨_, rfl⟩
      rw [hX] at hi ⊢
      clear h1 h2 hX
      go_enter Tryz.func62, Tryz.ntmps62
      go_wp2_with fail
      refine hw.out.mono ?_
      rintro e w1 ⟨rfl, hb⟩
      go_wp2_with fail
      go_ret
      exact ⟨rfl, hb⟩
theorem kidx_hit {x : List UInt8} {k : Nat} (h : ∀ i, i < k → kindsT.getD i [] ≠ x) {y : List UInt8} (hk : kindsT[k]? = some y) (hy : y = x) : kidx x = k := by
  have hlt := (List.getElem?_eq_some_iff.1 hk).1
  have : kindsT.findIdx? (fun z => z == x) = some k := by
    rw [List.findIdx?_eq_some_iff_getElem]
    refine ⟨hlt, ?_, fun j hj => ?_⟩
    · rw [List.getElem?_eq_getElem hlt] at hk
      injection hk with hk
      rw [hk, hy]
      exact beq_self_eq_true x
    · have := h j hj
      rw [List.getD_eq_getElem?_getD, List.getElem?_eq_getElem (by omega)] at this
      simpa using this
  unfold kidx
  rw [this]
theorem kidx_miss {x : List UInt8} (h : ∀ i, i < 6 → kindsT.getD i [] ≠ x) : kidx x = -1 := by
  have : kindsT.findIdx? (fun z => z == x) = none := by
    rw [List.findIdx?_eq_none_iff]
    intro z hz
    obtain ⟨i, hi⟩ := List.getElem?_of_mem hz
    have hl := (List.getElem?_eq_some_iff.1 hi).1
    have := h i hl
    rw [List.getD_eq_getElem?_getD, hi] at this
    simpa using this
  unfold kidx
  rw [this]
set_option maxRecDepth 100000 in
set_option maxHeartbeats 1000000 in
theorem kindex_any (b : Nat) (x : List UInt8) (w : World) (hc : ∀ (j : Nat) z, kindsT[j]? = some z → w.cell? ⟨b, 1 + j, none⟩ = some (.string ⟨z.toArray⟩)) :
    Calls Tryz.prog 72 #[.slice (some ⟨b, 1, none⟩) 6 6, .string ⟨x.toArray⟩] w fun e w' => e = .returned (.int .i64 (kidx x)) ∧ w' = w := by
  have HC := Lib.hid hc
  clear hc
  go_enter Tryz.func72, Tryz.ntmps72
  go_wp2_with fail
  go_loopw [5, 8] (fun _ j wr => ∃ k : Nat, k ≤ 6 ∧ j = .int .i64 k ∧ (∀ i, i < k → kindsT.getD i [] ≠ x) ∧ wr = w) (fun _ j _ => 6 - (intOf j).toNat)
  case atStart => exact ⟨0, Nat.zero_le _, rfl, fun i h => absurd h (Nat.not_lt_zero _), rfl⟩
  case round =>
    obtain ⟨k, hk, rfl, hall, rfl⟩ := hrel
    by_cases hlt : k < 6
    · obtain ⟨z, hz⟩ := get_some (show k < kindsT.length from hlt)
      have hcz := HC.out k z hz
      have hki : (k : Int) < 6 := by omega
      have hk0 : (0 : Int) ≤ (k : Int) := by omega
      have HA := Lib.hid hall
      have HZ := Lib.hid hz
      clear hall hz
      by_cases hzx : z = x
      · have t1 : (x == z) = true := by rw [hzx]; exact beq_self_eq_true _
        have t2 : (z == x) = true := by rw [hzx]; exact beq_self_eq_true _
        have hf := Lib.hid (kidx_hit HA.out HZ.out hzx)
        clear hzx
        go_wp2_with fail
        go_ret
        exact ⟨by rw [hf.out]; rfl, rfl⟩
      · have t1 : (x == z) = false := by rw [beq_eq_false_iff_ne]; exact fun e => hzx e.symm
        have t2 : (z == x) = false := by rw [beq_eq_false_iff_ne]; exact hzx
        have hzx' := Lib.hid hzx
        clear hzx
        go_wp2_with fail
        go_roundw
        case rel => exact ⟨k + 1, by omega, by go_num, fun i hi => by
          by_cases hik : i = k
          · subst hik
            rw [List.getD_eq_getElem?_getD, HZ.out]
            exact hzx'.out
          · exact HA.out i (by omega), by first | trivial | rfl⟩
        case measure => simp [intOf]; omega
    · have h6 : k = 6 := by omega
      subst h6
      have hf := Lib.hid (kidx_miss hall)
      clear hall
      go_wp2_with fail
      go_ret
      exact ⟨by rw [hf.out]; rfl, rfl⟩
set_option maxRecDepth 100000 in
set_option maxHeartbeats 1000000 in
theorem kkind_any (x : List UInt8) (w : World) : Calls Tryz.prog 73 #[.string ⟨x.toArray⟩] w fun e w' => e = .returned (.tuple #[.int .i64 (kidx x + 1), .bool (decide (0 < kidx x + 1))]) ∧ Below w.heap.size w w' := by
  have hw := kwords_any w
  unfold kindsA at hw
  have HW := Lib.hid hw
  have hb : -1 ≤ kidx x ∧ kidx x ≤ 5 := by
    unfold kidx
    cases h : kindsT.findIdx? fun z => z == x with
    | none => simp
    | some k =>
      obtain ⟨hk, _⟩ := List.findIdx?_eq_some_iff_getElem.1 h
      have : kindsT.length = 6 := rfl
      simp only
      omega
  obtain ⟨q, hq⟩ : ∃ q, kidx x = q := ⟨_, rfl⟩
  rw [hq] at hb ⊢
  have HQ := Lib.hid hq
  clear hw hq
  go_enter Tryz.func73, Tryz.ntmps73
  go_wp2_with fail
  refine HW.out.mono ?_
  rintro e w1 ⟨rfl, hb1⟩
  have hB := hb1.alloc hb1.size (.cells kindsA 135)
  have hi := Lib.hid (kindex_any w1.heap.size x (w1.alloc (.cells kindsA 135)) (fun j z hz => by
    have h1 := cells_new w1 kindsA 135 (1 + j)
    rw [Addr.add_lit, Nat.zero_add] at h1
    rw [h1]
    have e : kindsA = (kindsW.map fun x => Value.string ⟨x.toArray⟩).toArray := rfl
    rw [e, List.getElem?_toArray, List.getElem?_map, Nat.add_comm]
    show (kindsT[j]?).map _ = _
    rw [hz]
    rfl))
  unfold kindsA at hi hB
  rw [HQ.out] at hi
  go_wp2_with fail
  refine hi.out.mono ?_
  rintro e w2 ⟨rfl, rfl⟩
  go_wp2_with fail
  go_ret2
  exact ⟨rfl, hB⟩

end Go.Proofs.YtfgmebjbibbpdaaGreatDoor

namespace Go.Proofs.YtfgmebjbibbpdaaGreatDoor
open Go.RowKit

variable {F : Fence} {n : Nat} {P : Program} {α : Type}

/-- What bears all that an iterator with a state in block B does by itself. -/
structure Calm (B : Nat) (J : World → Prop) : Prop where
  alloc : ∀ W o, J W → J (W.alloc o)
  set : ∀ W v, J W → J (W.setCell ⟨B, 0, none⟩ v)
  drew : ∀ W k, J W → J (W.drewN k)

theorem Calm.and {B : Nat} {J J' : World → Prop} (h : Calm B J) (h' : Calm B J') : Calm B (fun W => J W ∧ J' W) :=
  ⟨fun W o x => ⟨h.alloc W o x.1, h'.alloc W o x.2⟩, fun W v x => ⟨h.set W v x.1, h'.set W v x.2⟩, fun W k x => ⟨h.drew W k x.1, h'.drew W k x.2⟩⟩
theorem Calm.ex {β : Type} {B : Nat} {J : β → World → Prop} (h : ∀ b, Calm B (J b)) : Calm B (fun W => ∃ b, J b W) :=
  ⟨fun W o ⟨b, x⟩ => ⟨b, (h b).alloc W o x⟩, fun W v ⟨b, x⟩ => ⟨b, (h b).set W v x⟩, fun W k ⟨b, x⟩ => ⟨b, (h b).drew W k x⟩⟩
/-- That another block holds something. -/
theorem Calm.at {B l : Nat} (hne : l ≠ B) (o : Obj) : Calm B (fun W => W.heap[l]? = some o) where
  alloc W o' h := (Below.heap_alloc W o' l (Array.getElem?_eq_some_iff.1 h).1).trans h
  set W v h := ((grownBy_setCell' W B v).block l (Array.getElem?_eq_some_iff.1 h).1 (fun e => hne (by cases e; rfl))).trans h
  drew W k h := h
theorem Calm.boxed {B l : Nat} (hne : l ≠ B) (t : TypeId) (v : Value) : Calm B (fun W => Boxed W l t v) := Calm.at hne _
theorem Calm.below {B n₀ : Nat} {w : World} (h1 : n₀ ≤ B) (h2 : n₀ ≤ w.heap.size) : Calm B (fun W => Below n₀ w W) where
  alloc _ _ h := h.alloc (Nat.le_trans h2 h.size) _
  set _ _ h := h.setCell (p := ⟨B, 0, none⟩) h1 _
  drew _ k h := drewN_below h k

/-- The contract of an iterator with a state in block B: what it hands over one by one, S of all, Sp of what was handed over where it was stopped. -/
def SeqSt (F : Fence) (n : Nat) (P : Program) (g : Nat) (lb : Array Value) (enc : α → Value) (Kp : World → World → Prop) (S Sp : List α → Prop) (Ok : List α → α → Prop) (B : Nat) (w : World) : Prop :=
  ∀ (l : Nat) (J Jx : List α → World → Prop) (W : World), Below w.heap.size w W → (∀ s, Calm B (J s)) → (∀ s, Calm B (Jx s)) →
    (∀ pre x W1, J pre W1 → Ok pre x → YieldAt F (n - 1) P l #[enc x] W1 fun e W' =>
      (e = .returned (.bool true) ∧ J (pre ++ [x]) W' ∧ Kp W1 W') ∨ (e = .returned (.bool false) ∧ Jx (pre ++ [x]) W')) →
    J [] W →
    CallsIn F n P g (#[.func (.yield l) #[] #[]] ++ lb) W fun e W' => (∃ v, e = .returned v) ∧ ((∃ xs, S xs ∧ J xs W') ∨ (∃ pre, Sp pre ∧ Jx pre W'))

/-- How a round may be left: the loop's own two blocks lie from L on. -/
def roundEnds (L : Nat) (Kp : World → World → Prop) (I : World → Prop) (Ix : Code → World → Prop) (W : World) : Exit → Act → World → Prop
  | .normal, _, W' => KeepsFrom L W W' ∧ Kp W W' ∧ I W'
  | .ret, _, W' => KeepsFrom L W W' ∧ Ix .ret W'
  | .exit id, _, W' => KeepsFrom L W W' ∧ Ix (.exit id) W'
  | .goto t, _, W' => KeepsFrom L W W' ∧ Ix (.goto t) W'
  | .panic _, _, _ => False
  | .outgrown, _, _ => False

theorem wpIn_rangeFunc_st {g : Operand} {p : Tmp} {assign body : Code} {Q : Exit → Act → World → Prop} {a : Act} {w : World}
    (hro : F.round = none) (h1 : 1 ≤ n) {gf : Nat} {lb : Array Value} (hg : a.eval g = .func (.func gf) #[] lb) (hFg : F.fn gf) (eg : ∀ args w, (callFunc gf args).run P w = .ok (.enter gf args) w)
    {enc : α → Value} {Kp : World → World → Prop} {S Sp : List α → Prop} {Ok : List α → α → Prop} {B : Nat} {w0 : World} (hseq : SeqSt F (n - 1) P gf lb enc Kp S Sp Ok B w0) (hB : B < w.heap.size)
    (hKt : ∀ {X Y Z : World}, Kp X Y → Kp Y Z → Kp X Z) (hKb : ∀ (W : World) (l : Nat) (o o' : Obj), w.heap.size ≤ l → W.heap[l]? = some o → o.isCells = false → Kp W (W.putObj l o')) (hb0 : Below w0.heap.size w0 w)
    (I : List α → World → Prop) (Ix : Code → List α → World → Prop) (hI : ∀ s, Calm B (I s)) (hIx : ∀ c s, Calm B (Ix c s))
    (hIp : ∀ s W l o o', I s W → w.heap.size ≤ l → W.heap[l]? = some o → o.isCells = false → I s (W.putObj l o'))
    (hIxp : ∀ c s W l o o', Ix c s W → w.heap.size ≤ l → W.heap[l]? = some o → o.isCells = false → Ix c s (W.putObj l o')) (h0 : I [] w) (a₁ : α → Act)
    (hassign : ∀ (l : Nat) (x : α) (W : World) (K : Act → World → Prop), K (a₁ x) W →
      assign.wpIn (F.inRound l) (n - 1 - 1) P (Exit.then K (fun _ _ _ => False)) { tmps := (#[p].zip #[enc x]).foldl (fun t (q, v) => t.setIfInBounds q v) a.tmps, defers := [] } W)
    (hbody : ∀ (l : Nat) (pre : List α) (x : α) (W : World), I pre W → Ok pre x → body.wpIn (F.inRound l) (n - 1 - 1) P (roundEnds w.heap.size Kp (I (pre ++ [x])) (fun c => Ix c (pre ++ [x])) W) (a₁ x) W)
    (hdone : ∀ (D : Nat) (xs : List α) (W : World), w.heap.size ≤ D → S xs → I xs W → W.heap[D]? = some (.deferred (some [])) → Q .normal { a with defers := { target := .collected D, args := #[] } :: a.defers } W)
    (hstop : ∀ (D : Nat) (c : Code) (pre : List α) (W : World), w.heap.size ≤ D → Sp pre → Ix c pre W → W.heap[D]? = some (.deferred (some [])) → c.wpIn F n P Q { a with defers := { target := .collected D, args := #[] } :: a.defers } W) :
    (Code.rangeFunc g #[p] assign body).wpIn F n P Q a w := by
  refine wpIn_rangeFunc ?_
  intro fn hfn
  rw [hro]
  obtain ⟨D, hD⟩ : ∃ D, w.heap.size = D := ⟨_, rfl⟩
  obtain ⟨R, hR⟩ : ∃ R : LoopState → Option Code → Loop, R = fun s c => { state := s, pending := c, fn, tmps := a.tmps, params := #[p], assign, body, defers := D } := ⟨_, rfl⟩
  -- the two blocks of book-keeping
  obtain ⟨Bk, hBk⟩ : ∃ Bk : LoopState → Option Code → World → Prop, Bk = fun s c W => W.heap[D + 1]? = some (.loop (R s c)) ∧ W.heap[D]? = some (.deferred (some [])) := ⟨_, rfl⟩
  have calmBk : ∀ s c, Calm B (Bk s c) := fun s c => by rw [hBk]; exact (Calm.at (by omega) _).and (Calm.at (by omega) _)
  have turn : ∀ s c s' c' W, Bk s c W → Bk s' c' (W.putObj (D + 1) (.loop (R s' c'))) := fun s c s' c' W h => by
    rw [hBk] at h ⊢
    exact ⟨World.putObj_heap_same (Array.getElem?_eq_some_iff.1 h.1).1, (World.putObj_heap_other (by omega)).trans h.2⟩
  have kept : ∀ s c W W', Bk s c W → KeepsFrom D W W' → Bk s c W' := fun s c W W' h k => by
    rw [hBk] at h ⊢
    exact ⟨k.same _ _ (by omega) h.1 rfl, k.same _ _ (Nat.le_refl _) h.2 rfl⟩
  obtain ⟨W1, hW1⟩ : ∃ W1, (w.alloc (.deferred (some []))).alloc (.loop (R .ready none)) = W1 := ⟨_, rfl⟩
  have b1 : Bk .ready none W1 := by
    rw [hBk, ← hW1]
    refine ⟨?_, ?_⟩
    · have := World.alloc_heap_new (w.alloc (.deferred (some []))) (.loop (R .ready none))
      rwa [World.size_alloc, hD] at this
    · have := World.alloc_heap_new w (.deferred (some []))
      rw [hD] at this
      exact (Below.heap_alloc _ _ _ (by simp; omega)).trans this
  have i1 : I [] W1 := by rw [← hW1]; exact (hI _).alloc _ _ ((hI _).alloc _ _ h0)
  have bl1 : Below w0.heap.size w0 W1 := by rw [← hW1]; exact (hb0.alloc hb0.size _).alloc (by simp; have := hb0.size; omega) _
  refine ⟨D + 1, [{ target := .collected D, args := #[] }], W1, { target := .fn (.func gf) lb, args := #[.func (.yield (D + 1)) #[] #[]] }, W1, gf, #[.func (.yield (D + 1)) #[] #[]] ++ lb, W1, ?_, ?_, ?_, ?_, fun _ => h1, ?_⟩
  · have := run_enterLoop_outer (P := P) (w := w) fn a.tmps #[p] assign body
    rw [hD] at this
    rw [← hW1, hR]
    exact this
  · simp only [resolve, hg]
    simp [go_sem]
  · intro f' hf'
    simp [Target.leads] at hf'
    subst hf'
    exact hFg
  · simp [invoke, go_sem, eg]
  refine (hseq (D + 1) (fun pre W => I pre W ∧ Bk .ready none W) (fun pre W => ∃ c, Ix c pre W ∧ Bk .done (some c) W) W1 bl1 (fun s => (hI s).and (calmBk _ _)) (fun s => Calm.ex fun c => (hIx c s).and (calmBk _ _)) ?_ ⟨i1, b1⟩).mono ?_
  · rintro pre x W ⟨hi, hb⟩ hok
    have hl : W.heap[D + 1]? = some (.loop (R .ready none)) := by rw [hBk] at hb; exact hb.1
    have hy := run_yield (P := P) (args := #[enc x]) hl (by rw [hR]; rfl)
    rw [hR] at hy
    refine ⟨fn, _, assign, body, hy, roundIn_of_wpIn hfn (hassign _ x W _ ?_)⟩
    refine ⟨_, run_beginRound hl (by rw [hR]), ?_⟩
    have e1 : ({ R .ready none with state := .busy } : Loop) = R .busy none := by rw [hR]
    rw [e1]
    have hb2 := turn _ _ .busy none _ hb
    have k1 : Kp W (W.putObj (D + 1) (.loop (R .busy none))) := hKb _ _ _ _ (by omega) hl rfl
    refine wpIn_mono (hbody _ pre x _ (hIp _ _ _ _ _ hi (by omega) hl rfl) hok) ?_
    have fin : ∀ (c : Option Code) (W3 : World), KeepsFrom w.heap.size (W.putObj (D + 1) (.loop (R .busy none))) W3 →
        W3.heap[D + 1]? = some (.loop (R .busy none)) ∧ (Instr.endRound (D + 1) c).run P W3 = .ok (.bool c.isNone) (W3.putObj (D + 1) (.loop (R (if c.isNone then .ready else .done) c))) ∧ Bk (if c.isNone then .ready else .done) c (W3.putObj (D + 1) (.loop (R (if c.isNone then .ready else .done) c))) := fun c W3 k => by
      rw [hD] at k
      have hb3 := kept _ _ _ _ hb2 k
      have hl3 : W3.heap[D + 1]? = some (.loop (R .busy none)) := by rw [hBk] at hb3; exact hb3.1
      refine ⟨hl3, ?_, turn _ _ _ _ _ hb3⟩
      rw [run_endRound (P := P) c hl3, hR]
    rintro e a3 W3 hp
    cases e with
    | normal =>
      obtain ⟨k3, kp3, i3⟩ := hp
      obtain ⟨hl3, hr, hb3⟩ := fin none W3 k3
      exact ⟨_, _, hr, .inl ⟨rfl, ⟨hIp _ _ _ _ _ i3 (by omega) hl3 rfl, hb3⟩, hKt k1 (hKt kp3 (hKb _ _ _ _ (by omega) hl3 rfl))⟩⟩
    | ret =>
      obtain ⟨k3, i3⟩ := hp
      obtain ⟨hl3, hr, hb3⟩ := fin (some .ret) W3 k3
      exact ⟨_, _, hr, .inr ⟨rfl, .ret, hIxp _ _ _ _ _ _ i3 (by omega) hl3 rfl, hb3⟩⟩
    | exit id =>
      obtain ⟨k3, i3⟩ := hp
      obtain ⟨hl3, hr, hb3⟩ := fin (some (.exit id)) W3 k3
      exact ⟨_, _, hr, .inr ⟨rfl, .exit id, hIxp _ _ _ _ _ _ i3 (by omega) hl3 rfl, hb3⟩⟩
    | goto t =>
      obtain ⟨k3, i3⟩ := hp
      obtain ⟨hl3, hr, hb3⟩ := fin (some (.goto t)) W3 k3
      exact ⟨_, _, hr, .inr ⟨rfl, .goto t, hIxp _ _ _ _ _ _ i3 (by omega) hl3 rfl, hb3⟩⟩
    | panic ch => exact hp.elim
    | outgrown => exact hp.elim
  · rintro e W2 ⟨⟨v, rfl⟩, ⟨xs, hS, hi, hb⟩ | ⟨pre, hSp, c, hi, hb⟩⟩
    · have hl : W2.heap[D + 1]? = some (.loop (R .ready none)) := by rw [hBk] at hb; exact hb.1
      have hd : W2.heap[D]? = some (.deferred (some [])) := by rw [hBk] at hb; exact hb.2
      refine ⟨none, _, by have := run_endLoop (P := P) hl (by rw [hR]; simp); rw [hR] at this; exact this, ?_⟩
      exact hdone _ xs _ (by omega) hS (hIp _ _ _ _ _ hi (by omega) hl rfl) ((World.putObj_heap_other (by omega)).trans hd)
    · have hl : W2.heap[D + 1]? = some (.loop (R .done (some c))) := by rw [hBk] at hb; exact hb.1
      have hd : W2.heap[D]? = some (.deferred (some [])) := by rw [hBk] at hb; exact hb.2
      refine ⟨some c, _, by have := run_endLoop (P := P) hl (by rw [hR]; simp); rw [hR] at this; exact this, ?_⟩
      exact hstop _ c pre _ (by omega) hSp (hIxp _ _ _ _ _ _ hi (by omega) hl rfl) ((World.putObj_heap_other (by omega)).trans hd)

end Go.Proofs.YtfgmebjbibbpdaaGreatDoor

namespace Go.Proofs.YtfgmebjbibbpdaaGreatDoor
open Go.RowKit Go.Shelf
attribute [local go_sem] Oper.semAt_some

def keep3 (B : Nat) (W W' : World) : Prop := ∀ k, B ≤ k → k < B + 3 → W'.heap[k]? = W.heap[k]?
def boxLen (B : Nat) (W : World) : Nat := match W.cell? ⟨B, 0, none⟩ with
  | some (.string s) => s.size
  | _ => 0
theorem boxLen_eq {B : Nat} {W : World} {s : ByteArray} (h : W.cell? ⟨B, 0, none⟩ = some (.string s)) : boxLen B W = s.size := by simp [boxLen, h]

set_option maxRecDepth 100000 in
set_option maxHeartbeats 2000000 in
theorem split1_in (n : Nat) (hn : 1 ≤ n) (lb B : Nat) (c : UInt8) (s : ByteArray) (J Jx : List (List UInt8) → World → Prop) (W : World) (hJ : ∀ q, Calm B (J q)) (_hJx : ∀ q, Calm B (Jx q)) (hs63 : s.size ≤ 9223372036854775806)
    (hY : ∀ pre x W1, J pre W1 → pre ++ [x] <+: pcs c s.data.toList → YieldAt Fence.wide (n - 1) Tryz.prog lb #[.string ⟨x.toArray⟩] W1 fun e W' => (e = .returned (.bool true) ∧ J (pre ++ [x]) W' ∧ keep3 B W1 W') ∨ (e = .returned (.bool false) ∧ Jx (pre ++ [x]) W'))
    (b1 : Boxed W B 9 (.string s)) (b2 : Boxed W (B + 1) 9 (.string ⟨#[c]⟩)) (b3 : Boxed W (B + 1 + 1) 3 (.int .i64 0)) (h0 : J [] W) :
    CallsIn Fence.wide n Tryz.prog 117 #[.func (.yield lb) #[] #[], .pointer (some ⟨B + 1, 0, none⟩), .pointer (some ⟨B, 0, none⟩), .pointer (some ⟨B + 1 + 1, 0, none⟩)] W fun e W' => (∃ v, e = .returned v) ∧
      ((∃ ys, ys = pcs c s.data.toList ∧ J ys W') ∨ (∃ pre, pre <+: pcs c s.data.toList ∧ Jx pre W')) := by
  refine callsIn_of_wp Tryz.func117 rfl trivial ?_ rfl
  simp only [Tryz.ntmps117, List.size_toArray, List.length_cons, List.length_nil, Nat.reduceAdd, Nat.reduceSub, Array.replicate_succ, Array.replicate_zero, List.push_toArray, List.append_toArray, List.nil_append, List.cons_append]
  have c2 := b2.cell
  gi_wp2
  gi_loopw [7] (fun _ wr => ∃ (r : ByteArray) (pre : List (List UInt8)), r.size ≤ s.size ∧ pcs c s.data.toList = pre ++ pcs c r.data.toList ∧ Boxed wr B 9 (.string r) ∧ Boxed wr (B + 1) 9 (.string ⟨#[c]⟩) ∧ Boxed wr (B + 1 + 1) 3 (.int .i64 0) ∧ J pre wr)
    (fun _ wr => boxLen B wr)
  case atStart => exact ⟨s, [], Nat.le_refl _, rfl, b1, b2, b3, h0⟩
  case round =>
    obtain ⟨r, pre, hrs, hpc, d1, d2, d3, hj⟩ := hrel
    have e1 := d1.cell
    have e2 := d2.cell
    have e3 := d3.cell
    have f1 := d1.frozen
    gi_wp2_with fail
    refine ⟨trivial, ?_⟩
    refine (callsIn_wide.2 (Tryz.strings_Index_one r c wr)).mono ?_
    rintro e w2 ⟨rfl, rfl⟩
    have hge := Lib.indexByte_ge r.data.toList c
    have hrl : r.data.toList.length = r.size := Array.length_toList
    by_cases hneg : Lib.indexByte r.data.toList c = -1
    · have hp1 := Lib.hid (pcs_none c _ (Lib.indexByte_none hneg))
      rw [hneg]
      obtain ⟨fn, tmps, assign, body, hy, hR⟩ := hY pre r.data.toList w2 hj (by rw [hpc, hp1.out]; exact List.prefix_rfl)
      rw [show (⟨r.data.toList.toArray⟩ : ByteArray) = r from by rw [Array.toArray_toList]] at hy
      have hpc' := Lib.hid hpc
      clear hpc hneg
      gi_wp2_with fail
      refine hR.mono ?_
      rintro e3 W3 (⟨rfl, hJ3, hk3⟩ | ⟨rfl, hJx3⟩)
      · gi_wp2
        go_end0
        exact ⟨⟨_, rfl⟩, .inl ⟨_, rfl, by rw [hpc'.out, hp1.out]; exact hJ3⟩⟩
      · gi_wp2
        go_end0
        exact ⟨⟨_, rfl⟩, .inr ⟨_, by rw [hpc'.out, hp1.out]; exact List.prefix_rfl, hJx3⟩⟩
    · obtain ⟨o, ho⟩ : ∃ o : Nat, Lib.indexByte r.data.toList c = o := ⟨(Lib.indexByte r.data.toList c).toNat, by omega⟩
      obtain ⟨ho1, ho2⟩ := Lib.indexByte_some ho
      have hp1 := Lib.hid (pcs_some c _ o ho1 ho2)
      have hor : o < r.size := by rw [← hrl]; exact get_lt ho1
      rw [ho]
      clear hneg hge ho
      obtain ⟨fn, tmps, assign, body, hy, hR⟩ := hY pre (r.data.toList.take o) w2 hj (by rw [hpc, hp1.out]; exact ⟨pcs c (r.data.toList.drop (o + 1)), by simp⟩)
      rw [ext_take] at hy
      gi_wp2_with fail
      refine hR.mono ?_
      rintro e3 W3 (⟨rfl, hJ3, hk3⟩ | ⟨rfl, hJx3⟩)
      · have g1 : Boxed W3 B 9 (.string r) := (hk3 B (by omega) (by omega)).trans d1
        have g2 : Boxed W3 (B + 1) 9 (.string ⟨#[c]⟩) := (hk3 (B + 1) (by omega) (by omega)).trans d2
        have g3 : Boxed W3 (B + 1 + 1) 3 (.int .i64 0) := (hk3 (B + 1 + 1) (by omega) (by omega)).trans d3
        have i1 := g1.cell
        have i2 := g2.cell
        have i4 := g1.frozen
        have hbl := Lib.hid (boxLen_eq e1)
        have hpc' := Lib.hid hpc
        clear e1 e2 e3 f1 ho1 ho2 hpc
        gi_wp2_with fail
        go_roundw
        case rel => exact ⟨_, pre ++ [r.data.toList.take o], by rw [ByteArray.size_extract]; omega, by rw [hpc'.out, hp1.out, ext_drop]; simp, g1.set _, g2.other (by omega) _, g3.other (by omega) _, (hJ _).set _ _ hJ3⟩
        case measure => rw [hbl.out, boxLen_eq (g1.set _).cell, ByteArray.size_extract]; omega
      · gi_wp2_with fail
        refine bodyPost_ret (results_none rfl _ _ _) rfl ?_
        exact ⟨⟨_, rfl⟩, .inr ⟨_, by rw [hpc, hp1.out]; exact ⟨pcs c (r.data.toList.drop (o + 1)), by simp⟩, hJx3⟩⟩

/-- The contract of the iterator over s, whose three captured cells lie from block B on. -/
theorem split_st (n : Nat) (hn : 1 ≤ n) (B : Nat) (c : UInt8) (s : ByteArray) (hs63 : s.size ≤ 9223372036854775806) (w : World) (b1 : Boxed w B 9 (.string s)) (b2 : Boxed w (B + 1) 9 (.string ⟨#[c]⟩)) (b3 : Boxed w (B + 1 + 1) 3 (.int .i64 0)) :
    SeqSt Fence.wide n Tryz.prog 117 #[.pointer (some ⟨B + 1, 0, none⟩), .pointer (some ⟨B, 0, none⟩), .pointer (some ⟨B + 1 + 1, 0, none⟩)] (fun x : List UInt8 => Value.string ⟨x.toArray⟩) (keep3 B) (fun ys => ys = pcs c s.data.toList) (fun pre => pre <+: pcs c s.data.toList)
      (fun pre x => pre ++ [x] <+: pcs c s.data.toList) B w :=
  fun lb J Jx W hW hJ hJx hY h0 => by
    have l1 := b1.lt
    have l2 := b2.lt
    have l3 := b3.lt
    exact split1_in n hn lb B c s J Jx W hJ hJx hs63 hY ((hW.block B l1).trans b1) ((hW.block (B + 1) l2).trans b2) ((hW.block (B + 1 + 1) l3).trans b3) h0

theorem splitSeq_any (c : UInt8) (s : ByteArray) (w : World) :
    Calls Tryz.prog 91 #[.string s, .string ⟨#[c]⟩] w fun e w' => ∃ B, B = w.heap.size ∧ e = .returned (.func (.func 117) #[] #[.pointer (some ⟨B + 1, 0, none⟩), .pointer (some ⟨B, 0, none⟩), .pointer (some ⟨B + 1 + 1, 0, none⟩)]) ∧
      ((w.alloc (.cells #[.string s] 9)).alloc (.cells #[.string ⟨#[c]⟩] 9)).alloc (.cells #[.int .i64 0] 3) = w' := by
  go_enter Tryz.func91, Tryz.ntmps91
  go_wp2_with (first | go_in | fail)
  go_ret
  exact ⟨_, rfl, rfl, rfl⟩

end Go.Proofs.YtfgmebjbibbpdaaGreatDoor

namespace Go.Proofs.YtfgmebjbibbpdaaGreatDoor
open Go.RowKit Go.Shelf

theorem val_u64 {a b : Int} (h : a = b) : Value.int .u64 a = .int .u64 b := by rw [h]

set_option maxRecDepth 100000 in
set_option maxHeartbeats 1000000 in
theorem number_any (s : ByteArray) (w : World) :
    Calls Tryz.prog 92 #[.string s] w fun e w' => (∃ v : Int, e = .returned (.tuple #[.int .u32 v, .bool (numB s.data.toList)]) ∧ (numB s.data.toList = true → v = dv s.data.toList)) ∧ Below w.heap.size w w' := by
  obtain ⟨l, hl⟩ : ∃ l, s.data.toList = l := ⟨_, rfl⟩
  have hlen : l.length = s.size := by rw [← hl]; exact Array.length_toList
  rw [hl]
  by_cases z : s.size = 0
  · have hn : numB l = false := numB_head (fun h => h.1 (by omega))
    rw [hn]
    have t1 : ((s.size : Int) == 0) = true := by simp [z]
    have hn' := Lib.hid hn
    have hl' := Lib.hid hl
    clear hn hl hlen
    go_enter Tryz.func92, Tryz.ntmps92
    go_wp2_with fail
    go_ret2
    exact ⟨⟨0, rfl, fun h => by cases h⟩, by first | exact Below.refl _ _ | exact (Below.refl _ _).drew⟩
  · have t1 : ((s.size : Int) == 0) = false := by rw [beq_eq_false_iff_ne]; omega
    have t3 : (0 : Int) < (s.size : Int) := by omega
    by_cases z10 : 10 < s.size
    · have hn : numB l = false := numB_head (fun h => by have := h.2.1; omega)
      rw [hn]
      have t2 : decide ((10 : Int) < (s.size : Int)) = true := by rw [decide_eq_true_iff]; omega
      have hl' := Lib.hid hl
      clear hn hl hlen z z10
      go_enter Tryz.func92, Tryz.ntmps92
      go_wp2_with fail
      go_ret2
      exact ⟨⟨0, rfl, fun h => by cases h⟩, by first | exact Below.refl _ _ | exact (Below.refl _ _).drew⟩
    · have t2 : decide ((10 : Int) < (s.size : Int)) = false := by rw [decide_eq_false_iff_not]; omega
      obtain ⟨b, hb⟩ : ∃ b, s[0]'(by omega) = b := ⟨_, rfl⟩
      have hhd : l.headD 0 = b := by
        rw [← hb, ← hl]
        have h0 : 0 < s.data.toList.length := by rw [hl]; omega
        rw [List.headD_eq_head?_getD, List.head?_eq_getElem?, List.getElem?_eq_getElem h0]
        rfl
      by_cases hbad : 1 < s.size ∧ b.toNat = 48
      · have hn : numB l = false := numB_head (fun h => h.2.2 ⟨by omega, by rw [hhd]; exact UInt8.toNat_inj.1 hbad.2⟩)
        rw [hn]
        have z1 : decide ((1 : Int) < (s.size : Int)) = true := by rw [decide_eq_true_iff]; omega
        have z2 : ((b.toNat : Int) == 48) = true := by simp [hbad.2]
        have hl' := Lib.hid hl
        clear hn hl hlen z hbad hhd
        go_enter Tryz.func92, Tryz.ntmps92
        go_wp2_with fail
        go_ret2
        exact ⟨⟨0, rfl, fun h => by cases h⟩, by first | exact Below.refl _ _ | exact (Below.refl _ _).drew⟩
      · have hgood : headB l = true := decide_eq_true ⟨by omega, by omega, fun h => hbad ⟨by omega, by rw [← hhd, h.2]; rfl⟩⟩
        have hx : decide ((1 : Int) < (s.size : Int)) = false ∨ (decide ((1 : Int) < (s.size : Int)) = true ∧ ((b.toNat : Int) == 48) = false) := by
          by_cases h1 : 1 < s.size
          · refine .inr ⟨by rw [decide_eq_true_iff]; omega, by rw [beq_eq_false_iff_ne]; intro e; exact hbad ⟨h1, by omega⟩⟩
          · exact .inl (by rw [decide_eq_false_iff_not]; omega)
        have hcv := fun w => Lib.run_convert_string_bytes (P := Tryz.prog) w 9 48 5 s (u := .string) Tryz.underlying9 Tryz.underlying48 Tryz.underlying5
        have hcell : ∀ t, t < s.size → (Lib.bytesWorld w 5 s).cell? ⟨w.heap.size, t, none⟩ = some (.int .u8 (l.getD t 0).toNat) := fun t ht => by
          rw [← hl]; exact Lib.bytesWorld_cell w 5 s t ht
        have hbw : Below w.heap.size w (Lib.bytesWorld w 5 s) := Lib.bytesWorld_below w 5 s
        have hcell' := Lib.hid hcell
        have hcv' := Lib.hid hcv
        have hl' := Lib.hid hl
        have hlen' := Lib.hid hlen
        have hgood' := Lib.hid hgood
        clear hcell hcv hl hlen hgood hhd hbad
        rcases hx with z1 | ⟨z1, z2⟩
        all_goals
          go_enter Tryz.func92, Tryz.ntmps92
          go_wp2_with fail
          rw [hcv'.out]
          simp only [Result.andThen]
          rw [Oper.upon_value]
          obtain ⟨W1, hW1⟩ : ∃ W1, W1 = Lib.bytesWorld w 5 s := ⟨_, rfl⟩
          rw [← hW1] at hcell' hbw ⊢
          have hws : W1.heap.size = w.heap.size + 1 := by rw [hW1]; exact Lib.bytesWorld_size w 5 s
          clear hW1
          go_wp2_with fail
          go_loopw [4, 28] (fun m j wr => ∃ k : Nat, k ≤ s.size ∧ j = .int .i64 k ∧ m = .int .u64 ((dv (l.take k) : Nat) : Int) ∧ (l.take k).all digB = true ∧ Below W1.heap.size W1 wr)
            (fun _ j _ => s.size - (intOf j).toNat)
          case atStart => exact ⟨0, Nat.zero_le _, rfl, by simp [dv], by simp, Below.refl _ _⟩
          case round =>
            obtain ⟨k, hk, rfl, rfl, hall, hbr⟩ := hrel
            have hmx := dv_lt hall
            have hp10 : (10 : Nat) ^ (l.take k).length ≤ 10 ^ 10 := Nat.pow_le_pow_right (by omega) (by rw [List.length_take]; omega)
            have hm10 : dv (l.take k) < 10000000000 := by omega
            clear hmx hp10
            by_cases hlt : k < s.size
            · obtain ⟨x, hx⟩ := get_some (show k < l.length by rw [hlen'.out]; exact hlt)
              have hcx : wr.cell? ⟨w.heap.size, k, none⟩ = some (.int .u8 (x.toNat : Int)) := by
                rw [hbr.cell (p := ⟨w.heap.size, k, none⟩) (by rw [hws]; exact Nat.lt_succ_self _), hcell'.out k hlt, List.getD_eq_getElem?_getD, hx]
                rfl
              have hxt : x.toNat < 256 := UInt8.toNat_lt x
              have hstep := Lib.hid (take_snoc hx)
              have hx' := Lib.hid hx
              have hall' := Lib.hid hall
              clear hx hall
              by_cases hd : 48 ≤ x.toNat ∧ x.toNat ≤ 57
              · obtain ⟨hd1, hd2⟩ := hd
                have d1 : decide ((x.toNat : Int) < 48) = false := by rw [decide_eq_false_iff_not]; omega
                have d2 : decide ((57 : Int) < (x.toNat : Int)) = false := by rw [decide_eq_false_iff_not]; omega
                go_wp2_with fail
                go_roundw
                case rel => exact ⟨k + 1, by omega, by go_num, val_u64 (by rw [hstep.out, dv_snoc]; omega), by rw [hstep.out, List.all_append, hall'.out]; simp [digB, hd1, hd2], hbr⟩
                case measure => simp [intOf]; omega
              · have hnf' := Lib.hid (numB_dig hx'.out hd)
                rcases d1 : decide ((x.toNat : Int) < 48) with _ | _
                · have d2 : decide ((57 : Int) < (x.toNat : Int)) = true := by
                    have := of_decide_eq_false d1
                    rw [decide_eq_true_iff]; omega
                  go_wp2_with fail
                  go_ret2
                  exact ⟨⟨0, by rw [hnf'.out]; rfl, fun h => by rw [hnf'.out] at h; cases h⟩, hbw.trans (hbr.mono (by omega))⟩
                · go_wp2_with fail
                  go_ret2
                  exact ⟨⟨0, by rw [hnf'.out]; rfl, fun h => by rw [hnf'.out] at h; cases h⟩, hbw.trans (hbr.mono (by omega))⟩
            · have ht : l.take k = l := take_all (by rw [hlen'.out]; exact hlt)
              rw [ht] at hall hm10 ⊢
              have hnum' := Lib.hid (numB_all hgood'.out hall)
              clear hall ht
              go_wp2_with fail
              go_ret2
              exact ⟨⟨(dv l : Int) % 4294967296, by rw [hnum'.out]; rfl, fun h => by rw [hnum'.out] at h; have := of_decide_eq_true h; omega⟩, hbw.trans (hbr.mono (by omega))⟩

end Go.Proofs.YtfgmebjbibbpdaaGreatDoor

namespace Go.Proofs.YtfgmebjbibbpdaaGreatDoor
open Go.RowKit

theorem Calm.owns {B base : Nat} (hB : B < base) (e : TypeId) (size : Nat) (v : Value) (n : Nat) (xs : List Value) : Calm B (fun W => W.ownsRow base e size v n xs) where
  alloc W o h := World.ownsRow.alloc h o
  set W v' h := h.kept (grownBy_setCell' W B v') (by
    rcases h.2 with ⟨rfl, _⟩ | ⟨g, cap, cur, rfl, hg, _⟩
    · exact .inl rfl
    · refine .inr fun e' => ?_
      have : g = B := by simpa [Value.ownBlock] using e'
      omega)
  drew W k h := h

/-- Behind an append to what a box holds, and the store into the box. -/
theorem app_box {W w1 : World} {N B size k m : Nat} {t e : TypeId} {v v' : Value} {xs ys : List Value} {tmp : Obj} (hbox : Boxed W B t v) (hrow : W.ownsRow N e size v k xs) (hN : N ≤ W.heap.size) (hBN : B < N)
    (hown' : w1.ownsRow N e size v' m ys) (hgrow : (W.alloc tmp).grownBy w1 v.ownBlock) :
    Boxed w1 B t v ∧ Boxed (w1.setCell ⟨B, 0, none⟩ v') B t v' ∧ (w1.setCell ⟨B, 0, none⟩ v').ownsRow N e size v' m ys ∧ KeepsOthers W (w1.setCell ⟨B, 0, none⟩ v') ∧ (∀ j, j < N → j ≠ B → (w1.setCell ⟨B, 0, none⟩ v').heap[j]? = W.heap[j]?) ∧ ∀ H, H ≤ B → Below H W (w1.setCell ⟨B, 0, none⟩ v') := by
  have hb : Below N W w1 := ((Below.refl N W).alloc hN tmp).trans (grown_below (hrow.alloc tmp) hgrow (Nat.le_refl _) (by simp; omega))
  have hv1 : Boxed w1 B t v := (hb.block B hBN).trans hbox
  refine ⟨hv1, hv1.set v', (Calm.owns hBN e size v' m ys).set _ _ hown', ?_, fun j hj hne => ?_, fun H hH => ?_⟩
  · refine ((KeepsOthers.alloc W tmp).trans (KeepsOthers.of_grownBy hgrow fun j o ej hj => ?_)).trans (KeepsOthers.setCell _ _ _)
    rcases (hrow.alloc tmp).2 with ⟨rfl, _⟩ | ⟨g, cap, cur, rfl, _, hgb, _⟩
    · simp [Value.ownBlock] at ej
    · obtain rfl : g = j := by simpa [Value.ownBlock] using ej
      rw [hgb] at hj; cases hj; rfl
  · exact ((grownBy_setCell' w1 B v').block j (by have := hb.size; omega) (fun e => hne (by cases e; rfl))).trans (hb.block j hj)
  · exact ((hb.mono (by omega)).setCell (p := ⟨B, 0, none⟩) hH _)

theorem box_new {w w' : World} {t : TypeId} {v : Value} {k : Nat} (h : w.alloc (.cells #[v] t) = w') (hk : w.heap.size = k) : Boxed w' k t v ∧ w'.heap.size = k + 1 := by
  subst h hk
  exact ⟨Boxed.new w t v, World.size_alloc _ _⟩
theorem box_al {w w' : World} {t : TypeId} {v : Value} {k : Nat} {o : Obj} (h : Boxed w k t v) (hw : w.alloc o = w') : Boxed w' k t v := by
  subst hw
  exact h.alloc o
theorem below_al {w0 w w' : World} {B : Nat} {o : Obj} (h : Below B w0 w) (hB : B ≤ w.heap.size) (hw : w.alloc o = w') : Below B w0 w' := by
  subst hw
  exact h.alloc hB o
theorem box_putO {W : World} {B l : Nat} {t : TypeId} {v : Value} {o : Obj} (o' : Obj) (h : Boxed W B t v) (hl : W.heap[l]? = some o) (ho : o.isCells = false) : Boxed (W.putObj l o') B t v := by
  have hne : B ≠ l := fun e => by
    subst e
    rw [show W.heap[B]? = _ from h] at hl
    cases hl
    cases ho
  exact (World.putObj_heap_other hne).trans h
theorem owns_below {w w' : World} {base B size n : Nat} {t : TypeId} {v : Value} {xs : List Value} (h : w.ownsRow base t size v n xs) (hb : Below B w w') (hB : w.heap.size ≤ B) : w'.ownsRow base t size v n xs := by
  refine ⟨h.1, ?_⟩
  rcases h.2 with h2 | ⟨g, cap, cur, hv, hg, hh, r⟩
  · exact .inl h2
  · exact .inr ⟨g, cap, cur, hv, hg, (hb.block g (by have := (Array.getElem?_eq_some_iff.1 hh).1; omega)).trans hh, r⟩
theorem owns_slice {w : World} {base size n : Nat} {t : TypeId} {v : Value} {xs : List Value} (h : w.ownsRow base t size v n xs) : ∃ A c, v = .slice A n c := by
  rcases h.2 with ⟨h2, h3⟩ | ⟨g, cap, cur, hv, _⟩
  · exact ⟨_, _, by rw [h2, h3]⟩
  · exact ⟨_, _, hv⟩
theorem keeps_below {L : Nat} {W W' : World} (h : Below W.heap.size W W') : KeepsFrom L W W' := ⟨h.size, fun k _ _ hk _ => (h.block k (Array.getElem?_eq_some_iff.1 hk).1).trans hk⟩
theorem below_putO {W : World} {H l : Nat} {o : Obj} (o' : Obj) (hl : H ≤ l) (h : W.heap[l]? = some o) : Below H W (W.putObj l o') :=
  (Below.refl H W).grown (grownBy_putObj' W l o') (by have := (Array.getElem?_eq_some_iff.1 h).1; omega) (fun k e => by cases e; omega)
theorem Calm.size (B N : Nat) : Calm B (fun W => N ≤ W.heap.size) := ⟨fun W o h => by rw [World.size_alloc]; omega, fun W v h => by have := (grownBy_setCell' W B v).size; omega, fun _ _ h => h⟩
theorem Calm.const (B : Nat) (p : Prop) : Calm B (fun _ => p) := ⟨fun _ _ h => h, fun _ _ h => h, fun _ _ h => h⟩

end Go.Proofs.YtfgmebjbibbpdaaGreatDoor

namespace Go.Proofs.YtfgmebjbibbpdaaGreatDoor
open Go.RowKit Go.Shelf
attribute [local go_sem] Oper.semAt_some

def readB (most : Int) (l : List UInt8) : Bool := if l = [] then decide (0 ≤ most) else (pcs 32 l).all numB && decide (((pcs 32 l).length : Int) ≤ most)
def readL (l : List UInt8) : List Int := if l = [] then [] else (pcs 32 l).map fun p => (dv p : Int)

theorem read_all {most : Int} {l : List UInt8} (hl : l ≠ []) : readB most l = ((pcs 32 l).all numB && decide (((pcs 32 l).length : Int) ≤ most)) := by unfold readB; rw [if_neg hl]
theorem read_bad1 {most : Int} {l : List UInt8} (hl : l ≠ []) {pre : List (List UInt8)} {x : List UInt8} (hok : pre ++ [x] <+: pcs 32 l) (hx : numB x = false) : readB most l = false := by
  rw [read_all hl]
  have : (pcs 32 l).all numB = false := by
    rw [List.all_eq_false]
    refine ⟨x, hok.subset (by simp), ?_⟩
    rw [hx]
    simp
  rw [this]
  rfl
theorem read_bad2 {most : Int} {l : List UInt8} (hl : l ≠ []) {pre : List (List UInt8)} {x : List UInt8} (hok : pre ++ [x] <+: pcs 32 l) (hx : most ≤ (pre.length : Int)) : readB most l = false := by
  rw [read_all hl]
  have h2 := hok.length_le
  rw [List.length_append, List.length_singleton] at h2
  have : decide (((pcs 32 l).length : Int) ≤ most) = false := by rw [decide_eq_false_iff_not]; omega
  rw [this, Bool.and_false]
def wordsV (l : List (List UInt8)) : List Value := l.map fun p => Value.int .u32 (dv p : Int)

theorem res_read (tmps : Array Value) (w : World) {a b : Addr} {A : Option Addr} {n c : Nat} {x : Bool} (ha : tmps[4]?.getD undef = .pointer (some a)) (hb : tmps[5]?.getD undef = .pointer (some b)) (hv : w.cell? a = some (.slice A n c)) (hx : w.cell? b = some (.bool x)) :
    (results Tryz.f74 tmps).run Tryz.prog w = .ok (.tuple #[.slice A n c, .bool x]) w := by
  simp [results, ha, hb, hv, hx, go_sem]

set_option maxRecDepth 100000 in
set_option maxHeartbeats 2000000 in
theorem read_any (s : ByteArray) (most : Int) (w : World) (hs : s.size ≤ 1000000) (hm1 : -9223372036854775808 ≤ most) (hm2 : most ≤ 9223372036854775807) :
    Calls Tryz.prog 74 #[.string s, .int .i64 most] w fun e w' => ∃ v, e = .returned (.tuple #[v, .bool (readB most s.data.toList)]) ∧ (readB most s.data.toList = true → OwnW w.heap.size w' v (readL s.data.toList)) ∧ (readB most s.data.toList = false → v = .slice none 0 0) ∧ Below w.heap.size w w' := by
  by_cases z : s.size = 0
  · have hl0 : s.data.toList = [] := by
      have : s.data.toList.length = s.size := Array.length_toList
      exact List.eq_nil_of_length_eq_zero (by omega)
    have hne : s.toList.isEmpty = true := by rw [ByteArray.toList_eq, hl0]; rfl
    have hrb : readB most s.data.toList = decide (0 ≤ most) := by unfold readB; rw [if_pos hl0]
    have hrl : readL s.data.toList = [] := by unfold readL; rw [if_pos hl0]
    rw [hrb, hrl]
    clear hrb hrl hl0 z
    go_enter Tryz.func74, Tryz.ntmps74
    go_wp2_with fail
    go_region
    all_goals go_wp2_with fail
    all_goals
      refine bodyPost_ret (res_read (A := none) (n := 0) (c := 0) (x := decide (0 ≤ most)) _ _ rfl rfl (by simp [go_sem]) (by simp [go_sem])) rfl ?_
      refine ⟨_, rfl, fun _ => ⟨Own.nil _ _, (fun z h => by cases h)⟩, (fun _ => rfl), ?_⟩
      exact ((((Below.refl _ w).alloc (Nat.le_refl _) _).alloc (by simp) _).alloc (by simp; omega) _).drew
  · have hne : s.toList.isEmpty = false := by
      rw [ByteArray.toList_eq]
      rcases hh : s.data.toList with _ | ⟨a, r⟩
      · exfalso
        have : s.data.toList.length = s.size := Array.length_toList
        rw [hh] at this
        exact z this.symm
      · rfl
    refine (callsIn_wide (n := 6)).1 ?_
    refine callsIn_of_wp_marks Tryz.func74 rfl trivial ?_ rfl
    simp only [Tryz.ntmps74, List.size_toArray, List.length_cons, List.length_nil, Nat.reduceAdd, Nat.reduceSub, Array.replicate_succ, Array.replicate_zero, List.push_toArray, List.append_toArray, List.nil_append, List.cons_append]
    gi_wp2_with fail
    refine ⟨trivial, ?_⟩
    refine (callsIn_wide.2 (splitSeq_any 32 s _)).mono ?_
    rintro e W0 ⟨B, hB, rfl, hW0⟩
    gi_wp2_with fail
    clear hB
    obtain ⟨w1, hw1⟩ : ∃ x, w.alloc (.cells #[.int .i64 most] 3) = x := ⟨_, rfl⟩
    rw [hw1] at hW0
    have x1 := box_new hw1 rfl
    obtain ⟨w2, hw2⟩ : ∃ x, w1.alloc (.cells #[.slice none 0 0] 39) = x := ⟨_, rfl⟩
    rw [hw2] at hW0
    have x2 := box_new hw2 x1.2
    obtain ⟨w3, hw3⟩ : ∃ x, w2.alloc (.cells #[.bool false] 4) = x := ⟨_, rfl⟩
    rw [hw3] at hW0
    have x3 := box_new hw3 x2.2
    obtain ⟨w4, hw4⟩ : ∃ x, w3.alloc (.cells #[.slice none 0 0] 39) = x := ⟨_, rfl⟩
    rw [hw4] at hW0
    have x4 := box_new hw4 x3.2
    obtain ⟨w5, hw5⟩ : ∃ x, w4.alloc (.cells #[.string s] 9) = x := ⟨_, rfl⟩
    rw [hw5] at hW0
    have x5 := box_new hw5 x4.2
    obtain ⟨w6, hw6⟩ : ∃ x, w5.alloc (.cells #[.string ⟨#[32]⟩] 9) = x := ⟨_, rfl⟩
    rw [hw6] at hW0
    have x6 := box_new hw6 x5.2
    have hw7 := hW0
    have x7 := box_new hw7 x6.2
    have y1 := (box_al (box_al (box_al (box_al (box_al (box_al x1.1 hw2) hw3) hw4) hw5) hw6) hw7)
    have y2 := (box_al (box_al (box_al (box_al (box_al x2.1 hw3) hw4) hw5) hw6) hw7)
    have y3 := (box_al (box_al (box_al (box_al x3.1 hw4) hw5) hw6) hw7)
    have y4 := (box_al (box_al (box_al x4.1 hw5) hw6) hw7)
    have y5 := (box_al (box_al x5.1 hw6) hw7)
    have y6 := (box_al x6.1 hw7)
    have y7 := x7.1
    have hb0 : Below w.heap.size w W0 := below_al (below_al (below_al (below_al (below_al (below_al (below_al (Below.refl w.heap.size w) (Nat.le_refl _) hw1) (by rw [x1.2]; omega) hw2) (by rw [x2.2]; omega) hw3) (by rw [x3.2]; omega) hw4) (by rw [x4.2]; omega) hw5) (by rw [x5.2]; omega) hw6) (by rw [x6.2]; omega) hw7
    have hsz := x7.2
    clear x1 x2 x3 x4 x5 x6 x7 hw1 hw2 hw3 hw4 hw5 hw6 hw7 hW0
    obtain ⟨N, hN⟩ : ∃ N, N = w.heap.size + 1 + 1 + 1 + 1 + 1 + 1 + 1 := ⟨_, rfl⟩
    have hpl : (pcs 32 s.data.toList).length ≤ s.size + 1 := by
      have := pcs_len 32 s.data.toList
      have h2 : s.data.toList.length = s.size := Array.length_toList
      omega
    have hl0 : s.data.toList ≠ [] := fun e => by
      have : s.data.toList.length = s.size := Array.length_toList
      rw [e] at this
      exact z this.symm
    refine wpIn_rangeFunc_st rfl (by omega) (gf := 117) (lb := #[.pointer (some ⟨w.heap.size + 1 + 1 + 1 + 1 + 1, 0, none⟩), .pointer (some ⟨w.heap.size + 1 + 1 + 1 + 1, 0, none⟩), .pointer (some ⟨w.heap.size + 1 + 1 + 1 + 1 + 1 + 1, 0, none⟩)]) rfl trivial (enters_of Tryz.func117 (by kernel_rfl) rfl)
      (split_st (6 - 1) (by omega) (w.heap.size + 1 + 1 + 1 + 1) 32 s (by omega) W0 y5 y6 y7) (by omega) (fun h k j h1 h2 => (k j h1 h2).trans (h j h1 h2)) (fun W l o o' hl _ _ j h1 h2 => World.putObj_heap_other (by omega)) (Below.refl _ _)
      (fun pre W => (Boxed W w.heap.size 3 (.int .i64 most) ∧ Boxed W (w.heap.size + 1) 39 (.slice none 0 0) ∧ Boxed W (w.heap.size + 1 + 1) 4 (.bool false)) ∧
        (∃ v, Boxed W (w.heap.size + 1 + 1 + 1) 39 v ∧ W.ownsRow N 38 1 v pre.length (wordsV pre)) ∧ (Below w.heap.size w W ∧ N ≤ W.heap.size) ∧ (pre.all numB = true ∧ (pre = [] ∨ (pre.length : Int) ≤ most)))
      (fun c pre W => (Boxed W (w.heap.size + 1) 39 (.slice none 0 0) ∧ Boxed W (w.heap.size + 1 + 1) 4 (.bool false)) ∧ Below w.heap.size w W ∧ (c = .ret ∧ readB most s.data.toList = false))
      ?_ ?_ ?_ ?_ ⟨⟨y1, y2, y3⟩, ⟨_, y4, World.ownsRow_nil _ _ _ _⟩, ⟨hb0, by omega⟩, rfl, .inl rfl⟩
      (fun x => { tmps := #[.string s, .int .i64 most, undef, .pointer (some ⟨w.heap.size, 0, none⟩), .pointer (some ⟨w.heap.size + 1, 0, none⟩), .pointer (some ⟨w.heap.size + 1 + 1, 0, none⟩), .pointer (some ⟨w.heap.size + 1 + 1 + 1, 0, none⟩), .string ⟨x.toArray⟩, undef, undef, .string s, .bool false, undef, undef, .string s,
        .func (.func 117) #[] #[.pointer (some ⟨w.heap.size + 1 + 1 + 1 + 1 + 1, 0, none⟩), .pointer (some ⟨w.heap.size + 1 + 1 + 1 + 1, 0, none⟩), .pointer (some ⟨w.heap.size + 1 + 1 + 1 + 1 + 1 + 1, 0, none⟩)], .string ⟨x.toArray⟩, undef, undef, undef, undef, undef, undef, undef, undef, undef, undef, undef, undef, undef, undef, undef, undef, undef, undef], defers := [] })
      ?assign ?body ?done ?stop
    · exact fun pre => ((Calm.boxed (by omega) _ _).and ((Calm.boxed (by omega) _ _).and (Calm.boxed (by omega) _ _))).and ((Calm.ex fun v => (Calm.boxed (by omega) _ _).and (Calm.owns (by omega) _ _ _ _ _)).and (((Calm.below (by omega) (Nat.le_refl _)).and (Calm.size _ _)).and (Calm.const _ _)))
    · exact fun c pre => ((Calm.boxed (by omega) _ _).and (Calm.boxed (by omega) _ _)).and ((Calm.below (by omega) (Nat.le_refl _)).and (Calm.const _ _))
    · rintro pre W l o o' ⟨⟨r0, r1, r2⟩, ⟨v, r3, hown⟩, ⟨hbw, hNW⟩, hr⟩ hl ho hc
      have hbp := below_putO (H := w.heap.size) o' (by omega) ho
      exact ⟨⟨box_putO o' r0 ho hc, box_putO o' r1 ho hc, box_putO o' r2 ho hc⟩, ⟨v, box_putO o' r3 ho hc, ownsRow_putObj hown o' ho hc⟩, ⟨hbw.trans hbp, Nat.le_trans hNW hbp.size⟩, hr⟩
    · rintro c pre W l o o' ⟨⟨r1, r2⟩, hbw, hr⟩ hl ho hc
      have hbp := below_putO (H := w.heap.size) o' (by omega) ho
      exact ⟨⟨box_putO o' r1 ho hc, box_putO o' r2 ho hc⟩, hbw.trans hbp, hr⟩
    case assign =>
      intro l x W K hK
      gi_wp2
      exact hK
    case body =>
      rintro l pre x W ⟨⟨r0, r1, r2⟩, ⟨v, r3, hown⟩, ⟨hbw, hNW⟩, hall, hle⟩ hok
      gi_wp2_with fail
      refine ⟨trivial, ?_⟩
      refine (CallsIn.inRound l (callsIn_wide.2 (number_any _ _))).mono ?_
      rintro e3 W3 ⟨⟨z, rfl, hz⟩, hb3⟩
      have hxx : (⟨x.toArray⟩ : ByteArray).data.toList = x := rfl
      rw [hxx] at hz ⊢
      replace r0 : Boxed W3 _ _ _ := (hb3.block _ r0.lt).trans r0
      replace r1 : Boxed W3 _ _ _ := (hb3.block _ r1.lt).trans r1
      replace r2 : Boxed W3 _ _ _ := (hb3.block _ r2.lt).trans r2
      replace r3 : Boxed W3 _ _ _ := (hb3.block _ r3.lt).trans r3
      replace hown := owns_below hown hb3 (Nat.le_refl _)
      have hb3' := hbw.trans (hb3.mono hbw.size)
      have hs3 := hb3.size
      obtain ⟨A, c, rfl⟩ := owns_slice hown
      have g0 := r0.cell
      have g1 := r1.cell
      have g2 := r2.cell
      have g3 := r3.cell
      have f1 := r1.frozen
      have f2 := r2.frozen
      rcases hnb : numB x with _ | _
      · have hrd := Lib.hid (read_bad1 (most := most) hl0 hok hnb)
        gi_wp2_with fail
        refine ⟨(keeps_below hb3).trans (((KeepsOthers.setCell _ _ _).trans (KeepsOthers.setCell _ _ _)).from _), ⟨(r1.set _).other (by omega) _, (r2.other (by omega) _).set _⟩, (hb3'.setCell (p := ⟨w.heap.size + 1, 0, none⟩) (by simp) _).setCell (p := ⟨w.heap.size + 1 + 1, 0, none⟩) (by simp; omega) _, rfl, hrd.out⟩
      · replace hz := hz hnb
        subst hz
        by_cases hlt : (pre.length : Int) < most
        · have t1 : decide (most ≤ (pre.length : Int)) = false := by rw [decide_eq_false_iff_not]; omega
          have hpl2 := hok.length_le
          rw [List.length_append, List.length_singleton] at hpl2
          have hall' := Lib.hid hall
          have hnb' := Lib.hid hnb
          have hok' := Lib.hid hok
          have hown' := Lib.hid hown
          clear hall hok hnb hown
          obtain ⟨ht, i0, zz, hi, hz0, hsize, hby, hzs, hszz⟩ := u32Ty
          gi_wp2_with (gi_at_builtin; refine wpListIn_append_own _ rfl _ _ 39 rfl N 38 i0 zz 1 4 ht hi hz0 hsize hby hzs hszz _ _ _ rfl (hown'.out.alloc _) ⟨W3.heap.size, 0, none⟩ 1 1 [.int .u32 (dv x : Int)] rfl rfl (cells_new' _ _ _ _ rfl) (by simp [Value.oneCell']) (by unfold maxLen; omega) (by omega) (by simp; omega) ?_
                       intro v' w1 hown1 hgrow1 _
                       obtain ⟨A', c', rfl⟩ := owns_slice hown1
                       obtain ⟨q1, q2, q3, q4, q5, q6⟩ := app_box r3 hown'.out (by omega) (by omega) hown1 hgrow1
                       have q1c := q1.cell
                       have q1f := q1.frozen)
          refine ⟨(keeps_below hb3).trans (q4.from _), fun j h1 h2 => (q5 j (by omega) (by omega)).trans (hb3.block j (by omega)), ⟨(q5 _ (by omega) (by omega)).trans r0, (q5 _ (by omega) (by omega)).trans r1, (q5 _ (by omega) (by omega)).trans r2⟩, ⟨_, q2, ?_⟩,
            ⟨hb3'.trans (q6 _ (by omega)), Nat.le_trans (Nat.le_trans hNW hs3) (q6 w.heap.size (by omega)).size⟩, ?_, .inr (by rw [List.length_append, List.length_singleton]; omega)⟩
          · rw [List.length_append, List.length_singleton]
            unfold wordsV
            rw [List.map_append]
            exact q3
          · rw [List.all_append, hall'.out]
            simp [hnb'.out]
        · have t1 : decide (most ≤ (pre.length : Int)) = true := by rw [decide_eq_true_iff]; omega
          have hrd := Lib.hid (read_bad2 (most := most) hl0 hok (by omega))
          gi_wp2_with fail
          refine ⟨(keeps_below hb3).trans (((KeepsOthers.setCell _ _ _).trans (KeepsOthers.setCell _ _ _)).from _), ⟨(r1.set _).other (by omega) _, (r2.other (by omega) _).set _⟩, (hb3'.setCell (p := ⟨w.heap.size + 1, 0, none⟩) (by simp) _).setCell (p := ⟨w.heap.size + 1 + 1, 0, none⟩) (by simp; omega) _, rfl, hrd.out⟩
    case done =>
      rintro D ys W hD rfl ⟨⟨r0, r1, r2⟩, ⟨v, r3, hown⟩, ⟨hbw, hNW⟩, hall, hle⟩ hK
      obtain ⟨A, c, rfl⟩ := owns_slice hown
      have g1 := r1.cell
      have g2 := r2.cell
      have g3 := r3.cell
      have f1 := r1.frozen
      have f2 := r2.frozen
      have hrd : readB most s.data.toList = true := by rw [read_all hl0, hall, decide_eq_true (hle.resolve_left (pcs_ne 32 s.data.toList))]; rfl
      have hrd' := Lib.hid hrd
      have hall' := Lib.hid hall
      clear hrd hall hle
      gi_wp2_with fail
      have r1' := (r1.set (.slice A (pcs 32 s.data.toList).length c)).other (B' := w.heap.size + 1 + 1) (by omega) (.bool true)
      have r2' := (r2.other (B' := w.heap.size + 1) (by omega) (.slice A (pcs 32 s.data.toList).length c)).set (.bool true)
      have hK' := (Calm.at (B := w.heap.size + 1 + 1) (l := D) (by omega) _).set _ (.bool true) ((Calm.at (B := w.heap.size + 1) (l := D) (by omega) _).set _ (.slice A (pcs 32 s.data.toList).length c) hK)
      have hown' := ownsRow_putObj ((Calm.owns (B := w.heap.size + 1 + 1) (base := N) (by omega) _ _ _ _ _).set _ (.bool true) ((Calm.owns (B := w.heap.size + 1) (base := N) (by omega) _ _ _ _ _).set _ (.slice A (pcs 32 s.data.toList).length c) hown)) (.deferred none) hK' rfl
      have hbp := below_putO (H := w.heap.size) (.deferred none) (by omega) hK'
      refine ⟨by simp, .inl ⟨_, _, rfl, run_takeDeferred hK', ?_⟩⟩
      refine ⟨_, res_read _ _ rfl rfl (box_putO (.deferred none) r1' hK' rfl).cell (box_putO (.deferred none) r2' hK' rfl).cell, .slice A (pcs 32 s.data.toList).length c, (by rw [hrd'.out]), (fun _ => ?_), (fun h => by rw [hrd'.out] at h; cases h), ((hbw.setCell (p := ⟨w.heap.size + 1, 0, none⟩) (by simp) _).setCell (p := ⟨w.heap.size + 1 + 1, 0, none⟩) (by simp; omega) _).trans hbp⟩
      have hrl : readL s.data.toList = (pcs 32 s.data.toList).map fun p => (dv p : Int) := by unfold readL; rw [if_neg hl0]
      rw [hrl]
      refine ⟨Own.mono ?_ (show w.heap.size ≤ N by omega), fun z hz => ?_⟩
      · unfold Own
        rw [List.length_map, show (ints .u32).all ((pcs 32 s.data.toList).map fun p => (dv p : Int)) = wordsV (pcs 32 s.data.toList) from by unfold wordsV; rw [show (ints .u32).all _ = _ from of1_all _ _ _, List.map_map]; rfl]
        exact hown'
      · obtain ⟨p, hp, rfl⟩ := List.mem_map.1 hz
        have := List.all_eq_true.1 hall'.out p hp
        simp [numB] at this
        simp [Lit.wf, IntKind.min, IntKind.max, IntKind.signed, IntKind.bits]
        omega
    case stop =>
      rintro D c pre W hD _ ⟨⟨r1, r2⟩, hbw, rfl, hf⟩ hK
      have g1 := r1.cell
      have g2 := r2.cell
      have hf' := Lib.hid hf
      clear hf
      have hbp := below_putO (H := w.heap.size) (.deferred none) (by omega) hK
      gi_wp2_with fail
      refine ⟨by simp, .inl ⟨_, _, rfl, run_takeDeferred hK, ?_⟩⟩
      exact ⟨_, res_read _ _ rfl rfl (box_putO (.deferred none) r1 hK rfl).cell (box_putO (.deferred none) r2 hK rfl).cell, .slice none 0 0, (by rw [hf'.out]), (fun h => by rw [hf'.out] at h; cases h), (fun _ => rfl), hbw.trans hbp⟩

end Go.Proofs.YtfgmebjbibbpdaaGreatDoor

namespace Go.Proofs.YtfgmebjbibbpdaaGreatDoor
open Go.RowKit

/-- The words behind 'init', as the program reads them. -/
def recG (ps : List (List UInt8)) : List Int := if readB 65536 (Lib.join ps [32]) = true then readL (Lib.join ps [32]) else []
def obKd (w : List UInt8) : Int := idxF (obWs.drop 1) w + 1
def objC (num : List UInt8 → Int) (rec : List (List UInt8) → List Int) (kd : Int) (i : Nat) (ps : List (List UInt8)) : Oj :=
  ⟨kd, num (ps.getD 2 []), num (ps.getD 3 []), num (ps.getD 4 []), num (ps.getD 5 []), rec (ps.drop (i + 1)), num (ps.getD 6 []), ((ps.take i).drop 8).map num⟩
theorem idxF_at {ws : List (List UInt8)} {w : List UInt8} {k : Nat} (h : ws[k]? = some w) (hn : ∀ j : Nat, j < k → ws[j]? ≠ some w) : idxF ws w = k := by
  have : ws.findIdx? (fun x => x == w) = some k := by
    rw [List.findIdx?_eq_some_iff_getElem]
    obtain ⟨h1, h2⟩ := List.getElem?_eq_some_iff.1 h
    refine ⟨h1, by rw [h2]; exact beq_self_eq_true _, fun j hj => ?_⟩
    have h3 := hn j hj
    rw [List.getElem?_eq_getElem (by omega)] at h3
    simpa using h3
  unfold idxF
  rw [this]
theorem obKd_word {k : Int} (h : 1 ≤ k ∧ k ≤ 6) : obKd (obWs.getD k.toNat []) = k := by
  have : k = 1 ∨ k = 2 ∨ k = 3 ∨ k = 4 ∨ k = 5 ∨ k = 6 := by omega
  rcases this with rfl | rfl | rfl | rfl | rfl | rfl <;> decide
theorem objP_split (o : Oj) : objP o = (objW :: obWs.getD o.kd.toNat [] :: o.five.map dd) ++ rdrW :: (o.rd.map dd ++ iniW :: o.ini.map dd) := rfl
theorem dd_ne_word {z : Int} {w : List UInt8} (h : w.all digB = false) : dd z ≠ w := fun e => by
  have : (dd z).all digB = true := dd_all (z.toNat + 1) z.toNat (by omega)
  rw [e, h] at this
  cases this
theorem obW_ne (w : List UInt8) (h : (obWs.all fun x => x != w) = true) (hw : w ≠ []) (k : Nat) : obWs.getD k [] ≠ w := by
  rw [List.getD_eq_getElem?_getD]
  cases hk : obWs[k]? with
  | none => exact fun e => hw e.symm
  | some x =>
    intro e
    have h1 := List.all_eq_true.1 h x (List.mem_of_getElem? hk)
    simp at h1
    exact h1 e
theorem idx_rdr (o : Oj) : idxF (objP o) rdrW = 7 := by
  refine idxF_at (k := 7) rfl ?_
  intro j hj
  have : j = 0 ∨ j = 1 ∨ j = 2 ∨ j = 3 ∨ j = 4 ∨ j = 5 ∨ j = 6 := by omega
  have hd : ∀ z : Int, some (dd z) ≠ some rdrW := fun z e => dd_ne_word (by decide) (Option.some.inj e)
  rcases this with rfl | rfl | rfl | rfl | rfl | rfl | rfl
  · exact fun e => absurd (Option.some.inj e) (by decide)
  · exact fun e => obW_ne rdrW (by decide) (by decide) _ (Option.some.inj e)
  · exact hd o.wd
  · exact hd o.sl
  · exact hd o.cp
  · exact hd o.st
  · exact hd o.wr
theorem objP_ini (o : Oj) : (objP o)[8 + o.rd.length]? = some iniW := by
  rw [objP_split, List.getElem?_append_right (by simp [Oj.five]; omega)]
  have : 8 + o.rd.length - (objW :: obWs.getD o.kd.toNat [] :: o.five.map dd).length = o.rd.length + 1 := by simp [Oj.five]; omega
  rw [this, List.getElem?_cons_succ, List.getElem?_append_right (by simp)]
  simp
theorem idx_ini (o : Oj) : idxF (objP o) iniW = ((8 + o.rd.length : Nat) : Int) := by
  refine idxF_at (objP_ini o) ?_
  intro j hj
  have hd : ∀ z : Int, some (dd z) ≠ some iniW := fun z e => dd_ne_word (by decide) (Option.some.inj e)
  by_cases h8 : j < 8
  · have : j = 0 ∨ j = 1 ∨ j = 2 ∨ j = 3 ∨ j = 4 ∨ j = 5 ∨ j = 6 ∨ j = 7 := by omega
    rcases this with rfl | rfl | rfl | rfl | rfl | rfl | rfl | rfl
    · exact fun e => absurd (Option.some.inj e) (by decide)
    · exact fun e => obW_ne iniW (by decide) (by decide) _ (Option.some.inj e)
    · exact hd o.wd
    · exact hd o.sl
    · exact hd o.cp
    · exact hd o.st
    · exact hd o.wr
    · exact fun e => absurd (Option.some.inj e) (by decide)
  · rw [objP_split, List.getElem?_append_right (by simp [Oj.five]; omega)]
    have : j - (objW :: obWs.getD o.kd.toNat [] :: o.five.map dd).length = (j - 8) + 1 := by simp [Oj.five]; omega
    rw [this, List.getElem?_cons_succ, List.getElem?_append_left (by simp; omega), List.getElem?_map]
    cases hz : o.rd[j - 8]? with
    | none => exact fun e => by cases e
    | some z => exact hd z
theorem objP_len (o : Oj) : (objP o).length = 9 + o.rd.length + o.ini.length := by simp [objP, Oj.five]; omega
theorem objP_rd (o : Oj) : ((objP o).take (8 + o.rd.length)).drop 8 = o.rd.map dd := by
  rw [objP_split]
  have h8 : (objW :: obWs.getD o.kd.toNat [] :: o.five.map dd).length = 7 := by simp [Oj.five]
  have e : (objW :: obWs.getD o.kd.toNat [] :: o.five.map dd) ++ rdrW :: (o.rd.map dd ++ iniW :: o.ini.map dd) = ((objW :: obWs.getD o.kd.toNat [] :: o.five.map dd) ++ [rdrW]) ++ (o.rd.map dd ++ iniW :: o.ini.map dd) := by simp
  rw [e, List.take_append, List.drop_append]
  have h9 : ((objW :: obWs.getD o.kd.toNat [] :: o.five.map dd) ++ [rdrW]).length = 8 := by rw [List.length_append, h8]; rfl
  rw [List.take_of_length_le (by omega), List.drop_eq_nil_of_le (by omega), h9]
  rw [show 8 + o.rd.length - 8 = (o.rd.map dd).length by simp, List.take_left, List.nil_append, Nat.sub_self, List.drop_zero]
theorem objP_in (o : Oj) : (objP o).drop (8 + o.rd.length + 1) = o.ini.map dd := by
  have e : objP o = ((objW :: obWs.getD o.kd.toNat [] :: o.five.map dd) ++ rdrW :: (o.rd.map dd ++ [iniW])) ++ o.ini.map dd := by rw [objP_split]; simp
  have h : ((objW :: obWs.getD o.kd.toNat [] :: o.five.map dd) ++ rdrW :: (o.rd.map dd ++ [iniW])).length = 8 + o.rd.length + 1 := by simp [Oj.five]; omega
  rw [e, ← h, List.drop_left]
theorem objB_iff {o : Oj} (h : objB o = true) : (1 ≤ o.kd ∧ o.kd ≤ 6) ∧ (∀ z ∈ o.five, 0 ≤ z ∧ z ≤ 1099511627776) ∧ ∀ z ∈ o.rd, 0 ≤ z ∧ z ≤ 1099511627776 := by
  unfold objB at h
  simp only [Bool.and_eq_true, decide_eq_true_iff] at h
  exact ⟨h.1, five_top h.2.1, five_top h.2.2⟩
theorem objC_line {num : List UInt8 → Int} {rec : List (List UInt8) → List Int} (hn : ∀ z : Int, 0 ≤ z ∧ z ≤ 1099511627776 → num (dd z) = z) {o : Oj} (h : objB o = true) (hr : rec (o.ini.map dd) = o.ini) : objC num rec o.kd (8 + o.rd.length) (objP o) = o := by
  obtain ⟨_, h5, hrd⟩ := objB_iff h
  unfold objC
  rw [objP_rd, objP_in, hr]
  have g2 : (objP o).getD 2 [] = dd o.wd := rfl
  have g3 : (objP o).getD 3 [] = dd o.sl := rfl
  have g4 : (objP o).getD 4 [] = dd o.cp := rfl
  have g5 : (objP o).getD 5 [] = dd o.st := rfl
  have g6 : (objP o).getD 6 [] = dd o.wr := rfl
  have hm : (o.rd.map dd).map num = o.rd := by
    rw [List.map_map]
    conv => rhs; rw [← List.map_id o.rd]
    exact List.map_congr_left fun z hz => hn z (hrd z hz)
  rw [g2, g3, g4, g5, g6, hn _ (h5 o.wd (by simp [Oj.five])), hn _ (h5 o.sl (by simp [Oj.five])), hn _ (h5 o.cp (by simp [Oj.five])), hn _ (h5 o.st (by simp [Oj.five])), hn _ (h5 o.wr (by simp [Oj.five])), hm]

/-! ### words -/
theorem dd_numB' {z : Int} (h : 0 ≤ z ∧ z < 4294967296) : numB (dd z) = true := dd_numB (by omega)
theorem recG_dds {l : List Int} (h : ∀ z ∈ l, 0 ≤ z ∧ z < 4294967296) (hl : l.length ≤ 65536) : recG (l.map dd) = l := by
  unfold recG
  cases l with
  | nil => rfl
  | cons z r =>
    have hne : Lib.join ((z :: r).map dd) [32] ≠ [] := by
      rw [List.map_cons, Lib.join_cons]
      intro e
      exact dd_ne z.toNat (List.append_eq_nil_iff.1 e).1
    have hp : pcs 32 (Lib.join ((z :: r).map dd) [32]) = (z :: r).map dd := pcs_join _ (by simp) (dds_no 32 (by decide) _)
    have hb : readB 65536 (Lib.join ((z :: r).map dd) [32]) = true := by
      rw [read_all hne, hp, Bool.and_eq_true, decide_eq_true_iff]
      refine ⟨List.all_eq_true.2 fun p hp' => ?_, by rw [List.length_map]; omega⟩
      obtain ⟨x, hx, rfl⟩ := List.mem_map.1 hp'
      exact dd_numB' (h x hx)
    rw [if_pos hb]
    unfold readL
    rw [if_neg hne, hp, List.map_map]
    conv => rhs; rw [← List.map_id (z :: r)]
    refine List.map_congr_left fun x hx => ?_
    have hx' := h x hx
    show (dv (dd x) : Int) = x
    exact (dd_top (z := x) ⟨hx'.1, by omega⟩).2.2.2
theorem numB_bd {p : List UInt8} (h : numB p = true) : (0 : Int) ≤ (dv p : Int) ∧ (dv p : Int) < 4294967296 := by
  unfold numB at h
  simp only [Bool.and_eq_true, decide_eq_true_iff] at h
  omega
theorem recG_bd (ps : List (List UInt8)) : ∀ z ∈ recG ps, 0 ≤ z ∧ z < 4294967296 := by
  unfold recG
  split
  · next hb =>
    intro z hz
    unfold readL at hz
    split at hz
    · cases hz
    · next hne =>
      rw [read_all hne, Bool.and_eq_true] at hb
      obtain ⟨p, hp, rfl⟩ := List.mem_map.1 hz
      exact numB_bd (List.all_eq_true.1 hb.1 p hp)
  · intro z hz
    cases hz
theorem rnum_dds {l : List Int} (h : ∀ z ∈ l, 0 ≤ z ∧ z < 4294967296) : (l.map dd).map rnum = l := by
  rw [List.map_map]
  conv => rhs; rw [← List.map_id l]
  refine List.map_congr_left fun z hz => ?_
  have hz' := h z hz
  show rnum (dd z) = z
  obtain ⟨h1, h2, h3, h4⟩ := dd_top (z := z) ⟨hz'.1, by omega⟩
  have hl : (dd z).length ≤ 10 := by
    have := dd_len 9 z.toNat (by omega)
    unfold dd
    omega
  unfold rnum
  rw [if_pos ⟨h1, hl⟩]
  omega

/-! ### an object's line, read -/
def candG (ps : List (List UInt8)) : Oj := objC numG recG (obKd (ps.getD 1 [])) (idxF ps iniW).toNat ps
def readOG (s : List UInt8) : Option Oj :=
  if idxF (pcs 32 s) rdrW = 7 ∧ 7 ≤ idxF (pcs 32 s) iniW ∧ (0 ≤ numG ((pcs 32 s).getD 5 []) ∧ numG ((pcs 32 s).getD 5 []) < 4294967296) ∧ objB (candG (pcs 32 s)) = true ∧ objL (candG (pcs 32 s)) = s then some (candG (pcs 32 s)) else none
def candR (ps : List (List UInt8)) (k : Int) : Oj := objC numR (fun qs => qs.map rnum) k (idxF ps iniW).toNat ps
def fitO (s : List UInt8) (o : Oj) : Bool := objB o && decide (objL o = s)
def readOR (s : List UInt8) : Option Oj :=
  if 9 ≤ (pcs 32 s).length ∧ 8 ≤ idxF (pcs 32 s) iniW ∧ (0 ≤ numR ((pcs 32 s).getD 5 []) ∧ numR ((pcs 32 s).getD 5 []) < 4294967296) then ([1, 2, 3, 4, 5, 6].map (candR (pcs 32 s))).find? (fitO s) else none
theorem cand_len {o : Oj} {n : Nat} (h : (objL o).length ≤ n) : o.ini.length ≤ n := by
  have h1 : (pcs 32 (objL o)).length = 9 + o.rd.length + o.ini.length := by rw [obj_pcs, objP_len]
  have h2 := pcs_len 32 (objL o)
  omega
theorem readOG_line {o : Oj} (h : objB o = true) (hk : o.ok) (hl : (objL o).length ≤ 65536) : readOG (objL o) = some o := by
  have hc : candG (objP o) = o := by
    unfold candG
    rw [idx_ini, Int.toNat_natCast, show (objP o).getD 1 [] = obWs.getD o.kd.toNat [] from rfl, obKd_word (objB_iff h).1]
    refine objC_line (fun z => numG_dd) h (recG_dds hk.2 ?_)
    exact cand_len hl
  have h5 : (objP o).getD 5 [] = dd o.st := rfl
  unfold readOG
  rw [obj_pcs, hc, h5, numG_dd ⟨hk.1.1, by have := hk.1.2; omega⟩, idx_rdr, idx_ini]
  exact if_pos ⟨rfl, by omega, hk.1, h, rfl⟩
theorem readOG_some {s : List UInt8} {o : Oj} (h : readOG s = some o) : objB o = true ∧ objL o = s ∧ o.ok := by
  unfold readOG at h
  split at h
  · rename_i hc
    injection h with h
    subst h
    exact ⟨hc.2.2.2.1, hc.2.2.2.2, hc.2.2.1, recG_bd _⟩
  · cases h
theorem obj_inj {o u : Oj} (ho : objB o = true) (hu : objB u = true) (h : objL o = objL u) : o.kd = u.kd := by
  have h1 : objP o = objP u := by rw [← obj_pcs, ← obj_pcs, h]
  have h2 : obWs.getD o.kd.toNat [] = obWs.getD u.kd.toNat [] := by
    have := congrArg (fun l => l.getD 1 []) h1
    exact this
  rw [← obKd_word (objB_iff ho).1, ← obKd_word (objB_iff hu).1, h2]
theorem readOR_line {o : Oj} (h : objB o = true) (hk : o.ok) : readOR (objL o) = some o := by
  have hc : candR (objP o) o.kd = o := by
    unfold candR
    rw [idx_ini, Int.toNat_natCast]
    exact objC_line (fun z => numR_dd) h (rnum_dds hk.2)
  have h5 : (objP o).getD 5 [] = dd o.st := rfl
  unfold readOR
  rw [obj_pcs, h5, numR_dd ⟨hk.1.1, by have := hk.1.2; omega⟩, idx_ini, if_pos ⟨by rw [objP_len]; omega, by omega, hk.1⟩]
  have hf : fitO (objL o) o = true := by unfold fitO; rw [h]; simp
  cases hq : ([1, 2, 3, 4, 5, 6].map (candR (objP o))).find? (fitO (objL o)) with
  | none =>
    have := List.find?_eq_none.1 hq o (List.mem_map.2 ⟨o.kd, by
      have := (objB_iff h).1
      have : o.kd = 1 ∨ o.kd = 2 ∨ o.kd = 3 ∨ o.kd = 4 ∨ o.kd = 5 ∨ o.kd = 6 := by omega
      rcases this with e | e | e | e | e | e <;> rw [e] <;> decide, hc⟩)
    exact absurd hf this
  | some u =>
    have h1 := List.find?_some hq
    have h2 := List.mem_of_find?_eq_some hq
    unfold fitO at h1
    rw [Bool.and_eq_true, decide_eq_true_iff] at h1
    obtain ⟨k, _, rfl⟩ := List.mem_map.1 h2
    have hkd : k = o.kd := obj_inj h1.1 h h1.2
    rw [hkd, hc]
theorem readOR_some {s : List UInt8} {o : Oj} (h : readOR s = some o) : objB o = true ∧ objL o = s ∧ o.ok := by
  unfold readOR at h
  split at h
  · rename_i hc
    have h1 := List.find?_some h
    have h2 := List.mem_of_find?_eq_some h
    unfold fitO at h1
    rw [Bool.and_eq_true, decide_eq_true_iff] at h1
    obtain ⟨k, _, rfl⟩ := List.mem_map.1 h2
    refine ⟨h1.1, h1.2, hc.2.2, fun z hz => ?_⟩
    obtain ⟨p, _, rfl⟩ := List.mem_map.1 (show z ∈ ((pcs 32 s).drop ((idxF (pcs 32 s) iniW).toNat + 1)).map rnum from hz)
    exact rnum_bd p
  · cases h
theorem readO_same {s : List UInt8} (hs : s.length ≤ 65536) : readOR s = readOG s := by
  cases h : readOG s with
  | some t =>
    obtain ⟨h1, h2, h3⟩ := readOG_some h
    rw [← h2, readOR_line h1 h3]
  | none =>
    cases h' : readOR s with
    | none => rfl
    | some t =>
      obtain ⟨h1, h2, h3⟩ := readOR_some h'
      rw [← h2, readOG_line h1 h3 (by rw [h2]; exact hs)] at h
      cases h

end Go.Proofs.YtfgmebjbibbpdaaGreatDoor

namespace Go.Proofs.YtfgmebjbibbpdaaGreatDoor
open Go.RowKit

/-! ### parsed -/
structure Rd where
  sy : Sy
  op : Bool
def Tk.snoc (t : Tk) (e : Ins) : Tk := ⟨t.kd, t.pr, t.pe, t.off, t.dl, t.ow, t.code ++ [e]⟩
def addCode : List Tk → Ins → List Tk
  | [], _ => []
  | [t], e => [t.snoc e]
  | t :: r, e => t :: addCode r e
theorem addCode_snoc (l : List Tk) (t : Tk) (e : Ins) : addCode (l ++ [t]) e = l ++ [t.snoc e] := by
  induction l with
  | nil => rfl
  | cons x l ih =>
    cases l with
    | nil => rfl
    | cons y l =>
      show x :: addCode (y :: l ++ [t]) e = _
      rw [ih]
      rfl
/-- What a line does; none: it can't stand there. -/
def step (r : Rd) (s : List UInt8) : Option Rd :=
  if r.op = true then
    if s = endW3 then some ⟨r.sy, false⟩ else match readI s with
      | some e => some ⟨⟨addCode r.sy.ts e, r.sy.os⟩, true⟩
      | none => none
  else match readTG s with
    | some t => if r.sy.os = [] then some ⟨⟨r.sy.ts ++ [t], []⟩, true⟩ else none
    | none => match readOG s with
      | some o => some ⟨⟨r.sy.ts, r.sy.os ++ [o]⟩, false⟩
      | none => none
def Sy.none : Sy := ⟨[], []⟩
structure GotS where
  sy : Sy
  at_ : Int
  err : Int
/-- As the program parses: line for line. -/
def parseSL : List (List UInt8) → Nat → Rd → GotS
  | [], n, r => if r.op = true then ⟨Sy.none, n, 2⟩ else ⟨r.sy, 0, 0⟩
  | x :: ls, n, r => if Lib.hasSuffix x [10] = true then
      match step r (Lib.trimSuffix x [10]) with
      | none => ⟨Sy.none, n + 1, 4⟩
      | some r' => parseSL ls (n + 1) r'
    else ⟨Sy.none, n + 1, 2⟩
/-- As the reference parses: piece for piece. -/
def parseSR : List (List UInt8) → Nat → Rd → GotS
  | [], n, r => ⟨r.sy, n, 0⟩
  | x :: ls, n, r => if ls = [] then (if x = [] then (if r.op = true then ⟨Sy.none, n, 2⟩ else ⟨r.sy, 0, 0⟩) else ⟨Sy.none, n + 1, 2⟩) else
      match step r x with
      | none => ⟨Sy.none, n + 1, 4⟩
      | some r' => parseSR ls (n + 1) r'
def rd0 : Rd := ⟨Sy.none, false⟩
def parseS (s : List UInt8) : GotS := parseSL (lns s) 0 rd0
theorem parseS_both (n : Nat) : ∀ (s : List UInt8) (m : Nat) (r : Rd), s.length < n → parseSR (pcs 10 s) m r = parseSL (lns s) m r := by
  induction n with
  | zero => intro s m r h; omega
  | succ n ih =>
    intro s m r hn
    rcases first_or (c := 10) s with h | ⟨o, h1, h2⟩
    · rw [pcs_none 10 s h]
      by_cases h0 : s = []
      · subst h0
        rw [show lns [] = [] from rfl]
        unfold parseSL parseSR
        rw [if_pos rfl, if_pos rfl]
      · rw [lns_none s h0 h]
        unfold parseSL parseSR
        rw [suffix_no s h, if_pos rfl, if_neg h0, if_neg (by decide)]
    · have hlt := get_lt h1
      rw [pcs_some 10 s o h1 h2, lns_some s o h1 h2, take_at h1]
      obtain ⟨e1, e2⟩ := suffix_yes (s.take o)
      unfold parseSL parseSR
      rw [e1, e2, if_neg (pcs_ne _ _), if_pos rfl]
      cases step r (s.take o) with
      | none => rfl
      | some e => exact ih _ _ _ (by rw [List.length_drop]; omega)
theorem parseSR_S (s : List UInt8) : parseSR (pcs 10 s) 0 rd0 = parseS s := parseS_both (s.length + 1) s 0 rd0 (by omega)

/-! ### printed -/
def codeT (l : List Ins) : List UInt8 := textOf l
def taskT (t : Tk) : List UInt8 := headL t ++ [10] ++ (textOf t.code ++ (endW3 ++ [10]))
def tasksT (l : List Tk) : List UInt8 := l.flatMap taskT
def objsT (l : List Oj) : List UInt8 := l.flatMap fun o => objL o ++ [10]
def sysT (s : Sy) : List UInt8 := tasksT s.ts ++ objsT s.os
def taskOk (t : Tk) : Bool := headB1 t && okAll t.code
def sysOk (s : Sy) : Bool := s.ts.all taskOk && s.os.all objB
def Sy.ok (s : Sy) : Prop := (∀ t ∈ s.ts, t.ok) ∧ ∀ o ∈ s.os, o.ok
/-- A system's text, if it has one. -/
def printOk (s : Sy) : Bool := sysOk s && decide ((sysT s).length ≤ 65536)
theorem tasksT_snoc (l : List Tk) (t : Tk) : tasksT (l ++ [t]) = tasksT l ++ taskT t := by simp [tasksT]
theorem objsT_snoc (l : List Oj) (o : Oj) : objsT (l ++ [o]) = objsT l ++ (objL o ++ [10]) := by simp [objsT]
/-- The text so far. -/
def rdT (r : Rd) : List UInt8 := if r.op = true then (match r.sy.ts.getLast? with
    | some t => tasksT r.sy.ts.dropLast ++ (headL t ++ [10] ++ textOf t.code)
    | none => []) else sysT r.sy
def rdOk (r : Rd) : Prop := (∀ t ∈ r.sy.ts, taskOk t = true) ∧ (∀ o ∈ r.sy.os, objB o = true) ∧ r.sy.ok ∧ (r.op = true → r.sy.os = [] ∧ r.sy.ts ≠ [])
theorem readI_no (s : List UInt8) (h : s = endW3) : readI s = none := by
  subst h
  cases hr : readI endW3 with
  | none => rfl
  | some e =>
    obtain ⟨h1, h2, h3⟩ := readI_some hr
    exfalso
    have := read_line h1 h3
    rw [h2, hr] at this
    have hp := line_pcs e
    rw [h2] at hp
    have h5 : pcs 32 endW3 = [endW3] := by decide
    rw [h5] at hp
    have h6 : partsL e = (shOf e.op).w :: (opsL e).map partL := rfl
    rw [h6] at hp
    have h7 : (shOf e.op).w = endW3 := by
      injection hp with h8 h9
      exact h8.symm
    have h8 := kind_word e.op (ins_bd h1 h3).1
    rw [h7] at h8
    have h9 : kindOf endW3 = 0 := by decide
    rw [h9] at h8
    rw [← h8] at h7
    exact absurd h7 (by decide)
/-- What a line does to the text so far. -/
theorem step_text {r r' : Rd} {s : List UInt8} (h : rdOk r) (hs : step r s = some r') : rdOk r' ∧ rdT r' = rdT r ++ (s ++ [10]) := by
  obtain ⟨⟨ts, os⟩, op⟩ := r
  obtain ⟨h1, h2, ⟨h3, h3'⟩, h4⟩ := h
  simp only at h1 h2 h3 h3' h4
  unfold step at hs
  simp only at hs
  by_cases ho : op = true
  · obtain ⟨h5, h6⟩ := h4 ho
    subst h5
    obtain ⟨ts0, t, rfl⟩ : ∃ a b, ts = a ++ [b] := ⟨ts.dropLast, ts.getLast h6, (List.dropLast_concat_getLast h6).symm⟩
    rw [if_pos ho] at hs
    by_cases he : s = endW3
    · rw [if_pos he] at hs
      injection hs with hs
      subst hs
      refine ⟨⟨h1, h2, ⟨h3, h3'⟩, fun e => by cases e⟩, ?_⟩
      unfold rdT
      simp only
      rw [if_neg (by decide), if_pos ho, List.getLast?_concat]
      simp only [List.dropLast_concat]
      unfold sysT
      rw [tasksT_snoc, he]
      simp [objsT, taskT]
    · rw [if_neg he] at hs
      cases hr : readI s with
      | none => rw [hr] at hs; cases hs
      | some e =>
        rw [hr] at hs
        injection hs with hs
        subst hs
        obtain ⟨g1, g2, g3⟩ := readI_some hr
        rw [addCode_snoc]
        have ht := h1 t (by simp)
        unfold taskOk at ht
        rw [Bool.and_eq_true] at ht
        refine ⟨⟨fun x hx => ?_, h2, ⟨fun x hx => ?_, h3'⟩, fun _ => ⟨rfl, by simp⟩⟩, ?_⟩
        · rcases List.mem_append.1 hx with hx | hx
          · exact h1 x (by simp [hx])
          · rw [List.mem_singleton.1 hx]
            unfold taskOk
            rw [Bool.and_eq_true]
            refine ⟨ht.1, ?_⟩
            show okAll (t.code ++ [e]) = true
            unfold okAll
            have h7 := ht.2
            unfold okAll at h7
            rw [List.all_append, h7, List.all_cons, g1]
            rfl
        · rcases List.mem_append.1 hx with hx | hx
          · exact h3 x (by simp [hx])
          · rw [List.mem_singleton.1 hx]
            intro y hy
            rcases List.mem_append.1 (show y ∈ t.code ++ [e] from hy) with hy | hy
            · exact h3 t (by simp) y hy
            · rw [List.mem_singleton.1 hy]
              exact g3
        · unfold rdT
          simp only
          rw [if_pos trivial, if_pos ho, List.getLast?_concat, List.getLast?_concat]
          simp only [List.dropLast_concat]
          show tasksT ts0 ++ (headL t ++ [10] ++ textOf (t.code ++ [e])) = _
          rw [textOf_snoc, g2]
          simp
  · rw [if_neg ho] at hs
    have ho' : op = false := by simpa using ho
    subst ho'
    cases hr : readTG s with
    | some t =>
      rw [hr] at hs
      simp only at hs
      split at hs
      · next hos =>
        injection hs with hs
        subst hs hos
        obtain ⟨g1, g2, g3⟩ := readTG_some hr
        refine ⟨⟨fun x hx => ?_, (fun x hx => by cases hx), ⟨fun x hx => ?_, (fun x hx => by cases hx)⟩, fun _ => ⟨rfl, by simp⟩⟩, ?_⟩
        · rcases List.mem_append.1 hx with hx | hx
          · exact h1 x hx
          · rw [List.mem_singleton.1 hx]
            unfold taskOk
            rw [g1, g3]
            rfl
        · rcases List.mem_append.1 hx with hx | hx
          · exact h3 x hx
          · rw [List.mem_singleton.1 hx]
            unfold Tk.ok
            rw [g3]
            intro y hy
            cases hy
        · unfold rdT
          simp only
          rw [if_pos trivial, if_neg (by decide), List.getLast?_concat]
          simp only [List.dropLast_concat]
          rw [g3, g2]
          simp [sysT, objsT, textOf]
      · cases hs
    | none =>
      rw [hr] at hs
      simp only at hs
      cases hq : readOG s with
      | none => rw [hq] at hs; cases hs
      | some o =>
        rw [hq] at hs
        injection hs with hs
        subst hs
        obtain ⟨g1, g2, g3⟩ := readOG_some hq
        refine ⟨⟨h1, fun x hx => ?_, ⟨h3, fun x hx => ?_⟩, fun e => by cases e⟩, ?_⟩
        · rcases List.mem_append.1 hx with hx | hx
          · exact h2 x hx
          · rw [List.mem_singleton.1 hx]; exact g1
        · rcases List.mem_append.1 hx with hx | hx
          · exact h3' x hx
          · rw [List.mem_singleton.1 hx]; exact g3
        · unfold rdT
          simp only
          rw [if_neg (by decide), if_neg (by decide)]
          unfold sysT
          simp only
          rw [objsT_snoc, g2]
          simp
theorem parsedS (ls : List (List UInt8)) : ∀ (n : Nat) (r : Rd), rdOk r →
    ((parseSL ls n r).err = 0 ∧ (parseSL ls n r).at_ = 0 ∧ sysOk (parseSL ls n r).sy = true ∧ (parseSL ls n r).sy.ok ∧ sysT (parseSL ls n r).sy = rdT r ++ ls.flatten) ∨ ((parseSL ls n r).err ≠ 0 ∧ (parseSL ls n r).sy = Sy.none) := by
  induction ls with
  | nil =>
    intro n r h
    unfold parseSL
    by_cases ho : r.op = true
    · rw [if_pos ho]
      exact .inr ⟨by simp, rfl⟩
    · rw [if_neg ho]
      refine .inl ⟨rfl, rfl, ?_, h.2.2.1, ?_⟩
      · unfold sysOk
        rw [Bool.and_eq_true]
        exact ⟨List.all_eq_true.2 h.1, List.all_eq_true.2 h.2.1⟩
      · unfold rdT
        rw [if_neg ho]
        simp
  | cons x ls ih =>
    intro n r h
    unfold parseSL
    by_cases hs : Lib.hasSuffix x [10] = true
    · rw [if_pos hs]
      cases hr : step r (Lib.trimSuffix x [10]) with
      | none => exact .inr ⟨by simp, rfl⟩
      | some r' =>
        obtain ⟨g1, g2⟩ := step_text h hr
        have hx : x = Lib.trimSuffix x [10] ++ [10] := by
          obtain ⟨t, ht⟩ := List.isSuffixOf_iff_suffix.1 hs
          rw [← ht, (suffix_yes t).2]
        rcases ih (n + 1) r' g1 with ⟨k1, k2, k3, k4, k5⟩ | k
        · refine .inl ⟨k1, k2, k3, k4, ?_⟩
          simp only
          rw [k5, g2, ← hx]
          simp
        · exact .inr k
    · rw [if_neg hs]
      exact .inr ⟨by simp, rfl⟩
theorem rd0_ok : rdOk rd0 := ⟨fun x h => (by cases h), fun x h => (by cases h), ⟨fun x h => (by cases h), fun x h => (by cases h)⟩, fun e => by cases e⟩
/-- What is parsed is printed so; where there is an error nothing was parsed. -/
theorem parseS_back (s : List UInt8) : ((parseS s).err = 0 ∧ (parseS s).at_ = 0 ∧ sysOk (parseS s).sy = true ∧ (parseS s).sy.ok ∧ sysT (parseS s).sy = s) ∨ ((parseS s).err ≠ 0 ∧ (parseS s).sy = Sy.none) := by
  rcases parsedS (lns s) 0 rd0 rd0_ok with ⟨h1, h2, h3, h4, h5⟩ | h
  · refine .inl ⟨h1, h2, h3, h4, ?_⟩
    unfold parseS
    rw [h5, lns_all (s.length + 1) s (by omega)]
    rfl
  · exact .inr h

/-! ### what is printed comes back -/
theorem endW3_no : ∀ k : Nat, endW3[k]? ≠ some 10 := fun k hk => by
  have := List.mem_of_getElem? hk
  revert this
  decide
theorem parse_code (l : List Ins) (h : okAll l = true) (hk : ∀ e ∈ l, e.ok) (rest : List UInt8) : ∀ (n : Nat) (ts : List Tk) (t : Tk), ∃ m, parseSL (lns (textOf l ++ rest)) n ⟨⟨ts ++ [t], []⟩, true⟩ = parseSL (lns rest) m ⟨⟨ts ++ [⟨t.kd, t.pr, t.pe, t.off, t.dl, t.ow, t.code ++ l⟩], []⟩, true⟩ := by
  induction l with
  | nil =>
    intro n ts t
    refine ⟨n, ?_⟩
    rw [List.append_nil]
    rfl
  | cons e l ih =>
    intro n ts t
    unfold okAll at h
    rw [List.all_cons, Bool.and_eq_true] at h
    have ht : textOf (e :: l) ++ rest = lineL e ++ [10] ++ (textOf l ++ rest) := by simp [textOf]
    obtain ⟨e1, e2⟩ := suffix_yes (lineL e)
    have hr := read_line h.1 (hk e (by simp))
    have hne : lineL e ≠ endW3 := fun hh => by
      rw [readI_no _ hh] at hr
      cases hr
    obtain ⟨m, hm⟩ := ih h.2 (fun x hx => hk x (by simp [hx])) (n + 1) ts (t.snoc e)
    refine ⟨m, ?_⟩
    rw [ht, lns_line _ _ (lineL_no e)]
    conv => lhs; unfold parseSL
    rw [e1, e2, if_pos rfl]
    have hst : step ⟨⟨ts ++ [t], []⟩, true⟩ (lineL e) = some ⟨⟨ts ++ [t.snoc e], []⟩, true⟩ := by
      unfold step
      simp only
      rw [if_pos trivial, if_neg hne, hr]
      simp only
      rw [addCode_snoc]
    rw [hst]
    simp only
    rw [hm]
    simp [Tk.snoc]
theorem parse_tasks (l : List Tk) (h : l.all taskOk = true) (hk : ∀ t ∈ l, t.ok) (rest : List UInt8) : ∀ (n : Nat) (ts : List Tk), ∃ m, parseSL (lns (tasksT l ++ rest)) n ⟨⟨ts, []⟩, false⟩ = parseSL (lns rest) m ⟨⟨ts ++ l, []⟩, false⟩ := by
  induction l with
  | nil =>
    intro n ts
    refine ⟨n, ?_⟩
    rw [List.append_nil]
    rfl
  | cons t l ih =>
    intro n ts
    rw [List.all_cons, Bool.and_eq_true] at h
    have ht0 := h.1
    unfold taskOk at ht0
    rw [Bool.and_eq_true] at ht0
    obtain ⟨m, hm⟩ := ih h.2 (fun x hx => hk x (by simp [hx])) 0 (ts ++ [t])
    have ht : tasksT (t :: l) ++ rest = headL t ++ [10] ++ (textOf t.code ++ (endW3 ++ [10] ++ (tasksT l ++ rest))) := by simp [tasksT, taskT]
    have hr : readTG (headL ⟨t.kd, t.pr, t.pe, t.off, t.dl, t.ow, []⟩) = some ⟨t.kd, t.pr, t.pe, t.off, t.dl, t.ow, []⟩ := readTG_line ht0.1 rfl
    have hh : headL ⟨t.kd, t.pr, t.pe, t.off, t.dl, t.ow, []⟩ = headL t := rfl
    rw [hh] at hr
    obtain ⟨e1, e2⟩ := suffix_yes (headL t)
    have s1 : step ⟨⟨ts, []⟩, false⟩ (headL t) = some ⟨⟨ts ++ [⟨t.kd, t.pr, t.pe, t.off, t.dl, t.ow, []⟩], []⟩, true⟩ := by
      unfold step
      simp only
      rw [if_neg (by decide), hr]
      simp
    obtain ⟨m2, hm2⟩ := parse_code t.code ht0.2 (hk t (by simp)) (endW3 ++ [10] ++ (tasksT l ++ rest)) (n + 1) ts ⟨t.kd, t.pr, t.pe, t.off, t.dl, t.ow, []⟩
    obtain ⟨m3, hm3⟩ := ih h.2 (fun x hx => hk x (by simp [hx])) (m2 + 1) (ts ++ [t])
    refine ⟨m3, ?_⟩
    rw [ht, lns_line _ _ (headL_no t)]
    conv => lhs; unfold parseSL
    rw [e1, e2, if_pos rfl, s1]
    simp only
    rw [hm2, lns_line _ _ endW3_no]
    conv => lhs; unfold parseSL
    obtain ⟨f1, f2⟩ := suffix_yes endW3
    rw [f1, f2, if_pos rfl]
    have s2 : step ⟨⟨ts ++ [⟨t.kd, t.pr, t.pe, t.off, t.dl, t.ow, [] ++ t.code⟩], []⟩, true⟩ endW3 = some ⟨⟨ts ++ [t], []⟩, false⟩ := by
      unfold step
      simp only
      rw [if_pos trivial, if_pos trivial]
      rfl
    rw [s2]
    simp only
    rw [hm3]
    simp
theorem readTG_obj {o : Oj} : readTG (objL o) = none := by
  cases h : readTG (objL o) with
  | none => rfl
  | some t =>
    obtain ⟨_, h2, _⟩ := readTG_some h
    have h1 : headP t = objP o := by rw [← head_pcs, ← obj_pcs, h2]
    have := congrArg (fun l => l.getD 0 []) h1
    have h3 : taskW = objW := this
    exact absurd h3 (by decide)
theorem parse_objs (l : List Oj) (h : l.all objB = true) (hk : ∀ o ∈ l, o.ok) (hl : (objsT l).length ≤ 65536) : ∀ (n : Nat) (ts : List Tk) (os : List Oj), parseSL (lns (objsT l)) n ⟨⟨ts, os⟩, false⟩ = ⟨⟨ts, os ++ l⟩, 0, 0⟩ := by
  induction l with
  | nil =>
    intro n ts os
    rw [List.append_nil]
    rfl
  | cons o l ih =>
    intro n ts os
    rw [List.all_cons, Bool.and_eq_true] at h
    have ht : objsT (o :: l) = objL o ++ [10] ++ objsT l := by simp [objsT]
    rw [ht] at hl
    simp only [List.length_append] at hl
    obtain ⟨e1, e2⟩ := suffix_yes (objL o)
    have hr := readOG_line h.1 (hk o (by simp)) (by omega)
    rw [ht, lns_line _ _ (objL_no o)]
    unfold parseSL
    rw [e1, e2, if_pos rfl]
    have s1 : step ⟨⟨ts, os⟩, false⟩ (objL o) = some ⟨⟨ts, os ++ [o]⟩, false⟩ := by
      unfold step
      simp only
      rw [if_neg (by decide), readTG_obj, hr]
    rw [s1]
    simp only
    rw [ih h.2 (fun x hx => hk x (by simp [hx])) (by omega)]
    simp
/-- A system that has a text comes back from it. -/
theorem sys_back {s : Sy} (h : printOk s = true) (hk : s.ok) : parseS (sysT s) = ⟨s, 0, 0⟩ := by
  unfold printOk sysOk at h
  simp only [Bool.and_eq_true, decide_eq_true_iff] at h
  obtain ⟨⟨h1, h2⟩, h3⟩ := h
  obtain ⟨m, hm⟩ := parse_tasks s.ts h1 hk.1 (objsT s.os) 0 []
  unfold parseS
  rw [show sysT s = tasksT s.ts ++ objsT s.os from rfl, show rd0 = ⟨⟨[], []⟩, false⟩ from rfl, hm, parse_objs s.os h2 hk.2 (by unfold sysT at h3; rw [List.length_append] at h3; omega)]
  simp

end Go.Proofs.YtfgmebjbibbpdaaGreatDoor

namespace Go.Proofs.YtfgmebjbibbpdaaGreatDoor
open Go.RowKit
attribute [local go_sem] Oper.semAt_some

theorem itoa_dd {z : Int} (h : 0 ≤ z) : Lib.itoa z = dd z := by
  unfold Lib.itoa dd
  rw [if_neg (by omega)]
theorem itoa_len (z : Int) (h0 : -9223372036854775808 ≤ z) (h1 : z ≤ 9223372036854775807) : (Lib.itoa z).length ≤ 20 := by
  unfold Lib.itoa
  split
  · have := dd_len 18 z.natAbs (by omega)
    simp only [List.length_cons]
    omega
  · have := dd_len 18 z.toNat (by omega)
    omega
def tkA : Array Value := #[.string ⟨#[]⟩, .string ⟨#[112, 101, 114, 105, 111, 100, 105, 99]⟩, .string ⟨#[115, 112, 111, 114, 97, 100, 105, 99]⟩]
set_option maxRecDepth 100000 in
theorem tkinds_any (w : World) : Calls Tryz.prog 54 #[] w fun e w' => e = .returned (.agg tkA) ∧ Below w.heap.size w w' := by
  go_enter Tryz.func54, Tryz.ntmps54
  go_wp2_with fail
  refine bodyPost_ret (v := .agg tkA) (by simp [results, go_sem]; rfl) rfl ?_
  exact ⟨rfl, (Below.refl _ w).alloc (Nat.le_refl _) _⟩
/-- A task as it is handed on. -/
def tkV (t : Tk) (A : Option Addr) (n c : Nat) : Value := .agg #[.int .i64 t.kd, .int .i64 t.pr, .int .i64 t.pe, .int .i64 t.off, .int .i64 t.dl, .int .i64 t.ow, .slice A n c]
theorem tk_at {k : Int} (h : k = 1 ∨ k = 2) (W : World) : (Instr.index 102 (.agg tkA) (.int .i64 k)).run Tryz.prog W = .ok (.string ⟨(tkWs.getD k.toNat []).toArray⟩) W := by
  rcases h with rfl | rfl <;> (simp [Instr.index, tkA, go_sem] <;> rfl)
theorem LnB.new (w : World) : LnB w.heap.size w.heap.size [] false w (w.alloc (.cells #[.slice none 0 0, .bool false] 100)) :=
  ⟨_, RowB.new w _ _, Own.nil _ _, (Below.refl _ w).alloc (Nat.le_refl _) _⟩
theorem arg_new {b : Nat} (w : World) (cs : Array Value) (l : List Int) (h : cs.toList = l.map (Value.int .i64)) : ArgI b (w.alloc (.cells cs 3)) (some ⟨w.heap.size, 0, none⟩) l := fun k z hz => by
  refine ⟨w.heap.size, 0, rfl, ?_, .inr ⟨cs, (0, 0), heap_alloc_new w _⟩⟩
  have h1 := cells_new w cs 3 k
  rw [Addr.add_lit, Nat.zero_add] at h1
  rw [Nat.zero_add, h1, ← Array.getElem?_toList, h, List.getElem?_map, hz]
  rfl
/-- What a first line is. -/
def HeadR (t : Tk) (w : World) (e : Ending) (w' : World) : Prop := ∃ s : ByteArray, e = .returned (.tuple #[.string s, .bool (headB1 t)]) ∧ (headB1 t = true → s = ⟨(headL t).toArray⟩) ∧ s.size ≤ 1000000 ∧ Below w.heap.size w w'
theorem join_bd {ps : List (List UInt8)} {m : Nat} (h : ∀ p ∈ ps, p.length ≤ m) : (Lib.join ps [32]).length ≤ ps.length * (m + 1) := jn_le h
set_option maxRecDepth 100000 in
set_option maxHeartbeats 4000000 in
theorem head_yes (kd pr pe off dl ow : Int) (A : Option Addr) (n c : Nat) (w : World) (hk : kd = 1 ∨ kd = 2) (hw : ∀ z ∈ [pr, pe, off, dl, ow], -9223372036854775808 ≤ z ∧ z ≤ 9223372036854775807) (hT : Tab w) : Calls Tryz.prog 32 #[.agg #[.int .i64 kd, .int .i64 pr, .int .i64 pe, .int .i64 off, .int .i64 dl, .int .i64 ow, .slice A n c]] w (HeadR ⟨kd, pr, pe, off, dl, ow, []⟩ w) := by
  have hat := fun W => tk_at hk W
  have hb1 : headB1 ⟨kd, pr, pe, off, dl, ow, []⟩ = !(false || [pr, pe, off, dl, ow].any fun x => !topB x) := by unfold headB1 Tk.five; rcases hk with rfl | rfl <;> simp
  have t1 : (kd != 1) = true ∨ (kd != 1) = false := by cases (kd != 1) <;> simp
  have t2 : (kd != 2) = !(kd != 1) := by rcases hk with rfl | rfl <;> rfl
  obtain ⟨KW, hKW⟩ : ∃ x, (⟨(tkWs.getD kd.toNat []).toArray⟩ : ByteArray) = x := ⟨_, rfl⟩
  rw [hKW] at hat
  have hKe : KW.toList.isEmpty = false := by rw [← hKW, ByteArray.toList_eq]; rcases hk with rfl | rfl <;> rfl
  have hKs : KW.data.toList = tkWs.getD kd.toNat [] := by rw [← hKW]
  have hKl : (tkWs.getD kd.toNat []).length ≤ 8 := by rcases hk with rfl | rfl <;> decide
  have hHead : joinS ((([] ++ [⟨#[116, 97, 115, 107]⟩]) ++ [KW]) ++ [pr, pe, off, dl, ow].map fun z => (⟨(Lib.itoa z).toArray⟩ : ByteArray)) = ⟨(Lib.join ([116, 97, 115, 107] :: tkWs.getD kd.toNat [] :: [pr, pe, off, dl, ow].map Lib.itoa) [32]).toArray⟩ := by unfold joinS; simp [hKs]
  have hlen : (Lib.join ([116, 97, 115, 107] :: tkWs.getD kd.toNat [] :: [pr, pe, off, dl, ow].map Lib.itoa) [32]).length ≤ 7 * 21 := by
    refine join_bd (m := 20) fun p hp => ?_
    rcases List.mem_cons.1 hp with rfl | hp
    · decide
    · rcases List.mem_cons.1 hp with rfl | hp
      · omega
      · obtain ⟨z, hz, rfl⟩ := List.mem_map.1 hp
        exact itoa_len z (hw z hz).1 (hw z hz).2
  have hgood : headB1 ⟨kd, pr, pe, off, dl, ow, []⟩ = true → Lib.join ([116, 97, 115, 107] :: tkWs.getD kd.toNat [] :: [pr, pe, off, dl, ow].map Lib.itoa) [32] = headL ⟨kd, pr, pe, off, dl, ow, []⟩ := fun h => by
    unfold headB1 at h
    rw [Bool.and_eq_true] at h
    have h2 := five_top h.2
    unfold headL headP
    congr 3
    exact List.map_congr_left fun z hz => itoa_dd (h2 z hz).1
  have HB1 := Lib.hid hb1
  have HG := Lib.hid hgood
  have HHE := Lib.hid hHead
  have HLE := Lib.hid hlen
  have HW := Lib.hid hw
  have HT := Lib.hid hT
  have HKE := Lib.hid hKe
  have HAT := Lib.hid hat
  have HT2 := Lib.hid t2
  clear hb1 hgood hHead hlen hw hT hKe hKs hKl hKW hat hk t2
  have hnew := RowB.new w #[.int .i64 kd, .int .i64 pr, .int .i64 pe, .int .i64 off, .int .i64 dl, .int .i64 ow, .slice A n c] 46
  have hB0 := (Below.refl w.heap.size w).alloc (Nat.le_refl _) (.cells #[.int .i64 kd, .int .i64 pr, .int .i64 pe, .int .i64 off, .int .i64 dl, .int .i64 ow, .slice A n c] 46)
  obtain ⟨W0, hW0⟩ : ∃ x, w.alloc (.cells #[.int .i64 kd, .int .i64 pr, .int .i64 pe, .int .i64 off, .int .i64 dl, .int .i64 ow, .slice A n c] 46) = x := ⟨_, rfl⟩
  rw [hW0] at hnew hB0
  obtain ⟨np, hnp⟩ : ∃ x, w.heap.size = x := ⟨_, rfl⟩
  rw [hnp] at hnew
  have hs0 : W0.heap.size = np + 1 := by rw [← hW0, World.size_alloc, hnp]
  have HTW := Lib.hid (HT.out.below hB0)
  have HNEW := Lib.hid hnew
  have HB0 := Lib.hid hB0
  have HS0 := Lib.hid hs0
  have HNP := Lib.hid hnp
  have p0 : W0.cell? ⟨np, 0, none⟩ = some (.int .i64 kd) := (hnew.cell 0).trans rfl
  clear hnew hB0 hs0
  rcases t1 with t1 | t1
  · have t2 : (kd != 2) = false := by rw [HT2.out, t1]; rfl
    go_enter Tryz.func32, Tryz.ntmps32
    go_wp2_with fail
    refine (lword_any W0.heap.size W0.heap.size [] false ⟨#[116, 97, 115, 107]⟩ W0 _ (LnB.new W0) (Nat.le_refl _) (by simp)).mono ?_
    rintro e w1 ⟨rfl, hl1⟩
    have hb1 : Below W0.heap.size W0 w1 := by obtain ⟨_, _, _, hb⟩ := hl1; exact hb
    have HL1 := Lib.hid hl1
    have HBL := Lib.hid hb1
    have hnpl : np < W0.heap.size := by have := HS0.out; omega
    clear hl1 hb1 p0
    go_wp2_with fail
    have hSd : (fun w' : World => Below W0.heap.size W0 w' ∧ w'.cell? ⟨np, 0, none⟩ = some (.int .i64 kd)) w1.drew := ⟨HBL.out.drew, (HBL.out.drew.cell (p := ⟨np, 0, none⟩) hnpl).trans ((HNEW.out.cell 0).trans rfl)⟩
    refine wp_region_held_drew (S := (fun w' : World => Below W0.heap.size W0 w' ∧ w'.cell? ⟨np, 0, none⟩ = some (.int .i64 kd))) (by kernel_rfl) hSd (fun hHeld => ?_)
    have HLD := Lib.hid (HL1.out.kept (Below.refl _ w1).drew (Nat.le_refl _))
    generalize w1.drew = wd at hHeld HLD ⊢
    have hHeld : (fun w' : World => Below W0.heap.size W0 w' ∧ w'.cell? ⟨np, 0, none⟩ = some (.int .i64 kd)) wd := hHeld
    refine wpAnyH_take (i := 0) (oi := ?_) (v := ?_) ?_ (by kernel_rfl) (by kernel_rfl) (by kernel_rfl) ?_ (Or.inl ⟨?_, ?_⟩) (by assumption) ?_
    rotate_left 2
    · (simp only [List.getElem?_toArray, List.getElem?_cons_zero]; rfl)
    · first | exact fun _ _ _ h => h | exact fun _ _ _ h => by cases h.1
    · rfl
    · ((intro wq hSq; (try dsimp only at hSq); go_simp); (try with_reducible rfl))
    try simp only [Act.put, List.setIfInBounds_toArray, List.set_cons_zero, List.set_cons_succ]
    refine wpAnyH_take (i := 2) (oi := ?_) (v := ?_) ?_ (by kernel_rfl) (by kernel_rfl) (by kernel_rfl) ?_ (Or.inl ⟨?_, ?_⟩) (by assumption) ?_
    rotate_left 2
    · (simp only [List.getElem?_toArray, List.getElem?_cons_succ, List.getElem?_cons_zero]; rfl)
    · first | exact fun _ _ _ h => h | exact fun _ _ _ h => by cases h.1
    · rfl
    · ((intro wq hSq; (try dsimp only at hSq); go_simp); (try with_reducible rfl))
    try simp only [Act.put, List.setIfInBounds_toArray, List.set_cons_zero, List.set_cons_succ]
    refine wpAnyH_take (i := 3) (oi := ?_) (v := ?_) ?_ (by kernel_rfl) (by kernel_rfl) (by kernel_rfl) ?_ (Or.inl ⟨?_, ?_⟩) (by assumption) ?_
    rotate_left 2
    · (simp only [List.getElem?_toArray, List.getElem?_cons_succ, List.getElem?_cons_zero]; rfl)
    · first | exact fun _ _ _ h => h | exact fun _ _ _ h => by cases h.1
    · rfl
    · ((intro wq hSq; (try dsimp only at hSq); go_simp); (try with_reducible rfl))
    try simp only [Act.put, List.setIfInBounds_toArray, List.set_cons_zero, List.set_cons_succ]
    refine wpAnyH_ready (rs := [1]) (by kernel_rfl) (by simp) ?_
    refine AllReadyH.cons (o := ?_) ?_ (fun K hK => ?_) AllReadyH.nil
    rotate_left
    · (simp only [List.getElem?_toArray, List.getElem?_cons_succ, List.getElem?_cons_zero]; rfl)
    · go_simp
      go_at_call 54
      refine (tkinds_any _).mono ?_
      rintro ex wx ⟨rfl, hbx⟩
      have hlx := HLD.out.kept hbx (Nat.le_refl _)
      have hbz : Below W0.heap.size W0 wx := by obtain ⟨_, _, _, hb⟩ := hlx; exact hb
      have hSx : (fun w' : World => Below W0.heap.size W0 w' ∧ w'.cell? ⟨np, 0, none⟩ = some (.int .i64 kd)) wx := ⟨hbz, (hbz.cell (p := ⟨np, 0, none⟩) hnpl).trans ((HNEW.out.cell 0).trans rfl)⟩
      replace HLD := Lib.hid hlx
      have hat := HAT.out
      clear hbx hlx hbz
      refine hK.out _ _ hSx (fun hHeld => ?_)
      clear hK K
      try simp only [Act.put, List.setIfInBounds_toArray, List.set_cons_zero, List.set_cons_succ]
      refine wpAnyH_take (i := 4) (oi := ?_) (v := ?_) ?_ (by kernel_rfl) (by kernel_rfl) (by kernel_rfl) ?_ (Or.inl ⟨?_, ?_⟩) (by assumption) ?_
      rotate_left 2
      · (simp only [List.getElem?_toArray, List.getElem?_cons_succ, List.getElem?_cons_zero]; rfl)
      · first | exact fun _ _ _ h => h | exact fun _ _ _ h => by cases h.1
      · rfl
      · ((intro wq hSq; (try dsimp only at hSq); go_simp); (try with_reducible rfl))
      try simp only [Act.put, List.setIfInBounds_toArray, List.set_cons_zero, List.set_cons_succ]
      refine wpAnyH_ready (rs := [5]) (by kernel_rfl) (by simp) ?_
      refine AllReadyH.cons (o := ?_) ?_ (fun K hK => ?_) AllReadyH.nil
      rotate_left
      · (simp only [List.getElem?_toArray, List.getElem?_cons_succ, List.getElem?_cons_zero]; rfl)
      · go_simp
        clear hat
        go_at_call 53
        refine (lword_any W0.heap.size W0.heap.size _ _ KW W0 _ HLD.out (Nat.le_refl _) (by simp)).mono ?_
        rintro ey wy ⟨rfl, hly⟩
        have hbz : Below W0.heap.size W0 wy := by obtain ⟨_, _, _, hb⟩ := hly; exact hb
        have hSx : (fun w' : World => Below W0.heap.size W0 w' ∧ w'.cell? ⟨np, 0, none⟩ = some (.int .i64 kd)) wy := ⟨hbz, (hbz.cell (p := ⟨np, 0, none⟩) hnpl).trans ((HNEW.out.cell 0).trans rfl)⟩
        rw [show ((false || (⟨#[116, 97, 115, 107]⟩ : ByteArray).toList.isEmpty) || KW.toList.isEmpty) = false by rw [HKE.out, ByteArray.toList_eq]; rfl] at hly
        replace HLD := Lib.hid hly
        have HBY := Lib.hid hbz
        clear hly hbz
        refine hK.out _ _ hSx (fun hHeld => ?_)
        clear hK K
        try simp only [Act.put, List.setIfInBounds_toArray, List.set_cons_zero, List.set_cons_succ]
        refine wpAnyH_done (by kernel_rfl) ?_ _
        clear hSd hHeld
        have p0 : wy.cell? ⟨np, 0, none⟩ = some (.int .i64 kd) := (HBY.out.cell (p := ⟨np, 0, none⟩) hnpl).trans ((HNEW.out.cell 0).trans rfl)
        have p1 : wy.cell? ⟨np, 1, none⟩ = some (.int .i64 pr) := (HBY.out.cell (p := ⟨np, 1, none⟩) hnpl).trans ((HNEW.out.cell 1).trans rfl)
        have p2 : wy.cell? ⟨np, 2, none⟩ = some (.int .i64 pe) := (HBY.out.cell (p := ⟨np, 2, none⟩) hnpl).trans ((HNEW.out.cell 2).trans rfl)
        have p3 : wy.cell? ⟨np, 3, none⟩ = some (.int .i64 off) := (HBY.out.cell (p := ⟨np, 3, none⟩) hnpl).trans ((HNEW.out.cell 3).trans rfl)
        have p4 : wy.cell? ⟨np, 4, none⟩ = some (.int .i64 dl) := (HBY.out.cell (p := ⟨np, 4, none⟩) hnpl).trans ((HNEW.out.cell 4).trans rfl)
        have p5 : wy.cell? ⟨np, 5, none⟩ = some (.int .i64 ow) := (HBY.out.cell (p := ⟨np, 5, none⟩) hnpl).trans ((HNEW.out.cell 5).trans rfl)
        go_wp2_with fail
        refine (lnums_any W0.heap.size _ _ [pr, pe, off, dl, ow] (some ⟨wy.heap.size, 0, none⟩) 5 W0 _ (HLD.out.kept ((Below.refl _ wy).alloc (Nat.le_refl _) _) (Nat.le_refl _)) (Nat.le_refl _) (by simp) (arg_new wy _ _ rfl) HW.out HTW.out).mono ?_
        rintro e w6 ⟨rfl, hl6⟩
        have HL6 := Lib.hid hl6
        clear hl6 p0 p1 p2 p3 p4 p5
        have htx := ltext_any W0.heap.size _ _ W0 w6 HL6.out (by simp) (by simp) (by
          have := HLE.out
          have h2 := congrArg (fun x : ByteArray => x.data.toList.length) HHE.out
          unfold joinS at h2
          simp only at h2
          rw [h2]
          exact Nat.le_trans this (by omega))
        rw [HHE.out] at htx
        obtain ⟨J, hJ⟩ : ∃ x, (⟨(Lib.join ([116, 97, 115, 107] :: tkWs.getD kd.toNat [] :: [pr, pe, off, dl, ow].map Lib.itoa) [32]).toArray⟩ : ByteArray) = x := ⟨_, rfl⟩
        obtain ⟨OB, hOB⟩ : ∃ x, (!(false || [pr, pe, off, dl, ow].any fun x => !topB x)) = x := ⟨_, rfl⟩
        rw [hJ, hOB] at htx
        have HTX := Lib.hid htx
        have HJ := Lib.hid hJ
        have HOB := Lib.hid hOB
        clear htx hJ hOB
        go_wp2_with fail
        refine HTX.out.mono ?_
        rintro e w7 ⟨rfl, hb7⟩
        have HB7 := Lib.hid hb7
        clear hb7
        go_wp2_with fail
        go_ret2
        refine ⟨J, by rw [HB1.out, HOB.out]; rfl, fun h => ?_, ?_, ?_⟩
        · rw [← HJ.out, HG.out h]
        · rw [← HJ.out]; show _ ≤ _; simp only [ByteArray.size, List.size_toArray]; exact Nat.le_trans HLE.out (by omega)
        · obtain ⟨_, _, _, hb6⟩ := HL6.out
          exact HB0.out.trans ((hb6.trans (HB7.out.mono (by have := hb6.size; omega))).mono (by have := HB0.out.size; omega))
  · have t2 : (kd != 2) = true := by rw [HT2.out, t1]; rfl
    go_enter Tryz.func32, Tryz.ntmps32
    go_wp2_with fail
    refine (lword_any W0.heap.size W0.heap.size [] false ⟨#[116, 97, 115, 107]⟩ W0 _ (LnB.new W0) (Nat.le_refl _) (by simp)).mono ?_
    rintro e w1 ⟨rfl, hl1⟩
    have hb1 : Below W0.heap.size W0 w1 := by obtain ⟨_, _, _, hb⟩ := hl1; exact hb
    have HL1 := Lib.hid hl1
    have HBL := Lib.hid hb1
    have hnpl : np < W0.heap.size := by have := HS0.out; omega
    clear hl1 hb1 p0
    go_wp2_with fail
    have hSd : (fun w' : World => Below W0.heap.size W0 w' ∧ w'.cell? ⟨np, 0, none⟩ = some (.int .i64 kd)) w1.drew := ⟨HBL.out.drew, (HBL.out.drew.cell (p := ⟨np, 0, none⟩) hnpl).trans ((HNEW.out.cell 0).trans rfl)⟩
    refine wp_region_held_drew (S := (fun w' : World => Below W0.heap.size W0 w' ∧ w'.cell? ⟨np, 0, none⟩ = some (.int .i64 kd))) (by kernel_rfl) hSd (fun hHeld => ?_)
    have HLD := Lib.hid (HL1.out.kept (Below.refl _ w1).drew (Nat.le_refl _))
    generalize w1.drew = wd at hHeld HLD ⊢
    have hHeld : (fun w' : World => Below W0.heap.size W0 w' ∧ w'.cell? ⟨np, 0, none⟩ = some (.int .i64 kd)) wd := hHeld
    refine wpAnyH_take (i := 0) (oi := ?_) (v := ?_) ?_ (by kernel_rfl) (by kernel_rfl) (by kernel_rfl) ?_ (Or.inl ⟨?_, ?_⟩) (by assumption) ?_
    rotate_left 2
    · (simp only [List.getElem?_toArray, List.getElem?_cons_zero]; rfl)
    · first | exact fun _ _ _ h => h | exact fun _ _ _ h => by cases h.1
    · rfl
    · ((intro wq hSq; (try dsimp only at hSq); go_simp); (try with_reducible rfl))
    try simp only [Act.put, List.setIfInBounds_toArray, List.set_cons_zero, List.set_cons_succ]
    refine wpAnyH_take (i := 2) (oi := ?_) (v := ?_) ?_ (by kernel_rfl) (by kernel_rfl) (by kernel_rfl) ?_ (Or.inl ⟨?_, ?_⟩) (by assumption) ?_
    rotate_left 2
    · (simp only [List.getElem?_toArray, List.getElem?_cons_succ, List.getElem?_cons_zero]; rfl)
    · first | exact fun _ _ _ h => h | exact fun _ _ _ h => by cases h.1
    · rfl
    · ((intro wq hSq; (try dsimp only at hSq); go_simp); (try with_reducible rfl))
    try simp only [Act.put, List.setIfInBounds_toArray, List.set_cons_zero, List.set_cons_succ]
    refine wpAnyH_take (i := 3) (oi := ?_) (v := ?_) ?_ (by kernel_rfl) (by kernel_rfl) (by kernel_rfl) ?_ (Or.inl ⟨?_, ?_⟩) (by assumption) ?_
    rotate_left 2
    · (simp only [List.getElem?_toArray, List.getElem?_cons_succ, List.getElem?_cons_zero]; rfl)
    · first | exact fun _ _ _ h => h | exact fun _ _ _ h => by cases h.1
    · rfl
    · ((intro wq hSq; (try dsimp only at hSq); go_simp); (try with_reducible rfl))
    try simp only [Act.put, List.setIfInBounds_toArray, List.set_cons_zero, List.set_cons_succ]
    refine wpAnyH_ready (rs := [1]) (by kernel_rfl) (by simp) ?_
    refine AllReadyH.cons (o := ?_) ?_ (fun K hK => ?_) AllReadyH.nil
    rotate_left
    · (simp only [List.getElem?_toArray, List.getElem?_cons_succ, List.getElem?_cons_zero]; rfl)
    · go_simp
      go_at_call 54
      refine (tkinds_any _).mono ?_
      rintro ex wx ⟨rfl, hbx⟩
      have hlx := HLD.out.kept hbx (Nat.le_refl _)
      have hbz : Below W0.heap.size W0 wx := by obtain ⟨_, _, _, hb⟩ := hlx; exact hb
      have hSx : (fun w' : World => Below W0.heap.size W0 w' ∧ w'.cell? ⟨np, 0, none⟩ = some (.int .i64 kd)) wx := ⟨hbz, (hbz.cell (p := ⟨np, 0, none⟩) hnpl).trans ((HNEW.out.cell 0).trans rfl)⟩
      replace HLD := Lib.hid hlx
      have hat := HAT.out
      clear hbx hlx hbz
      refine hK.out _ _ hSx (fun hHeld => ?_)
      clear hK K
      try simp only [Act.put, List.setIfInBounds_toArray, List.set_cons_zero, List.set_cons_succ]
      refine wpAnyH_take (i := 4) (oi := ?_) (v := ?_) ?_ (by kernel_rfl) (by kernel_rfl) (by kernel_rfl) ?_ (Or.inl ⟨?_, ?_⟩) (by assumption) ?_
      rotate_left 2
      · (simp only [List.getElem?_toArray, List.getElem?_cons_succ, List.getElem?_cons_zero]; rfl)
      · first | exact fun _ _ _ h => h | exact fun _ _ _ h => by cases h.1
      · rfl
      · ((intro wq hSq; (try dsimp only at hSq); go_simp); (try with_reducible rfl))
      try simp only [Act.put, List.setIfInBounds_toArray, List.set_cons_zero, List.set_cons_succ]
      refine wpAnyH_ready (rs := [5]) (by kernel_rfl) (by simp) ?_
      refine AllReadyH.cons (o := ?_) ?_ (fun K hK => ?_) AllReadyH.nil
      rotate_left
      · (simp only [List.getElem?_toArray, List.getElem?_cons_succ, List.getElem?_cons_zero]; rfl)
      · go_simp
        clear hat
        go_at_call 53
        refine (lword_any W0.heap.size W0.heap.size _ _ KW W0 _ HLD.out (Nat.le_refl _) (by simp)).mono ?_
        rintro ey wy ⟨rfl, hly⟩
        have hbz : Below W0.heap.size W0 wy := by obtain ⟨_, _, _, hb⟩ := hly; exact hb
        have hSx : (fun w' : World => Below W0.heap.size W0 w' ∧ w'.cell? ⟨np, 0, none⟩ = some (.int .i64 kd)) wy := ⟨hbz, (hbz.cell (p := ⟨np, 0, none⟩) hnpl).trans ((HNEW.out.cell 0).trans rfl)⟩
        rw [show ((false || (⟨#[116, 97, 115, 107]⟩ : ByteArray).toList.isEmpty) || KW.toList.isEmpty) = false by rw [HKE.out, ByteArray.toList_eq]; rfl] at hly
        replace HLD := Lib.hid hly
        have HBY := Lib.hid hbz
        clear hly hbz
        refine hK.out _ _ hSx (fun hHeld => ?_)
        clear hK K
        try simp only [Act.put, List.setIfInBounds_toArray, List.set_cons_zero, List.set_cons_succ]
        refine wpAnyH_done (by kernel_rfl) ?_ _
        clear hSd hHeld
        have p0 : wy.cell? ⟨np, 0, none⟩ = some (.int .i64 kd) := (HBY.out.cell (p := ⟨np, 0, none⟩) hnpl).trans ((HNEW.out.cell 0).trans rfl)
        have p1 : wy.cell? ⟨np, 1, none⟩ = some (.int .i64 pr) := (HBY.out.cell (p := ⟨np, 1, none⟩) hnpl).trans ((HNEW.out.cell 1).trans rfl)
        have p2 : wy.cell? ⟨np, 2, none⟩ = some (.int .i64 pe) := (HBY.out.cell (p := ⟨np, 2, none⟩) hnpl).trans ((HNEW.out.cell 2).trans rfl)
        have p3 : wy.cell? ⟨np, 3, none⟩ = some (.int .i64 off) := (HBY.out.cell (p := ⟨np, 3, none⟩) hnpl).trans ((HNEW.out.cell 3).trans rfl)
        have p4 : wy.cell? ⟨np, 4, none⟩ = some (.int .i64 dl) := (HBY.out.cell (p := ⟨np, 4, none⟩) hnpl).trans ((HNEW.out.cell 4).trans rfl)
        have p5 : wy.cell? ⟨np, 5, none⟩ = some (.int .i64 ow) := (HBY.out.cell (p := ⟨np, 5, none⟩) hnpl).trans ((HNEW.out.cell 5).trans rfl)
        go_wp2_with fail
        refine (lnums_any W0.heap.size _ _ [pr, pe, off, dl, ow] (some ⟨wy.heap.size, 0, none⟩) 5 W0 _ (HLD.out.kept ((Below.refl _ wy).alloc (Nat.le_refl _) _) (Nat.le_refl _)) (Nat.le_refl _) (by simp) (arg_new wy _ _ rfl) HW.out HTW.out).mono ?_
        rintro e w6 ⟨rfl, hl6⟩
        have HL6 := Lib.hid hl6
        clear hl6 p0 p1 p2 p3 p4 p5
        have htx := ltext_any W0.heap.size _ _ W0 w6 HL6.out (by simp) (by simp) (by
          have := HLE.out
          have h2 := congrArg (fun x : ByteArray => x.data.toList.length) HHE.out
          unfold joinS at h2
          simp only at h2
          rw [h2]
          exact Nat.le_trans this (by omega))
        rw [HHE.out] at htx
        obtain ⟨J, hJ⟩ : ∃ x, (⟨(Lib.join ([116, 97, 115, 107] :: tkWs.getD kd.toNat [] :: [pr, pe, off, dl, ow].map Lib.itoa) [32]).toArray⟩ : ByteArray) = x := ⟨_, rfl⟩
        obtain ⟨OB, hOB⟩ : ∃ x, (!(false || [pr, pe, off, dl, ow].any fun x => !topB x)) = x := ⟨_, rfl⟩
        rw [hJ, hOB] at htx
        have HTX := Lib.hid htx
        have HJ := Lib.hid hJ
        have HOB := Lib.hid hOB
        clear htx hJ hOB
        go_wp2_with fail
        refine HTX.out.mono ?_
        rintro e w7 ⟨rfl, hb7⟩
        have HB7 := Lib.hid hb7
        clear hb7
        go_wp2_with fail
        go_ret2
        refine ⟨J, by rw [HB1.out, HOB.out]; rfl, fun h => ?_, ?_, ?_⟩
        · rw [← HJ.out, HG.out h]
        · rw [← HJ.out]; show _ ≤ _; simp only [ByteArray.size, List.size_toArray]; exact Nat.le_trans HLE.out (by omega)
        · obtain ⟨_, _, _, hb6⟩ := HL6.out
          exact HB0.out.trans ((hb6.trans (HB7.out.mono (by have := hb6.size; omega))).mono (by have := HB0.out.size; omega))
set_option maxRecDepth 100000 in
theorem head_no (kd pr pe off dl ow : Int) (A : Option Addr) (n c : Nat) (w : World) (hk : ¬ (kd = 1 ∨ kd = 2)) : Calls Tryz.prog 32 #[.agg #[.int .i64 kd, .int .i64 pr, .int .i64 pe, .int .i64 off, .int .i64 dl, .int .i64 ow, .slice A n c]] w (HeadR ⟨kd, pr, pe, off, dl, ow, []⟩ w) := by
  have t1 : (kd != 1) = true := by simp; omega
  have t2 : (kd != 2) = true := by simp; omega
  have hf := Lib.hid (show headB1 ⟨kd, pr, pe, off, dl, ow, []⟩ = false by unfold headB1; simp; intro h; omega)
  clear hk
  go_enter Tryz.func32, Tryz.ntmps32
  go_wp2_with fail
  go_ret2
  exact ⟨⟨#[]⟩, by rw [hf.out]; rfl, (fun h => by rw [hf.out] at h; cases h), by decide, (Below.refl _ w).alloc (Nat.le_refl _) _⟩
theorem head_any (t : Tk) (A : Option Addr) (n c : Nat) (w : World) (hw : ∀ z ∈ t.five, -9223372036854775808 ≤ z ∧ z ≤ 9223372036854775807) (hT : Tab w) : Calls Tryz.prog 32 #[tkV t A n c] w (HeadR t w) := by
  obtain ⟨kd, pr, pe, off, dl, ow, code⟩ := t
  by_cases hk : kd = 1 ∨ kd = 2
  · exact head_yes kd pr pe off dl ow A n c w hk hw hT
  · exact head_no kd pr pe off dl ow A n c w hk

end Go.Proofs.YtfgmebjbibbpdaaGreatDoor

namespace Go.Proofs.YtfgmebjbibbpdaaGreatDoor
open Go.RowKit
attribute [local go_sem] Oper.semAt_some

/-- An object as it is handed on. -/
def ojV (o : Oj) (I : Option Addr) (ci : Nat) (R : Option Addr) (cr : Nat) : Value := .agg #[.int .i64 o.kd, .int .i64 o.wd, .int .i64 o.sl, .int .i64 o.cp, .int .u32 o.st, .slice I o.ini.length ci, .int .i64 o.wr, .slice R o.rd.length cr]
def LineR (o : Oj) (w : World) (e : Ending) (w' : World) : Prop := ∃ s : ByteArray, e = .returned (.tuple #[.string s, .bool (objB o)]) ∧ (objB o = true → s = ⟨(objL o).toArray⟩) ∧ s.size ≤ 1000000 ∧ Below w.heap.size w w'
theorem kword_ob {k : Int} (h : 1 ≤ k ∧ k ≤ 6) : kword k = obWs.getD k.toNat [] := by
  have : k = 1 ∨ k = 2 ∨ k = 3 ∨ k = 4 ∨ k = 5 ∨ k = 6 := by omega
  rcases this with rfl | rfl | rfl | rfl | rfl | rfl <;> decide
theorem kword_emp (k : Int) : (⟨(kword k).toArray⟩ : ByteArray).toList.isEmpty = !(decide (1 ≤ k) && decide (k ≤ 6)) := by
  rw [ByteArray.toList_eq]
  by_cases h : 1 ≤ k ∧ k ≤ 6
  · have : k = 1 ∨ k = 2 ∨ k = 3 ∨ k = 4 ∨ k = 5 ∨ k = 6 := by omega
    rcases this with rfl | rfl | rfl | rfl | rfl | rfl <;> rfl
  · have h1 : kword k = [] := by
      by_cases h0 : k = 0
      · rw [h0]; rfl
      · unfold kword; rw [if_neg (by omega)]
    rw [h1]
    simp
    omega
theorem kword_le (k : Int) : (kword k).length ≤ 20 := by
  unfold kword
  split
  · next h =>
    have : k = 0 ∨ k = 1 ∨ k = 2 ∨ k = 3 ∨ k = 4 ∨ k = 5 ∨ k = 6 := by omega
    rcases this with rfl | rfl | rfl | rfl | rfl | rfl | rfl <;> decide
  · simp
theorem u32_top {l : List Int} (h : ∀ z ∈ l, 0 ≤ z ∧ z < 4294967296) : (l.any fun x => !topB x) = false := by
  rw [List.any_eq_false]
  intro z hz
  have := h z hz
  simp [topB]
  omega
set_option maxRecDepth 100000 in
set_option maxHeartbeats 8000000 in
theorem line_o (kd wd sl cp st : Int) (I : Option Addr) (ini : List Int) (ci : Nat) (wt : Int) (R : Option Addr) (rd : List Int) (cr : Nat) (w : World) (hst : 0 ≤ st ∧ st < 4294967296) (hw : ∀ z ∈ [wd, sl, cp, wt] ++ rd, -9223372036854775808 ≤ z ∧ z ≤ 9223372036854775807) (hli : ini.length ≤ 20000) (hlr : rd.length ≤ 20000) (hI : Ws w w.heap.size I ini) (hR : SlOf (ints .i64) w w.heap.size R rd) (hT : Tab w) : Calls Tryz.prog 34 #[.agg #[.int .i64 kd, .int .i64 wd, .int .i64 sl, .int .i64 cp, .int .u32 st, .slice I ini.length ci, .int .i64 wt, .slice R rd.length cr]] w (LineR ⟨kd, wd, sl, cp, st, ini, wt, rd⟩ w) := by
  have hiw : ∀ z ∈ ini, 0 ≤ z ∧ z < 4294967296 := fun z hz => u32_of (hI.2 z hz)
  have hb1 : objB ⟨kd, wd, sl, cp, st, ini, wt, rd⟩ = !(((((((false || (⟨#[111, 98, 106, 101, 99, 116]⟩ : ByteArray).toList.isEmpty) || (⟨(kword kd).toArray⟩ : ByteArray).toList.isEmpty) || [wd, sl, cp, st, wt].any fun x => !topB x) || (⟨#[114, 101, 97, 100, 101, 114, 115]⟩ : ByteArray).toList.isEmpty) || rd.any fun x => !topB x) || (⟨#[105, 110, 105, 116]⟩ : ByteArray).toList.isEmpty) || ini.any fun x => !topB x) := by
    rw [u32_top hiw, kword_emp, ByteArray.toList_eq, ByteArray.toList_eq, ByteArray.toList_eq]
    unfold objB Oj.five
    simp [List.all_eq_not_any_not, Bool.and_assoc]
  have hHead : joinS ((((((([] ++ [(⟨#[111, 98, 106, 101, 99, 116]⟩ : ByteArray)]) ++ [(⟨(kword kd).toArray⟩ : ByteArray)]) ++ [wd, sl, cp, st, wt].map (fun z : Int => (⟨(Lib.itoa z).toArray⟩ : ByteArray))) ++ [(⟨#[114, 101, 97, 100, 101, 114, 115]⟩ : ByteArray)]) ++ rd.map (fun z : Int => (⟨(Lib.itoa z).toArray⟩ : ByteArray))) ++ [(⟨#[105, 110, 105, 116]⟩ : ByteArray)]) ++ ini.map (fun z : Int => (⟨(Lib.itoa z).toArray⟩ : ByteArray))) = ⟨(Lib.join ([111, 98, 106, 101, 99, 116] :: kword kd :: ([wd, sl, cp, st, wt].map Lib.itoa ++ [114, 101, 97, 100, 101, 114, 115] :: (rd.map Lib.itoa ++ [105, 110, 105, 116] :: ini.map Lib.itoa))) [32]).toArray⟩ := by unfold joinS; simp; rfl
  have hlen : (Lib.join ([111, 98, 106, 101, 99, 116] :: kword kd :: ([wd, sl, cp, st, wt].map Lib.itoa ++ [114, 101, 97, 100, 101, 114, 115] :: (rd.map Lib.itoa ++ [105, 110, 105, 116] :: ini.map Lib.itoa))) [32]).length ≤ 1000000 := by
    refine Nat.le_trans (join_bd (m := 20) fun p hp => ?_) (by simp; omega)
    have hii : ∀ z : Int, -9223372036854775808 ≤ z ∧ z ≤ 9223372036854775807 → (Lib.itoa z).length ≤ 20 := fun z hz => itoa_len z hz.1 hz.2
    simp only [List.mem_cons, List.mem_append, List.mem_map] at hp
    rcases hp with rfl | rfl | ⟨z, hz, rfl⟩ | rfl | ⟨z, hz, rfl⟩ | rfl | ⟨z, hz, rfl⟩
    · decide
    · exact kword_le kd
    · refine hii z ?_
      rcases hz with rfl | rfl | rfl | rfl | rfl | hz
      · exact hw _ (by simp)
      · exact hw _ (by simp)
      · exact hw _ (by simp)
      · omega
      · exact hw _ (by simp)
      · cases hz
    · decide
    · exact hii z (hw z (by simp [hz]))
    · decide
    · have := hiw z hz; exact hii z (by omega)
  have hgood : objB ⟨kd, wd, sl, cp, st, ini, wt, rd⟩ = true → (Lib.join ([111, 98, 106, 101, 99, 116] :: kword kd :: ([wd, sl, cp, st, wt].map Lib.itoa ++ [114, 101, 97, 100, 101, 114, 115] :: (rd.map Lib.itoa ++ [105, 110, 105, 116] :: ini.map Lib.itoa))) [32]) = objL ⟨kd, wd, sl, cp, st, ini, wt, rd⟩ := fun h => by
    obtain ⟨g1, g2, g3⟩ := objB_iff h
    unfold objL objP
    rw [kword_ob g1, List.map_congr_left (g := dd) (l := rd) (fun z hz => itoa_dd (g3 z hz).1), List.map_congr_left (g := dd) (l := ini) (fun z hz => itoa_dd (hiw z hz).1), List.map_congr_left (g := dd) (l := [wd, sl, cp, st, wt]) (fun z hz => itoa_dd (g2 z hz).1)]
    rfl
  have hw5 : ∀ z ∈ [wd, sl, cp, st, wt], -9223372036854775808 ≤ z ∧ z ≤ 9223372036854775807 := fun z hz => by
    simp only [List.mem_cons, List.not_mem_nil, or_false] at hz
    rcases hz with rfl | rfl | rfl | rfl | rfl
    · exact hw _ (by simp)
    · exact hw _ (by simp)
    · exact hw _ (by simp)
    · omega
    · exact hw _ (by simp)
  have hwr : ∀ z ∈ rd, -9223372036854775808 ≤ z ∧ z ≤ 9223372036854775807 := fun z hz => hw z (by simp [hz])
  have hsw : IntKind.i64.wrap st = st := by simp [IntKind.wrap, IntKind.signed, IntKind.bits]; omega
  have HB1 := Lib.hid hb1
  have HG := Lib.hid hgood
  have HHE := Lib.hid hHead
  have HLE := Lib.hid hlen
  have HW5 := Lib.hid hw5
  have HWR := Lib.hid hwr
  have HT := Lib.hid hT
  have HI := Lib.hid hI
  have HR := Lib.hid hR
  have HIW := Lib.hid hiw
  have HSW := Lib.hid hsw
  clear hb1 hgood hHead hlen hw hw5 hwr hT hI hR hiw hst hsw
  have hnew := RowB.new w #[.int .i64 kd, .int .i64 wd, .int .i64 sl, .int .i64 cp, .int .u32 st, .slice I ini.length ci, .int .i64 wt, .slice R rd.length cr] 42
  have hB0 := (Below.refl w.heap.size w).alloc (Nat.le_refl _) (.cells #[.int .i64 kd, .int .i64 wd, .int .i64 sl, .int .i64 cp, .int .u32 st, .slice I ini.length ci, .int .i64 wt, .slice R rd.length cr] 42)
  obtain ⟨W0, hW0⟩ : ∃ x, w.alloc (.cells #[.int .i64 kd, .int .i64 wd, .int .i64 sl, .int .i64 cp, .int .u32 st, .slice I ini.length ci, .int .i64 wt, .slice R rd.length cr] 42) = x := ⟨_, rfl⟩
  rw [hW0] at hnew hB0
  obtain ⟨np, hnp⟩ : ∃ x, w.heap.size = x := ⟨_, rfl⟩
  rw [hnp] at hnew
  have hs0 : W0.heap.size = np + 1 := by rw [← hW0, World.size_alloc, hnp]
  have HTW := Lib.hid (HT.out.below hB0)
  have HNEW := Lib.hid hnew
  have HB0 := Lib.hid hB0
  have HS0 := Lib.hid hs0
  have HNP := Lib.hid hnp
  have hnpl : np < W0.heap.size := by omega
  clear hnew hB0 hs0
  go_enter Tryz.func34, Tryz.ntmps34
  go_wp2_with fail
  refine (lword_any W0.heap.size W0.heap.size [] false (⟨#[111, 98, 106, 101, 99, 116]⟩ : ByteArray) W0 _ (LnB.new W0) (Nat.le_refl _) (by simp)).mono ?_
  rintro e w1 ⟨rfl, hl1⟩
  have hbz : Below W0.heap.size W0 w1 := by obtain ⟨_, _, _, hb⟩ := hl1; exact hb
  have HL1 := Lib.hid hl1
  have HB11 := Lib.hid hbz
  clear hl1 hbz
  have p0 : w1.cell? ⟨np, 0, none⟩ = some (.int .i64 kd) := (HB11.out.cell (p := ⟨np, 0, none⟩) hnpl).trans ((HNEW.out.cell 0).trans rfl)
  have p1 : w1.cell? ⟨np, 1, none⟩ = some (.int .i64 wd) := (HB11.out.cell (p := ⟨np, 1, none⟩) hnpl).trans ((HNEW.out.cell 1).trans rfl)
  have p2 : w1.cell? ⟨np, 2, none⟩ = some (.int .i64 sl) := (HB11.out.cell (p := ⟨np, 2, none⟩) hnpl).trans ((HNEW.out.cell 2).trans rfl)
  have p3 : w1.cell? ⟨np, 3, none⟩ = some (.int .i64 cp) := (HB11.out.cell (p := ⟨np, 3, none⟩) hnpl).trans ((HNEW.out.cell 3).trans rfl)
  have p4 : w1.cell? ⟨np, 4, none⟩ = some (.int .u32 st) := (HB11.out.cell (p := ⟨np, 4, none⟩) hnpl).trans ((HNEW.out.cell 4).trans rfl)
  have p5 : w1.cell? ⟨np, 5, none⟩ = some (.slice I ini.length ci) := (HB11.out.cell (p := ⟨np, 5, none⟩) hnpl).trans ((HNEW.out.cell 5).trans rfl)
  have p6 : w1.cell? ⟨np, 6, none⟩ = some (.int .i64 wt) := (HB11.out.cell (p := ⟨np, 6, none⟩) hnpl).trans ((HNEW.out.cell 6).trans rfl)
  have p7 : w1.cell? ⟨np, 7, none⟩ = some (.slice R rd.length cr) := (HB11.out.cell (p := ⟨np, 7, none⟩) hnpl).trans ((HNEW.out.cell 7).trans rfl)
  go_wp2_with fail
  refine (kword_any kd _).mono ?_
  rintro e w2 ⟨rfl, hb2⟩
  have hl2 := HL1.out.kept hb2 (Nat.le_refl _)
  clear hb2 p0 p1 p2 p3 p4 p5 p6 p7
  have hbz : Below W0.heap.size W0 w2 := by obtain ⟨_, _, _, hb⟩ := hl2; exact hb
  have HL2 := Lib.hid hl2
  have HB12 := Lib.hid hbz
  clear hl2 hbz
  go_wp2_with fail
  refine (lword_any W0.heap.size W0.heap.size _ _ (⟨(kword kd).toArray⟩ : ByteArray) W0 _ HL2.out (Nat.le_refl _) (by simp)).mono ?_
  rintro e w3 ⟨rfl, hl3⟩
  have hbz : Below W0.heap.size W0 w3 := by obtain ⟨_, _, _, hb⟩ := hl3; exact hb
  have HL3 := Lib.hid hl3
  have HB13 := Lib.hid hbz
  clear hl3 hbz
  have p0 : w3.cell? ⟨np, 0, none⟩ = some (.int .i64 kd) := (HB13.out.cell (p := ⟨np, 0, none⟩) hnpl).trans ((HNEW.out.cell 0).trans rfl)
  have p1 : w3.cell? ⟨np, 1, none⟩ = some (.int .i64 wd) := (HB13.out.cell (p := ⟨np, 1, none⟩) hnpl).trans ((HNEW.out.cell 1).trans rfl)
  have p2 : w3.cell? ⟨np, 2, none⟩ = some (.int .i64 sl) := (HB13.out.cell (p := ⟨np, 2, none⟩) hnpl).trans ((HNEW.out.cell 2).trans rfl)
  have p3 : w3.cell? ⟨np, 3, none⟩ = some (.int .i64 cp) := (HB13.out.cell (p := ⟨np, 3, none⟩) hnpl).trans ((HNEW.out.cell 3).trans rfl)
  have p4 : w3.cell? ⟨np, 4, none⟩ = some (.int .u32 st) := (HB13.out.cell (p := ⟨np, 4, none⟩) hnpl).trans ((HNEW.out.cell 4).trans rfl)
  have p5 : w3.cell? ⟨np, 5, none⟩ = some (.slice I ini.length ci) := (HB13.out.cell (p := ⟨np, 5, none⟩) hnpl).trans ((HNEW.out.cell 5).trans rfl)
  have p6 : w3.cell? ⟨np, 6, none⟩ = some (.int .i64 wt) := (HB13.out.cell (p := ⟨np, 6, none⟩) hnpl).trans ((HNEW.out.cell 6).trans rfl)
  have p7 : w3.cell? ⟨np, 7, none⟩ = some (.slice R rd.length cr) := (HB13.out.cell (p := ⟨np, 7, none⟩) hnpl).trans ((HNEW.out.cell 7).trans rfl)
  have hsw := HSW.out
  go_wp2_with fail
  clear hsw p0 p1 p2 p3 p4 p5 p6 p7
  refine (lnums_any W0.heap.size _ _ [wd, sl, cp, st, wt] (some ⟨w3.heap.size, 0, none⟩) 5 W0 _ (HL3.out.kept ((Below.refl _ w3).alloc (Nat.le_refl _) _) (Nat.le_refl _)) (Nat.le_refl _) (by simp) (arg_new w3 _ _ rfl) HW5.out HTW.out).mono ?_
  rintro e w4 ⟨rfl, hl4⟩
  have hbz : Below W0.heap.size W0 w4 := by obtain ⟨_, _, _, hb⟩ := hl4; exact hb
  have HL4 := Lib.hid hl4
  have HB14 := Lib.hid hbz
  clear hl4 hbz
  go_wp2_with fail
  refine (lword_any W0.heap.size W0.heap.size _ _ (⟨#[114, 101, 97, 100, 101, 114, 115]⟩ : ByteArray) W0 _ HL4.out (Nat.le_refl _) (by simp)).mono ?_
  rintro e w5 ⟨rfl, hl5⟩
  have hbz : Below W0.heap.size W0 w5 := by obtain ⟨_, _, _, hb⟩ := hl5; exact hb
  have HL5 := Lib.hid hl5
  have HB15 := Lib.hid hbz
  clear hl5 hbz
  have p0 : w5.cell? ⟨np, 0, none⟩ = some (.int .i64 kd) := (HB15.out.cell (p := ⟨np, 0, none⟩) hnpl).trans ((HNEW.out.cell 0).trans rfl)
  have p1 : w5.cell? ⟨np, 1, none⟩ = some (.int .i64 wd) := (HB15.out.cell (p := ⟨np, 1, none⟩) hnpl).trans ((HNEW.out.cell 1).trans rfl)
  have p2 : w5.cell? ⟨np, 2, none⟩ = some (.int .i64 sl) := (HB15.out.cell (p := ⟨np, 2, none⟩) hnpl).trans ((HNEW.out.cell 2).trans rfl)
  have p3 : w5.cell? ⟨np, 3, none⟩ = some (.int .i64 cp) := (HB15.out.cell (p := ⟨np, 3, none⟩) hnpl).trans ((HNEW.out.cell 3).trans rfl)
  have p4 : w5.cell? ⟨np, 4, none⟩ = some (.int .u32 st) := (HB15.out.cell (p := ⟨np, 4, none⟩) hnpl).trans ((HNEW.out.cell 4).trans rfl)
  have p5 : w5.cell? ⟨np, 5, none⟩ = some (.slice I ini.length ci) := (HB15.out.cell (p := ⟨np, 5, none⟩) hnpl).trans ((HNEW.out.cell 5).trans rfl)
  have p6 : w5.cell? ⟨np, 6, none⟩ = some (.int .i64 wt) := (HB15.out.cell (p := ⟨np, 6, none⟩) hnpl).trans ((HNEW.out.cell 6).trans rfl)
  have p7 : w5.cell? ⟨np, 7, none⟩ = some (.slice R rd.length cr) := (HB15.out.cell (p := ⟨np, 7, none⟩) hnpl).trans ((HNEW.out.cell 7).trans rfl)
  go_wp2_with fail
  clear p0 p1 p2 p3 p4 p5 p6 p7
  have hAr : ArgI W0.heap.size w5 R rd := fun k z hz => by
    obtain ⟨g, off, hA, hg, hc⟩ := HR.out k z hz
    have h1 := hc 0 _ rfl
    have h2 : g < W0.heap.size := by have := HS0.out; have := HNP.out; omega
    refine ⟨g, off, hA, ?_, .inl h2⟩
    exact (HB15.out.cell (p := ⟨g, off + k, none⟩) h2).trans ((HB0.out.cell (p := ⟨g, off + k, none⟩) hg).trans (by simpa [ints, Enc.of1] using h1))
  refine (lnums_any W0.heap.size _ _ rd R cr W0 _ HL5.out (Nat.le_refl _) (by simp; omega) hAr HWR.out HTW.out).mono ?_
  rintro e w6 ⟨rfl, hl6⟩
  clear hAr
  have hbz : Below W0.heap.size W0 w6 := by obtain ⟨_, _, _, hb⟩ := hl6; exact hb
  have HL6 := Lib.hid hl6
  have HB16 := Lib.hid hbz
  clear hl6 hbz
  go_wp2_with fail
  refine (lword_any W0.heap.size W0.heap.size _ _ (⟨#[105, 110, 105, 116]⟩ : ByteArray) W0 _ HL6.out (Nat.le_refl _) (by simp; omega)).mono ?_
  rintro e w7 ⟨rfl, hl7⟩
  have hbz : Below W0.heap.size W0 w7 := by obtain ⟨_, _, _, hb⟩ := hl7; exact hb
  have HL7 := Lib.hid hl7
  have HB17 := Lib.hid hbz
  clear hl7 hbz
  have p0 : w7.cell? ⟨np, 0, none⟩ = some (.int .i64 kd) := (HB17.out.cell (p := ⟨np, 0, none⟩) hnpl).trans ((HNEW.out.cell 0).trans rfl)
  have p1 : w7.cell? ⟨np, 1, none⟩ = some (.int .i64 wd) := (HB17.out.cell (p := ⟨np, 1, none⟩) hnpl).trans ((HNEW.out.cell 1).trans rfl)
  have p2 : w7.cell? ⟨np, 2, none⟩ = some (.int .i64 sl) := (HB17.out.cell (p := ⟨np, 2, none⟩) hnpl).trans ((HNEW.out.cell 2).trans rfl)
  have p3 : w7.cell? ⟨np, 3, none⟩ = some (.int .i64 cp) := (HB17.out.cell (p := ⟨np, 3, none⟩) hnpl).trans ((HNEW.out.cell 3).trans rfl)
  have p4 : w7.cell? ⟨np, 4, none⟩ = some (.int .u32 st) := (HB17.out.cell (p := ⟨np, 4, none⟩) hnpl).trans ((HNEW.out.cell 4).trans rfl)
  have p5 : w7.cell? ⟨np, 5, none⟩ = some (.slice I ini.length ci) := (HB17.out.cell (p := ⟨np, 5, none⟩) hnpl).trans ((HNEW.out.cell 5).trans rfl)
  have p6 : w7.cell? ⟨np, 6, none⟩ = some (.int .i64 wt) := (HB17.out.cell (p := ⟨np, 6, none⟩) hnpl).trans ((HNEW.out.cell 6).trans rfl)
  have p7 : w7.cell? ⟨np, 7, none⟩ = some (.slice R rd.length cr) := (HB17.out.cell (p := ⟨np, 7, none⟩) hnpl).trans ((HNEW.out.cell 7).trans rfl)
  go_wp2_with fail
  clear p0 p1 p2 p3 p4 p5 p6 p7
  have hl7 : LnB W0.heap.size W0.heap.size (((((([] ++ [(⟨#[111, 98, 106, 101, 99, 116]⟩ : ByteArray)]) ++ [(⟨(kword kd).toArray⟩ : ByteArray)]) ++ [wd, sl, cp, st, wt].map (fun z : Int => (⟨(Lib.itoa z).toArray⟩ : ByteArray))) ++ [(⟨#[114, 101, 97, 100, 101, 114, 115]⟩ : ByteArray)]) ++ rd.map (fun z : Int => (⟨(Lib.itoa z).toArray⟩ : ByteArray))) ++ [(⟨#[105, 110, 105, 116]⟩ : ByteArray)]) ((((((false || (⟨#[111, 98, 106, 101, 99, 116]⟩ : ByteArray).toList.isEmpty) || (⟨(kword kd).toArray⟩ : ByteArray).toList.isEmpty) || [wd, sl, cp, st, wt].any fun x => !topB x) || (⟨#[114, 101, 97, 100, 101, 114, 115]⟩ : ByteArray).toList.isEmpty) || rd.any fun x => !topB x) || (⟨#[105, 110, 105, 116]⟩ : ByteArray).toList.isEmpty) W0 w7 := HL7.out
  have hpl : (((((([] ++ [(⟨#[111, 98, 106, 101, 99, 116]⟩ : ByteArray)]) ++ [(⟨(kword kd).toArray⟩ : ByteArray)]) ++ [wd, sl, cp, st, wt].map (fun z : Int => (⟨(Lib.itoa z).toArray⟩ : ByteArray))) ++ [(⟨#[114, 101, 97, 100, 101, 114, 115]⟩ : ByteArray)]) ++ rd.map (fun z : Int => (⟨(Lib.itoa z).toArray⟩ : ByteArray))) ++ [(⟨#[105, 110, 105, 116]⟩ : ByteArray)]).length ≤ 20010 := by simp; omega
  obtain ⟨PP, hPP⟩ : ∃ x, (((((([] ++ [(⟨#[111, 98, 106, 101, 99, 116]⟩ : ByteArray)]) ++ [(⟨(kword kd).toArray⟩ : ByteArray)]) ++ [wd, sl, cp, st, wt].map (fun z : Int => (⟨(Lib.itoa z).toArray⟩ : ByteArray))) ++ [(⟨#[114, 101, 97, 100, 101, 114, 115]⟩ : ByteArray)]) ++ rd.map (fun z : Int => (⟨(Lib.itoa z).toArray⟩ : ByteArray))) ++ [(⟨#[105, 110, 105, 116]⟩ : ByteArray)]) = x := ⟨_, rfl⟩
  obtain ⟨QQ, hQQ⟩ : ∃ x, ((((((false || (⟨#[111, 98, 106, 101, 99, 116]⟩ : ByteArray).toList.isEmpty) || (⟨(kword kd).toArray⟩ : ByteArray).toList.isEmpty) || [wd, sl, cp, st, wt].any fun x => !topB x) || (⟨#[114, 101, 97, 100, 101, 114, 115]⟩ : ByteArray).toList.isEmpty) || rd.any fun x => !topB x) || (⟨#[105, 110, 105, 116]⟩ : ByteArray).toList.isEmpty) = x := ⟨_, rfl⟩
  rw [hPP, hQQ] at hl7
  rw [hPP] at hpl
  have HPP := Lib.hid hPP
  have HQQ := Lib.hid hQQ
  have HL := Lib.hid hl7
  clear hPP hQQ hl7 HL7
  go_loopw [6, 41] (fun _ j wr => ∃ k : Nat, k ≤ ini.length ∧ j = .int .i64 k ∧ LnB W0.heap.size W0.heap.size (PP ++ (ini.take k).map (fun z : Int => (⟨(Lib.itoa z).toArray⟩ : ByteArray))) (QQ || (ini.take k).any fun x => !topB x) W0 wr) (fun _ j _ => ini.length - (intOf j).toNat)
  case atStart => exact ⟨0, Nat.zero_le _, rfl, by simpa using HL.out⟩
  case round =>
    obtain ⟨k, hk, rfl, hst⟩ := hrel
    by_cases hlt : k < ini.length
    · obtain ⟨z, hz⟩ := get_some hlt
      have hzw := HIW.out z (List.mem_of_getElem? hz)
      have hbz : Below W0.heap.size W0 wr := by obtain ⟨_, _, _, hb⟩ := hst; exact hb
      obtain ⟨_, b, off, hA, hlb, hcz⟩ := ((HI.out.below HB0.out (Nat.le_refl _)).below (hbz.mono (by have := HB0.out.size; omega)) (Nat.le_refl _)).get hz
      subst hA
      have hsz : IntKind.i64.wrap z = z := by simp [IntKind.wrap, IntKind.signed, IntKind.bits]; omega
      have HZ := Lib.hid (show PP ++ (ini.take (k + 1)).map (fun z : Int => (⟨(Lib.itoa z).toArray⟩ : ByteArray)) = (PP ++ (ini.take k).map (fun z : Int => (⟨(Lib.itoa z).toArray⟩ : ByteArray))) ++ [z].map (fun z : Int => (⟨(Lib.itoa z).toArray⟩ : ByteArray)) by rw [take_snoc hz, List.map_append, List.append_assoc])
      have HQ := Lib.hid (show (QQ || (ini.take (k + 1)).any fun x => !topB x) = ((QQ || (ini.take k).any fun x => !topB x) || [z].any fun x => !topB x) by rw [take_snoc hz, List.any_append, Bool.or_assoc])
      have HST := Lib.hid hst
      clear hst hz hbz
      go_wp2_with fail
      refine (lnums_any W0.heap.size _ _ [z] (some ⟨wr.heap.size, 0, none⟩) 1 W0 _ (HST.out.kept ((Below.refl _ wr).alloc (Nat.le_refl _) _) (Nat.le_refl _)) (Nat.le_refl _) (by simp; omega) (arg_new wr _ _ rfl) (fun x hx => by rw [List.mem_singleton.1 hx]; omega) HTW.out).mono ?_
      rintro e w8 ⟨rfl, hl8⟩
      rw [← HZ.out, ← HQ.out] at hl8
      have HL8 := Lib.hid hl8
      clear hl8
      go_wp2_with fail
      go_roundw
      case rel => exact ⟨k + 1, by omega, by go_num, HL8.out⟩
      case measure => simp [intOf]; omega
    · obtain rfl : k = ini.length := by omega
      rw [List.take_length] at hst
      have hnl : decide (ini.length < ini.length) = false := by simp
      have HST := Lib.hid hst
      have htx := ltext_any W0.heap.size _ _ W0 wr hst (by intro e; have := congrArg List.length e; rw [← HPP.out] at this; simp at this) (by simp; omega) (by
        have h1 := HLE.out
        have h2 := congrArg (fun x : ByteArray => x.data.toList.length) HHE.out
        unfold joinS at h2
        simp only at h2
        rw [← HPP.out, h2]
        exact h1)
      rw [← HPP.out, HHE.out, ← HQQ.out, ← HB1.out] at htx
      obtain ⟨J, hJ⟩ : ∃ x, (⟨(Lib.join ([111, 98, 106, 101, 99, 116] :: kword kd :: ([wd, sl, cp, st, wt].map Lib.itoa ++ [114, 101, 97, 100, 101, 114, 115] :: (rd.map Lib.itoa ++ [105, 110, 105, 116] :: ini.map Lib.itoa))) [32]).toArray⟩ : ByteArray) = x := ⟨_, rfl⟩
      obtain ⟨OB, hOB⟩ : ∃ x, objB ⟨kd, wd, sl, cp, st, ini, wt, rd⟩ = x := ⟨_, rfl⟩
      rw [hJ, hOB] at htx
      have HTX := Lib.hid htx
      have HJ := Lib.hid hJ
      have HOB := Lib.hid hOB
      clear htx hJ hOB hst
      go_wp2_with fail
      refine HTX.out.mono ?_
      rintro e w9 ⟨rfl, hb9⟩
      have HB9 := Lib.hid hb9
      clear hb9
      go_wp2_with fail
      go_ret2
      refine ⟨J, by rw [HOB.out]; rfl, fun h => ?_, ?_, ?_⟩
      · rw [← HJ.out, HG.out h]
      · rw [← HJ.out]; show _ ≤ _; simp only [ByteArray.size, List.size_toArray]; exact HLE.out
      · obtain ⟨_, _, _, hb6⟩ := HST.out
        exact HB0.out.trans ((hb6.trans (HB9.out.mono (by have := hb6.size; omega))).mono (by have := HB0.out.size; omega))
theorem oline_any (o : Oj) (I : Option Addr) (ci : Nat) (R : Option Addr) (cr : Nat) (w : World) (hst : 0 ≤ o.st ∧ o.st < 4294967296) (hw : ∀ z ∈ [o.wd, o.sl, o.cp, o.wr] ++ o.rd, -9223372036854775808 ≤ z ∧ z ≤ 9223372036854775807) (hli : o.ini.length ≤ 20000) (hlr : o.rd.length ≤ 20000) (hI : Ws w w.heap.size I o.ini) (hR : SlOf (ints .i64) w w.heap.size R o.rd) (hT : Tab w) : Calls Tryz.prog 34 #[ojV o I ci R cr] w (LineR o w) :=
  line_o o.kd o.wd o.sl o.cp o.st I o.ini ci o.wr R o.rd cr w hst hw hli hlr hI hR hT

end Go.Proofs.YtfgmebjbibbpdaaGreatDoor
