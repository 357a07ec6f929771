/- trace.Line: an event's line. -/
import Derived.Test.YtopclkkkchhgiaaDoorTr1
import Derived.Test.YtopclkkkchhgiaaDoorItoa
import Derived.Test.YtopclkkkchhgiaaDoorStrTy
import Derived.Deep.RegionHeld3
namespace Go.Proofs.YtopclkkkchhgiaaDoor
open Go.RowKit

def lineR (e : Ev) : ByteArray := if evB e = true then evLineS e else ⟨#[]⟩

/-- What the region of trace.Line keeps. -/
def LSt (w2 : World) (n : Nat) (t k a b : Int) (w' : World) : Prop :=
  Below w2.heap.size w2 w' ∧ Tab w' ∧ w'.cell? ⟨n, 0, none⟩ = some (.int .i64 t) ∧ w'.cell? ⟨n, 1, none⟩ = some (.int .i64 k) ∧ w'.cell? ⟨n, 3, none⟩ = some (.int .i64 a) ∧ w'.cell? ⟨n, 4, none⟩ = some (.int .i64 b)
theorem LSt.below {w2 w w' : World} {n : Nat} {t k a b : Int} (h : LSt w2 n t k a b w) (hb : Below w.heap.size w w') : LSt w2 n t k a b w' := by
  obtain ⟨h1, h2, h3, h4, h5, h6⟩ := h
  refine ⟨h1.trans (hb.mono h1.size), h2.below hb, ?_, ?_, ?_, ?_⟩
  · exact (hb.cell (p := ⟨n, 0, none⟩) (cell_lt h3)).trans h3
  · exact (hb.cell (p := ⟨n, 1, none⟩) (cell_lt h4)).trans h4
  · exact (hb.cell (p := ⟨n, 3, none⟩) (cell_lt h5)).trans h5
  · exact (hb.cell (p := ⟨n, 4, none⟩) (cell_lt h6)).trans h6
theorem LSt.tab {w2 w : World} {n : Nat} {t k a b : Int} (h : LSt w2 n t k a b w) : Tab w := h.2.1
theorem LSt.drew {w2 w : World} {n : Nat} {t k a b : Int} (h : LSt w2 n t k a b w) : LSt w2 n t k a b w.drew := h.below (Below.refl _ w).drew
theorem LSt.alloc {w2 w : World} {n : Nat} {t k a b : Int} (h : LSt w2 n t k a b w) (o : Obj) : LSt w2 n t k a b (w.alloc o) := h.below ((Below.refl _ w).alloc (Nat.le_refl _) o)

theorem join5 (e : Ev) (h : EvR e) (wh : ByteArray) (hwh : wh.data.toList = who e.p) (W : World) :
    Calls Tryd.prog 34 #[.slice (some ⟨W.heap.size, 0, none⟩) 5 5, .string ⟨#[32]⟩] (W.alloc (.cells #[.string (numS e.t.toNat), .string ⟨(wordOf e.k).toArray⟩, .string wh, .string (numS e.a.toNat), .string (numS e.b.toNat)] 9)) fun r w' =>
      r = .returned (.string (evLineS e)) ∧ Below (W.alloc (.cells #[.string (numS e.t.toNat), .string ⟨(wordOf e.k).toArray⟩, .string wh, .string (numS e.a.toNat), .string (numS e.b.toNat)] 9)).heap.size (W.alloc (.cells #[.string (numS e.t.toNat), .string ⟨(wordOf e.k).toArray⟩, .string wh, .string (numS e.a.toNat), .string (numS e.b.toNat)] 9)) w' := by
  have hl := evLine_len h
  have hmap : [numS e.t.toNat, ⟨(wordOf e.k).toArray⟩, wh, numS e.a.toNat, numS e.b.toNat].map (·.data.toList) = evParts e := by
    simp [evParts, numS, hwh]
  have hj := Tryd.strings_Join W.heap.size 0 5 [numS e.t.toNat, ⟨(wordOf e.k).toArray⟩, wh, numS e.a.toNat, numS e.b.toNat] ⟨#[32]⟩ (W.alloc (.cells #[.string (numS e.t.toNat), .string ⟨(wordOf e.k).toArray⟩, .string wh, .string (numS e.a.toNat), .string (numS e.b.toNat)] 9)) (fun j x hx => by
    have h1 := cells_new W #[.string (numS e.t.toNat), .string ⟨(wordOf e.k).toArray⟩, .string wh, .string (numS e.a.toNat), .string (numS e.b.toNat)] 9 j
    rw [Addr.add_lit] at h1
    rw [h1]
    have h2 : (#[Value.string (numS e.t.toNat), .string ⟨(wordOf e.k).toArray⟩, .string wh, .string (numS e.a.toNat), .string (numS e.b.toNat)] : Array Value)[j]? = ([numS e.t.toNat, ⟨(wordOf e.k).toArray⟩, wh, numS e.a.toNat, numS e.b.toNat].map Value.string)[j]? := by
      rw [← List.getElem?_toArray]
      rfl
    rw [h2, List.getElem?_map, hx]
    rfl) (by simp) (by simp) (by simp) (by rw [hmap]; exact Nat.le_trans hl (by omega))
  rw [hmap] at hj
  exact hj

set_option maxHeartbeats 1000000 in
theorem line_no (e : Ev) (w : World) (h : evB e = false) : Calls Tryd.prog 12 #[evV e] w fun r w' => r = .returned (.tuple #[.string ⟨#[]⟩, .bool false]) ∧ Below w.heap.size w w' := by
  obtain ⟨t, k, p, a, b⟩ := e
  have hr := fun W => right_any ⟨t, k, p, a, b⟩ W
  rw [h] at hr
  unfold evV at hr ⊢
  simp only at hr ⊢
  have hr' := Lib.hid hr
  clear hr h
  go_enter Tryd.func12, Tryd.ntmps12
  go_wp2_with (go_at_call 15; refine (hr'.out _).mono ?_; rintro e w1 ⟨rfl, hb⟩)
  go_ret2
  exact ⟨rfl, ((Below.refl _ w).alloc (Nat.le_refl _) _).trans (hb.mono (by simp))⟩

set_option maxRecDepth 100000 in
set_option maxHeartbeats 4000000 in
theorem line_yes (e : Ev) (w : World) (h : EvR e) (hT : Tab w) : Calls Tryd.prog 12 #[evV e] w fun r w' => r = .returned (.tuple #[.string (evLineS e), .bool true]) ∧ Below w.heap.size w w' := by
  obtain ⟨t, k, p, a, b⟩ := e
  have hr := fun W => right_any ⟨t, k, p, a, b⟩ W
  rw [evB_iff.2 h] at hr
  obtain ⟨k1, k2, t1, t2, a1, a2, b1, b2, hp⟩ := h
  simp only at k1 k2 t1 t2 a1 a2 b1 b2 hp
  unfold evV at hr ⊢
  simp only at hr ⊢
  have hr' := Lib.hid hr
  clear hr
  have hS0 : ∀ W, Below (w.alloc (.cells #[.int .i64 t, .int .i64 k, .int .i64 p, .int .i64 a, .int .i64 b] 23)).heap.size (w.alloc (.cells #[.int .i64 t, .int .i64 k, .int .i64 p, .int .i64 a, .int .i64 b] 23)) W → LSt W w.heap.size t k a b W ∧ W.cell? ⟨w.heap.size, 2, none⟩ = some (.int .i64 p) := by
    intro W hb
    have hc : ∀ j : Nat, W.cell? ⟨w.heap.size, j, none⟩ = #[Value.int .i64 t, .int .i64 k, .int .i64 p, .int .i64 a, .int .i64 b][j]? := fun j => by
      rw [hb.cell (p := ⟨w.heap.size, j, none⟩) (by simp)]
      have := cells_new w #[Value.int .i64 t, .int .i64 k, .int .i64 p, .int .i64 a, .int .i64 b] 23 j
      rw [Addr.add_lit, Nat.zero_add] at this
      exact this
    exact ⟨⟨Below.refl _ _, (hT.below ((Below.refl _ w).alloc (Nat.le_refl _) _)).below hb, hc 0, hc 1, hc 3, hc 4⟩, hc 2⟩
  have hS' := Lib.hid hS0
  clear hS0
  have hj := fun wh hw W => join5 ⟨t, k, p, a, b⟩ ⟨k1, k2, t1, t2, a1, a2, b1, b2, hp⟩ wh hw W
  rcases hp with hp | ⟨p1, p2⟩
  · have hne : (p != -1) = false := by simp [hp]
    have hjn := Lib.hid (hj ⟨#[45]⟩ (by rw [hp]; rfl))
    have hp' := Lib.hid hp
    clear hj
    clear hp
    go_enter Tryd.func12, Tryd.ntmps12
    go_wp2_with (go_at_call 15; refine (hr'.out _).mono ?_; rintro e w1 ⟨rfl, hb⟩; obtain ⟨hS, c2⟩ := hS'.out _ hb)
    obtain ⟨n, hn⟩ : ∃ n, w.heap.size = n := ⟨_, rfl⟩
    have hb' := ((Below.refl _ w).alloc (Nat.le_refl _) _).trans (hb.mono (by simp))
    rw [hn] at hS c2 hb' ⊢
    clear hb hS'
    have hix := fun W => word_at k k1 k2 W
    have hSd := hS.drew
    obtain ⟨s1, s2, s3, s4, s5, s6⟩ := hS
    go_region_held3 (fun w' => Below w1.heap.size w1 w' ∧ Tab w' ∧ w'.cell? ⟨n, 0, none⟩ = some (.int .i64 t) ∧ w'.cell? ⟨n, 1, none⟩ = some (.int .i64 k) ∧ w'.cell? ⟨n, 3, none⟩ = some (.int .i64 a) ∧ w'.cell? ⟨n, 4, none⟩ = some (.int .i64 b))
      (first | exact hSd | assumption | exact LSt.alloc (w2 := w1) (n := n) (t := t) (k := k) (a := a) (b := b) (by assumption) _)
      (first
        | (go_at_call 33; refine (itoa_any _ _ (by omega) (by omega) (LSt.tab (w2 := w1) (n := n) (t := t) (k := k) (a := a) (b := b) (by assumption))).mono ?_; rintro e wx ⟨rfl, hbx⟩; have hSx := LSt.below (w2 := w1) (n := n) (t := t) (k := k) (a := a) (b := b) (by assumption) hbx)
        | (go_at_call 35; refine (pwords_any _).mono ?_; rintro e wx ⟨rfl, hbx⟩; have hSx := LSt.below (w2 := w1) (n := n) (t := t) (k := k) (a := a) (b := b) (by assumption) hbx)
        | (go_at_call 34; refine (hjn.out _).mono ?_; rintro e wy ⟨rfl, hby⟩; have hSy := LSt.below (w2 := w1) (n := n) (t := t) (k := k) (a := a) (b := b) (by assumption) hby))
    all_goals
      go_wp2_with fail
      go_ret2
      exact ⟨rfl, by rw [hn]; exact hb'.trans (hSy.1.mono (by have := hb'.size; omega))⟩
  · have hne : (p != -1) = true := by simp; omega
    have hjn := Lib.hid (hj (numS p.toNat) (by unfold who; rw [if_neg (by simp only; omega)]; rfl))
    clear hj
    go_enter Tryd.func12, Tryd.ntmps12
    go_wp2_with (go_at_call 15; refine (hr'.out _).mono ?_; rintro e w0 ⟨rfl, hb0⟩; obtain ⟨hS0, c20⟩ := hS'.out _ hb0)
    refine (itoa_any p _ p1 (by omega) hS0.tab).mono ?_
    rintro e w1 ⟨rfl, hb1⟩
    have hb := hb0.trans (hb1.mono hb0.size)
    obtain ⟨hS, c2⟩ := hS'.out _ hb
    clear hS0 c20 hb0 hb1
    go_wp2_with fail
    obtain ⟨n, hn⟩ : ∃ n, w.heap.size = n := ⟨_, rfl⟩
    have hb' := ((Below.refl _ w).alloc (Nat.le_refl _) _).trans (hb.mono (by simp))
    rw [hn] at hS c2 hb' ⊢
    clear hb hS'
    have hix := fun W => word_at k k1 k2 W
    have hSd := hS.drew
    obtain ⟨s1, s2, s3, s4, s5, s6⟩ := hS
    go_region_held3 (fun w' => Below w1.heap.size w1 w' ∧ Tab w' ∧ w'.cell? ⟨n, 0, none⟩ = some (.int .i64 t) ∧ w'.cell? ⟨n, 1, none⟩ = some (.int .i64 k) ∧ w'.cell? ⟨n, 3, none⟩ = some (.int .i64 a) ∧ w'.cell? ⟨n, 4, none⟩ = some (.int .i64 b))
      (first | exact hSd | assumption | exact LSt.alloc (w2 := w1) (n := n) (t := t) (k := k) (a := a) (b := b) (by assumption) _)
      (first
        | (go_at_call 33; refine (itoa_any _ _ (by omega) (by omega) (LSt.tab (w2 := w1) (n := n) (t := t) (k := k) (a := a) (b := b) (by assumption))).mono ?_; rintro e wx ⟨rfl, hbx⟩; have hSx := LSt.below (w2 := w1) (n := n) (t := t) (k := k) (a := a) (b := b) (by assumption) hbx)
        | (go_at_call 35; refine (pwords_any _).mono ?_; rintro e wx ⟨rfl, hbx⟩; have hSx := LSt.below (w2 := w1) (n := n) (t := t) (k := k) (a := a) (b := b) (by assumption) hbx)
        | (go_at_call 34; refine (hjn.out _).mono ?_; rintro e wy ⟨rfl, hby⟩; have hSy := LSt.below (w2 := w1) (n := n) (t := t) (k := k) (a := a) (b := b) (by assumption) hby))
    all_goals
      go_wp2_with fail
      go_ret2
      exact ⟨rfl, by rw [hn]; exact hb'.trans (hSy.1.mono (by have := hb'.size; omega))⟩

theorem line_any (e : Ev) (w : World) (hT : Tab w) : Calls Tryd.prog 12 #[evV e] w fun r w' => r = .returned (.tuple #[.string (lineR e), .bool (evB e)]) ∧ Below w.heap.size w w' := by
  unfold lineR
  rcases h : evB e with _ | _
  · exact line_no e w h
  · exact line_yes e w (evB_iff.1 h) hT

end Go.Proofs.YtopclkkkchhgiaaDoor
