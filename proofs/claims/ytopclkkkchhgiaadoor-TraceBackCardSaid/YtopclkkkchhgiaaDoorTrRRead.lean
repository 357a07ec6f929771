/- The reference's Read: a line's event. -/
import Derived.Test.YtopclkkkchhgiaaDoorTrRead
import Derived.Test.YtopclkkkchhgiaaDoorTrRLine
import Derived.Test.YtopclkkkchhgiaaDoorRSplit
namespace Go.Proofs.YtopclkkkchhgiaaDoor
open Go.RowKit

theorem rread_no {s : List UInt8} (h : ¬((pcs 32 s).length = 5 ∧ evB (candR (pcs 32 s)) = true ∧ evLine (candR (pcs 32 s)) = s)) : readX s = Ev.zero ∧ readOk s = false := by
  have : readE s = none := by rw [← read_both]; unfold readBy; rw [if_neg h]
  unfold readX readOk
  rw [this]
  exact ⟨rfl, rfl⟩
theorem rread_yes {s : List UInt8} (h : (pcs 32 s).length = 5 ∧ evB (candR (pcs 32 s)) = true ∧ evLine (candR (pcs 32 s)) = s) : readX s = candR (pcs 32 s) ∧ readOk s = true := by
  have : readE s = some (candR (pcs 32 s)) := by rw [← read_both]; unfold readBy; rw [if_pos h]
  unfold readX readOk
  rw [this]
  exact ⟨rfl, rfl⟩
theorem res_rread (tmps : Array Value) (w : World) {b : Nat} {e : Ev} {x : Bool} (ha : tmps[2]?.getD undef = .pointer (some ⟨b, 0, none⟩)) (hx : tmps[3]?.getD undef = .bool x) (hbox : EvBox w b e) :
    (results Tryd.f14 tmps).run Tryd.prog w = .ok (.tuple #[evV e, .bool x]) w := by
  obtain ⟨h0, h1, h2, h3, h4⟩ := hbox.cells
  simp [results, ha, hx, h0, h1, h2, h3, h4, go_sem, evV]

theorem rsplit_cells (s : ByteArray) (c : UInt8) (z : Int) (w : World) (hz : z = (c.toNat : Int)) (hs : s.size ≤ 1000000) :
    Calls Tryd.prog 39 #[.string s, .int .u8 z] w fun e w' => ∃ b cp, e = .returned (.slice (some ⟨b, 0, none⟩) (pcs c s.data.toList).length cp) ∧
      (∀ (j : Nat) x, (pcs c s.data.toList)[j]? = some x → w'.cell? ⟨b, j, none⟩ = some (.string ⟨x.toArray⟩)) ∧ ((pcs c s.data.toList).length ≤ cp ∧ cp ≤ maxLen) ∧ Below w.heap.size w w' :=
  (rsplit_any s c z w hz hs).mono fun e w' ⟨v, he, hown, hb⟩ => by
    subst he
    rcases hown.2 with ⟨rfl, h0⟩ | ⟨g, cap, cur, rfl, hg, hh, hcap, hmax, r⟩
    · rw [toB_len] at h0
      exact (pcs_ne _ _ (List.eq_nil_of_length_eq_zero h0)).elim
    · rw [toB_len] at hcap ⊢
      refine ⟨g, cap, rfl, fun j x hx => ?_, ⟨hcap, hmax⟩, hb⟩
      obtain ⟨A, c2, e1, _, _, hsl⟩ := hown.sl
      have hx2 : (toB (pcs c s.data.toList))[j]? = some ⟨x.toArray⟩ := by unfold toB; rw [List.getElem?_map, hx]; rfl
      obtain ⟨b, off, hA, _, hc⟩ := hsl j _ hx2
      injection e1 with e1 e2 e3
      rw [← e1] at hA
      injection hA with hA
      injection hA with h1 h2
      subst h1 h2
      have := hc 0 _ rfl
      simpa [strs, Enc.of1] using this
theorem digA (x : List UInt8) (W : World) (h : x.length ≤ 3000) : Calls Tryd.prog 40 #[.string ⟨x.toArray⟩] W fun e w' => e = .returned (.int .i64 (digNV x)) ∧ Below W.heap.size W w' :=
  rdigits_any ⟨x.toArray⟩ W (by simp [ByteArray.size]; omega)
theorem kindR_succ (w x : List UInt8) (k : Nat) (h : words[k]? = some x) : kindR w (k + 1) = if x = w then (k : Int) else kindR w k := by
  unfold kindR
  have hz : words.zipIdx[k]? = some (x, k) := by simp [List.getElem?_zipIdx, h]
  rw [foldl_snoc _ _ hz]
theorem kindR_zero (w : List UInt8) : kindR w 0 = 0 := rfl

/-- What the region of the reference's Read keeps. -/
def RrSt (w2 : World) (n : Nat) (x0 x2 x3 x4 : ByteArray) (w' : World) : Prop :=
  Below w2.heap.size w2 w' ∧ w'.cell? ⟨n, 0, none⟩ = some (.string x0) ∧ w'.cell? ⟨n, 2, none⟩ = some (.string x2) ∧ w'.cell? ⟨n, 3, none⟩ = some (.string x3) ∧ w'.cell? ⟨n, 4, none⟩ = some (.string x4)
theorem RrSt.below {w2 w w' : World} {n : Nat} {t k a b : ByteArray} (h : RrSt w2 n t k a b w) (hb : Below w.heap.size w w') : RrSt w2 n t k a b w' := by
  obtain ⟨h1, h3, h4, h5, h6⟩ := h
  refine ⟨h1.trans (hb.mono h1.size), ?_, ?_, ?_, ?_⟩
  · exact (hb.cell (p := ⟨n, 0, none⟩) (cell_lt h3)).trans h3
  · exact (hb.cell (p := ⟨n, 2, none⟩) (cell_lt h4)).trans h4
  · exact (hb.cell (p := ⟨n, 3, none⟩) (cell_lt h5)).trans h5
  · exact (hb.cell (p := ⟨n, 4, none⟩) (cell_lt h6)).trans h6
theorem RrSt.drew {w2 w : World} {n : Nat} {t k a b : ByteArray} (h : RrSt w2 n t k a b w) : RrSt w2 n t k a b w.drew := h.below (Below.refl _ w).drew
theorem RrSt.alloc {w2 w : World} {n : Nat} {t k a b : ByteArray} (h : RrSt w2 n t k a b w) (o : Obj) : RrSt w2 n t k a b (w.alloc o) := h.below ((Below.refl _ w).alloc (Nat.le_refl _) o)
def RrSt2 (w2 : World) (n : Nat) (x0 x1 x3 x4 : ByteArray) (nb : Nat) (w' : World) : Prop := RrSt w2 n x0 x1 x3 x4 w' ∧ ∃ e, EvBox w' nb e
theorem RrSt2.below {w2 w w' : World} {n nb : Nat} {t k a b : ByteArray} (h : RrSt2 w2 n t k a b nb w) (hb : Below w.heap.size w w') : RrSt2 w2 n t k a b nb w' :=
  ⟨h.1.below hb, h.2.elim fun e he => ⟨e, he.kept hb⟩⟩
theorem RrSt2.set {w2 w : World} {n nb : Nat} {t k a b : ByteArray} (h : RrSt2 w2 n t k a b nb w) (hn : w2.heap.size ≤ nb) {e : Ev} (hz : EvBox w nb e) (hn2 : n < w2.heap.size) (e' : Ev) :
    RrSt2 w2 n t k a b nb (((((w.setCell ⟨nb, 0, none⟩ (.int .i64 e'.t)).setCell ⟨nb, 1, none⟩ (.int .i64 e'.k)).setCell ⟨nb, 2, none⟩ (.int .i64 e'.p)).setCell ⟨nb, 3, none⟩ (.int .i64 e'.a)).setCell ⟨nb, 4, none⟩ (.int .i64 e'.b)) := by
  obtain ⟨⟨h1, h3, h4, h5, h6⟩, _⟩ := h
  have hne : n ≠ nb := by omega
  refine ⟨⟨below_set5 h1 nb hn _ _ _ _ _, ?_, ?_, ?_, ?_⟩, e', hz.set5 e'⟩ <;> rw [cell_set5 _ _ _ _ _ _ _ _ _ hne] <;> assumption
theorem cell_set1 (w : World) (B j : Nat) (v : Value) (m i : Nat) (h : m ≠ B) : (w.setCell ⟨B, j, none⟩ v).cell? ⟨m, i, none⟩ = w.cell? ⟨m, i, none⟩ := World.cell?_setCell_far w ⟨B, j, none⟩ ⟨m, i, none⟩ v (fun e => h e.symm)
theorem box_set1 {w : World} {m : Nat} {e : Ev} (hb : EvBox w m e) (B j : Nat) (v : Value) (h : m ≠ B) : EvBox (w.setCell ⟨B, j, none⟩ v) m e := (grownBy_setCell2 w B j v m h).trans hb

set_option maxRecDepth 100000 in
set_option maxHeartbeats 4000000 in
theorem rread_any (s : ByteArray) (w : World) (hs : s.size ≤ 3000) :
    Calls Tryd.prog 14 #[.string s] w fun e w' => e = .returned (.tuple #[evV (readX s.data.toList), .bool (readOk s.data.toList)]) ∧ Below w.heap.size w w' := by
  obtain ⟨l, hl⟩ : ∃ l, s.data.toList = l := ⟨_, rfl⟩
  have hlen : l.length = s.size := by rw [← hl]; exact Array.length_toList
  obtain ⟨q, hq⟩ : ∃ q, pcs 32 l = q := ⟨_, rfl⟩
  have hsp := fun W => rsplit_cells s 32 32 W rfl (by omega)
  have hqs : ∀ x ∈ q, x.length ≤ 3000 := fun x hx => by
    have := pcs_mem 32 l x (by rw [hq]; exact hx)
    omega
  rw [hl] at hsp ⊢
  rw [hq] at hsp
  by_cases h5 : q.length = 5
  · obtain ⟨x0, x1, x2, x3, x4, rfl⟩ : ∃ x0 x1 x2 x3 x4, q = [x0, x1, x2, x3, x4] := by
        match q, h5 with
        | [a, b, c, d, e], _ => exact ⟨a, b, c, d, e, rfl⟩
    have y0 := hqs x0 (by simp)
    have y1 := hqs x1 (by simp)
    have y2 := hqs x2 (by simp)
    have y3 := hqs x3 (by simp)
    have y4 := hqs x4 (by simp)
    have hc0 : candR [x0, x1, x2, x3, x4] = ⟨digNV x0, kindR x1 10, if x2 = [45] then -1 else digNV x2, digNV x3, digNV x4⟩ := rfl
    have hl' := Lib.hid hl
    have hq' := Lib.hid hq
    have hsp' := Lib.hid hsp
    have HC := Lib.hid hc0
    clear hsp hq hl hc0 hqs h5 hlen
    go_enter Tryd.func14, Tryd.ntmps14
    go_wp2_with fail
    have hb0 := (Below.refl w.heap.size w).alloc (Nat.le_refl _) (.cells #[.int .i64 0, .int .i64 0, .int .i64 0, .int .i64 0, .int .i64 0] 23)
    refine (hsp'.out _).mono ?_
    rintro e w3 ⟨pb, cp, rfl, hc1, ⟨hcp, _⟩, hb1⟩
    have hbox3 := (EvBox.new w Ev.zero).kept hb1
    have hB3 := hb0.trans (hb1.mono hb0.size)
    have q0 := hc1 0 x0 rfl
    have q1 := hc1 1 x1 rfl
    have q2 := hc1 2 x2 rfl
    have q3 := hc1 3 x3 rfl
    have q4 := hc1 4 x4 rfl
    obtain ⟨n, hn⟩ : ∃ n, w.heap.size = n := ⟨_, rfl⟩
    rw [hn] at hbox3 hB3 ⊢
    clear hb1 hb0 hc1
    simp only [List.length_cons, List.length_nil, Nat.zero_add, Nat.reduceAdd] at hcp ⊢
    go_wp2_with fail
    have hSd : RrSt w3 pb ⟨x0.toArray⟩ ⟨x2.toArray⟩ ⟨x3.toArray⟩ ⟨x4.toArray⟩ w3.drew := RrSt.drew ⟨Below.refl _ _, q0, q2, q3, q4⟩
    have hn3 : pb < w3.heap.size := cell_lt q0
    have hnn : n < w3.heap.size := hbox3.lt
    refine region_to (fun nb => { tmps := #[.string s, undef, .pointer (some ⟨n, 0, none⟩), .bool false, .slice (some ⟨pb, 0, none⟩) 5 cp, .pointer (some ⟨nb, 0, none⟩), undef, undef, .string s, .slice (some ⟨pb, 0, none⟩) 5 cp, .slice (some ⟨pb, 0, none⟩) 5 cp, .int .i64 5, .bool false, undef, .slice (some ⟨pb, 0, none⟩) 5 cp, .pointer (some ⟨pb, 0, none⟩), .string ⟨x0.toArray⟩, .int .i64 (digNV x0), .slice (some ⟨pb, 0, none⟩) 5 cp, .pointer (some ⟨pb, 2, none⟩), .string ⟨x2.toArray⟩, .int .i64 (digNV x2), .slice (some ⟨pb, 0, none⟩) 5 cp, .pointer (some ⟨pb, 3, none⟩), .string ⟨x3.toArray⟩, .int .i64 (digNV x3), .slice (some ⟨pb, 0, none⟩) 5 cp, .pointer (some ⟨pb, 4, none⟩), .string ⟨x4.toArray⟩, .int .i64 (digNV x4), .agg #[.int .i64 (digNV x0), .int .i64 0, .int .i64 (digNV x2), .int .i64 (digNV x3), .int .i64 (digNV x4)], undef, undef, undef, undef, undef, undef, undef, undef, undef, undef, undef, undef, undef, undef, undef, undef, undef, undef, undef, undef, undef, undef, undef, undef, undef, undef, undef, undef, undef, undef, undef], defers := [] }) (fun nb w => w3.heap.size ≤ nb ∧ EvBox w nb ⟨digNV x0, 0, digNV x2, digNV x3, digNV x4⟩ ∧ Below w3.heap.size w3 w) ?reg ?cont
    case reg =>
      refine wp_region_held_drew (S := fun w' => Below w3.heap.size w3 w' ∧ w'.cell? ⟨pb, 0, none⟩ = some (.string ⟨x0.toArray⟩) ∧ w'.cell? ⟨pb, 2, none⟩ = some (.string ⟨x2.toArray⟩) ∧ w'.cell? ⟨pb, 3, none⟩ = some (.string ⟨x3.toArray⟩) ∧ w'.cell? ⟨pb, 4, none⟩ = some (.string ⟨x4.toArray⟩)) (by kernel_rfl) hSd (fun hHeld => ?_)
      generalize w3.drew = wd at hHeld ⊢
      refine wpAnyH_take (i := 0) (oi := ?_) (v := ?_) ?_ (by kernel_rfl) (by kernel_rfl) (by kernel_rfl) ?_ (Or.inl ⟨?_, ?_⟩) (by assumption) ?_
      rotate_left 2
      · (simp only [List.getElem?_toArray, List.getElem?_cons_zero]; rfl)
      · first | exact fun _ _ _ h => h | exact fun _ _ _ h => by cases h.1
      · rfl
      · ((intro wq hSq; (try dsimp only at hSq); go_simp); (try with_reducible rfl))
      try simp only [Act.put, List.setIfInBounds_toArray, List.set_cons_zero, List.set_cons_succ]
      refine wpAnyH_take (i := 1) (oi := ?_) (v := ?_) ?_ (by kernel_rfl) (by kernel_rfl) (by kernel_rfl) ?_ (Or.inl ⟨?_, ?_⟩) (by assumption) ?_
      rotate_left 2
      · (simp only [List.getElem?_toArray, List.getElem?_cons_succ, List.getElem?_cons_zero]; rfl)
      · first | exact fun _ _ _ h => h | exact fun _ _ _ h => by cases h.1
      · rfl
      · ((intro wq hSq; (try dsimp only at hSq); go_simp); (try with_reducible rfl))
      try simp only [Act.put, List.setIfInBounds_toArray, List.set_cons_zero, List.set_cons_succ]
      refine wpAnyH_take (i := 2) (oi := ?_) (v := ?_) ?_ (by kernel_rfl) (by kernel_rfl) (by kernel_rfl) ?_ (Or.inl ⟨?_, ?_⟩) (by assumption) ?_
      rotate_left 2
      · (simp only [List.getElem?_toArray, List.getElem?_cons_succ, List.getElem?_cons_zero]; rfl)
      · first | exact fun _ _ _ h => h | exact fun _ _ _ h => by cases h.1
      · rfl
      · ((intro wq hSq; (try dsimp only at hSq); go_simp); (try with_reducible rfl))
      try simp only [Act.put, List.setIfInBounds_toArray, List.set_cons_zero, List.set_cons_succ]
      refine wpAnyH_take (i := 4) (oi := ?_) (v := ?_) ?_ (by kernel_rfl) (by kernel_rfl) (by kernel_rfl) ?_ (Or.inl ⟨?_, ?_⟩) (by assumption) ?_
      rotate_left 2
      · (simp only [List.getElem?_toArray, List.getElem?_cons_succ, List.getElem?_cons_zero]; rfl)
      · first | exact fun _ _ _ h => h | exact fun _ _ _ h => by cases h.1
      · rfl
      · ((intro wq hSq; (try dsimp only at hSq); go_simp); (try with_reducible rfl))
      try simp only [Act.put, List.setIfInBounds_toArray, List.set_cons_zero, List.set_cons_succ]
      refine wpAnyH_take (i := 5) (oi := ?_) (v := ?_) ?_ (by kernel_rfl) (by kernel_rfl) (by kernel_rfl) ?_ (Or.inl ⟨?_, ?_⟩) (by assumption) ?_
      rotate_left 2
      · (simp only [List.getElem?_toArray, List.getElem?_cons_succ, List.getElem?_cons_zero]; rfl)
      · first | exact fun _ _ _ h => h | exact fun _ _ _ h => by cases h.1
      · rfl
      · ((intro wq hSq; (try dsimp only at hSq); go_simp); (try with_reducible rfl))
      try simp only [Act.put, List.setIfInBounds_toArray, List.set_cons_zero, List.set_cons_succ]
      refine wpAnyH_take (i := 6) (oi := ?_) (v := ?_) ?_ (by kernel_rfl) (by kernel_rfl) (by kernel_rfl) ?_ (Or.inl ⟨?_, ?_⟩) (by assumption) ?_
      rotate_left 2
      · (simp only [List.getElem?_toArray, List.getElem?_cons_succ, List.getElem?_cons_zero]; rfl)
      · first | exact fun _ _ _ h => h | exact fun _ _ _ h => by cases h.1
      · rfl
      · ((intro wq hSq; (try dsimp only at hSq); go_simp); (try with_reducible rfl))
      try simp only [Act.put, List.setIfInBounds_toArray, List.set_cons_zero, List.set_cons_succ]
      refine wpAnyH_take (i := 8) (oi := ?_) (v := ?_) ?_ (by kernel_rfl) (by kernel_rfl) (by kernel_rfl) ?_ (Or.inl ⟨?_, ?_⟩) (by assumption) ?_
      rotate_left 2
      · (simp only [List.getElem?_toArray, List.getElem?_cons_succ, List.getElem?_cons_zero]; rfl)
      · first | exact fun _ _ _ h => h | exact fun _ _ _ h => by cases h.1
      · rfl
      · ((intro wq hSq; (try dsimp only at hSq); go_simp); (try with_reducible rfl))
      try simp only [Act.put, List.setIfInBounds_toArray, List.set_cons_zero, List.set_cons_succ]
      refine wpAnyH_take (i := 9) (oi := ?_) (v := ?_) ?_ (by kernel_rfl) (by kernel_rfl) (by kernel_rfl) ?_ (Or.inl ⟨?_, ?_⟩) (by assumption) ?_
      rotate_left 2
      · (simp only [List.getElem?_toArray, List.getElem?_cons_succ, List.getElem?_cons_zero]; rfl)
      · first | exact fun _ _ _ h => h | exact fun _ _ _ h => by cases h.1
      · rfl
      · ((intro wq hSq; (try dsimp only at hSq); go_simp); (try with_reducible rfl))
      try simp only [Act.put, List.setIfInBounds_toArray, List.set_cons_zero, List.set_cons_succ]
      refine wpAnyH_take (i := 10) (oi := ?_) (v := ?_) ?_ (by kernel_rfl) (by kernel_rfl) (by kernel_rfl) ?_ (Or.inl ⟨?_, ?_⟩) (by assumption) ?_
      rotate_left 2
      · (simp only [List.getElem?_toArray, List.getElem?_cons_succ, List.getElem?_cons_zero]; rfl)
      · first | exact fun _ _ _ h => h | exact fun _ _ _ h => by cases h.1
      · rfl
      · ((intro wq hSq; (try dsimp only at hSq); go_simp); (try with_reducible rfl))
      try simp only [Act.put, List.setIfInBounds_toArray, List.set_cons_zero, List.set_cons_succ]
      refine wpAnyH_take (i := 12) (oi := ?_) (v := ?_) ?_ (by kernel_rfl) (by kernel_rfl) (by kernel_rfl) ?_ (Or.inl ⟨?_, ?_⟩) (by assumption) ?_
      rotate_left 2
      · (simp only [List.getElem?_toArray, List.getElem?_cons_succ, List.getElem?_cons_zero]; rfl)
      · first | exact fun _ _ _ h => h | exact fun _ _ _ h => by cases h.1
      · rfl
      · ((intro wq hSq; (try dsimp only at hSq); go_simp); (try with_reducible rfl))
      try simp only [Act.put, List.setIfInBounds_toArray, List.set_cons_zero, List.set_cons_succ]
      refine wpAnyH_take (i := 13) (oi := ?_) (v := ?_) ?_ (by kernel_rfl) (by kernel_rfl) (by kernel_rfl) ?_ (Or.inl ⟨?_, ?_⟩) (by assumption) ?_
      rotate_left 2
      · (simp only [List.getElem?_toArray, List.getElem?_cons_succ, List.getElem?_cons_zero]; rfl)
      · first | exact fun _ _ _ h => h | exact fun _ _ _ h => by cases h.1
      · rfl
      · ((intro wq hSq; (try dsimp only at hSq); go_simp); (try with_reducible rfl))
      try simp only [Act.put, List.setIfInBounds_toArray, List.set_cons_zero, List.set_cons_succ]
      refine wpAnyH_take (i := 14) (oi := ?_) (v := ?_) ?_ (by kernel_rfl) (by kernel_rfl) (by kernel_rfl) ?_ (Or.inl ⟨?_, ?_⟩) (by assumption) ?_
      rotate_left 2
      · (simp only [List.getElem?_toArray, List.getElem?_cons_succ, List.getElem?_cons_zero]; rfl)
      · first | exact fun _ _ _ h => h | exact fun _ _ _ h => by cases h.1
      · rfl
      · ((intro wq hSq; (try dsimp only at hSq); go_simp); (try with_reducible rfl))
      try simp only [Act.put, List.setIfInBounds_toArray, List.set_cons_zero, List.set_cons_succ]
      refine wpAnyH_ready (rs := [3, 17]) (by kernel_rfl) (by simp) ?_
      refine AllReadyH.cons (o := ?_) ?_ (fun K hK => ?_) ?_
      rotate_left
      · (simp only [List.getElem?_toArray, List.getElem?_cons_succ, List.getElem?_cons_zero]; rfl)
      · go_simp
        go_at_call 40
        refine (digA _ _ (by assumption)).mono ?_
        rintro e wx ⟨rfl, hbx⟩
        have hSx := RrSt.below (w2 := w3) (n := pb) (t := ⟨x0.toArray⟩) (k := ⟨x2.toArray⟩) (a := ⟨x3.toArray⟩) (b := ⟨x4.toArray⟩) hHeld hbx
        refine hK.out _ _ hSx (fun hHeld => ?_)
        clear hK K
        try simp only [Act.put, List.setIfInBounds_toArray, List.set_cons_zero, List.set_cons_succ]
        refine wpAnyH_ready (rs := [7, 17]) (by kernel_rfl) (by simp) ?_
        refine AllReadyH.cons (o := ?_) ?_ (fun K hK => ?_) ?_
        rotate_left
        · (simp only [List.getElem?_toArray, List.getElem?_cons_succ, List.getElem?_cons_zero]; rfl)
        · go_simp
          go_at_call 40
          refine (digA _ _ (by assumption)).mono ?_
          rintro e wx ⟨rfl, hbx⟩
          have hSx := RrSt.below (w2 := w3) (n := pb) (t := ⟨x0.toArray⟩) (k := ⟨x2.toArray⟩) (a := ⟨x3.toArray⟩) (b := ⟨x4.toArray⟩) hHeld hbx
          refine hK.out _ _ hSx (fun hHeld => ?_)
          clear hK K
          try simp only [Act.put, List.setIfInBounds_toArray, List.set_cons_zero, List.set_cons_succ]
          refine wpAnyH_ready (rs := [11, 17]) (by kernel_rfl) (by simp) ?_
          refine AllReadyH.cons (o := ?_) ?_ (fun K hK => ?_) ?_
          rotate_left
          · (simp only [List.getElem?_toArray, List.getElem?_cons_succ, List.getElem?_cons_zero]; rfl)
          · go_simp
            go_at_call 40
            refine (digA _ _ (by assumption)).mono ?_
            rintro e wx ⟨rfl, hbx⟩
            have hSx := RrSt.below (w2 := w3) (n := pb) (t := ⟨x0.toArray⟩) (k := ⟨x2.toArray⟩) (a := ⟨x3.toArray⟩) (b := ⟨x4.toArray⟩) hHeld hbx
            refine hK.out _ _ hSx (fun hHeld => ?_)
            clear hK K
            try simp only [Act.put, List.setIfInBounds_toArray, List.set_cons_zero, List.set_cons_succ]
            refine wpAnyH_ready (rs := [15, 17]) (by kernel_rfl) (by simp) ?_
            refine AllReadyH.cons (o := ?_) ?_ (fun K hK => ?_) ?_
            rotate_left
            · (simp only [List.getElem?_toArray, List.getElem?_cons_succ, List.getElem?_cons_zero]; rfl)
            · go_simp
              go_at_call 40
              refine (digA _ _ (by assumption)).mono ?_
              rintro e wx ⟨rfl, hbx⟩
              have hSx := RrSt.below (w2 := w3) (n := pb) (t := ⟨x0.toArray⟩) (k := ⟨x2.toArray⟩) (a := ⟨x3.toArray⟩) (b := ⟨x4.toArray⟩) hHeld hbx
              refine hK.out _ _ hSx (fun hHeld => ?_)
              clear hK K
              try simp only [Act.put, List.setIfInBounds_toArray, List.set_cons_zero, List.set_cons_succ]
              refine wpAnyH_take (i := 16) (oi := ?_) (v := ?_) ?_ (by kernel_rfl) (by kernel_rfl) (by kernel_rfl) ?_ (Or.inl ⟨?_, ?_⟩) (by assumption) ?_
              rotate_left 2
              · (simp only [List.getElem?_toArray, List.getElem?_cons_succ, List.getElem?_cons_zero]; rfl)
              · first | exact fun _ _ _ h => h | exact fun _ _ _ h => by cases h.1
              · rfl
              · ((intro wq hSq; (try dsimp only at hSq); go_simp); (try with_reducible rfl))
              try simp only [Act.put, List.setIfInBounds_toArray, List.set_cons_zero, List.set_cons_succ]
              refine wpAnyH_ready (rs := [17]) (by kernel_rfl) (by simp) ?_
              refine AllReadyH.cons (o := ?_) ?_ (fun K hK => ?_) AllReadyH.nil
              rotate_left
              · (simp only [List.getElem?_toArray, List.getElem?_cons_succ, List.getElem?_cons_zero]; rfl)
              go_simp
              have hnew := EvBox.new (wx) Ev.zero
              have hsz := hHeld.1.size
              have hSx := RrSt.alloc (w2 := w3) (n := pb) (t := ⟨x0.toArray⟩) (k := ⟨x2.toArray⟩) (a := ⟨x3.toArray⟩) (b := ⟨x4.toArray⟩) hHeld (.cells #[.int .i64 0, .int .i64 0, .int .i64 0, .int .i64 0, .int .i64 0] 23)
              refine hK.out _ _ hSx (fun hHeld => ?_)
              clear hK K
              try simp only [Act.put, List.setIfInBounds_toArray, List.set_cons_zero, List.set_cons_succ]
              obtain ⟨wa, hwa⟩ : ∃ x, (wx).alloc (.cells #[.int .i64 0, .int .i64 0, .int .i64 0, .int .i64 0, .int .i64 0] 23) = x := ⟨_, rfl⟩
              obtain ⟨nb, hnb⟩ : ∃ x, (wx).heap.size = x := ⟨_, rfl⟩
              have hnew2 : EvBox wa nb Ev.zero := by rw [← hwa, ← hnb]; exact hnew
              rw [hwa] at hHeld ⊢
              rw [hnb] at hsz ⊢
              clear hwa hnb hnew
              have hS2 : RrSt2 w3 pb ⟨x0.toArray⟩ ⟨x2.toArray⟩ ⟨x3.toArray⟩ ⟨x4.toArray⟩ nb wa := ⟨hHeld, _, hnew2⟩
              clear hnew2 hHeld
              refine wpAnyH_strong (S' := fun w' => (Below w3.heap.size w3 w' ∧ w'.cell? ⟨pb, 0, none⟩ = some (.string ⟨x0.toArray⟩) ∧ w'.cell? ⟨pb, 2, none⟩ = some (.string ⟨x2.toArray⟩) ∧ w'.cell? ⟨pb, 3, none⟩ = some (.string ⟨x3.toArray⟩) ∧ w'.cell? ⟨pb, 4, none⟩ = some (.string ⟨x4.toArray⟩)) ∧ ∃ e, EvBox w' nb e) (fun w h => h.1) _ _ _ _ ?_
              have hHeld := hS2
              obtain ⟨ee, hz⟩ := hHeld.2
              obtain ⟨b0, b1, b2, b3, b4⟩ := hz.cells
              have f0 := hz.frozen 0
              have f1 := hz.frozen 1
              have f2 := hz.frozen 2
              have f3 := hz.frozen 3
              have f4 := hz.frozen 4
              refine wpAnyH_ready (rs := [18]) (by kernel_rfl) (by simp) ?_
              refine AllReadyH.cons (o := ?_) ?_ (fun K hK => ?_) AllReadyH.nil
              rotate_left
              · (simp only [List.getElem?_toArray, List.getElem?_cons_succ, List.getElem?_cons_zero]; rfl)
              go_simp
              have hSx := RrSt2.set (w2 := w3) (n := pb) (t := ⟨x0.toArray⟩) (k := ⟨x2.toArray⟩) (a := ⟨x3.toArray⟩) (b := ⟨x4.toArray⟩) (nb := nb) hHeld hsz hz hn3 ⟨digNV x0, 0, digNV x2, digNV x3, digNV x4⟩
              have hzz := hz.set5 ⟨digNV x0, 0, digNV x2, digNV x3, digNV x4⟩
              have hBB := hSx.1.1
              refine hK.out _ _ hSx (fun hHeld => ?_)
              clear hK K
              try simp only [Act.put, List.setIfInBounds_toArray, List.set_cons_zero, List.set_cons_succ]
              refine wpAnyH_done (by kernel_rfl) ?_ _
              exact ⟨rfl, nb, rfl, hsz, hzz, hBB⟩
            · refine AllReadyH.cons (o := ?_) ?_ (fun K hK => ?_) AllReadyH.nil
              rotate_left
              · (simp only [List.getElem?_toArray, List.getElem?_cons_succ, List.getElem?_cons_zero]; rfl)
              · go_simp
                have hnew := EvBox.new (wx) Ev.zero
                have hsz := hHeld.1.size
                have hSx := RrSt.alloc (w2 := w3) (n := pb) (t := ⟨x0.toArray⟩) (k := ⟨x2.toArray⟩) (a := ⟨x3.toArray⟩) (b := ⟨x4.toArray⟩) hHeld (.cells #[.int .i64 0, .int .i64 0, .int .i64 0, .int .i64 0, .int .i64 0] 23)
                refine hK.out _ _ hSx (fun hHeld => ?_)
                clear hK K
                try simp only [Act.put, List.setIfInBounds_toArray, List.set_cons_zero, List.set_cons_succ]
                obtain ⟨wa, hwa⟩ : ∃ x, (wx).alloc (.cells #[.int .i64 0, .int .i64 0, .int .i64 0, .int .i64 0, .int .i64 0] 23) = x := ⟨_, rfl⟩
                obtain ⟨nb, hnb⟩ : ∃ x, (wx).heap.size = x := ⟨_, rfl⟩
                have hnew2 : EvBox wa nb Ev.zero := by rw [← hwa, ← hnb]; exact hnew
                rw [hwa] at hHeld ⊢
                rw [hnb] at hsz ⊢
                clear hwa hnb hnew
                have hS2 : RrSt2 w3 pb ⟨x0.toArray⟩ ⟨x2.toArray⟩ ⟨x3.toArray⟩ ⟨x4.toArray⟩ nb wa := ⟨hHeld, _, hnew2⟩
                clear hnew2 hHeld
                refine wpAnyH_strong (S' := fun w' => (Below w3.heap.size w3 w' ∧ w'.cell? ⟨pb, 0, none⟩ = some (.string ⟨x0.toArray⟩) ∧ w'.cell? ⟨pb, 2, none⟩ = some (.string ⟨x2.toArray⟩) ∧ w'.cell? ⟨pb, 3, none⟩ = some (.string ⟨x3.toArray⟩) ∧ w'.cell? ⟨pb, 4, none⟩ = some (.string ⟨x4.toArray⟩)) ∧ ∃ e, EvBox w' nb e) (fun w h => h.1) _ _ _ _ ?_
                have hHeld := hS2
                refine wpAnyH_ready (rs := [15]) (by kernel_rfl) (by simp) ?_
                refine AllReadyH.cons (o := ?_) ?_ (fun K hK => ?_) AllReadyH.nil
                rotate_left
                · (simp only [List.getElem?_toArray, List.getElem?_cons_succ, List.getElem?_cons_zero]; rfl)
                go_simp
                go_at_call 40
                refine (digA _ _ (by assumption)).mono ?_
                rintro e wx ⟨rfl, hbx⟩
                have hSx := RrSt2.below (w2 := w3) (n := pb) (t := ⟨x0.toArray⟩) (k := ⟨x2.toArray⟩) (a := ⟨x3.toArray⟩) (b := ⟨x4.toArray⟩) (nb := nb) hHeld hbx
                refine hK.out _ _ hSx (fun hHeld => ?_)
                clear hK K
                try simp only [Act.put, List.setIfInBounds_toArray, List.set_cons_zero, List.set_cons_succ]
                refine wpAnyH_take (i := 16) (oi := ?_) (v := ?_) ?_ (by kernel_rfl) (by kernel_rfl) (by kernel_rfl) ?_ (Or.inl ⟨?_, ?_⟩) (by assumption) ?_
                rotate_left 2
                · (simp only [List.getElem?_toArray, List.getElem?_cons_succ, List.getElem?_cons_zero]; rfl)
                · first | exact fun _ _ _ h => h | exact fun _ _ _ h => by cases h.1
                · rfl
                · ((intro wq hSq; (try dsimp only at hSq); go_simp); (try with_reducible rfl))
                try simp only [Act.put, List.setIfInBounds_toArray, List.set_cons_zero, List.set_cons_succ]
                obtain ⟨ee, hz⟩ := hHeld.2
                obtain ⟨b0, b1, b2, b3, b4⟩ := hz.cells
                have f0 := hz.frozen 0
                have f1 := hz.frozen 1
                have f2 := hz.frozen 2
                have f3 := hz.frozen 3
                have f4 := hz.frozen 4
                refine wpAnyH_ready (rs := [18]) (by kernel_rfl) (by simp) ?_
                refine AllReadyH.cons (o := ?_) ?_ (fun K hK => ?_) AllReadyH.nil
                rotate_left
                · (simp only [List.getElem?_toArray, List.getElem?_cons_succ, List.getElem?_cons_zero]; rfl)
                go_simp
                have hSx := RrSt2.set (w2 := w3) (n := pb) (t := ⟨x0.toArray⟩) (k := ⟨x2.toArray⟩) (a := ⟨x3.toArray⟩) (b := ⟨x4.toArray⟩) (nb := nb) hHeld hsz hz hn3 ⟨digNV x0, 0, digNV x2, digNV x3, digNV x4⟩
                have hzz := hz.set5 ⟨digNV x0, 0, digNV x2, digNV x3, digNV x4⟩
                have hBB := hSx.1.1
                refine hK.out _ _ hSx (fun hHeld => ?_)
                clear hK K
                try simp only [Act.put, List.setIfInBounds_toArray, List.set_cons_zero, List.set_cons_succ]
                refine wpAnyH_done (by kernel_rfl) ?_ _
                exact ⟨rfl, nb, rfl, hsz, hzz, hBB⟩
          · refine AllReadyH.cons (o := ?_) ?_ (fun K hK => ?_) AllReadyH.nil
            rotate_left
            · (simp only [List.getElem?_toArray, List.getElem?_cons_succ, List.getElem?_cons_zero]; rfl)
            · go_simp
              have hnew := EvBox.new (wx) Ev.zero
              have hsz := hHeld.1.size
              have hSx := RrSt.alloc (w2 := w3) (n := pb) (t := ⟨x0.toArray⟩) (k := ⟨x2.toArray⟩) (a := ⟨x3.toArray⟩) (b := ⟨x4.toArray⟩) hHeld (.cells #[.int .i64 0, .int .i64 0, .int .i64 0, .int .i64 0, .int .i64 0] 23)
              refine hK.out _ _ hSx (fun hHeld => ?_)
              clear hK K
              try simp only [Act.put, List.setIfInBounds_toArray, List.set_cons_zero, List.set_cons_succ]
              obtain ⟨wa, hwa⟩ : ∃ x, (wx).alloc (.cells #[.int .i64 0, .int .i64 0, .int .i64 0, .int .i64 0, .int .i64 0] 23) = x := ⟨_, rfl⟩
              obtain ⟨nb, hnb⟩ : ∃ x, (wx).heap.size = x := ⟨_, rfl⟩
              have hnew2 : EvBox wa nb Ev.zero := by rw [← hwa, ← hnb]; exact hnew
              rw [hwa] at hHeld ⊢
              rw [hnb] at hsz ⊢
              clear hwa hnb hnew
              have hS2 : RrSt2 w3 pb ⟨x0.toArray⟩ ⟨x2.toArray⟩ ⟨x3.toArray⟩ ⟨x4.toArray⟩ nb wa := ⟨hHeld, _, hnew2⟩
              clear hnew2 hHeld
              refine wpAnyH_strong (S' := fun w' => (Below w3.heap.size w3 w' ∧ w'.cell? ⟨pb, 0, none⟩ = some (.string ⟨x0.toArray⟩) ∧ w'.cell? ⟨pb, 2, none⟩ = some (.string ⟨x2.toArray⟩) ∧ w'.cell? ⟨pb, 3, none⟩ = some (.string ⟨x3.toArray⟩) ∧ w'.cell? ⟨pb, 4, none⟩ = some (.string ⟨x4.toArray⟩)) ∧ ∃ e, EvBox w' nb e) (fun w h => h.1) _ _ _ _ ?_
              have hHeld := hS2
              refine wpAnyH_ready (rs := [11]) (by kernel_rfl) (by simp) ?_
              refine AllReadyH.cons (o := ?_) ?_ (fun K hK => ?_) AllReadyH.nil
              rotate_left
              · (simp only [List.getElem?_toArray, List.getElem?_cons_succ, List.getElem?_cons_zero]; rfl)
              go_simp
              go_at_call 40
              refine (digA _ _ (by assumption)).mono ?_
              rintro e wx ⟨rfl, hbx⟩
              have hSx := RrSt2.below (w2 := w3) (n := pb) (t := ⟨x0.toArray⟩) (k := ⟨x2.toArray⟩) (a := ⟨x3.toArray⟩) (b := ⟨x4.toArray⟩) (nb := nb) hHeld hbx
              refine hK.out _ _ hSx (fun hHeld => ?_)
              clear hK K
              try simp only [Act.put, List.setIfInBounds_toArray, List.set_cons_zero, List.set_cons_succ]
              refine wpAnyH_ready (rs := [15]) (by kernel_rfl) (by simp) ?_
              refine AllReadyH.cons (o := ?_) ?_ (fun K hK => ?_) AllReadyH.nil
              rotate_left
              · (simp only [List.getElem?_toArray, List.getElem?_cons_succ, List.getElem?_cons_zero]; rfl)
              go_simp
              go_at_call 40
              refine (digA _ _ (by assumption)).mono ?_
              rintro e wx ⟨rfl, hbx⟩
              have hSx := RrSt2.below (w2 := w3) (n := pb) (t := ⟨x0.toArray⟩) (k := ⟨x2.toArray⟩) (a := ⟨x3.toArray⟩) (b := ⟨x4.toArray⟩) (nb := nb) hHeld hbx
              refine hK.out _ _ hSx (fun hHeld => ?_)
              clear hK K
              try simp only [Act.put, List.setIfInBounds_toArray, List.set_cons_zero, List.set_cons_succ]
              refine wpAnyH_take (i := 16) (oi := ?_) (v := ?_) ?_ (by kernel_rfl) (by kernel_rfl) (by kernel_rfl) ?_ (Or.inl ⟨?_, ?_⟩) (by assumption) ?_
              rotate_left 2
              · (simp only [List.getElem?_toArray, List.getElem?_cons_succ, List.getElem?_cons_zero]; rfl)
              · first | exact fun _ _ _ h => h | exact fun _ _ _ h => by cases h.1
              · rfl
              · ((intro wq hSq; (try dsimp only at hSq); go_simp); (try with_reducible rfl))
              try simp only [Act.put, List.setIfInBounds_toArray, List.set_cons_zero, List.set_cons_succ]
              obtain ⟨ee, hz⟩ := hHeld.2
              obtain ⟨b0, b1, b2, b3, b4⟩ := hz.cells
              have f0 := hz.frozen 0
              have f1 := hz.frozen 1
              have f2 := hz.frozen 2
              have f3 := hz.frozen 3
              have f4 := hz.frozen 4
              refine wpAnyH_ready (rs := [18]) (by kernel_rfl) (by simp) ?_
              refine AllReadyH.cons (o := ?_) ?_ (fun K hK => ?_) AllReadyH.nil
              rotate_left
              · (simp only [List.getElem?_toArray, List.getElem?_cons_succ, List.getElem?_cons_zero]; rfl)
              go_simp
              have hSx := RrSt2.set (w2 := w3) (n := pb) (t := ⟨x0.toArray⟩) (k := ⟨x2.toArray⟩) (a := ⟨x3.toArray⟩) (b := ⟨x4.toArray⟩) (nb := nb) hHeld hsz hz hn3 ⟨digNV x0, 0, digNV x2, digNV x3, digNV x4⟩
              have hzz := hz.set5 ⟨digNV x0, 0, digNV x2, digNV x3, digNV x4⟩
              have hBB := hSx.1.1
              refine hK.out _ _ hSx (fun hHeld => ?_)
              clear hK K
              try simp only [Act.put, List.setIfInBounds_toArray, List.set_cons_zero, List.set_cons_succ]
              refine wpAnyH_done (by kernel_rfl) ?_ _
              exact ⟨rfl, nb, rfl, hsz, hzz, hBB⟩
        · refine AllReadyH.cons (o := ?_) ?_ (fun K hK => ?_) AllReadyH.nil
          rotate_left
          · (simp only [List.getElem?_toArray, List.getElem?_cons_succ, List.getElem?_cons_zero]; rfl)
          · go_simp
            have hnew := EvBox.new (wx) Ev.zero
            have hsz := hHeld.1.size
            have hSx := RrSt.alloc (w2 := w3) (n := pb) (t := ⟨x0.toArray⟩) (k := ⟨x2.toArray⟩) (a := ⟨x3.toArray⟩) (b := ⟨x4.toArray⟩) hHeld (.cells #[.int .i64 0, .int .i64 0, .int .i64 0, .int .i64 0, .int .i64 0] 23)
            refine hK.out _ _ hSx (fun hHeld => ?_)
            clear hK K
            try simp only [Act.put, List.setIfInBounds_toArray, List.set_cons_zero, List.set_cons_succ]
            obtain ⟨wa, hwa⟩ : ∃ x, (wx).alloc (.cells #[.int .i64 0, .int .i64 0, .int .i64 0, .int .i64 0, .int .i64 0] 23) = x := ⟨_, rfl⟩
            obtain ⟨nb, hnb⟩ : ∃ x, (wx).heap.size = x := ⟨_, rfl⟩
            have hnew2 : EvBox wa nb Ev.zero := by rw [← hwa, ← hnb]; exact hnew
            rw [hwa] at hHeld ⊢
            rw [hnb] at hsz ⊢
            clear hwa hnb hnew
            have hS2 : RrSt2 w3 pb ⟨x0.toArray⟩ ⟨x2.toArray⟩ ⟨x3.toArray⟩ ⟨x4.toArray⟩ nb wa := ⟨hHeld, _, hnew2⟩
            clear hnew2 hHeld
            refine wpAnyH_strong (S' := fun w' => (Below w3.heap.size w3 w' ∧ w'.cell? ⟨pb, 0, none⟩ = some (.string ⟨x0.toArray⟩) ∧ w'.cell? ⟨pb, 2, none⟩ = some (.string ⟨x2.toArray⟩) ∧ w'.cell? ⟨pb, 3, none⟩ = some (.string ⟨x3.toArray⟩) ∧ w'.cell? ⟨pb, 4, none⟩ = some (.string ⟨x4.toArray⟩)) ∧ ∃ e, EvBox w' nb e) (fun w h => h.1) _ _ _ _ ?_
            have hHeld := hS2
            refine wpAnyH_ready (rs := [7]) (by kernel_rfl) (by simp) ?_
            refine AllReadyH.cons (o := ?_) ?_ (fun K hK => ?_) AllReadyH.nil
            rotate_left
            · (simp only [List.getElem?_toArray, List.getElem?_cons_succ, List.getElem?_cons_zero]; rfl)
            go_simp
            go_at_call 40
            refine (digA _ _ (by assumption)).mono ?_
            rintro e wx ⟨rfl, hbx⟩
            have hSx := RrSt2.below (w2 := w3) (n := pb) (t := ⟨x0.toArray⟩) (k := ⟨x2.toArray⟩) (a := ⟨x3.toArray⟩) (b := ⟨x4.toArray⟩) (nb := nb) hHeld hbx
            refine hK.out _ _ hSx (fun hHeld => ?_)
            clear hK K
            try simp only [Act.put, List.setIfInBounds_toArray, List.set_cons_zero, List.set_cons_succ]
            refine wpAnyH_ready (rs := [11]) (by kernel_rfl) (by simp) ?_
            refine AllReadyH.cons (o := ?_) ?_ (fun K hK => ?_) AllReadyH.nil
            rotate_left
            · (simp only [List.getElem?_toArray, List.getElem?_cons_succ, List.getElem?_cons_zero]; rfl)
            go_simp
            go_at_call 40
            refine (digA _ _ (by assumption)).mono ?_
            rintro e wx ⟨rfl, hbx⟩
            have hSx := RrSt2.below (w2 := w3) (n := pb) (t := ⟨x0.toArray⟩) (k := ⟨x2.toArray⟩) (a := ⟨x3.toArray⟩) (b := ⟨x4.toArray⟩) (nb := nb) hHeld hbx
            refine hK.out _ _ hSx (fun hHeld => ?_)
            clear hK K
            try simp only [Act.put, List.setIfInBounds_toArray, List.set_cons_zero, List.set_cons_succ]
            refine wpAnyH_ready (rs := [15]) (by kernel_rfl) (by simp) ?_
            refine AllReadyH.cons (o := ?_) ?_ (fun K hK => ?_) AllReadyH.nil
            rotate_left
            · (simp only [List.getElem?_toArray, List.getElem?_cons_succ, List.getElem?_cons_zero]; rfl)
            go_simp
            go_at_call 40
            refine (digA _ _ (by assumption)).mono ?_
            rintro e wx ⟨rfl, hbx⟩
            have hSx := RrSt2.below (w2 := w3) (n := pb) (t := ⟨x0.toArray⟩) (k := ⟨x2.toArray⟩) (a := ⟨x3.toArray⟩) (b := ⟨x4.toArray⟩) (nb := nb) hHeld hbx
            refine hK.out _ _ hSx (fun hHeld => ?_)
            clear hK K
            try simp only [Act.put, List.setIfInBounds_toArray, List.set_cons_zero, List.set_cons_succ]
            refine wpAnyH_take (i := 16) (oi := ?_) (v := ?_) ?_ (by kernel_rfl) (by kernel_rfl) (by kernel_rfl) ?_ (Or.inl ⟨?_, ?_⟩) (by assumption) ?_
            rotate_left 2
            · (simp only [List.getElem?_toArray, List.getElem?_cons_succ, List.getElem?_cons_zero]; rfl)
            · first | exact fun _ _ _ h => h | exact fun _ _ _ h => by cases h.1
            · rfl
            · ((intro wq hSq; (try dsimp only at hSq); go_simp); (try with_reducible rfl))
            try simp only [Act.put, List.setIfInBounds_toArray, List.set_cons_zero, List.set_cons_succ]
            obtain ⟨ee, hz⟩ := hHeld.2
            obtain ⟨b0, b1, b2, b3, b4⟩ := hz.cells
            have f0 := hz.frozen 0
            have f1 := hz.frozen 1
            have f2 := hz.frozen 2
            have f3 := hz.frozen 3
            have f4 := hz.frozen 4
            refine wpAnyH_ready (rs := [18]) (by kernel_rfl) (by simp) ?_
            refine AllReadyH.cons (o := ?_) ?_ (fun K hK => ?_) AllReadyH.nil
            rotate_left
            · (simp only [List.getElem?_toArray, List.getElem?_cons_succ, List.getElem?_cons_zero]; rfl)
            go_simp
            have hSx := RrSt2.set (w2 := w3) (n := pb) (t := ⟨x0.toArray⟩) (k := ⟨x2.toArray⟩) (a := ⟨x3.toArray⟩) (b := ⟨x4.toArray⟩) (nb := nb) hHeld hsz hz hn3 ⟨digNV x0, 0, digNV x2, digNV x3, digNV x4⟩
            have hzz := hz.set5 ⟨digNV x0, 0, digNV x2, digNV x3, digNV x4⟩
            have hBB := hSx.1.1
            refine hK.out _ _ hSx (fun hHeld => ?_)
            clear hK K
            try simp only [Act.put, List.setIfInBounds_toArray, List.set_cons_zero, List.set_cons_succ]
            refine wpAnyH_done (by kernel_rfl) ?_ _
            exact ⟨rfl, nb, rfl, hsz, hzz, hBB⟩
      · refine AllReadyH.cons (o := ?_) ?_ (fun K hK => ?_) AllReadyH.nil
        rotate_left
        · (simp only [List.getElem?_toArray, List.getElem?_cons_succ, List.getElem?_cons_zero]; rfl)
        · go_simp
          have hnew := EvBox.new (wd) Ev.zero
          have hsz := hHeld.1.size
          have hSx := RrSt.alloc (w2 := w3) (n := pb) (t := ⟨x0.toArray⟩) (k := ⟨x2.toArray⟩) (a := ⟨x3.toArray⟩) (b := ⟨x4.toArray⟩) hHeld (.cells #[.int .i64 0, .int .i64 0, .int .i64 0, .int .i64 0, .int .i64 0] 23)
          refine hK.out _ _ hSx (fun hHeld => ?_)
          clear hK K
          try simp only [Act.put, List.setIfInBounds_toArray, List.set_cons_zero, List.set_cons_succ]
          obtain ⟨wa, hwa⟩ : ∃ x, (wd).alloc (.cells #[.int .i64 0, .int .i64 0, .int .i64 0, .int .i64 0, .int .i64 0] 23) = x := ⟨_, rfl⟩
          obtain ⟨nb, hnb⟩ : ∃ x, (wd).heap.size = x := ⟨_, rfl⟩
          have hnew2 : EvBox wa nb Ev.zero := by rw [← hwa, ← hnb]; exact hnew
          rw [hwa] at hHeld ⊢
          rw [hnb] at hsz ⊢
          clear hwa hnb hnew
          have hS2 : RrSt2 w3 pb ⟨x0.toArray⟩ ⟨x2.toArray⟩ ⟨x3.toArray⟩ ⟨x4.toArray⟩ nb wa := ⟨hHeld, _, hnew2⟩
          clear hnew2 hHeld
          refine wpAnyH_strong (S' := fun w' => (Below w3.heap.size w3 w' ∧ w'.cell? ⟨pb, 0, none⟩ = some (.string ⟨x0.toArray⟩) ∧ w'.cell? ⟨pb, 2, none⟩ = some (.string ⟨x2.toArray⟩) ∧ w'.cell? ⟨pb, 3, none⟩ = some (.string ⟨x3.toArray⟩) ∧ w'.cell? ⟨pb, 4, none⟩ = some (.string ⟨x4.toArray⟩)) ∧ ∃ e, EvBox w' nb e) (fun w h => h.1) _ _ _ _ ?_
          have hHeld := hS2
          refine wpAnyH_ready (rs := [3]) (by kernel_rfl) (by simp) ?_
          refine AllReadyH.cons (o := ?_) ?_ (fun K hK => ?_) AllReadyH.nil
          rotate_left
          · (simp only [List.getElem?_toArray, List.getElem?_cons_succ, List.getElem?_cons_zero]; rfl)
          go_simp
          go_at_call 40
          refine (digA _ _ (by assumption)).mono ?_
          rintro e wx ⟨rfl, hbx⟩
          have hSx := RrSt2.below (w2 := w3) (n := pb) (t := ⟨x0.toArray⟩) (k := ⟨x2.toArray⟩) (a := ⟨x3.toArray⟩) (b := ⟨x4.toArray⟩) (nb := nb) hHeld hbx
          refine hK.out _ _ hSx (fun hHeld => ?_)
          clear hK K
          try simp only [Act.put, List.setIfInBounds_toArray, List.set_cons_zero, List.set_cons_succ]
          refine wpAnyH_ready (rs := [7]) (by kernel_rfl) (by simp) ?_
          refine AllReadyH.cons (o := ?_) ?_ (fun K hK => ?_) AllReadyH.nil
          rotate_left
          · (simp only [List.getElem?_toArray, List.getElem?_cons_succ, List.getElem?_cons_zero]; rfl)
          go_simp
          go_at_call 40
          refine (digA _ _ (by assumption)).mono ?_
          rintro e wx ⟨rfl, hbx⟩
          have hSx := RrSt2.below (w2 := w3) (n := pb) (t := ⟨x0.toArray⟩) (k := ⟨x2.toArray⟩) (a := ⟨x3.toArray⟩) (b := ⟨x4.toArray⟩) (nb := nb) hHeld hbx
          refine hK.out _ _ hSx (fun hHeld => ?_)
          clear hK K
          try simp only [Act.put, List.setIfInBounds_toArray, List.set_cons_zero, List.set_cons_succ]
          refine wpAnyH_ready (rs := [11]) (by kernel_rfl) (by simp) ?_
          refine AllReadyH.cons (o := ?_) ?_ (fun K hK => ?_) AllReadyH.nil
          rotate_left
          · (simp only [List.getElem?_toArray, List.getElem?_cons_succ, List.getElem?_cons_zero]; rfl)
          go_simp
          go_at_call 40
          refine (digA _ _ (by assumption)).mono ?_
          rintro e wx ⟨rfl, hbx⟩
          have hSx := RrSt2.below (w2 := w3) (n := pb) (t := ⟨x0.toArray⟩) (k := ⟨x2.toArray⟩) (a := ⟨x3.toArray⟩) (b := ⟨x4.toArray⟩) (nb := nb) hHeld hbx
          refine hK.out _ _ hSx (fun hHeld => ?_)
          clear hK K
          try simp only [Act.put, List.setIfInBounds_toArray, List.set_cons_zero, List.set_cons_succ]
          refine wpAnyH_ready (rs := [15]) (by kernel_rfl) (by simp) ?_
          refine AllReadyH.cons (o := ?_) ?_ (fun K hK => ?_) AllReadyH.nil
          rotate_left
          · (simp only [List.getElem?_toArray, List.getElem?_cons_succ, List.getElem?_cons_zero]; rfl)
          go_simp
          go_at_call 40
          refine (digA _ _ (by assumption)).mono ?_
          rintro e wx ⟨rfl, hbx⟩
          have hSx := RrSt2.below (w2 := w3) (n := pb) (t := ⟨x0.toArray⟩) (k := ⟨x2.toArray⟩) (a := ⟨x3.toArray⟩) (b := ⟨x4.toArray⟩) (nb := nb) hHeld hbx
          refine hK.out _ _ hSx (fun hHeld => ?_)
          clear hK K
          try simp only [Act.put, List.setIfInBounds_toArray, List.set_cons_zero, List.set_cons_succ]
          refine wpAnyH_take (i := 16) (oi := ?_) (v := ?_) ?_ (by kernel_rfl) (by kernel_rfl) (by kernel_rfl) ?_ (Or.inl ⟨?_, ?_⟩) (by assumption) ?_
          rotate_left 2
          · (simp only [List.getElem?_toArray, List.getElem?_cons_succ, List.getElem?_cons_zero]; rfl)
          · first | exact fun _ _ _ h => h | exact fun _ _ _ h => by cases h.1
          · rfl
          · ((intro wq hSq; (try dsimp only at hSq); go_simp); (try with_reducible rfl))
          try simp only [Act.put, List.setIfInBounds_toArray, List.set_cons_zero, List.set_cons_succ]
          obtain ⟨ee, hz⟩ := hHeld.2
          obtain ⟨b0, b1, b2, b3, b4⟩ := hz.cells
          have f0 := hz.frozen 0
          have f1 := hz.frozen 1
          have f2 := hz.frozen 2
          have f3 := hz.frozen 3
          have f4 := hz.frozen 4
          refine wpAnyH_ready (rs := [18]) (by kernel_rfl) (by simp) ?_
          refine AllReadyH.cons (o := ?_) ?_ (fun K hK => ?_) AllReadyH.nil
          rotate_left
          · (simp only [List.getElem?_toArray, List.getElem?_cons_succ, List.getElem?_cons_zero]; rfl)
          go_simp
          have hSx := RrSt2.set (w2 := w3) (n := pb) (t := ⟨x0.toArray⟩) (k := ⟨x2.toArray⟩) (a := ⟨x3.toArray⟩) (b := ⟨x4.toArray⟩) (nb := nb) hHeld hsz hz hn3 ⟨digNV x0, 0, digNV x2, digNV x3, digNV x4⟩
          have hzz := hz.set5 ⟨digNV x0, 0, digNV x2, digNV x3, digNV x4⟩
          have hBB := hSx.1.1
          refine hK.out _ _ hSx (fun hHeld => ?_)
          clear hK K
          try simp only [Act.put, List.setIfInBounds_toArray, List.set_cons_zero, List.set_cons_succ]
          refine wpAnyH_done (by kernel_rfl) ?_ _
          exact ⟨rfl, nb, rfl, hsz, hzz, hBB⟩
    rintro nb w4 ⟨hnb, hz, hb4⟩
    dsimp only
    clear hSd
    have p2 := (hb4.cell (p := ⟨pb, 2, none⟩) (cell_lt q2)).trans q2
    have p1 := (hb4.cell (p := ⟨pb, 1, none⟩) (cell_lt q1)).trans q1
    have hbox4 := hbox3.below hb4 hnn
    have hB4 := hB3.trans (hb4.mono (by have := hB3.size; rw [hn] at this; exact this))
    have hnz : pb ≠ nb ∧ n ≠ nb ∧ n ≤ nb := ⟨by omega, by omega, by omega⟩
    clear hb4 hB3 hbox3 q0 q1 q2 q3 q4 hnb hn3 hnn
    obtain ⟨c0, c1, c2, c3, c4⟩ := hz.cells
    have cf := hz.frozen 2
    by_cases hx2 : x2 = [45]
    · have t2 : (x2 == [45]) = true := by rw [hx2]; rfl
      have HC' := Lib.hid (show candR [x0, x1, x2, x3, x4] = ⟨digNV x0, kindR x1 10, -1, digNV x3, digNV x4⟩ by rw [HC.out, if_pos hx2])
      clear hx2 HC
      go_wp2_with fail
      have hz' : EvBox (w4.setCell ⟨nb, 2, none⟩ (.int .i64 (-1))) nb ⟨digNV x0, 0, -1, digNV x3, digNV x4⟩ := hz.setP (-1)
      have hB5 := below_set hB4 nb 2 hnz.2.2 (.int .i64 (-1))
      have hbox5 := box_set1 hbox4 nb 2 (.int .i64 (-1)) hnz.2.1
      have p15 := (cell_set1 w4 nb 2 (.int .i64 (-1)) pb 1 hnz.1).trans p1
      clear hz hB4 hbox4 p1 p2 c0 c1 c2 c3 c4 cf
      revert hz' hB5 hbox5 p15
      generalize w4.setCell ⟨nb, 2, none⟩ (.int .i64 (-1)) = w4
      intro hz hB4 hbox4 p1
      refine (rwords_cells _).mono ?_
      rintro e w6 ⟨bw, rfl, hwc, hb6⟩
      have hz6 := hz.kept hb6
      have hbox6 := hbox4.kept hb6
      have hB6 := hB4.trans (hb6.mono (by have := hB4.size; rw [hn] at this; exact this))
      have p16 := (hb6.cell (p := ⟨pb, 1, none⟩) (cell_lt p1)).trans p1
      have hbwn : bw ≠ nb := fun e => by
        subst e
        have h1 := (hz6.cells).1
        have h2 := hwc 0 _ rfl
        rw [h1] at h2
        cases h2
      have HWC := Lib.hid hwc
      have e00 : (⟨digNV x0, 0, -1, digNV x3, digNV x4⟩ : Ev) = ⟨digNV x0, kindR x1 0, -1, digNV x3, digNV x4⟩ := rfl
      rw [e00] at hz6
      clear hwc hb6 hz hbox4 hB4 p1 e00
      go_wp2_with fail
      go_loopw [6, 7, 38] (fun _ _ j wr => ∃ k : Nat, k ≤ 10 ∧ j = .int .i64 k ∧ EvBox wr nb ⟨digNV x0, kindR x1 k, -1, digNV x3, digNV x4⟩ ∧ EvBox wr n Ev.zero ∧ wr.cell? ⟨pb, 1, none⟩ = some (.string ⟨x1.toArray⟩) ∧ (∀ (j : Nat) x, wordsB[j]? = some x → wr.cell? ⟨bw, j, none⟩ = some (.string x)) ∧ Below n w wr) (fun _ _ j _ => 10 - (intOf j).toNat)
      case atStart => exact ⟨0, Nat.zero_le _, rfl, hz6, hbox6, p16, HWC.out, hB6⟩
      case round =>
        obtain ⟨k, hk, rfl, hzr, hboxr, p1r, hwr, hBr⟩ := hrel
        by_cases hlt : k < 10
        · obtain ⟨wk, hwk⟩ := get_some (show k < words.length from hlt)
          have hcw := hwr k ⟨wk.toArray⟩ (by unfold wordsB; rw [List.getElem?_map, hwk]; rfl)
          have hks := Lib.hid (kindR_succ x1 wk k hwk)
          have hki : (k : Int) < 10 := by omega
          have hk0 : (0 : Int) ≤ (k : Int) := by omega
          obtain ⟨c0, c1, c2, c3, c4⟩ := hzr.cells
          have cf := hzr.frozen 1
          have HWR := Lib.hid hwr
          clear hwr hwk
          by_cases hwx : wk = x1
          · have t3 : (wk == x1) = true := by rw [hwx]; exact beq_self_eq_true _
            have hwx' := Lib.hid hwx
            clear hwx
            go_wp2_with fail
            go_roundw
            case rel => exact ⟨k + 1, by omega, by go_num, by rw [hks.out, if_pos hwx'.out]; exact hzr.setK k, box_set1 hboxr nb 1 _ hnz.2.1, (cell_set1 _ nb 1 _ pb 1 hnz.1).trans p1r, fun j x hx => (cell_set1 _ nb 1 _ bw j hbwn).trans (HWR.out j x hx), below_set hBr nb 1 hnz.2.2 _⟩
            case measure => simp [intOf]; omega
          · have t3 : (wk == x1) = false := by rw [beq_eq_false_iff_ne]; exact hwx
            have hwx' := Lib.hid hwx
            clear hwx
            go_wp2_with fail
            go_roundw
            case rel => exact ⟨k + 1, by omega, by go_num, by rw [hks.out, if_neg hwx'.out]; exact hzr, hboxr, p1r, HWR.out, hBr⟩
            case measure => simp [intOf]; omega
        · have hk10 : k = 10 := by omega
          subst hk10
          clear hwr HWC
          obtain ⟨c0, c1, c2, c3, c4⟩ := hzr.cells
          rcases hok : evB ⟨digNV x0, kindR x1 10, -1, digNV x3, digNV x4⟩ with _ | _
          · have hrr := rright_any ⟨digNV x0, kindR x1 10, -1, digNV x3, digNV x4⟩ wr
            rw [hok] at hrr
            have hno := Lib.hid (rread_no (s := l) (by rw [hq'.out, HC'.out]; rintro ⟨_, h, _⟩; rw [hok] at h; cases h))
            have hrr' := Lib.hid hrr
            clear hrr hok
            have df0 := hboxr.frozen 0
            have df1 := hboxr.frozen 1
            have df2 := hboxr.frozen 2
            have df3 := hboxr.frozen 3
            have df4 := hboxr.frozen 4
            obtain ⟨d0, d1, d2, d3, d4⟩ := hboxr.cells
            go_wp2_with fail
            refine hrr'.out.mono ?_
            rintro e w7 ⟨rfl, hb7⟩
            have hbox7 := hboxr.kept hb7
            have hB7 := hBr.trans (hb7.mono (by have := hBr.size; rw [hn] at this; exact this))
            obtain ⟨d0, d1, d2, d3, d4⟩ := hbox7.cells
            have df0 := hbox7.frozen 0
            have df1 := hbox7.frozen 1
            have df2 := hbox7.frozen 2
            have df3 := hbox7.frozen 3
            have df4 := hbox7.frozen 4
            go_wp2_with fail
            refine bodyPost_ret (res_rread _ _ rfl rfl (hbox7.set5 Ev.zero)) rfl ?_
            exact ⟨by rw [hno.out.1, hno.out.2], by rw [hn]; exact below_set5 hB7 n (Nat.le_refl _) _ _ _ _ _⟩
          · have hrr := rright_any ⟨digNV x0, kindR x1 10, -1, digNV x3, digNV x4⟩ wr
            rw [hok] at hrr
            have hrr' := Lib.hid hrr
            have hln := fun W => rline_any ⟨digNV x0, kindR x1 10, -1, digNV x3, digNV x4⟩ W (evB_iff.1 hok)
            obtain ⟨LS, hLS⟩ : ∃ x, evLineS ⟨digNV x0, kindR x1 10, -1, digNV x3, digNV x4⟩ = x := ⟨_, rfl⟩
            rw [hLS] at hln
            have hln' := Lib.hid hln
            clear hrr hln
            go_wp2_with fail
            refine hrr'.out.mono ?_
            rintro e w7 ⟨rfl, hb7⟩
            have hbox7 := hboxr.kept hb7
            have hz7 := hzr.kept hb7
            have hB7 := hBr.trans (hb7.mono (by have := hBr.size; rw [hn] at this; exact this))
            clear c0 c1 c2 c3 c4
            obtain ⟨c0, c1, c2, c3, c4⟩ := hz7.cells
            by_cases hls : evLine ⟨digNV x0, kindR x1 10, -1, digNV x3, digNV x4⟩ = l
            · have hst : (LS.toList == s.toList) = true := by rw [← hLS, ByteArray.toList_eq, ByteArray.toList_eq, hl'.out]; simp [evLineS, hls]
              have hyes := rread_yes (s := l) (by rw [hq'.out, HC'.out]; exact ⟨rfl, hok, hls⟩)
              rw [hq'.out, HC'.out] at hyes
              have hyes' := Lib.hid hyes
              clear hyes hok hls hLS
              go_wp2_with fail
              refine (hln'.out _).mono ?_
              rintro e w8 ⟨rfl, hb8⟩
              have hbox8 := hbox7.kept hb8
              have hz8 := hz7.kept hb8
              have hB8 := hB7.trans (hb8.mono (by have := hB7.size; rw [hn] at this; exact this))
              clear c0 c1 c2 c3 c4
              obtain ⟨c0, c1, c2, c3, c4⟩ := hz8.cells
              obtain ⟨d0, d1, d2, d3, d4⟩ := hbox8.cells
              have df0 := hbox8.frozen 0
              have df1 := hbox8.frozen 1
              have df2 := hbox8.frozen 2
              have df3 := hbox8.frozen 3
              have df4 := hbox8.frozen 4
              go_wp2_with fail
              refine bodyPost_ret (res_rread _ _ rfl rfl (hbox8.set5 ⟨digNV x0, kindR x1 10, -1, digNV x3, digNV x4⟩)) rfl ?_
              exact ⟨by rw [hyes'.out.1, hyes'.out.2], by rw [hn]; exact below_set5 hB8 n (Nat.le_refl _) _ _ _ _ _⟩
            · have hst : (LS.toList == s.toList) = false := by
                rw [beq_eq_false_iff_ne, ← hLS, ByteArray.toList_eq, ByteArray.toList_eq, hl'.out]
                simpa [evLineS] using hls
              have hno := Lib.hid (rread_no (s := l) (by rw [hq'.out, HC'.out]; rintro ⟨_, _, h⟩; exact hls h))
              clear hok hls hLS
              go_wp2_with fail
              refine (hln'.out _).mono ?_
              rintro e w8 ⟨rfl, hb8⟩
              have hbox8 := hbox7.kept hb8
              have hB8 := hB7.trans (hb8.mono (by have := hB7.size; rw [hn] at this; exact this))
              obtain ⟨d0, d1, d2, d3, d4⟩ := hbox8.cells
              have df0 := hbox8.frozen 0
              have df1 := hbox8.frozen 1
              have df2 := hbox8.frozen 2
              have df3 := hbox8.frozen 3
              have df4 := hbox8.frozen 4
              go_wp2_with fail
              refine bodyPost_ret (res_rread _ _ rfl rfl (hbox8.set5 Ev.zero)) rfl ?_
              exact ⟨by rw [hno.out.1, hno.out.2], by rw [hn]; exact below_set5 hB8 n (Nat.le_refl _) _ _ _ _ _⟩
    · have t2 : (x2 == [45]) = false := by rw [beq_eq_false_iff_ne]; exact hx2
      have HC' := Lib.hid (show candR [x0, x1, x2, x3, x4] = ⟨digNV x0, kindR x1 10, digNV x2, digNV x3, digNV x4⟩ by rw [HC.out, if_neg hx2])
      clear hx2 HC
      go_wp2_with fail
      clear p2 c0 c1 c2 c3 c4 cf
      refine (rwords_cells _).mono ?_
      rintro e w6 ⟨bw, rfl, hwc, hb6⟩
      have hz6 := hz.kept hb6
      have hbox6 := hbox4.kept hb6
      have hB6 := hB4.trans (hb6.mono (by have := hB4.size; rw [hn] at this; exact this))
      have p16 := (hb6.cell (p := ⟨pb, 1, none⟩) (cell_lt p1)).trans p1
      have hbwn : bw ≠ nb := fun e => by
        subst e
        have h1 := (hz6.cells).1
        have h2 := hwc 0 _ rfl
        rw [h1] at h2
        cases h2
      have HWC := Lib.hid hwc
      have e00 : (⟨digNV x0, 0, digNV x2, digNV x3, digNV x4⟩ : Ev) = ⟨digNV x0, kindR x1 0, digNV x2, digNV x3, digNV x4⟩ := rfl
      rw [e00] at hz6
      clear hwc hb6 hz hbox4 hB4 p1 e00
      go_wp2_with fail
      go_loopw [6, 7, 38] (fun _ _ j wr => ∃ k : Nat, k ≤ 10 ∧ j = .int .i64 k ∧ EvBox wr nb ⟨digNV x0, kindR x1 k, digNV x2, digNV x3, digNV x4⟩ ∧ EvBox wr n Ev.zero ∧ wr.cell? ⟨pb, 1, none⟩ = some (.string ⟨x1.toArray⟩) ∧ (∀ (j : Nat) x, wordsB[j]? = some x → wr.cell? ⟨bw, j, none⟩ = some (.string x)) ∧ Below n w wr) (fun _ _ j _ => 10 - (intOf j).toNat)
      case atStart => exact ⟨0, Nat.zero_le _, rfl, hz6, hbox6, p16, HWC.out, hB6⟩
      case round =>
        obtain ⟨k, hk, rfl, hzr, hboxr, p1r, hwr, hBr⟩ := hrel
        by_cases hlt : k < 10
        · obtain ⟨wk, hwk⟩ := get_some (show k < words.length from hlt)
          have hcw := hwr k ⟨wk.toArray⟩ (by unfold wordsB; rw [List.getElem?_map, hwk]; rfl)
          have hks := Lib.hid (kindR_succ x1 wk k hwk)
          have hki : (k : Int) < 10 := by omega
          have hk0 : (0 : Int) ≤ (k : Int) := by omega
          obtain ⟨c0, c1, c2, c3, c4⟩ := hzr.cells
          have cf := hzr.frozen 1
          have HWR := Lib.hid hwr
          clear hwr hwk
          by_cases hwx : wk = x1
          · have t3 : (wk == x1) = true := by rw [hwx]; exact beq_self_eq_true _
            have hwx' := Lib.hid hwx
            clear hwx
            go_wp2_with fail
            go_roundw
            case rel => exact ⟨k + 1, by omega, by go_num, by rw [hks.out, if_pos hwx'.out]; exact hzr.setK k, box_set1 hboxr nb 1 _ hnz.2.1, (cell_set1 _ nb 1 _ pb 1 hnz.1).trans p1r, fun j x hx => (cell_set1 _ nb 1 _ bw j hbwn).trans (HWR.out j x hx), below_set hBr nb 1 hnz.2.2 _⟩
            case measure => simp [intOf]; omega
          · have t3 : (wk == x1) = false := by rw [beq_eq_false_iff_ne]; exact hwx
            have hwx' := Lib.hid hwx
            clear hwx
            go_wp2_with fail
            go_roundw
            case rel => exact ⟨k + 1, by omega, by go_num, by rw [hks.out, if_neg hwx'.out]; exact hzr, hboxr, p1r, HWR.out, hBr⟩
            case measure => simp [intOf]; omega
        · have hk10 : k = 10 := by omega
          subst hk10
          clear hwr HWC
          obtain ⟨c0, c1, c2, c3, c4⟩ := hzr.cells
          rcases hok : evB ⟨digNV x0, kindR x1 10, digNV x2, digNV x3, digNV x4⟩ with _ | _
          · have hrr := rright_any ⟨digNV x0, kindR x1 10, digNV x2, digNV x3, digNV x4⟩ wr
            rw [hok] at hrr
            have hno := Lib.hid (rread_no (s := l) (by rw [hq'.out, HC'.out]; rintro ⟨_, h, _⟩; rw [hok] at h; cases h))
            have hrr' := Lib.hid hrr
            clear hrr hok
            have df0 := hboxr.frozen 0
            have df1 := hboxr.frozen 1
            have df2 := hboxr.frozen 2
            have df3 := hboxr.frozen 3
            have df4 := hboxr.frozen 4
            obtain ⟨d0, d1, d2, d3, d4⟩ := hboxr.cells
            go_wp2_with fail
            refine hrr'.out.mono ?_
            rintro e w7 ⟨rfl, hb7⟩
            have hbox7 := hboxr.kept hb7
            have hB7 := hBr.trans (hb7.mono (by have := hBr.size; rw [hn] at this; exact this))
            obtain ⟨d0, d1, d2, d3, d4⟩ := hbox7.cells
            have df0 := hbox7.frozen 0
            have df1 := hbox7.frozen 1
            have df2 := hbox7.frozen 2
            have df3 := hbox7.frozen 3
            have df4 := hbox7.frozen 4
            go_wp2_with fail
            refine bodyPost_ret (res_rread _ _ rfl rfl (hbox7.set5 Ev.zero)) rfl ?_
            exact ⟨by rw [hno.out.1, hno.out.2], by rw [hn]; exact below_set5 hB7 n (Nat.le_refl _) _ _ _ _ _⟩
          · have hrr := rright_any ⟨digNV x0, kindR x1 10, digNV x2, digNV x3, digNV x4⟩ wr
            rw [hok] at hrr
            have hrr' := Lib.hid hrr
            have hln := fun W => rline_any ⟨digNV x0, kindR x1 10, digNV x2, digNV x3, digNV x4⟩ W (evB_iff.1 hok)
            obtain ⟨LS, hLS⟩ : ∃ x, evLineS ⟨digNV x0, kindR x1 10, digNV x2, digNV x3, digNV x4⟩ = x := ⟨_, rfl⟩
            rw [hLS] at hln
            have hln' := Lib.hid hln
            clear hrr hln
            go_wp2_with fail
            refine hrr'.out.mono ?_
            rintro e w7 ⟨rfl, hb7⟩
            have hbox7 := hboxr.kept hb7
            have hz7 := hzr.kept hb7
            have hB7 := hBr.trans (hb7.mono (by have := hBr.size; rw [hn] at this; exact this))
            clear c0 c1 c2 c3 c4
            obtain ⟨c0, c1, c2, c3, c4⟩ := hz7.cells
            by_cases hls : evLine ⟨digNV x0, kindR x1 10, digNV x2, digNV x3, digNV x4⟩ = l
            · have hst : (LS.toList == s.toList) = true := by rw [← hLS, ByteArray.toList_eq, ByteArray.toList_eq, hl'.out]; simp [evLineS, hls]
              have hyes := rread_yes (s := l) (by rw [hq'.out, HC'.out]; exact ⟨rfl, hok, hls⟩)
              rw [hq'.out, HC'.out] at hyes
              have hyes' := Lib.hid hyes
              clear hyes hok hls hLS
              go_wp2_with fail
              refine (hln'.out _).mono ?_
              rintro e w8 ⟨rfl, hb8⟩
              have hbox8 := hbox7.kept hb8
              have hz8 := hz7.kept hb8
              have hB8 := hB7.trans (hb8.mono (by have := hB7.size; rw [hn] at this; exact this))
              clear c0 c1 c2 c3 c4
              obtain ⟨c0, c1, c2, c3, c4⟩ := hz8.cells
              obtain ⟨d0, d1, d2, d3, d4⟩ := hbox8.cells
              have df0 := hbox8.frozen 0
              have df1 := hbox8.frozen 1
              have df2 := hbox8.frozen 2
              have df3 := hbox8.frozen 3
              have df4 := hbox8.frozen 4
              go_wp2_with fail
              refine bodyPost_ret (res_rread _ _ rfl rfl (hbox8.set5 ⟨digNV x0, kindR x1 10, digNV x2, digNV x3, digNV x4⟩)) rfl ?_
              exact ⟨by rw [hyes'.out.1, hyes'.out.2], by rw [hn]; exact below_set5 hB8 n (Nat.le_refl _) _ _ _ _ _⟩
            · have hst : (LS.toList == s.toList) = false := by
                rw [beq_eq_false_iff_ne, ← hLS, ByteArray.toList_eq, ByteArray.toList_eq, hl'.out]
                simpa [evLineS] using hls
              have hno := Lib.hid (rread_no (s := l) (by rw [hq'.out, HC'.out]; rintro ⟨_, _, h⟩; exact hls h))
              clear hok hls hLS
              go_wp2_with fail
              refine (hln'.out _).mono ?_
              rintro e w8 ⟨rfl, hb8⟩
              have hbox8 := hbox7.kept hb8
              have hB8 := hB7.trans (hb8.mono (by have := hB7.size; rw [hn] at this; exact this))
              obtain ⟨d0, d1, d2, d3, d4⟩ := hbox8.cells
              have df0 := hbox8.frozen 0
              have df1 := hbox8.frozen 1
              have df2 := hbox8.frozen 2
              have df3 := hbox8.frozen 3
              have df4 := hbox8.frozen 4
              go_wp2_with fail
              refine bodyPost_ret (res_rread _ _ rfl rfl (hbox8.set5 Ev.zero)) rfl ?_
              exact ⟨by rw [hno.out.1, hno.out.2], by rw [hn]; exact below_set5 hB8 n (Nat.le_refl _) _ _ _ _ _⟩
  · obtain ⟨e1, e2⟩ := rread_no (s := l) (fun h => h5 (by rw [← hq]; exact h.1))
    rw [e1, e2]
    have t1 : ((q.length : Int) != 5) = true := by simp; omega
    have hsp' := Lib.hid hsp
    clear hsp e1 e2 hq hl h5 hqs hlen
    go_enter Tryd.func14, Tryd.ntmps14
    go_wp2_with fail
    have hb0 := (Below.refl w.heap.size w).alloc (Nat.le_refl _) (.cells #[.int .i64 0, .int .i64 0, .int .i64 0, .int .i64 0, .int .i64 0] 23)
    refine (hsp'.out _).mono ?_
    rintro e w1 ⟨pb, cp, rfl, hc1, _, hb1⟩
    have hbox := (EvBox.new w Ev.zero).kept hb1
    have hB1 := hb0.trans (hb1.mono hb0.size)
    obtain ⟨n, hn⟩ : ∃ n, w.heap.size = n := ⟨_, rfl⟩
    rw [hn] at hbox hB1 ⊢
    obtain ⟨b0, b1, b2, b3, b4⟩ := hbox.cells
    have bf0 := hbox.frozen 0
    have bf1 := hbox.frozen 1
    have bf2 := hbox.frozen 2
    have bf3 := hbox.frozen 3
    have bf4 := hbox.frozen 4
    clear hb1 hb0
    go_wp2_with fail
    refine bodyPost_ret (res_rread _ _ rfl rfl (hbox.set5 Ev.zero)) rfl ?_
    exact ⟨rfl, by rw [hn]; exact below_set5 hB1 n (Nat.le_refl _) _ _ _ _ _⟩

end Go.Proofs.YtopclkkkchhgiaaDoor
