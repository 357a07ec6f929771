/- trace.Read: a line's event. -/
import Derived.Test.YtopclkkkchhgiaaDoorTrLine
import Derived.Test.YtopclkkkchhgiaaDoorTrNum
import Derived.Test.YtopclkkkchhgiaaDoorSplitC
import Derived.Test.YtopclkkkchhgiaaDoorEvBox
import Derived.Test.YtopclkkkchhgiaaDoorHeld
namespace Go.Proofs.YtopclkkkchhgiaaDoor
open Go.RowKit

def readX (s : List UInt8) : Ev := (readE s).getD Ev.zero
def readOk (s : List UInt8) : Bool := (readE s).isSome
theorem read_no {s : List UInt8} (h : ¬((pcs 32 s).length = 5 ∧ evB (candP (pcs 32 s)) = true ∧ evLine (candP (pcs 32 s)) = s)) : readX s = Ev.zero ∧ readOk s = false := by
  have : readE s = none := by unfold readE readBy; rw [if_neg h]
  unfold readX readOk
  rw [this]
  exact ⟨rfl, rfl⟩
theorem read_yes {s : List UInt8} (h : (pcs 32 s).length = 5 ∧ evB (candP (pcs 32 s)) = true ∧ evLine (candP (pcs 32 s)) = s) : readX s = candP (pcs 32 s) ∧ readOk s = true := by
  have : readE s = some (candP (pcs 32 s)) := by unfold readE readBy; rw [if_pos h]
  unfold readX readOk
  rw [this]
  exact ⟨rfl, rfl⟩

theorem res_tread (tmps : Array Value) (w : World) {b : Nat} {e : Ev} {x : Bool} (ha : tmps[2]?.getD undef = .pointer (some ⟨b, 0, none⟩)) (hx : tmps[3]?.getD undef = .bool x) (hbox : EvBox w b e) :
    (results Tryd.f13 tmps).run Tryd.prog w = .ok (.tuple #[evV e, .bool x]) w := by
  obtain ⟨h0, h1, h2, h3, h4⟩ := hbox.cells
  simp [results, ha, hx, h0, h1, h2, h3, h4, go_sem, evV]

theorem words_lit : wordsV.toArray = #[Value.string ⟨#[]⟩, .string ⟨#[114, 101, 108, 101, 97, 115, 101]⟩, .string ⟨#[114, 101, 102, 117, 115, 101]⟩, .string ⟨#[111, 118, 101, 114]⟩, .string ⟨#[109, 105, 115, 115]⟩, .string ⟨#[115, 116, 101, 112]⟩, .string ⟨#[105, 100, 108, 101]⟩, .string ⟨#[100, 111, 110, 101]⟩, .string ⟨#[99, 97, 108, 108]⟩, .string ⟨#[98, 97, 99, 107]⟩] := rfl
theorem words_new (W : World) : ∀ (j : Nat) z, wordsB[j]? = some z → (W.alloc (.cells #[Value.string ⟨#[]⟩, .string ⟨#[114, 101, 108, 101, 97, 115, 101]⟩, .string ⟨#[114, 101, 102, 117, 115, 101]⟩, .string ⟨#[111, 118, 101, 114]⟩, .string ⟨#[109, 105, 115, 115]⟩, .string ⟨#[115, 116, 101, 112]⟩, .string ⟨#[105, 100, 108, 101]⟩, .string ⟨#[100, 111, 110, 101]⟩, .string ⟨#[99, 97, 108, 108]⟩, .string ⟨#[98, 97, 99, 107]⟩] 57)).cell? ⟨W.heap.size, j, none⟩ = some (.string z) := by
  intro j z hz
  rw [← words_lit]
  have h1 := cells_new W wordsV.toArray 57 j
  rw [Addr.add_lit, Nat.zero_add] at h1
  rw [h1, List.getElem?_toArray]
  unfold wordsV
  rw [List.getElem?_map, hz]
  rfl
theorem pcs_mem (c : UInt8) (l : List UInt8) : ∀ x ∈ pcs c l, x.length ≤ l.length := by
  induction l with
  | nil => intro x hx; simp [pcs] at hx; simp [hx]
  | cons a l ih =>
    intro x hx
    have hh : ((pcs c l).headD []).length ≤ l.length := by
      cases h : pcs c l with
      | nil => simp
      | cons y r => exact ih y (by rw [h]; simp)
    unfold pcs at hx
    split at hx
    · rcases List.mem_cons.1 hx with rfl | hx
      · simp
      · have := ih x hx
        rw [List.length_cons]; omega
    · rcases List.mem_cons.1 hx with rfl | hx
      · simp only [List.length_cons]; omega
      · have := ih x (List.mem_of_mem_tail hx)
        rw [List.length_cons]; omega

theorem numA (x : List UInt8) (W : World) (h : x.length ≤ 3000) : Calls Tryd.prog 37 #[.string ⟨x.toArray⟩] W fun e w' => e = .returned (.int .i64 (numTV x)) ∧ Below W.heap.size W w' :=
  number_any ⟨x.toArray⟩ W (by simp [ByteArray.size]; omega)
/-- What the region of trace.Read keeps. -/
def RdSt (w2 : World) (n : Nat) (x0 x1 x3 x4 : ByteArray) (w' : World) : Prop :=
  Below w2.heap.size w2 w' ∧ w'.cell? ⟨n, 0, none⟩ = some (.string x0) ∧ w'.cell? ⟨n, 1, none⟩ = some (.string x1) ∧ w'.cell? ⟨n, 3, none⟩ = some (.string x3) ∧ w'.cell? ⟨n, 4, none⟩ = some (.string x4)
theorem RdSt.below {w2 w w' : World} {n : Nat} {t k a b : ByteArray} (h : RdSt w2 n t k a b w) (hb : Below w.heap.size w w') : RdSt w2 n t k a b w' := by
  obtain ⟨h1, h3, h4, h5, h6⟩ := h
  refine ⟨h1.trans (hb.mono h1.size), ?_, ?_, ?_, ?_⟩
  · exact (hb.cell (p := ⟨n, 0, none⟩) (cell_lt h3)).trans h3
  · exact (hb.cell (p := ⟨n, 1, none⟩) (cell_lt h4)).trans h4
  · exact (hb.cell (p := ⟨n, 3, none⟩) (cell_lt h5)).trans h5
  · exact (hb.cell (p := ⟨n, 4, none⟩) (cell_lt h6)).trans h6
theorem RdSt.drew {w2 w : World} {n : Nat} {t k a b : ByteArray} (h : RdSt w2 n t k a b w) : RdSt w2 n t k a b w.drew := h.below (Below.refl _ w).drew
theorem RdSt.alloc {w2 w : World} {n : Nat} {t k a b : ByteArray} (h : RdSt w2 n t k a b w) (o : Obj) : RdSt w2 n t k a b (w.alloc o) := h.below ((Below.refl _ w).alloc (Nat.le_refl _) o)
theorem RdSt.same {w2 w w' : World} {n : Nat} {t k a b : ByteArray} (h : RdSt w2 n t k a b w) (e : w' = w) : RdSt w2 n t k a b w' := e ▸ h
theorem RdSt.words {w2 w : World} {n bw : Nat} {t k a b : ByteArray} (h : RdSt w2 n t k a b w) (hw : ∀ (j : Nat) z, wordsB[j]? = some z → w2.cell? ⟨bw, j, none⟩ = some (.string z)) : ∀ (j : Nat) z, wordsB[j]? = some z → w.cell? ⟨bw, j, none⟩ = some (.string z) :=
  fun j z hz => (h.1.cell (p := ⟨bw, j, none⟩) (cell_lt (hw j z hz))).trans (hw j z hz)

theorem grownBy_setCell2 (W : World) (b j : Nat) (v : Value) (n : Nat) (h : n ≠ b) : (W.setCell ⟨b, j, none⟩ v).heap[n]? = W.heap[n]? := by
  show (W.heap.modify b _)[n]? = _
  rw [Array.getElem?_modify, if_neg (fun e => h e.symm)]
def RdSt2 (w2 : World) (n : Nat) (x0 x1 x3 x4 : ByteArray) (nb : Nat) (w' : World) : Prop := RdSt w2 n x0 x1 x3 x4 w' ∧ ∃ e, EvBox w' nb e
theorem RdSt2.below {w2 w w' : World} {n nb : Nat} {t k a b : ByteArray} (h : RdSt2 w2 n t k a b nb w) (hb : Below w.heap.size w w') : RdSt2 w2 n t k a b nb w' :=
  ⟨h.1.below hb, h.2.elim fun e he => ⟨e, he.kept hb⟩⟩
theorem cell_set5 (w : World) (B : Nat) (v0 v1 v2 v3 v4 : Value) (m j : Nat) (h : m ≠ B) : (((((w.setCell ⟨B, 0, none⟩ v0).setCell ⟨B, 1, none⟩ v1).setCell ⟨B, 2, none⟩ v2).setCell ⟨B, 3, none⟩ v3).setCell ⟨B, 4, none⟩ v4).cell? ⟨m, j, none⟩ = w.cell? ⟨m, j, none⟩ := by
  have hk : ∀ (W : World) (i : Nat) (v : Value), (W.setCell ⟨B, i, none⟩ v).cell? ⟨m, j, none⟩ = W.cell? ⟨m, j, none⟩ := fun W i v => World.cell?_setCell_far W ⟨B, i, none⟩ ⟨m, j, none⟩ v (fun e => h e.symm)
  rw [hk, hk, hk, hk, hk]
theorem RdSt2.set {w2 w : World} {n nb : Nat} {t k a b : ByteArray} (h : RdSt2 w2 n t k a b nb w) (hn : w2.heap.size ≤ nb) {e : Ev} (hz : EvBox w nb e) (hn2 : n < w2.heap.size) (e' : Ev) :
    RdSt2 w2 n t k a b nb (((((w.setCell ⟨nb, 0, none⟩ (.int .i64 e'.t)).setCell ⟨nb, 1, none⟩ (.int .i64 e'.k)).setCell ⟨nb, 2, none⟩ (.int .i64 e'.p)).setCell ⟨nb, 3, none⟩ (.int .i64 e'.a)).setCell ⟨nb, 4, none⟩ (.int .i64 e'.b)) := by
  obtain ⟨⟨h1, h3, h4, h5, h6⟩, _⟩ := h
  have hne : n ≠ nb := by omega
  refine ⟨⟨below_set5 h1 nb hn _ _ _ _ _, ?_, ?_, ?_, ?_⟩, e', hz.set5 e'⟩ <;> rw [cell_set5 _ _ _ _ _ _ _ _ _ hne] <;> assumption

set_option maxRecDepth 100000 in
set_option maxHeartbeats 4000000 in
theorem tread_any (s : ByteArray) (w : World) (hs : s.size ≤ 3000) (hT : Tab w) (hM : Mx w) :
    Calls Tryd.prog 13 #[.string s] w fun e w' => e = .returned (.tuple #[evV (readX s.data.toList), .bool (readOk s.data.toList)]) ∧ Below w.heap.size w w' := by
  obtain ⟨l, hl⟩ : ∃ l, s.data.toList = l := ⟨_, rfl⟩
  have hlen : l.length = s.size := by rw [← hl]; exact Array.length_toList
  obtain ⟨q, hq⟩ : ∃ q, pcs 32 l = q := ⟨_, rfl⟩
  have hsp := fun W hM => split_any s 32 W hM (by omega)
  have hqs : ∀ x ∈ q, x.length ≤ 3000 := fun x hx => by
    have := pcs_mem 32 l x (by rw [hq]; exact hx)
    omega
  rw [hl] at hsp ⊢
  rw [hq] at hsp
  by_cases h5 : q.length = 5
  · obtain ⟨x0, x1, x2, x3, x4, rfl⟩ : ∃ x0 x1 x2 x3 x4, q = [x0, x1, x2, x3, x4] := by
      match q, h5 with
      | [a, b, c, d, e], _ => exact ⟨a, b, c, d, e, rfl⟩
    have y0 := hqs x0 (by simp)
    have y1 := hqs x1 (by simp)
    have y2 := hqs x2 (by simp)
    have y3 := hqs x3 (by simp)
    have y4 := hqs x4 (by simp)
    have hc0 : candP [x0, x1, x2, x3, x4] = ⟨numTV x0, kindP x1, if x2 = [45] then -1 else numTV x2, numTV x3, numTV x4⟩ := rfl
    have hpw := fun W => pwords_any W
    simp only [words_lit] at hpw
    have hT0 := Lib.hid hT
    have hl' := Lib.hid hl
    have hq' := Lib.hid hq
    have hsp' := Lib.hid hsp
    have HC := Lib.hid hc0
    have PW := Lib.hid hpw
    clear hsp hq hl hc0 hpw hqs h5 hlen
    go_enter Tryd.func13, Tryd.ntmps13
    go_wp2_with fail
    have hb0 := (Below.refl w.heap.size w).alloc (Nat.le_refl _) (.cells #[.int .i64 0, .int .i64 0, .int .i64 0, .int .i64 0, .int .i64 0] 23)
    refine (hsp'.out _ (hM.below hb0)).mono ?_
    rintro e w1 ⟨rfl, hc1, hb1⟩
    have hbox := (EvBox.new w Ev.zero).kept hb1
    have hB1 := hb0.trans (hb1.mono hb0.size)
    have p0 := hc1 0 x0 rfl
    have p1 := hc1 1 x1 rfl
    have p2 := hc1 2 x2 rfl
    have p3 := hc1 3 x3 rfl
    have p4 := hc1 4 x4 rfl
    obtain ⟨n, hn⟩ : ∃ n, w.heap.size = n := ⟨_, rfl⟩
    rw [World.size_alloc, hn] at p0 p1 p2 p3 p4
    rw [hn] at hbox hB1 ⊢
    have hTM : Tab w1 ∧ Mx w1 := ⟨hT.below (by rw [hn]; exact hB1), hM.below (by rw [hn]; exact hB1)⟩
    clear hb1 hb0 hc1 hT hM
    go_wp2_with (go_at_call 35; refine (PW.out _).mono ?_; rintro e w2 ⟨rfl, hb2⟩)
    have hwd := words_new w2
    have hb3 := hb2.trans ((Below.refl w2.heap.size w2).alloc (Nat.le_refl _) (.cells #[Value.string ⟨#[]⟩, .string ⟨#[114, 101, 108, 101, 97, 115, 101]⟩, .string ⟨#[114, 101, 102, 117, 115, 101]⟩, .string ⟨#[111, 118, 101, 114]⟩, .string ⟨#[109, 105, 115, 115]⟩, .string ⟨#[115, 116, 101, 112]⟩, .string ⟨#[105, 100, 108, 101]⟩, .string ⟨#[100, 111, 110, 101]⟩, .string ⟨#[99, 97, 108, 108]⟩, .string ⟨#[98, 97, 99, 107]⟩] 57) |>.mono hb2.size)
    obtain ⟨w3, hw3⟩ : ∃ x, w2.alloc (.cells #[Value.string ⟨#[]⟩, .string ⟨#[114, 101, 108, 101, 97, 115, 101]⟩, .string ⟨#[114, 101, 102, 117, 115, 101]⟩, .string ⟨#[111, 118, 101, 114]⟩, .string ⟨#[109, 105, 115, 115]⟩, .string ⟨#[115, 116, 101, 112]⟩, .string ⟨#[105, 100, 108, 101]⟩, .string ⟨#[100, 111, 110, 101]⟩, .string ⟨#[99, 97, 108, 108]⟩, .string ⟨#[98, 97, 99, 107]⟩] 57) = x := ⟨_, rfl⟩
    obtain ⟨bw, hbw⟩ : ∃ x, w2.heap.size = x := ⟨_, rfl⟩
    rw [hw3] at hwd hb3 ⊢
    rw [hbw] at hwd ⊢
    clear hb2 hw3 hbw w2
    have hbox3 := hbox.kept hb3
    have hB3 := hB1.trans (hb3.mono (by have := hB1.size; rw [hn] at this; exact this))
    have hTM3 : Tab w3 ∧ Mx w3 := ⟨hTM.1.below hb3, hTM.2.below hb3⟩
    have q0 := (hb3.cell (p := ⟨n + 1, 0, none⟩) (cell_lt p0)).trans p0
    have q1 := (hb3.cell (p := ⟨n + 1, 1, none⟩) (cell_lt p1)).trans p1
    have q2 := (hb3.cell (p := ⟨n + 1, 2, none⟩) (cell_lt p2)).trans p2
    have q3 := (hb3.cell (p := ⟨n + 1, 3, none⟩) (cell_lt p3)).trans p3
    have q4 := (hb3.cell (p := ⟨n + 1, 4, none⟩) (cell_lt p4)).trans p4
    clear hb3 hB1 hbox hTM p0 p1 p2 p3 p4
    have hSd : RdSt w3 (n + 1) ⟨x0.toArray⟩ ⟨x1.toArray⟩ ⟨x3.toArray⟩ ⟨x4.toArray⟩ w3.drew := RdSt.drew ⟨Below.refl _ _, q0, q1, q3, q4⟩
    have hn3 : n + 1 < w3.heap.size := cell_lt q0
    have HWD := Lib.hid hwd
    clear hwd
    refine region_to (fun nb => { tmps := #[.string s, undef, .pointer (some ⟨n, 0, none⟩), .bool false, .slice (some ⟨n + 1, 0, none⟩) 5 5, .pointer (some ⟨bw, 0, none⟩), .pointer (some ⟨nb, 0, none⟩), undef, undef, .string s, .slice (some ⟨n + 1, 0, none⟩) 5 5, .slice (some ⟨n + 1, 0, none⟩) 5 5, .int .i64 5, .bool false, undef, .agg #[.string ⟨#[]⟩, .string ⟨#[114, 101, 108, 101, 97, 115, 101]⟩, .string ⟨#[114, 101, 102, 117, 115, 101]⟩, .string ⟨#[111, 118, 101, 114]⟩, .string ⟨#[109, 105, 115, 115]⟩, .string ⟨#[115, 116, 101, 112]⟩, .string ⟨#[105, 100, 108, 101]⟩, .string ⟨#[100, 111, 110, 101]⟩, .string ⟨#[99, 97, 108, 108]⟩, .string ⟨#[98, 97, 99, 107]⟩], .slice (some ⟨n + 1, 0, none⟩) 5 5, .pointer (some ⟨n + 1, 0, none⟩), .string ⟨x0.toArray⟩, .int .i64 (numTV x0), .slice (some ⟨bw, 0, none⟩) 10 10, .slice (some ⟨n + 1, 0, none⟩) 5 5, .pointer (some ⟨n + 1, 1, none⟩), .string ⟨x1.toArray⟩, .int .i64 (Lib.idxOfS wordsB ⟨x1.toArray⟩), .slice (some ⟨n + 1, 0, none⟩) 5 5, .pointer (some ⟨n + 1, 3, none⟩), .string ⟨x3.toArray⟩, .int .i64 (numTV x3), .slice (some ⟨n + 1, 0, none⟩) 5 5, .pointer (some ⟨n + 1, 4, none⟩), .string ⟨x4.toArray⟩, .int .i64 (numTV x4), .agg #[.int .i64 (numTV x0), .int .i64 (Lib.idxOfS wordsB ⟨x1.toArray⟩), .int .i64 (-1), .int .i64 (numTV x3), .int .i64 (numTV x4)], undef, undef, undef, undef, undef, undef, undef, undef, undef, undef, undef, undef, undef, undef, undef, undef, undef, undef, undef, undef, undef, undef, undef], defers := [] }) (fun nb w => w3.heap.size ≤ nb ∧ EvBox w nb ⟨numTV x0, Lib.idxOfS wordsB ⟨x1.toArray⟩, -1, numTV x3, numTV x4⟩ ∧ Below w3.heap.size w3 w) ?reg ?cont
    case reg =>
      refine wp_region_held_drew (S := fun w' => Below w3.heap.size w3 w' ∧ w'.cell? ⟨n + 1, 0, none⟩ = some (.string ⟨x0.toArray⟩) ∧ w'.cell? ⟨n + 1, 1, none⟩ = some (.string ⟨x1.toArray⟩) ∧ w'.cell? ⟨n + 1, 3, none⟩ = some (.string ⟨x3.toArray⟩) ∧ w'.cell? ⟨n + 1, 4, none⟩ = some (.string ⟨x4.toArray⟩)) (by kernel_rfl) hSd (fun hHeld => ?_)
      generalize w3.drew = wd at hHeld ⊢
      refine wpAnyH_take (i := 0) (oi := ?_) (v := ?_) ?_ (by kernel_rfl) (by kernel_rfl) (by kernel_rfl) ?_ (Or.inl ⟨?_, ?_⟩) (by assumption) ?_
      rotate_left 2
      · (simp only [List.getElem?_toArray, List.getElem?_cons_zero]; rfl)
      · first | exact fun _ _ _ h => h | exact fun _ _ _ h => by cases h.1
      · rfl
      · ((intro wq hSq; (try dsimp only at hSq); go_simp); (try with_reducible rfl))
      try simp only [Act.put, List.setIfInBounds_toArray, List.set_cons_zero, List.set_cons_succ]
      refine wpAnyH_take (i := 1) (oi := ?_) (v := ?_) ?_ (by kernel_rfl) (by kernel_rfl) (by kernel_rfl) ?_ (Or.inl ⟨?_, ?_⟩) (by assumption) ?_
      rotate_left 2
      · (simp only [List.getElem?_toArray, List.getElem?_cons_succ, List.getElem?_cons_zero]; rfl)
      · first | exact fun _ _ _ h => h | exact fun _ _ _ h => by cases h.1
      · rfl
      · ((intro wq hSq; (try dsimp only at hSq); go_simp); (try with_reducible rfl))
      try simp only [Act.put, List.setIfInBounds_toArray, List.set_cons_zero, List.set_cons_succ]
      refine wpAnyH_take (i := 2) (oi := ?_) (v := ?_) ?_ (by kernel_rfl) (by kernel_rfl) (by kernel_rfl) ?_ (Or.inl ⟨?_, ?_⟩) (by assumption) ?_
      rotate_left 2
      · (simp only [List.getElem?_toArray, List.getElem?_cons_succ, List.getElem?_cons_zero]; rfl)
      · first | exact fun _ _ _ h => h | exact fun _ _ _ h => by cases h.1
      · rfl
      · ((intro wq hSq; (try dsimp only at hSq); go_simp); (try with_reducible rfl))
      try simp only [Act.put, List.setIfInBounds_toArray, List.set_cons_zero, List.set_cons_succ]
      refine wpAnyH_take (i := 4) (oi := ?_) (v := ?_) ?_ (by kernel_rfl) (by kernel_rfl) (by kernel_rfl) ?_ (Or.inl ⟨?_, ?_⟩) (by assumption) ?_
      rotate_left 2
      · (simp only [List.getElem?_toArray, List.getElem?_cons_succ, List.getElem?_cons_zero]; rfl)
      · first | exact fun _ _ _ h => h | exact fun _ _ _ h => by cases h.1
      · rfl
      · ((intro wq hSq; (try dsimp only at hSq); go_simp); (try with_reducible rfl))
      try simp only [Act.put, List.setIfInBounds_toArray, List.set_cons_zero, List.set_cons_succ]
      refine wpAnyH_take (i := 5) (oi := ?_) (v := ?_) ?_ (by kernel_rfl) (by kernel_rfl) (by kernel_rfl) ?_ (Or.inl ⟨?_, ?_⟩) (by assumption) ?_
      rotate_left 2
      · (simp only [List.getElem?_toArray, List.getElem?_cons_succ, List.getElem?_cons_zero]; rfl)
      · first | exact fun _ _ _ h => h | exact fun _ _ _ h => by cases h.1
      · rfl
      · ((intro wq hSq; (try dsimp only at hSq); go_simp); (try with_reducible rfl))
      try simp only [Act.put, List.setIfInBounds_toArray, List.set_cons_zero, List.set_cons_succ]
      refine wpAnyH_take (i := 6) (oi := ?_) (v := ?_) ?_ (by kernel_rfl) (by kernel_rfl) (by kernel_rfl) ?_ (Or.inl ⟨?_, ?_⟩) (by assumption) ?_
      rotate_left 2
      · (simp only [List.getElem?_toArray, List.getElem?_cons_succ, List.getElem?_cons_zero]; rfl)
      · first | exact fun _ _ _ h => h | exact fun _ _ _ h => by cases h.1
      · rfl
      · ((intro wq hSq; (try dsimp only at hSq); go_simp); (try with_reducible rfl))
      try simp only [Act.put, List.setIfInBounds_toArray, List.set_cons_zero, List.set_cons_succ]
      refine wpAnyH_take (i := 7) (oi := ?_) (v := ?_) ?_ (by kernel_rfl) (by kernel_rfl) (by kernel_rfl) ?_ (Or.inl ⟨?_, ?_⟩) (by assumption) ?_
      rotate_left 2
      · (simp only [List.getElem?_toArray, List.getElem?_cons_succ, List.getElem?_cons_zero]; rfl)
      · first | exact fun _ _ _ h => h | exact fun _ _ _ h => by cases h.1
      · rfl
      · ((intro wq hSq; (try dsimp only at hSq); go_simp); (try with_reducible rfl))
      try simp only [Act.put, List.setIfInBounds_toArray, List.set_cons_zero, List.set_cons_succ]
      refine wpAnyH_take (i := 9) (oi := ?_) (v := ?_) ?_ (by kernel_rfl) (by kernel_rfl) (by kernel_rfl) ?_ (Or.inl ⟨?_, ?_⟩) (by assumption) ?_
      rotate_left 2
      · (simp only [List.getElem?_toArray, List.getElem?_cons_succ, List.getElem?_cons_zero]; rfl)
      · first | exact fun _ _ _ h => h | exact fun _ _ _ h => by cases h.1
      · rfl
      · ((intro wq hSq; (try dsimp only at hSq); go_simp); (try with_reducible rfl))
      try simp only [Act.put, List.setIfInBounds_toArray, List.set_cons_zero, List.set_cons_succ]
      refine wpAnyH_take (i := 10) (oi := ?_) (v := ?_) ?_ (by kernel_rfl) (by kernel_rfl) (by kernel_rfl) ?_ (Or.inl ⟨?_, ?_⟩) (by assumption) ?_
      rotate_left 2
      · (simp only [List.getElem?_toArray, List.getElem?_cons_succ, List.getElem?_cons_zero]; rfl)
      · first | exact fun _ _ _ h => h | exact fun _ _ _ h => by cases h.1
      · rfl
      · ((intro wq hSq; (try dsimp only at hSq); go_simp); (try with_reducible rfl))
      try simp only [Act.put, List.setIfInBounds_toArray, List.set_cons_zero, List.set_cons_succ]
      refine wpAnyH_take (i := 11) (oi := ?_) (v := ?_) ?_ (by kernel_rfl) (by kernel_rfl) (by kernel_rfl) ?_ (Or.inl ⟨?_, ?_⟩) (by assumption) ?_
      rotate_left 2
      · (simp only [List.getElem?_toArray, List.getElem?_cons_succ, List.getElem?_cons_zero]; rfl)
      · first | exact fun _ _ _ h => h | exact fun _ _ _ h => by cases h.1
      · rfl
      · ((intro wq hSq; (try dsimp only at hSq); go_simp); (try with_reducible rfl))
      try simp only [Act.put, List.setIfInBounds_toArray, List.set_cons_zero, List.set_cons_succ]
      refine wpAnyH_take (i := 13) (oi := ?_) (v := ?_) ?_ (by kernel_rfl) (by kernel_rfl) (by kernel_rfl) ?_ (Or.inl ⟨?_, ?_⟩) (by assumption) ?_
      rotate_left 2
      · (simp only [List.getElem?_toArray, List.getElem?_cons_succ, List.getElem?_cons_zero]; rfl)
      · first | exact fun _ _ _ h => h | exact fun _ _ _ h => by cases h.1
      · rfl
      · ((intro wq hSq; (try dsimp only at hSq); go_simp); (try with_reducible rfl))
      try simp only [Act.put, List.setIfInBounds_toArray, List.set_cons_zero, List.set_cons_succ]
      refine wpAnyH_take (i := 14) (oi := ?_) (v := ?_) ?_ (by kernel_rfl) (by kernel_rfl) (by kernel_rfl) ?_ (Or.inl ⟨?_, ?_⟩) (by assumption) ?_
      rotate_left 2
      · (simp only [List.getElem?_toArray, List.getElem?_cons_succ, List.getElem?_cons_zero]; rfl)
      · first | exact fun _ _ _ h => h | exact fun _ _ _ h => by cases h.1
      · rfl
      · ((intro wq hSq; (try dsimp only at hSq); go_simp); (try with_reducible rfl))
      try simp only [Act.put, List.setIfInBounds_toArray, List.set_cons_zero, List.set_cons_succ]
      refine wpAnyH_take (i := 15) (oi := ?_) (v := ?_) ?_ (by kernel_rfl) (by kernel_rfl) (by kernel_rfl) ?_ (Or.inl ⟨?_, ?_⟩) (by assumption) ?_
      rotate_left 2
      · (simp only [List.getElem?_toArray, List.getElem?_cons_succ, List.getElem?_cons_zero]; rfl)
      · first | exact fun _ _ _ h => h | exact fun _ _ _ h => by cases h.1
      · rfl
      · ((intro wq hSq; (try dsimp only at hSq); go_simp); (try with_reducible rfl))
      try simp only [Act.put, List.setIfInBounds_toArray, List.set_cons_zero, List.set_cons_succ]
      refine wpAnyH_ready (rs := [3, 18]) (by kernel_rfl) (by simp) ?_
      refine AllReadyH.cons (o := ?_) ?_ (fun K hK => ?_) ?_
      rotate_left
      · (simp only [List.getElem?_toArray, List.getElem?_cons_succ, List.getElem?_cons_zero]; rfl)
      · go_simp
        go_at_call 37
        refine (numA _ _ (by assumption)).mono ?_
        rintro e wx ⟨rfl, hbx⟩
        have hSx := RdSt.below (w2 := w3) (n := n + 1) (t := ⟨x0.toArray⟩) (k := ⟨x1.toArray⟩) (a := ⟨x3.toArray⟩) (b := ⟨x4.toArray⟩) hHeld hbx
        refine hK.out _ _ hSx (fun hHeld => ?_)
        clear hK K
        try simp only [Act.put, List.setIfInBounds_toArray, List.set_cons_zero, List.set_cons_succ]
        refine wpAnyH_ready (rs := [8, 18]) (by kernel_rfl) (by simp) ?_
        refine AllReadyH.cons (o := ?_) ?_ (fun K hK => ?_) ?_
        rotate_left
        · (simp only [List.getElem?_toArray, List.getElem?_cons_succ, List.getElem?_cons_zero]; rfl)
        · go_simp
          go_at_call 38
          refine (index_any bw 10 wordsB _ _ rfl (by decide) (RdSt.words (w2 := w3) (n := n + 1) (t := ⟨x0.toArray⟩) (k := ⟨x1.toArray⟩) (a := ⟨x3.toArray⟩) (b := ⟨x4.toArray⟩) hHeld HWD.out)).mono ?_
          rintro e wx ⟨rfl, rfl⟩
          have hSx := hHeld
          refine hK.out _ _ hSx (fun hHeld => ?_)
          clear hK K
          try simp only [Act.put, List.setIfInBounds_toArray, List.set_cons_zero, List.set_cons_succ]
          refine wpAnyH_ready (rs := [12, 18]) (by kernel_rfl) (by simp) ?_
          refine AllReadyH.cons (o := ?_) ?_ (fun K hK => ?_) ?_
          rotate_left
          · (simp only [List.getElem?_toArray, List.getElem?_cons_succ, List.getElem?_cons_zero]; rfl)
          · go_simp
            go_at_call 37
            refine (numA _ _ (by assumption)).mono ?_
            rintro e wx ⟨rfl, hbx⟩
            have hSx := RdSt.below (w2 := w3) (n := n + 1) (t := ⟨x0.toArray⟩) (k := ⟨x1.toArray⟩) (a := ⟨x3.toArray⟩) (b := ⟨x4.toArray⟩) hHeld hbx
            refine hK.out _ _ hSx (fun hHeld => ?_)
            clear hK K
            try simp only [Act.put, List.setIfInBounds_toArray, List.set_cons_zero, List.set_cons_succ]
            refine wpAnyH_ready (rs := [16, 18]) (by kernel_rfl) (by simp) ?_
            refine AllReadyH.cons (o := ?_) ?_ (fun K hK => ?_) ?_
            rotate_left
            · (simp only [List.getElem?_toArray, List.getElem?_cons_succ, List.getElem?_cons_zero]; rfl)
            · go_simp
              go_at_call 37
              refine (numA _ _ (by assumption)).mono ?_
              rintro e wx ⟨rfl, hbx⟩
              have hSx := RdSt.below (w2 := w3) (n := n + 1) (t := ⟨x0.toArray⟩) (k := ⟨x1.toArray⟩) (a := ⟨x3.toArray⟩) (b := ⟨x4.toArray⟩) hHeld hbx
              refine hK.out _ _ hSx (fun hHeld => ?_)
              clear hK K
              try simp only [Act.put, List.setIfInBounds_toArray, List.set_cons_zero, List.set_cons_succ]
              refine wpAnyH_take (i := 17) (oi := ?_) (v := ?_) ?_ (by kernel_rfl) (by kernel_rfl) (by kernel_rfl) ?_ (Or.inl ⟨?_, ?_⟩) (by assumption) ?_
              rotate_left 2
              · (simp only [List.getElem?_toArray, List.getElem?_cons_succ, List.getElem?_cons_zero]; rfl)
              · first | exact fun _ _ _ h => h | exact fun _ _ _ h => by cases h.1
              · rfl
              · ((intro wq hSq; (try dsimp only at hSq); go_simp); (try with_reducible rfl))
              try simp only [Act.put, List.setIfInBounds_toArray, List.set_cons_zero, List.set_cons_succ]
              refine wpAnyH_ready (rs := [18]) (by kernel_rfl) (by simp) ?_
              refine AllReadyH.cons (o := ?_) ?_ (fun K hK => ?_) AllReadyH.nil
              rotate_left
              · (simp only [List.getElem?_toArray, List.getElem?_cons_succ, List.getElem?_cons_zero]; rfl)
              go_simp
              have hnew := EvBox.new (wx) Ev.zero
              have hsz := hHeld.1.size
              have hSx := RdSt.alloc (w2 := w3) (n := n + 1) (t := ⟨x0.toArray⟩) (k := ⟨x1.toArray⟩) (a := ⟨x3.toArray⟩) (b := ⟨x4.toArray⟩) hHeld (.cells #[.int .i64 0, .int .i64 0, .int .i64 0, .int .i64 0, .int .i64 0] 23)
              refine hK.out _ _ hSx (fun hHeld => ?_)
              clear hK K
              try simp only [Act.put, List.setIfInBounds_toArray, List.set_cons_zero, List.set_cons_succ]
              obtain ⟨wa, hwa⟩ : ∃ x, (wx).alloc (.cells #[.int .i64 0, .int .i64 0, .int .i64 0, .int .i64 0, .int .i64 0] 23) = x := ⟨_, rfl⟩
              obtain ⟨nb, hnb⟩ : ∃ x, (wx).heap.size = x := ⟨_, rfl⟩
              have hnew2 : EvBox wa nb Ev.zero := by rw [← hwa, ← hnb]; exact hnew
              rw [hwa] at hHeld ⊢
              rw [hnb] at hsz ⊢
              clear hwa hnb hnew
              have hS2 : RdSt2 w3 (n + 1) ⟨x0.toArray⟩ ⟨x1.toArray⟩ ⟨x3.toArray⟩ ⟨x4.toArray⟩ nb wa := ⟨hHeld, _, hnew2⟩
              clear hnew2 hHeld
              refine wpAnyH_strong (S' := fun w' => (Below w3.heap.size w3 w' ∧ w'.cell? ⟨n + 1, 0, none⟩ = some (.string ⟨x0.toArray⟩) ∧ w'.cell? ⟨n + 1, 1, none⟩ = some (.string ⟨x1.toArray⟩) ∧ w'.cell? ⟨n + 1, 3, none⟩ = some (.string ⟨x3.toArray⟩) ∧ w'.cell? ⟨n + 1, 4, none⟩ = some (.string ⟨x4.toArray⟩)) ∧ ∃ e, EvBox w' nb e) (fun w h => h.1) _ _ _ _ ?_
              have hHeld := hS2
              obtain ⟨ee, hz⟩ := hHeld.2
              obtain ⟨b0, b1, b2, b3, b4⟩ := hz.cells
              have f0 := hz.frozen 0
              have f1 := hz.frozen 1
              have f2 := hz.frozen 2
              have f3 := hz.frozen 3
              have f4 := hz.frozen 4
              refine wpAnyH_ready (rs := [19]) (by kernel_rfl) (by simp) ?_
              refine AllReadyH.cons (o := ?_) ?_ (fun K hK => ?_) AllReadyH.nil
              rotate_left
              · (simp only [List.getElem?_toArray, List.getElem?_cons_succ, List.getElem?_cons_zero]; rfl)
              go_simp
              have hSx := RdSt2.set (w2 := w3) (n := n + 1) (t := ⟨x0.toArray⟩) (k := ⟨x1.toArray⟩) (a := ⟨x3.toArray⟩) (b := ⟨x4.toArray⟩) (nb := nb) hHeld hsz hz hn3 ⟨numTV x0, Lib.idxOfS wordsB ⟨x1.toArray⟩, -1, numTV x3, numTV x4⟩
              have hzz := hz.set5 ⟨numTV x0, Lib.idxOfS wordsB ⟨x1.toArray⟩, -1, numTV x3, numTV x4⟩
              have hBB := hSx.1.1
              refine hK.out _ _ hSx (fun hHeld => ?_)
              clear hK K
              try simp only [Act.put, List.setIfInBounds_toArray, List.set_cons_zero, List.set_cons_succ]
              refine wpAnyH_done (by kernel_rfl) ?_ _
              exact ⟨rfl, nb, rfl, hsz, hzz, hBB⟩
            · refine AllReadyH.cons (o := ?_) ?_ (fun K hK => ?_) AllReadyH.nil
              rotate_left
              · (simp only [List.getElem?_toArray, List.getElem?_cons_succ, List.getElem?_cons_zero]; rfl)
              · go_simp
                have hnew := EvBox.new (wx) Ev.zero
                have hsz := hHeld.1.size
                have hSx := RdSt.alloc (w2 := w3) (n := n + 1) (t := ⟨x0.toArray⟩) (k := ⟨x1.toArray⟩) (a := ⟨x3.toArray⟩) (b := ⟨x4.toArray⟩) hHeld (.cells #[.int .i64 0, .int .i64 0, .int .i64 0, .int .i64 0, .int .i64 0] 23)
                refine hK.out _ _ hSx (fun hHeld => ?_)
                clear hK K
                try simp only [Act.put, List.setIfInBounds_toArray, List.set_cons_zero, List.set_cons_succ]
                obtain ⟨wa, hwa⟩ : ∃ x, (wx).alloc (.cells #[.int .i64 0, .int .i64 0, .int .i64 0, .int .i64 0, .int .i64 0] 23) = x := ⟨_, rfl⟩
                obtain ⟨nb, hnb⟩ : ∃ x, (wx).heap.size = x := ⟨_, rfl⟩
                have hnew2 : EvBox wa nb Ev.zero := by rw [← hwa, ← hnb]; exact hnew
                rw [hwa] at hHeld ⊢
                rw [hnb] at hsz ⊢
                clear hwa hnb hnew
                have hS2 : RdSt2 w3 (n + 1) ⟨x0.toArray⟩ ⟨x1.toArray⟩ ⟨x3.toArray⟩ ⟨x4.toArray⟩ nb wa := ⟨hHeld, _, hnew2⟩
                clear hnew2 hHeld
                refine wpAnyH_strong (S' := fun w' => (Below w3.heap.size w3 w' ∧ w'.cell? ⟨n + 1, 0, none⟩ = some (.string ⟨x0.toArray⟩) ∧ w'.cell? ⟨n + 1, 1, none⟩ = some (.string ⟨x1.toArray⟩) ∧ w'.cell? ⟨n + 1, 3, none⟩ = some (.string ⟨x3.toArray⟩) ∧ w'.cell? ⟨n + 1, 4, none⟩ = some (.string ⟨x4.toArray⟩)) ∧ ∃ e, EvBox w' nb e) (fun w h => h.1) _ _ _ _ ?_
                have hHeld := hS2
                refine wpAnyH_ready (rs := [16]) (by kernel_rfl) (by simp) ?_
                refine AllReadyH.cons (o := ?_) ?_ (fun K hK => ?_) AllReadyH.nil
                rotate_left
                · (simp only [List.getElem?_toArray, List.getElem?_cons_succ, List.getElem?_cons_zero]; rfl)
                go_simp
                go_at_call 37
                refine (numA _ _ (by assumption)).mono ?_
                rintro e wx ⟨rfl, hbx⟩
                have hSx := RdSt2.below (w2 := w3) (n := n + 1) (t := ⟨x0.toArray⟩) (k := ⟨x1.toArray⟩) (a := ⟨x3.toArray⟩) (b := ⟨x4.toArray⟩) (nb := nb) hHeld hbx
                refine hK.out _ _ hSx (fun hHeld => ?_)
                clear hK K
                try simp only [Act.put, List.setIfInBounds_toArray, List.set_cons_zero, List.set_cons_succ]
                refine wpAnyH_take (i := 17) (oi := ?_) (v := ?_) ?_ (by kernel_rfl) (by kernel_rfl) (by kernel_rfl) ?_ (Or.inl ⟨?_, ?_⟩) (by assumption) ?_
                rotate_left 2
                · (simp only [List.getElem?_toArray, List.getElem?_cons_succ, List.getElem?_cons_zero]; rfl)
                · first | exact fun _ _ _ h => h | exact fun _ _ _ h => by cases h.1
                · rfl
                · ((intro wq hSq; (try dsimp only at hSq); go_simp); (try with_reducible rfl))
                try simp only [Act.put, List.setIfInBounds_toArray, List.set_cons_zero, List.set_cons_succ]
                obtain ⟨ee, hz⟩ := hHeld.2
                obtain ⟨b0, b1, b2, b3, b4⟩ := hz.cells
                have f0 := hz.frozen 0
                have f1 := hz.frozen 1
                have f2 := hz.frozen 2
                have f3 := hz.frozen 3
                have f4 := hz.frozen 4
                refine wpAnyH_ready (rs := [19]) (by kernel_rfl) (by simp) ?_
                refine AllReadyH.cons (o := ?_) ?_ (fun K hK => ?_) AllReadyH.nil
                rotate_left
                · (simp only [List.getElem?_toArray, List.getElem?_cons_succ, List.getElem?_cons_zero]; rfl)
                go_simp
                have hSx := RdSt2.set (w2 := w3) (n := n + 1) (t := ⟨x0.toArray⟩) (k := ⟨x1.toArray⟩) (a := ⟨x3.toArray⟩) (b := ⟨x4.toArray⟩) (nb := nb) hHeld hsz hz hn3 ⟨numTV x0, Lib.idxOfS wordsB ⟨x1.toArray⟩, -1, numTV x3, numTV x4⟩
                have hzz := hz.set5 ⟨numTV x0, Lib.idxOfS wordsB ⟨x1.toArray⟩, -1, numTV x3, numTV x4⟩
                have hBB := hSx.1.1
                refine hK.out _ _ hSx (fun hHeld => ?_)
                clear hK K
                try simp only [Act.put, List.setIfInBounds_toArray, List.set_cons_zero, List.set_cons_succ]
                refine wpAnyH_done (by kernel_rfl) ?_ _
                exact ⟨rfl, nb, rfl, hsz, hzz, hBB⟩
          · refine AllReadyH.cons (o := ?_) ?_ (fun K hK => ?_) AllReadyH.nil
            rotate_left
            · (simp only [List.getElem?_toArray, List.getElem?_cons_succ, List.getElem?_cons_zero]; rfl)
            · go_simp
              have hnew := EvBox.new (wx) Ev.zero
              have hsz := hHeld.1.size
              have hSx := RdSt.alloc (w2 := w3) (n := n + 1) (t := ⟨x0.toArray⟩) (k := ⟨x1.toArray⟩) (a := ⟨x3.toArray⟩) (b := ⟨x4.toArray⟩) hHeld (.cells #[.int .i64 0, .int .i64 0, .int .i64 0, .int .i64 0, .int .i64 0] 23)
              refine hK.out _ _ hSx (fun hHeld => ?_)
              clear hK K
              try simp only [Act.put, List.setIfInBounds_toArray, List.set_cons_zero, List.set_cons_succ]
              obtain ⟨wa, hwa⟩ : ∃ x, (wx).alloc (.cells #[.int .i64 0, .int .i64 0, .int .i64 0, .int .i64 0, .int .i64 0] 23) = x := ⟨_, rfl⟩
              obtain ⟨nb, hnb⟩ : ∃ x, (wx).heap.size = x := ⟨_, rfl⟩
              have hnew2 : EvBox wa nb Ev.zero := by rw [← hwa, ← hnb]; exact hnew
              rw [hwa] at hHeld ⊢
              rw [hnb] at hsz ⊢
              clear hwa hnb hnew
              have hS2 : RdSt2 w3 (n + 1) ⟨x0.toArray⟩ ⟨x1.toArray⟩ ⟨x3.toArray⟩ ⟨x4.toArray⟩ nb wa := ⟨hHeld, _, hnew2⟩
              clear hnew2 hHeld
              refine wpAnyH_strong (S' := fun w' => (Below w3.heap.size w3 w' ∧ w'.cell? ⟨n + 1, 0, none⟩ = some (.string ⟨x0.toArray⟩) ∧ w'.cell? ⟨n + 1, 1, none⟩ = some (.string ⟨x1.toArray⟩) ∧ w'.cell? ⟨n + 1, 3, none⟩ = some (.string ⟨x3.toArray⟩) ∧ w'.cell? ⟨n + 1, 4, none⟩ = some (.string ⟨x4.toArray⟩)) ∧ ∃ e, EvBox w' nb e) (fun w h => h.1) _ _ _ _ ?_
              have hHeld := hS2
              refine wpAnyH_ready (rs := [12]) (by kernel_rfl) (by simp) ?_
              refine AllReadyH.cons (o := ?_) ?_ (fun K hK => ?_) AllReadyH.nil
              rotate_left
              · (simp only [List.getElem?_toArray, List.getElem?_cons_succ, List.getElem?_cons_zero]; rfl)
              go_simp
              go_at_call 37
              refine (numA _ _ (by assumption)).mono ?_
              rintro e wx ⟨rfl, hbx⟩
              have hSx := RdSt2.below (w2 := w3) (n := n + 1) (t := ⟨x0.toArray⟩) (k := ⟨x1.toArray⟩) (a := ⟨x3.toArray⟩) (b := ⟨x4.toArray⟩) (nb := nb) hHeld hbx
              refine hK.out _ _ hSx (fun hHeld => ?_)
              clear hK K
              try simp only [Act.put, List.setIfInBounds_toArray, List.set_cons_zero, List.set_cons_succ]
              refine wpAnyH_ready (rs := [16]) (by kernel_rfl) (by simp) ?_
              refine AllReadyH.cons (o := ?_) ?_ (fun K hK => ?_) AllReadyH.nil
              rotate_left
              · (simp only [List.getElem?_toArray, List.getElem?_cons_succ, List.getElem?_cons_zero]; rfl)
              go_simp
              go_at_call 37
              refine (numA _ _ (by assumption)).mono ?_
              rintro e wx ⟨rfl, hbx⟩
              have hSx := RdSt2.below (w2 := w3) (n := n + 1) (t := ⟨x0.toArray⟩) (k := ⟨x1.toArray⟩) (a := ⟨x3.toArray⟩) (b := ⟨x4.toArray⟩) (nb := nb) hHeld hbx
              refine hK.out _ _ hSx (fun hHeld => ?_)
              clear hK K
              try simp only [Act.put, List.setIfInBounds_toArray, List.set_cons_zero, List.set_cons_succ]
              refine wpAnyH_take (i := 17) (oi := ?_) (v := ?_) ?_ (by kernel_rfl) (by kernel_rfl) (by kernel_rfl) ?_ (Or.inl ⟨?_, ?_⟩) (by assumption) ?_
              rotate_left 2
              · (simp only [List.getElem?_toArray, List.getElem?_cons_succ, List.getElem?_cons_zero]; rfl)
              · first | exact fun _ _ _ h => h | exact fun _ _ _ h => by cases h.1
              · rfl
              · ((intro wq hSq; (try dsimp only at hSq); go_simp); (try with_reducible rfl))
              try simp only [Act.put, List.setIfInBounds_toArray, List.set_cons_zero, List.set_cons_succ]
              obtain ⟨ee, hz⟩ := hHeld.2
              obtain ⟨b0, b1, b2, b3, b4⟩ := hz.cells
              have f0 := hz.frozen 0
              have f1 := hz.frozen 1
              have f2 := hz.frozen 2
              have f3 := hz.frozen 3
              have f4 := hz.frozen 4
              refine wpAnyH_ready (rs := [19]) (by kernel_rfl) (by simp) ?_
              refine AllReadyH.cons (o := ?_) ?_ (fun K hK => ?_) AllReadyH.nil
              rotate_left
              · (simp only [List.getElem?_toArray, List.getElem?_cons_succ, List.getElem?_cons_zero]; rfl)
              go_simp
              have hSx := RdSt2.set (w2 := w3) (n := n + 1) (t := ⟨x0.toArray⟩) (k := ⟨x1.toArray⟩) (a := ⟨x3.toArray⟩) (b := ⟨x4.toArray⟩) (nb := nb) hHeld hsz hz hn3 ⟨numTV x0, Lib.idxOfS wordsB ⟨x1.toArray⟩, -1, numTV x3, numTV x4⟩
              have hzz := hz.set5 ⟨numTV x0, Lib.idxOfS wordsB ⟨x1.toArray⟩, -1, numTV x3, numTV x4⟩
              have hBB := hSx.1.1
              refine hK.out _ _ hSx (fun hHeld => ?_)
              clear hK K
              try simp only [Act.put, List.setIfInBounds_toArray, List.set_cons_zero, List.set_cons_succ]
              refine wpAnyH_done (by kernel_rfl) ?_ _
              exact ⟨rfl, nb, rfl, hsz, hzz, hBB⟩
        · refine AllReadyH.cons (o := ?_) ?_ (fun K hK => ?_) AllReadyH.nil
          rotate_left
          · (simp only [List.getElem?_toArray, List.getElem?_cons_succ, List.getElem?_cons_zero]; rfl)
          · go_simp
            have hnew := EvBox.new (wx) Ev.zero
            have hsz := hHeld.1.size
            have hSx := RdSt.alloc (w2 := w3) (n := n + 1) (t := ⟨x0.toArray⟩) (k := ⟨x1.toArray⟩) (a := ⟨x3.toArray⟩) (b := ⟨x4.toArray⟩) hHeld (.cells #[.int .i64 0, .int .i64 0, .int .i64 0, .int .i64 0, .int .i64 0] 23)
            refine hK.out _ _ hSx (fun hHeld => ?_)
            clear hK K
            try simp only [Act.put, List.setIfInBounds_toArray, List.set_cons_zero, List.set_cons_succ]
            obtain ⟨wa, hwa⟩ : ∃ x, (wx).alloc (.cells #[.int .i64 0, .int .i64 0, .int .i64 0, .int .i64 0, .int .i64 0] 23) = x := ⟨_, rfl⟩
            obtain ⟨nb, hnb⟩ : ∃ x, (wx).heap.size = x := ⟨_, rfl⟩
            have hnew2 : EvBox wa nb Ev.zero := by rw [← hwa, ← hnb]; exact hnew
            rw [hwa] at hHeld ⊢
            rw [hnb] at hsz ⊢
            clear hwa hnb hnew
            have hS2 : RdSt2 w3 (n + 1) ⟨x0.toArray⟩ ⟨x1.toArray⟩ ⟨x3.toArray⟩ ⟨x4.toArray⟩ nb wa := ⟨hHeld, _, hnew2⟩
            clear hnew2 hHeld
            refine wpAnyH_strong (S' := fun w' => (Below w3.heap.size w3 w' ∧ w'.cell? ⟨n + 1, 0, none⟩ = some (.string ⟨x0.toArray⟩) ∧ w'.cell? ⟨n + 1, 1, none⟩ = some (.string ⟨x1.toArray⟩) ∧ w'.cell? ⟨n + 1, 3, none⟩ = some (.string ⟨x3.toArray⟩) ∧ w'.cell? ⟨n + 1, 4, none⟩ = some (.string ⟨x4.toArray⟩)) ∧ ∃ e, EvBox w' nb e) (fun w h => h.1) _ _ _ _ ?_
            have hHeld := hS2
            refine wpAnyH_ready (rs := [8]) (by kernel_rfl) (by simp) ?_
            refine AllReadyH.cons (o := ?_) ?_ (fun K hK => ?_) AllReadyH.nil
            rotate_left
            · (simp only [List.getElem?_toArray, List.getElem?_cons_succ, List.getElem?_cons_zero]; rfl)
            go_simp
            go_at_call 38
            refine (index_any bw 10 wordsB _ _ rfl (by decide) (RdSt.words (w2 := w3) (n := n + 1) (t := ⟨x0.toArray⟩) (k := ⟨x1.toArray⟩) (a := ⟨x3.toArray⟩) (b := ⟨x4.toArray⟩) hHeld.1 HWD.out)).mono ?_
            rintro e wx ⟨rfl, rfl⟩
            have hSx := hHeld
            refine hK.out _ _ hSx (fun hHeld => ?_)
            clear hK K
            try simp only [Act.put, List.setIfInBounds_toArray, List.set_cons_zero, List.set_cons_succ]
            refine wpAnyH_ready (rs := [12]) (by kernel_rfl) (by simp) ?_
            refine AllReadyH.cons (o := ?_) ?_ (fun K hK => ?_) AllReadyH.nil
            rotate_left
            · (simp only [List.getElem?_toArray, List.getElem?_cons_succ, List.getElem?_cons_zero]; rfl)
            go_simp
            go_at_call 37
            refine (numA _ _ (by assumption)).mono ?_
            rintro e wx ⟨rfl, hbx⟩
            have hSx := RdSt2.below (w2 := w3) (n := n + 1) (t := ⟨x0.toArray⟩) (k := ⟨x1.toArray⟩) (a := ⟨x3.toArray⟩) (b := ⟨x4.toArray⟩) (nb := nb) hHeld hbx
            refine hK.out _ _ hSx (fun hHeld => ?_)
            clear hK K
            try simp only [Act.put, List.setIfInBounds_toArray, List.set_cons_zero, List.set_cons_succ]
            refine wpAnyH_ready (rs := [16]) (by kernel_rfl) (by simp) ?_
            refine AllReadyH.cons (o := ?_) ?_ (fun K hK => ?_) AllReadyH.nil
            rotate_left
            · (simp only [List.getElem?_toArray, List.getElem?_cons_succ, List.getElem?_cons_zero]; rfl)
            go_simp
            go_at_call 37
            refine (numA _ _ (by assumption)).mono ?_
            rintro e wx ⟨rfl, hbx⟩
            have hSx := RdSt2.below (w2 := w3) (n := n + 1) (t := ⟨x0.toArray⟩) (k := ⟨x1.toArray⟩) (a := ⟨x3.toArray⟩) (b := ⟨x4.toArray⟩) (nb := nb) hHeld hbx
            refine hK.out _ _ hSx (fun hHeld => ?_)
            clear hK K
            try simp only [Act.put, List.setIfInBounds_toArray, List.set_cons_zero, List.set_cons_succ]
            refine wpAnyH_take (i := 17) (oi := ?_) (v := ?_) ?_ (by kernel_rfl) (by kernel_rfl) (by kernel_rfl) ?_ (Or.inl ⟨?_, ?_⟩) (by assumption) ?_
            rotate_left 2
            · (simp only [List.getElem?_toArray, List.getElem?_cons_succ, List.getElem?_cons_zero]; rfl)
            · first | exact fun _ _ _ h => h | exact fun _ _ _ h => by cases h.1
            · rfl
            · ((intro wq hSq; (try dsimp only at hSq); go_simp); (try with_reducible rfl))
            try simp only [Act.put, List.setIfInBounds_toArray, List.set_cons_zero, List.set_cons_succ]
            obtain ⟨ee, hz⟩ := hHeld.2
            obtain ⟨b0, b1, b2, b3, b4⟩ := hz.cells
            have f0 := hz.frozen 0
            have f1 := hz.frozen 1
            have f2 := hz.frozen 2
            have f3 := hz.frozen 3
            have f4 := hz.frozen 4
            refine wpAnyH_ready (rs := [19]) (by kernel_rfl) (by simp) ?_
            refine AllReadyH.cons (o := ?_) ?_ (fun K hK => ?_) AllReadyH.nil
            rotate_left
            · (simp only [List.getElem?_toArray, List.getElem?_cons_succ, List.getElem?_cons_zero]; rfl)
            go_simp
            have hSx := RdSt2.set (w2 := w3) (n := n + 1) (t := ⟨x0.toArray⟩) (k := ⟨x1.toArray⟩) (a := ⟨x3.toArray⟩) (b := ⟨x4.toArray⟩) (nb := nb) hHeld hsz hz hn3 ⟨numTV x0, Lib.idxOfS wordsB ⟨x1.toArray⟩, -1, numTV x3, numTV x4⟩
            have hzz := hz.set5 ⟨numTV x0, Lib.idxOfS wordsB ⟨x1.toArray⟩, -1, numTV x3, numTV x4⟩
            have hBB := hSx.1.1
            refine hK.out _ _ hSx (fun hHeld => ?_)
            clear hK K
            try simp only [Act.put, List.setIfInBounds_toArray, List.set_cons_zero, List.set_cons_succ]
            refine wpAnyH_done (by kernel_rfl) ?_ _
            exact ⟨rfl, nb, rfl, hsz, hzz, hBB⟩
      · refine AllReadyH.cons (o := ?_) ?_ (fun K hK => ?_) AllReadyH.nil
        rotate_left
        · (simp only [List.getElem?_toArray, List.getElem?_cons_succ, List.getElem?_cons_zero]; rfl)
        · go_simp
          have hnew := EvBox.new (wd) Ev.zero
          have hsz := hHeld.1.size
          have hSx := RdSt.alloc (w2 := w3) (n := n + 1) (t := ⟨x0.toArray⟩) (k := ⟨x1.toArray⟩) (a := ⟨x3.toArray⟩) (b := ⟨x4.toArray⟩) hHeld (.cells #[.int .i64 0, .int .i64 0, .int .i64 0, .int .i64 0, .int .i64 0] 23)
          refine hK.out _ _ hSx (fun hHeld => ?_)
          clear hK K
          try simp only [Act.put, List.setIfInBounds_toArray, List.set_cons_zero, List.set_cons_succ]
          obtain ⟨wa, hwa⟩ : ∃ x, (wd).alloc (.cells #[.int .i64 0, .int .i64 0, .int .i64 0, .int .i64 0, .int .i64 0] 23) = x := ⟨_, rfl⟩
          obtain ⟨nb, hnb⟩ : ∃ x, (wd).heap.size = x := ⟨_, rfl⟩
          have hnew2 : EvBox wa nb Ev.zero := by rw [← hwa, ← hnb]; exact hnew
          rw [hwa] at hHeld ⊢
          rw [hnb] at hsz ⊢
          clear hwa hnb hnew
          have hS2 : RdSt2 w3 (n + 1) ⟨x0.toArray⟩ ⟨x1.toArray⟩ ⟨x3.toArray⟩ ⟨x4.toArray⟩ nb wa := ⟨hHeld, _, hnew2⟩
          clear hnew2 hHeld
          refine wpAnyH_strong (S' := fun w' => (Below w3.heap.size w3 w' ∧ w'.cell? ⟨n + 1, 0, none⟩ = some (.string ⟨x0.toArray⟩) ∧ w'.cell? ⟨n + 1, 1, none⟩ = some (.string ⟨x1.toArray⟩) ∧ w'.cell? ⟨n + 1, 3, none⟩ = some (.string ⟨x3.toArray⟩) ∧ w'.cell? ⟨n + 1, 4, none⟩ = some (.string ⟨x4.toArray⟩)) ∧ ∃ e, EvBox w' nb e) (fun w h => h.1) _ _ _ _ ?_
          have hHeld := hS2
          refine wpAnyH_ready (rs := [3]) (by kernel_rfl) (by simp) ?_
          refine AllReadyH.cons (o := ?_) ?_ (fun K hK => ?_) AllReadyH.nil
          rotate_left
          · (simp only [List.getElem?_toArray, List.getElem?_cons_succ, List.getElem?_cons_zero]; rfl)
          go_simp
          go_at_call 37
          refine (numA _ _ (by assumption)).mono ?_
          rintro e wx ⟨rfl, hbx⟩
          have hSx := RdSt2.below (w2 := w3) (n := n + 1) (t := ⟨x0.toArray⟩) (k := ⟨x1.toArray⟩) (a := ⟨x3.toArray⟩) (b := ⟨x4.toArray⟩) (nb := nb) hHeld hbx
          refine hK.out _ _ hSx (fun hHeld => ?_)
          clear hK K
          try simp only [Act.put, List.setIfInBounds_toArray, List.set_cons_zero, List.set_cons_succ]
          refine wpAnyH_ready (rs := [8]) (by kernel_rfl) (by simp) ?_
          refine AllReadyH.cons (o := ?_) ?_ (fun K hK => ?_) AllReadyH.nil
          rotate_left
          · (simp only [List.getElem?_toArray, List.getElem?_cons_succ, List.getElem?_cons_zero]; rfl)
          go_simp
          go_at_call 38
          refine (index_any bw 10 wordsB _ _ rfl (by decide) (RdSt.words (w2 := w3) (n := n + 1) (t := ⟨x0.toArray⟩) (k := ⟨x1.toArray⟩) (a := ⟨x3.toArray⟩) (b := ⟨x4.toArray⟩) hHeld.1 HWD.out)).mono ?_
          rintro e wx ⟨rfl, rfl⟩
          have hSx := hHeld
          refine hK.out _ _ hSx (fun hHeld => ?_)
          clear hK K
          try simp only [Act.put, List.setIfInBounds_toArray, List.set_cons_zero, List.set_cons_succ]
          refine wpAnyH_ready (rs := [12]) (by kernel_rfl) (by simp) ?_
          refine AllReadyH.cons (o := ?_) ?_ (fun K hK => ?_) AllReadyH.nil
          rotate_left
          · (simp only [List.getElem?_toArray, List.getElem?_cons_succ, List.getElem?_cons_zero]; rfl)
          go_simp
          go_at_call 37
          refine (numA _ _ (by assumption)).mono ?_
          rintro e wx ⟨rfl, hbx⟩
          have hSx := RdSt2.below (w2 := w3) (n := n + 1) (t := ⟨x0.toArray⟩) (k := ⟨x1.toArray⟩) (a := ⟨x3.toArray⟩) (b := ⟨x4.toArray⟩) (nb := nb) hHeld hbx
          refine hK.out _ _ hSx (fun hHeld => ?_)
          clear hK K
          try simp only [Act.put, List.setIfInBounds_toArray, List.set_cons_zero, List.set_cons_succ]
          refine wpAnyH_ready (rs := [16]) (by kernel_rfl) (by simp) ?_
          refine AllReadyH.cons (o := ?_) ?_ (fun K hK => ?_) AllReadyH.nil
          rotate_left
          · (simp only [List.getElem?_toArray, List.getElem?_cons_succ, List.getElem?_cons_zero]; rfl)
          go_simp
          go_at_call 37
          refine (numA _ _ (by assumption)).mono ?_
          rintro e wx ⟨rfl, hbx⟩
          have hSx := RdSt2.below (w2 := w3) (n := n + 1) (t := ⟨x0.toArray⟩) (k := ⟨x1.toArray⟩) (a := ⟨x3.toArray⟩) (b := ⟨x4.toArray⟩) (nb := nb) hHeld hbx
          refine hK.out _ _ hSx (fun hHeld => ?_)
          clear hK K
          try simp only [Act.put, List.setIfInBounds_toArray, List.set_cons_zero, List.set_cons_succ]
          refine wpAnyH_take (i := 17) (oi := ?_) (v := ?_) ?_ (by kernel_rfl) (by kernel_rfl) (by kernel_rfl) ?_ (Or.inl ⟨?_, ?_⟩) (by assumption) ?_
          rotate_left 2
          · (simp only [List.getElem?_toArray, List.getElem?_cons_succ, List.getElem?_cons_zero]; rfl)
          · first | exact fun _ _ _ h => h | exact fun _ _ _ h => by cases h.1
          · rfl
          · ((intro wq hSq; (try dsimp only at hSq); go_simp); (try with_reducible rfl))
          try simp only [Act.put, List.setIfInBounds_toArray, List.set_cons_zero, List.set_cons_succ]
          obtain ⟨ee, hz⟩ := hHeld.2
          obtain ⟨b0, b1, b2, b3, b4⟩ := hz.cells
          have f0 := hz.frozen 0
          have f1 := hz.frozen 1
          have f2 := hz.frozen 2
          have f3 := hz.frozen 3
          have f4 := hz.frozen 4
          refine wpAnyH_ready (rs := [19]) (by kernel_rfl) (by simp) ?_
          refine AllReadyH.cons (o := ?_) ?_ (fun K hK => ?_) AllReadyH.nil
          rotate_left
          · (simp only [List.getElem?_toArray, List.getElem?_cons_succ, List.getElem?_cons_zero]; rfl)
          go_simp
          have hSx := RdSt2.set (w2 := w3) (n := n + 1) (t := ⟨x0.toArray⟩) (k := ⟨x1.toArray⟩) (a := ⟨x3.toArray⟩) (b := ⟨x4.toArray⟩) (nb := nb) hHeld hsz hz hn3 ⟨numTV x0, Lib.idxOfS wordsB ⟨x1.toArray⟩, -1, numTV x3, numTV x4⟩
          have hzz := hz.set5 ⟨numTV x0, Lib.idxOfS wordsB ⟨x1.toArray⟩, -1, numTV x3, numTV x4⟩
          have hBB := hSx.1.1
          refine hK.out _ _ hSx (fun hHeld => ?_)
          clear hK K
          try simp only [Act.put, List.setIfInBounds_toArray, List.set_cons_zero, List.set_cons_succ]
          refine wpAnyH_done (by kernel_rfl) ?_ _
          exact ⟨rfl, nb, rfl, hsz, hzz, hBB⟩
    rintro nb w4 ⟨hnb, hz, hb4⟩
    dsimp only
    clear hSd
    have h20 := (hb4.cell (p := ⟨n + 1, 2, none⟩) (cell_lt q2)).trans q2
    have hbox4 := hbox3.below hb4 (by have := hbox3.lt; exact this)
    have hTM4 : Tab w4 ∧ Mx w4 := ⟨hTM3.1.below hb4, hTM3.2.below hb4⟩
    have hB4 := hB3.trans (hb4.mono (by have := hB3.size; rw [hn] at this; exact this))
    have hnz : n + 1 < nb := by omega
    clear hb4 hB3 hTM3 hbox3 q0 q1 q2 q3 q4 hnb hn3
    by_cases hx2 : x2 = [45]
    · have t2 : (x2 == [45]) = true := by rw [hx2]; rfl
      have HC' := Lib.hid (show candP [x0, x1, x2, x3, x4] = ⟨numTV x0, Lib.idxOfS wordsB ⟨x1.toArray⟩, -1, numTV x3, numTV x4⟩ by rw [HC.out, if_pos hx2]; rfl)
      clear hx2 HC
      obtain ⟨c0, c1, c2, c3, c4⟩ := hz.cells
      rcases hok : evB ⟨numTV x0, Lib.idxOfS wordsB ⟨x1.toArray⟩, -1, numTV x3, numTV x4⟩ with _ | _
      · have hln := line_any ⟨numTV x0, Lib.idxOfS wordsB ⟨x1.toArray⟩, -1, numTV x3, numTV x4⟩ w4 hTM4.1
        rw [hok] at hln
        have hno := read_no (s := l) (by rw [hq'.out, HC'.out]; rintro ⟨_, h, _⟩; rw [hok] at h; cases h)
        have hno' := Lib.hid hno
        clear hno
        have hln' := Lib.hid hln
        clear hln hok
        go_wp2_with fail
        refine (hln'.out).mono ?_
        rintro e w6 ⟨rfl, hb6⟩
        have hbox6 := hbox4.kept hb6
        have hB6 := hB4.trans (hb6.mono (by have := hB4.size; rw [hn] at this; exact this))
        obtain ⟨d0, d1, d2, d3, d4⟩ := hbox6.cells
        have df0 := hbox6.frozen 0
        have df1 := hbox6.frozen 1
        have df2 := hbox6.frozen 2
        have df3 := hbox6.frozen 3
        have df4 := hbox6.frozen 4
        go_wp2_with fail
        refine bodyPost_ret (res_tread _ _ rfl rfl (hbox6.set5 Ev.zero)) rfl ?_
        exact ⟨by rw [hno'.out.1, hno'.out.2], by rw [hn]; exact below_set5 hB6 n (Nat.le_refl _) _ _ _ _ _⟩
      · have hln := line_any ⟨numTV x0, Lib.idxOfS wordsB ⟨x1.toArray⟩, -1, numTV x3, numTV x4⟩ w4 hTM4.1
        rw [hok, show lineR ⟨numTV x0, Lib.idxOfS wordsB ⟨x1.toArray⟩, -1, numTV x3, numTV x4⟩ = evLineS ⟨numTV x0, Lib.idxOfS wordsB ⟨x1.toArray⟩, -1, numTV x3, numTV x4⟩ from if_pos hok] at hln
        obtain ⟨LS, hLS⟩ : ∃ x, evLineS ⟨numTV x0, Lib.idxOfS wordsB ⟨x1.toArray⟩, -1, numTV x3, numTV x4⟩ = x := ⟨_, rfl⟩
        by_cases hls : evLine ⟨numTV x0, Lib.idxOfS wordsB ⟨x1.toArray⟩, -1, numTV x3, numTV x4⟩ = l
        · have hst : (LS.toList == s.toList) = true := by rw [← hLS, ByteArray.toList_eq, ByteArray.toList_eq, hl'.out]; simp [evLineS, hls]
          rw [hLS] at hln
          have hyes := read_yes (s := l) (by rw [hq'.out, HC'.out]; exact ⟨rfl, hok, hls⟩)
          rw [hq'.out, HC'.out] at hyes
          have hyes' := Lib.hid hyes
          have hln' := Lib.hid hln
          clear hyes hln hok hls hLS
          go_wp2_with fail
          refine (hln'.out).mono ?_
          rintro e w6 ⟨rfl, hb6⟩
          have hbox6 := hbox4.kept hb6
          have hz6 := hz.kept hb6
          have hB6 := hB4.trans (hb6.mono (by have := hB4.size; rw [hn] at this; exact this))
          clear c0 c1 c2 c3 c4
          obtain ⟨c0, c1, c2, c3, c4⟩ := hz6.cells
          obtain ⟨d0, d1, d2, d3, d4⟩ := hbox6.cells
          have df0 := hbox6.frozen 0
          have df1 := hbox6.frozen 1
          have df2 := hbox6.frozen 2
          have df3 := hbox6.frozen 3
          have df4 := hbox6.frozen 4
          go_wp2_with fail
          refine bodyPost_ret (res_tread _ _ rfl rfl (hbox6.set5 ⟨numTV x0, Lib.idxOfS wordsB ⟨x1.toArray⟩, -1, numTV x3, numTV x4⟩)) rfl ?_
          exact ⟨by rw [hyes'.out.1, hyes'.out.2], by rw [hn]; exact below_set5 hB6 n (Nat.le_refl _) _ _ _ _ _⟩
        · have hst : (LS.toList == s.toList) = false := by
            rw [beq_eq_false_iff_ne, ← hLS, ByteArray.toList_eq, ByteArray.toList_eq, hl'.out]
            simpa [evLineS] using hls
          rw [hLS] at hln
          have hno := read_no (s := l) (by rw [hq'.out, HC'.out]; rintro ⟨_, _, h⟩; exact hls h)
          have hno' := Lib.hid hno
          clear hno
          have hln' := Lib.hid hln
          clear hln hok
          go_wp2_with fail
          refine (hln'.out).mono ?_
          rintro e w6 ⟨rfl, hb6⟩
          have hbox6 := hbox4.kept hb6
          have hB6 := hB4.trans (hb6.mono (by have := hB4.size; rw [hn] at this; exact this))
          obtain ⟨d0, d1, d2, d3, d4⟩ := hbox6.cells
          have df0 := hbox6.frozen 0
          have df1 := hbox6.frozen 1
          have df2 := hbox6.frozen 2
          have df3 := hbox6.frozen 3
          have df4 := hbox6.frozen 4
          go_wp2_with fail
          refine bodyPost_ret (res_tread _ _ rfl rfl (hbox6.set5 Ev.zero)) rfl ?_
          exact ⟨by rw [hno'.out.1, hno'.out.2], by rw [hn]; exact below_set5 hB6 n (Nat.le_refl _) _ _ _ _ _⟩
    · have t2 : (x2 == [45]) = false := by rw [beq_eq_false_iff_ne]; exact hx2
      have HC' := Lib.hid (show candP [x0, x1, x2, x3, x4] = ⟨numTV x0, Lib.idxOfS wordsB ⟨x1.toArray⟩, numTV x2, numTV x3, numTV x4⟩ by rw [HC.out, if_neg hx2]; rfl)
      clear hx2 HC
      have nn := Lib.hid (numA x2 w4 y2)
      go_wp2_with fail
      refine nn.out.mono ?_
      rintro e w5 ⟨rfl, hb5⟩
      have hz5 := hz.kept hb5
      obtain ⟨c0, c1, c2, c3, c4⟩ := hz5.cells
      have cf := hz5.frozen 2
      go_wp2_with fail
      have hz' : EvBox (w5.setCell ⟨nb, 2, none⟩ (.int .i64 (numTV x2))) nb ⟨numTV x0, Lib.idxOfS wordsB ⟨x1.toArray⟩, numTV x2, numTV x3, numTV x4⟩ := hz5.setP (numTV x2)
      have hB5 := below_set (hB4.trans (hb5.mono (by have := hB4.size; rw [hn] at this; exact this))) nb 2 (by omega) (.int .i64 (numTV x2))
      have hbox5 : EvBox (w5.setCell ⟨nb, 2, none⟩ (.int .i64 (numTV x2))) n Ev.zero := by
        have h1 := hbox4.kept hb5
        unfold EvBox at h1 ⊢
        rw [← h1]
        exact (grownBy_setCell2 w5 nb 2 _ n (by omega))
      have hT5 : Tab (w5.setCell ⟨nb, 2, none⟩ (.int .i64 (numTV x2))) := hT0.out.below (by rw [hn]; exact hB5)
      clear hz hz5 c0 c1 c2 c3 c4 cf hb5 hB4 hbox4 hTM4 h20
      revert hz' hB5 hbox5 hT5
      generalize w5.setCell ⟨nb, 2, none⟩ (.int .i64 (numTV x2)) = w4
      intro hz hB4 hbox4 hT5
      have hTM4 : Tab w4 ∧ True := ⟨hT5, trivial⟩
      rcases hok : evB ⟨numTV x0, Lib.idxOfS wordsB ⟨x1.toArray⟩, numTV x2, numTV x3, numTV x4⟩ with _ | _
      · have hln := line_any ⟨numTV x0, Lib.idxOfS wordsB ⟨x1.toArray⟩, numTV x2, numTV x3, numTV x4⟩ w4 hTM4.1
        rw [hok] at hln
        have hno := read_no (s := l) (by rw [hq'.out, HC'.out]; rintro ⟨_, h, _⟩; rw [hok] at h; cases h)
        have hno' := Lib.hid hno
        clear hno
        have hln' := Lib.hid hln
        clear hln hok
        refine (hln'.out).mono ?_
        rintro e w6 ⟨rfl, hb6⟩
        have hbox6 := hbox4.kept hb6
        have hB6 := hB4.trans (hb6.mono (by have := hB4.size; rw [hn] at this; exact this))
        obtain ⟨d0, d1, d2, d3, d4⟩ := hbox6.cells
        have df0 := hbox6.frozen 0
        have df1 := hbox6.frozen 1
        have df2 := hbox6.frozen 2
        have df3 := hbox6.frozen 3
        have df4 := hbox6.frozen 4
        go_wp2_with fail
        refine bodyPost_ret (res_tread _ _ rfl rfl (hbox6.set5 Ev.zero)) rfl ?_
        exact ⟨by rw [hno'.out.1, hno'.out.2], by rw [hn]; exact below_set5 hB6 n (Nat.le_refl _) _ _ _ _ _⟩
      · have hln := line_any ⟨numTV x0, Lib.idxOfS wordsB ⟨x1.toArray⟩, numTV x2, numTV x3, numTV x4⟩ w4 hTM4.1
        rw [hok, show lineR ⟨numTV x0, Lib.idxOfS wordsB ⟨x1.toArray⟩, numTV x2, numTV x3, numTV x4⟩ = evLineS ⟨numTV x0, Lib.idxOfS wordsB ⟨x1.toArray⟩, numTV x2, numTV x3, numTV x4⟩ from if_pos hok] at hln
        obtain ⟨LS, hLS⟩ : ∃ x, evLineS ⟨numTV x0, Lib.idxOfS wordsB ⟨x1.toArray⟩, numTV x2, numTV x3, numTV x4⟩ = x := ⟨_, rfl⟩
        by_cases hls : evLine ⟨numTV x0, Lib.idxOfS wordsB ⟨x1.toArray⟩, numTV x2, numTV x3, numTV x4⟩ = l
        · have hst : (LS.toList == s.toList) = true := by rw [← hLS, ByteArray.toList_eq, ByteArray.toList_eq, hl'.out]; simp [evLineS, hls]
          rw [hLS] at hln
          have hyes := read_yes (s := l) (by rw [hq'.out, HC'.out]; exact ⟨rfl, hok, hls⟩)
          rw [hq'.out, HC'.out] at hyes
          have hyes' := Lib.hid hyes
          have hln' := Lib.hid hln
          clear hyes hln hok hls hLS
          refine (hln'.out).mono ?_
          rintro e w6 ⟨rfl, hb6⟩
          have hbox6 := hbox4.kept hb6
          have hz6 := hz.kept hb6
          have hB6 := hB4.trans (hb6.mono (by have := hB4.size; rw [hn] at this; exact this))
          obtain ⟨c0, c1, c2, c3, c4⟩ := hz6.cells
          obtain ⟨d0, d1, d2, d3, d4⟩ := hbox6.cells
          have df0 := hbox6.frozen 0
          have df1 := hbox6.frozen 1
          have df2 := hbox6.frozen 2
          have df3 := hbox6.frozen 3
          have df4 := hbox6.frozen 4
          go_wp2_with fail
          refine bodyPost_ret (res_tread _ _ rfl rfl (hbox6.set5 ⟨numTV x0, Lib.idxOfS wordsB ⟨x1.toArray⟩, numTV x2, numTV x3, numTV x4⟩)) rfl ?_
          exact ⟨by rw [hyes'.out.1, hyes'.out.2], by rw [hn]; exact below_set5 hB6 n (Nat.le_refl _) _ _ _ _ _⟩
        · have hst : (LS.toList == s.toList) = false := by
            rw [beq_eq_false_iff_ne, ← hLS, ByteArray.toList_eq, ByteArray.toList_eq, hl'.out]
            simpa [evLineS] using hls
          rw [hLS] at hln
          have hno := read_no (s := l) (by rw [hq'.out, HC'.out]; rintro ⟨_, _, h⟩; exact hls h)
          have hno' := Lib.hid hno
          clear hno
          have hln' := Lib.hid hln
          clear hln hok
          refine (hln'.out).mono ?_
          rintro e w6 ⟨rfl, hb6⟩
          have hbox6 := hbox4.kept hb6
          have hB6 := hB4.trans (hb6.mono (by have := hB4.size; rw [hn] at this; exact this))
          obtain ⟨d0, d1, d2, d3, d4⟩ := hbox6.cells
          have df0 := hbox6.frozen 0
          have df1 := hbox6.frozen 1
          have df2 := hbox6.frozen 2
          have df3 := hbox6.frozen 3
          have df4 := hbox6.frozen 4
          go_wp2_with fail
          refine bodyPost_ret (res_tread _ _ rfl rfl (hbox6.set5 Ev.zero)) rfl ?_
          exact ⟨by rw [hno'.out.1, hno'.out.2], by rw [hn]; exact below_set5 hB6 n (Nat.le_refl _) _ _ _ _ _⟩
  · obtain ⟨e1, e2⟩ := read_no (s := l) (fun h => h5 (by rw [← hq]; exact h.1))
    rw [e1, e2]
    have t1 : ((q.length : Int) != 5) = true := by simp; omega
    have hsp' := Lib.hid hsp
    clear hsp e1 e2 hq hl h5
    go_enter Tryd.func13, Tryd.ntmps13
    go_wp2_with fail
    have hb0 := (Below.refl w.heap.size w).alloc (Nat.le_refl _) (.cells #[.int .i64 0, .int .i64 0, .int .i64 0, .int .i64 0, .int .i64 0] 23)
    refine (hsp'.out _ (hM.below hb0)).mono ?_
    rintro e w1 ⟨rfl, hc1, hb1⟩
    have hbox := (EvBox.new w Ev.zero).kept hb1
    have hB1 := hb0.trans (hb1.mono hb0.size)
    obtain ⟨n, hn⟩ : ∃ n, w.heap.size = n := ⟨_, rfl⟩
    rw [hn] at hbox hB1 ⊢
    obtain ⟨b0, b1, b2, b3, b4⟩ := hbox.cells
    have f0 := hbox.frozen 0
    have f1 := hbox.frozen 1
    have f2 := hbox.frozen 2
    have f3 := hbox.frozen 3
    have f4 := hbox.frozen 4
    clear hb1 hb0
    go_wp2_with fail
    refine bodyPost_ret (res_tread _ _ rfl rfl (hbox.set5 Ev.zero)) rfl ?_
    exact ⟨rfl, by rw [hn]; exact below_set5 hB1 n (Nat.le_refl _) _ _ _ _ _⟩

end Go.Proofs.YtopclkkkchhgiaaDoor
