/- What the reference's Read stands on. -/
import Derived.Test.YtkcdmonmgnmojaaDoorHRd
import Derived.Test.YtkcdmonmgnmojaaDoorRSplit
import Derived.Test.YtkcdmonmgnmojaaDoorAsmD9
namespace Go.Proofs.YtkcdmonmgnmojaaDoor
open Go.RowKit

theorem rread_no {s : List UInt8} (h : ¬(6 ≤ (pcs 32 s).length ∧ clB (candR (pcs 32 s)) = true ∧ lineH (candR (pcs 32 s)) = s)) : hreadX s = cl0 ∧ hreadOk s = false := by
  have : readP s = none := by rw [read_same21]; unfold readR readHBy; rw [if_neg h]
  unfold hreadX hreadOk
  rw [this]
  exact ⟨rfl, rfl⟩
theorem rread_yes {s : List UInt8} (h : 6 ≤ (pcs 32 s).length ∧ clB (candR (pcs 32 s)) = true ∧ lineH (candR (pcs 32 s)) = s) : hreadX s = candR (pcs 32 s) ∧ hreadOk s = true := by
  have : readP s = some (candR (pcs 32 s)) := by rw [read_same21]; unfold readR readHBy; rw [if_pos h]
  unfold hreadX hreadOk
  rw [this]
  exact ⟨rfl, rfl⟩
theorem res_rread (tmps : Array Value) (w : World) {b : Nat} {e : Cl} {A : Option Addr} {c : Nat} {x : Bool} (ha : tmps[2]?.getD undef = .pointer (some ⟨b, 0, none⟩)) (hx : tmps[3]?.getD undef = .bool x) (hbox : ClBox w b e A c) :
    (results Tryd.f33 tmps).run Tryd.prog w = .ok (.tuple #[clV e A c, .bool x]) w := by
  obtain ⟨h0, h1, h2, h3, h4, h5, h6⟩ := hbox.cells
  simp [results, ha, hx, h0, h1, h2, h3, h4, h5, h6, go_sem, clV]
theorem rdigA (x : List UInt8) (W : World) (h : x.length ≤ 1000) : Calls Tryd.prog 74 #[.string ⟨x.toArray⟩] W fun e w' => e = .returned (.int .i64 (digNV x)) ∧ Below W.heap.size W w' :=
  rdigits_any ⟨x.toArray⟩ W (by simp [ByteArray.size]; omega)
theorem rd9A (x : List UInt8) (W : World) (h : x.length ≤ 1000) : Calls Tryd.prog 44 #[.string ⟨x.toArray⟩] W fun e w' => e = .returned (.int .u32 (rnum x)) ∧ Below W.heap.size W w' :=
  rdigits9_any ⟨x.toArray⟩ W (by simp [ByteArray.size]; omega)
/-- The last place of a word among the first k. -/
def idxTo (ws : List (List UInt8)) (x : List UInt8) : Nat → Int
  | 0 => -1
  | k + 1 => if ws.getD k [] = x then (k : Int) else idxTo ws x k
theorem idxTo_succ {ws : List (List UInt8)} (x : List UInt8) {k : Nat} {y : List UInt8} (h : ws[k]? = some y) : idxTo ws x (k + 1) = if y = x then (k : Int) else idxTo ws x k := by
  show (if ws.getD k [] = x then (k : Int) else idxTo ws x k) = _
  rw [List.getD_eq_getElem?_getD, h]
  rfl
theorem idxTo_ops (x : List UInt8) : idxTo opsW x 5 = idxW opsW x := by
  by_cases h0 : x = []
  · subst h0; decide
  by_cases h1 : x = [114, 101, 97, 100]
  · subst h1; decide
  by_cases h2 : x = [119, 114, 105, 116, 101]
  · subst h2; decide
  by_cases h3 : x = [112, 117, 116]
  · subst h3; decide
  by_cases h4 : x = [116, 97, 107, 101]
  · subst h4; decide
  have e0 : ([] : List UInt8) ≠ x := fun e => h0 e.symm
  have e1 : ([114, 101, 97, 100] : List UInt8) ≠ x := fun e => h1 e.symm
  have e2 : ([119, 114, 105, 116, 101] : List UInt8) ≠ x := fun e => h2 e.symm
  have e3 : ([112, 117, 116] : List UInt8) ≠ x := fun e => h3 e.symm
  have e4 : ([116, 97, 107, 101] : List UInt8) ≠ x := fun e => h4 e.symm
  have a : idxTo opsW x 5 = -1 := by simp [idxTo, opsW, e0, e1, e2, e3, e4]
  have b : idxW opsW x = -1 := by
    unfold idxW
    rw [show (opsW.findIdx? fun z => z == x) = none from by rw [List.findIdx?_eq_none_iff]; simp [opsW, e0, e1, e2, e3, e4]]
  rw [a, b]
theorem idxTo_codes (x : List UInt8) : idxTo codesW x 4 = idxW codesW x := by
  by_cases h1 : x = [103, 111, 111, 100]
  · subst h1; decide
  by_cases h2 : x = [114, 101, 116, 114, 121]
  · subst h2; decide
  by_cases h3 : x = [102, 117, 108, 108]
  · subst h3; decide
  by_cases h4 : x = [101, 109, 112, 116, 121]
  · subst h4; decide
  have e1 : ([103, 111, 111, 100] : List UInt8) ≠ x := fun e => h1 e.symm
  have e2 : ([114, 101, 116, 114, 121] : List UInt8) ≠ x := fun e => h2 e.symm
  have e3 : ([102, 117, 108, 108] : List UInt8) ≠ x := fun e => h3 e.symm
  have e4 : ([101, 109, 112, 116, 121] : List UInt8) ≠ x := fun e => h4 e.symm
  have a : idxTo codesW x 4 = -1 := by simp [idxTo, codesW, e1, e2, e3, e4]
  have b : idxW codesW x = -1 := by
    unfold idxW
    rw [show (codesW.findIdx? fun z => z == x) = none from by rw [List.findIdx?_eq_none_iff]; simp [codesW, e1, e2, e3, e4]]
  rw [a, b]
theorem ops_cell {k : Nat} {y : List UInt8} (h : opsW[k]? = some y) : opsB[k]? = some ⟨y.toArray⟩ := by
  rw [show opsB = opsW.map fun p => (⟨p.toArray⟩ : ByteArray) from rfl, List.getElem?_map, h]
  rfl
theorem codes_cell {k : Nat} {y : List UInt8} (h : codesW[k]? = some y) : codesB[k]? = some ⟨y.toArray⟩ := by
  rw [show codesB = codesW.map fun p => (⟨p.toArray⟩ : ByteArray) from rfl, List.getElem?_map, h]
  rfl

/-- The pieces of a cut line, in cells. -/
def PcC (w : World) (pb : Nat) (ps : List (List UInt8)) : Prop := ∀ (j : Nat) x, ps[j]? = some x → w.cell? ⟨pb, j, none⟩ = some (.string ⟨x.toArray⟩)
theorem PcC.below {w w' : World} {pb : Nat} {ps : List (List UInt8)} (h : PcC w pb ps) (hb : Below w.heap.size w w') : PcC w' pb ps := fun j x hx => (hb.cell (p := ⟨pb, j, none⟩) (cell_lt (h j x hx))).trans (h j x hx)
theorem cell_set1 (w : World) (B j : Nat) (v : Value) (m i : Nat) (h : m ≠ B) : (w.setCell ⟨B, j, none⟩ v).cell? ⟨m, i, none⟩ = w.cell? ⟨m, i, none⟩ := World.cell?_setCell_far w ⟨B, j, none⟩ ⟨m, i, none⟩ v (fun e => h e.symm)
theorem PcC.set {w : World} {pb : Nat} {ps : List (List UInt8)} (h : PcC w pb ps) (b j : Nat) (v : Value) (hn : pb ≠ b) : PcC (w.setCell ⟨b, j, none⟩ v) pb ps := fun i x hx => (cell_set1 w b j v pb i hn).trans (h i x hx)
theorem PcC.from {w w' : World} {N pb : Nat} {ps : List (List UInt8)} (h : PcC w pb ps) (hb : Below N w w') (hn : pb < N) : PcC w' pb ps := fun j x hx => (hb.cell (p := ⟨pb, j, none⟩) hn).trans (h j x hx)
theorem lit_set {w : World} {bo : Nat} {l : List ByteArray} (h : ∀ (j : Nat) x, l[j]? = some x → w.cell? ⟨bo, j, none⟩ = some (.string x)) (b j : Nat) (v : Value) (hn : bo ≠ b) : ∀ (i : Nat) x, l[i]? = some x → (w.setCell ⟨b, j, none⟩ v).cell? ⟨bo, i, none⟩ = some (.string x) := fun i x hx => (cell_set1 w b j v bo i hn).trans (h i x hx)
theorem Own.set {E : Enc Int} {t : TypeId} {base : Nat} {w : World} {v : Value} {l : List Int} (h : Own E t base w v l) (b j : Nat) (x : Value) (hb : b < base) : Own E t base (w.setCell ⟨b, j, none⟩ x) v l := by
  refine ⟨h.1, ?_⟩
  rcases h.2 with h2 | ⟨g, cap, cur, hv, hg, hh, r⟩
  · exact .inl h2
  · exact .inr ⟨g, cap, cur, hv, hg, (heap_set w b j x g (by omega)).trans hh, r⟩
theorem rnum_wf (l : List UInt8) : (Lit.int .u32 (rnum l)).wf = true := by
  have := rnum_bd l
  simp [Lit.wf, IntKind.min, IntKind.max, IntKind.signed, IntKind.bits]
  omega
theorem ownW_rnum {base : Nat} {w : World} {v : Value} {t : List (List UInt8)} (h : Own (ints .u32) 22 base w v (t.map rnum)) : OwnW base w v (t.map rnum) := ⟨h, fun z hz => by
  obtain ⟨p, _, rfl⟩ := List.mem_map.1 hz
  exact rnum_wf p⟩
/-- The cut line: six pieces and the others. -/
theorem cut_all {l : List UInt8} (h : 6 ≤ (pcs 32 l).length) : ∃ x0 x1 x2 x3 x4 x5 t, pcs 32 l = x0 :: x1 :: x2 :: x3 :: x4 :: x5 :: t ∧ (∀ x ∈ x0 :: x1 :: x2 :: x3 :: x4 :: x5 :: t, x.length ≤ l.length) ∧ t.length ≤ l.length ∧
    candR (pcs 32 l) = ⟨digNV x0, digNV x1, idxW opsW x2, t.map rnum, idxW codesW x5, digNV x3, if x4 = [45] then -1 else digNV x4⟩ := by
  have hm := pcs_mem 32 l
  have hp := pcs_len 32 l
  match hq : pcs 32 l, h with
  | a :: b :: c :: d :: e :: f :: t, _ =>
    rw [hq] at hm hp
    exact ⟨a, b, c, d, e, f, t, rfl, hm, by simp only [List.length_cons] at hp; omega, rfl⟩
/-- What the first region of the reference's Read keeps. -/
def HrSt (w2 : World) (n : Nat) (x0 x1 x3 : ByteArray) (w' : World) : Prop :=
  Below w2.heap.size w2 w' ∧ w'.cell? ⟨n, 0, none⟩ = some (.string x0) ∧ w'.cell? ⟨n, 1, none⟩ = some (.string x1) ∧ w'.cell? ⟨n, 3, none⟩ = some (.string x3)
section
variable {w2 w w' : World} {n nb : Nat} {x0 x1 x3 : ByteArray}
theorem HrSt.below (h : HrSt w2 n x0 x1 x3 w) (hb : Below w.heap.size w w') : HrSt w2 n x0 x1 x3 w' := by
  obtain ⟨h1, a0, a1, a3⟩ := h
  have hk : ∀ {i : Nat} {u : Value}, w.cell? ⟨n, i, none⟩ = some u → w'.cell? ⟨n, i, none⟩ = some u := fun {i u} hc => (hb.cell (p := ⟨n, i, none⟩) (cell_lt hc)).trans hc
  exact ⟨h1.trans (hb.mono h1.size), hk a0, hk a1, hk a3⟩
theorem HrSt.drew (h : HrSt w2 n x0 x1 x3 w) : HrSt w2 n x0 x1 x3 w.drew := h.below (Below.refl _ w).drew
theorem HrSt.alloc (h : HrSt w2 n x0 x1 x3 w) (o : Obj) : HrSt w2 n x0 x1 x3 (w.alloc o) := h.below ((Below.refl _ w).alloc (Nat.le_refl _) o)
def HrSt2 (w2 : World) (n : Nat) (x0 x1 x3 : ByteArray) (nb : Nat) (w' : World) : Prop := HrSt w2 n x0 x1 x3 w' ∧ ∃ x, ClBox w' nb x none 0
theorem HrSt2.below (h : HrSt2 w2 n x0 x1 x3 nb w) (hb : Below w.heap.size w w') : HrSt2 w2 n x0 x1 x3 nb w' :=
  ⟨h.1.below hb, h.2.elim fun x hx => ⟨x, hx.kept hb⟩⟩
theorem HrSt2.set (h : HrSt2 w2 n x0 x1 x3 nb w) (hn : w2.heap.size ≤ nb) {x : Cl} (hz : ClBox w nb x none 0) (hn2 : n < w2.heap.size) (y : Cl) (hy : y.r = []) :
    HrSt2 w2 n x0 x1 x3 nb (set7 w nb (.int .i64 y.p) (.int .i64 y.o) (.int .i64 y.q) (.slice none 0 0) (.int .i64 y.c) (.int .i64 y.b) (.int .i64 y.e)) := by
  obtain ⟨yp, yo, yq, yr, yc, yb, ye⟩ := y
  simp only at hy
  subst hy
  obtain ⟨⟨h1, a0, a1, a3⟩, _⟩ := h
  have hne : n ≠ nb := by omega
  refine ⟨⟨below_set7 h1 nb hn _ _ _ _ _ _ _, ?_, ?_, ?_⟩, ⟨yp, yo, yq, [], yc, yb, ye⟩, ?_⟩
  · rw [cell_set7 _ _ _ _ _ _ _ _ _ _ _ hne]; exact a0
  · rw [cell_set7 _ _ _ _ _ _ _ _ _ _ _ hne]; exact a1
  · rw [cell_set7 _ _ _ _ _ _ _ _ _ _ _ hne]; exact a3
  · exact hz.set7 ⟨yp, yo, yq, [], yc, yb, ye⟩ none 0
end

end Go.Proofs.YtkcdmonmgnmojaaDoor
