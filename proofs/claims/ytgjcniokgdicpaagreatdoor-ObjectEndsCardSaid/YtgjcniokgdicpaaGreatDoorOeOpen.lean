/- The statement ObjectEnds: its case opened, and the law. -/
import Derived.Test.YtgjcniokgdicpaaGreatDoorOgZ
import Derived.Test.YtgjcniokgdicpaaGreatDoorOpen
import Derived.Lib.LaidTab
namespace Go.Proofs.YtgjcniokgdicpaaGreatDoor
open Go.RowKit Go.ChangeShapes Go.WideShapes Go.ChangeAt

theorem objectEnds_any (c : Cs) (r l : List Int) (ps : List Pk) (W : World) (h : CsOk c r l ps W) (s0 : 0 ≤ c.o.st) (s1 : c.o.st < 4294967296) : Calls Tryz.prog 4 #[.agg (csA c)] W fun e w' => e = .returned (.bool true) ∧ Below W.heap.size W w' := by
  by_cases hl : lightB c
  · obtain ⟨h1, h2, h3, h4, h5⟩ := hl
    have hob : c.o.Ok := ⟨s0, s1, by omega, by omega⟩
    have hrl : r.length ≤ 1000000 := by have := h.rn; omega
    have hli : decide (lightB c) = true := decide_eq_true ⟨h1, h2, h3, h4, h5⟩
    by_cases hc : begE c.o c.a c.op c.rd r.length = 0
    · by_cases hA : c.a ≤ (c.ln : Int)
      · by_cases hS : sizeZ c.o ≤ (c.ln : Int) - c.a
        · exact ends_3 c r l ps W h hob hrl hli hc hA hS
        · exact ends_2 c r l ps W h hob hrl hli hc hA (by omega)
      · exact ends_1 c r l ps W h hob hrl hli hc (by omega)
    · exact ends_E c r l ps W h hob hrl hli hc
  · exact ends_N c r l ps W h (decide_eq_false hl)

section
variable {H : Type} {enc : TypeId × Value → H} {w : World} {base : Nat} {spare : Nat → Bool} {held : Bool}
theorem open_words {v : Value} {fuel : Nat} {x : DataW H × List MemPlace} (h : DataW.trod enc Tryz.prog w base spare held fuel 33 [v] = some x) :
    ∃ A c l, v = .slice A l.length c ∧ l.length ≤ c ∧ c ≤ maxLen ∧ Ws w w.heap.size A l := by
  obtain ⟨A, c, l, h1, h2, h3, h4, h5⟩ := open_int_list (q := .u32) Tryz.underlying33 Tryz.underlying32 (by kernel_rfl) h
  exact ⟨A, c, l, h1, h2, h3, h4, h5⟩
set_option maxRecDepth 100000 in
theorem open_obplain {n : Nat} {cs : List Value} {y : DataW H × List MemPlace} (hy : DataW.trod enc Tryz.prog w base spare held n 36 cs = some y) :
    ∃ o : Ob, cs = (obA o).toList ∧ 0 ≤ o.st ∧ o.st < 4294967296 := by
  obtain ⟨xs, m, _, _, hl, hxl, hf⟩ := DataW.trod_struct Tryz.underlying36 hy
  have hl5 : cs.length = 8 := hl.trans (by kernel_rfl)
  have c1 : Tryz.prog.cellsOf 3 = 1 := by kernel_rfl
  have c2 : Tryz.prog.cellsOf 32 = 1 := by kernel_rfl
  have c3 : Tryz.prog.cellsOf 33 = 1 := by kernel_rfl
  have c4 : Tryz.prog.cellsOf 34 = 1 := by kernel_rfl
  match cs, hl5, xs, hxl with
  | [b0, b1, b2, b3, b4, b5, b6, b7], _, [y0, y1, y2, y3, y4, y5, y6, y7], _ =>
    have g0 := hf 0 _ rfl
    have g1 := hf 1 _ rfl
    have g2 := hf 2 _ rfl
    have g3 := hf 3 _ rfl
    have g4 := hf 4 _ rfl
    have g5 := hf 5 _ rfl
    have g6 := hf 6 _ rfl
    have g7 := hf 7 _ rfl
    simp [c1, c2, c3, c4] at g0 g1 g2 g3 g4 g5 g6 g7
    obtain ⟨z0, e0, _, _⟩ := DataW.trod_int Tryz.underlying3 g0
    obtain ⟨z1, e1, _, _⟩ := DataW.trod_int Tryz.underlying3 g1
    obtain ⟨z2, e2, _, _⟩ := DataW.trod_int Tryz.underlying3 g2
    obtain ⟨z3, e3, _, _⟩ := DataW.trod_int Tryz.underlying3 g3
    obtain ⟨z4, e4, _, w4⟩ := DataW.trod_int Tryz.underlying32 g4
    obtain ⟨A5, k5, l5, e5, _⟩ := open_words g5
    obtain ⟨z6, e6, _, _⟩ := DataW.trod_int Tryz.underlying3 g6
    obtain ⟨A7, k7, l7, e7, _⟩ := open_int_list (q := .i64) Tryz.underlying34 Tryz.underlying3 (by kernel_rfl) g7
    simp at e0 e1 e2 e3 e4 e6
    subst e0 e1 e2 e3 e4 e5 e6 e7
    simp [Lit.wf, IntKind.min, IntKind.max, IntKind.signed, IntKind.bits] at w4
    exact ⟨⟨z0, z1, z2, z3, z4, A5, l5.length, k5, z6, A7, l7.length, k7⟩, rfl, w4.1, by show z4 < _; omega⟩
set_option maxRecDepth 100000 in
theorem open_pkcells {n : Nat} {cs : List Value} {y : DataW H × List MemPlace} (hy : DataW.trod enc Tryz.prog w base spare held n 95 cs = some y) :
    ∃ p : Pk, cs = pkE.cells p ∧ (0 ≤ p.w ∧ p.w < 4294967296) := by
  obtain ⟨xs, m, _, _, hl, hxl, hf⟩ := DataW.trod_struct Tryz.underlying95 hy
  have hl5 : cs.length = 3 := hl.trans (by kernel_rfl)
  have c1 : Tryz.prog.cellsOf 3 = 1 := by kernel_rfl
  have c2 : Tryz.prog.cellsOf 32 = 1 := by kernel_rfl
  match cs, hl5, xs, hxl with
  | [b0, b1, b2], _, [y0, y1, y2], _ =>
    have g0 := hf 0 _ rfl
    have g1 := hf 1 _ rfl
    have g2 := hf 2 _ rfl
    simp [c1, c2] at g0 g1 g2
    obtain ⟨z0, e0, _, _⟩ := DataW.trod_int Tryz.underlying3 g0
    obtain ⟨z1, e1, _, _⟩ := DataW.trod_int Tryz.underlying3 g1
    obtain ⟨z2, e2, _, w2⟩ := DataW.trod_int Tryz.underlying32 g2
    simp at e0 e1 e2
    subst e0 e1 e2
    simp [Lit.wf, IntKind.min, IntKind.max, IntKind.signed, IntKind.bits] at w2
    exact ⟨⟨z0, z1, z2⟩, rfl, w2.1, by show z2 < _; omega⟩
theorem open_pokes {v : Value} {fuel : Nat} {x : DataW H × List MemPlace} (h : DataW.trod enc Tryz.prog w base spare held fuel 37 [v] = some x) :
    ∃ A c l, v = .slice A l.length c ∧ l.length ≤ c ∧ c ≤ maxLen ∧ Pks w w.heap.size A l := by
  obtain ⟨A, c, l, h1, h2, h3, h4, h5⟩ := open_list (E := pkE) (ok := fun p => 0 ≤ p.w ∧ p.w < 4294967296) Tryz.underlying37 (by kernel_rfl) (fun n cs y hy => open_pkcells hy) h
  exact ⟨A, c, l, h1, h2, h3, h4, h5⟩
set_option maxRecDepth 100000 in
theorem open_case {v : Value} {d : DataW H} {p : List MemPlace} {r : Reach} {b : Nat} (hv : Value.okWide Tryz.prog w r b 39 v) (h : DataW.Trod enc Tryz.prog w base spare held 39 v d p) :
    ∃ (c : Cs) (r l : List Int) (ps : List Pk), v = .agg (csA c) ∧ 0 ≤ c.o.st ∧ c.o.st < 4294967296 ∧ c.rn = r.length ∧ c.ln = l.length ∧ c.pn = ps.length ∧ Ws w w.heap.size c.RA r ∧ Ws w w.heap.size c.LA l ∧ Pks w w.heap.size c.PA ps ∧ -9223372036854775808 ≤ c.a ∧ c.a < 9223372036854775808 := by
  obtain ⟨cs, rfl, hc⟩ := okWide_struct Tryz.underlying39 hv
  obtain ⟨fuel, hy⟩ := h
  obtain ⟨xs, m, _, _, hl, hxl, hf⟩ := DataW.trod_struct Tryz.underlying39 (show DataW.trod enc Tryz.prog w base spare held fuel 39 cs.toList = _ from hy)
  have hl5 : cs.toList.length = 14 := hl.trans (by kernel_rfl)
  have c1 : Tryz.prog.cellsOf 3 = 1 := by kernel_rfl
  have c2 : Tryz.prog.cellsOf 36 = 8 := by kernel_rfl
  have c3 : Tryz.prog.cellsOf 33 = 1 := by kernel_rfl
  have c4 : Tryz.prog.cellsOf 37 = 1 := by kernel_rfl
  obtain ⟨csl⟩ := cs
  simp only at hl5 hf
  match csl, hl5, xs, hxl with
  | [b0, b1, b2, b3, b4, b5, b6, b7, b8, b9, b10, b11, b12, b13], _, [y0, y1, y2, y3, y4, y5, y6], _ =>
    have g0 := hf 0 _ rfl
    have g1 := hf 1 _ rfl
    have g2 := hf 2 _ rfl
    have g3 := hf 3 _ rfl
    have g4 := hf 4 _ rfl
    have g5 := hf 5 _ rfl
    have g6 := hf 6 _ rfl
    simp [c1, c2, c3, c4] at g0 g1 g2 g3 g4 g5 g6
    obtain ⟨o, e0, s0, s1⟩ := open_obplain g0
    obtain ⟨z1, e1, _, w1⟩ := DataW.trod_int Tryz.underlying3 g1
    obtain ⟨z2, e2, _, _⟩ := DataW.trod_int Tryz.underlying3 g2
    obtain ⟨z3, e3, _, _⟩ := DataW.trod_int Tryz.underlying3 g3
    obtain ⟨A4, k4, l4, e4, _, _, w4⟩ := open_words g4
    obtain ⟨A5, k5, l5, e5, _, _, w5⟩ := open_words g5
    obtain ⟨A6, k6, l6, e6, _, _, w6⟩ := open_pokes g6
    simp [obA] at e0 e1 e2 e3
    obtain ⟨q0, q1, q2, q3, q4, q5, q6, q7⟩ := e0
    subst q0 q1 q2 q3 q4 q5 q6 q7 e1 e2 e3 e4 e5 e6
    simp [Lit.wf, IntKind.min, IntKind.max, IntKind.signed, IntKind.bits] at w1
    exact ⟨⟨o, z1, z2, z3, A4, l4.length, k4, A5, l5.length, k5, A6, l6.length, k6⟩, l4, l5, l6, rfl, s0, s1, rfl, rfl, rfl, w4, w5, w6, w1.1, by show z1 < _; omega⟩
end

/-- A listed table, wherever it stands on the list. -/
theorem tabIs_of_mem {P : Program} {W : World} {name : String} {k : IntKind} {zs : List Int} {g : Nat} {t e : TypeId} {n : Nat}
    (hg : P.globalNamed name = some g) (hty : (P.globals[g]?).map (·.type) = some t) (ht : P.underlying t = some (.array n e)) (he : P.underlying e = some (.int k)) (hce : P.cellsOf e = 1) (hct : P.cellsOf t = n) :
    ∀ (laid : List (String × DataW Unit)) (ps : List MemPlace), (name, Lib.tabData k zs) ∈ laid → DataW.LaidVars P W laid ps → Lib.TabIs P W name k zs
  | [], _, hm, _ => by simp at hm
  | x :: rest, ps, hm, h => by
    obtain ⟨g', t', cs, fuel, p, q, hg', ht', hvar, hd, hrest, _⟩ := h
    rcases List.mem_cons.1 hm with rfl | hm
    · obtain rfl := Option.some.inj (hg.symm.trans hg')
      obtain rfl := Option.some.inj (hty.symm.trans ht')
      unfold Lib.TabIs
      rw [hvar, ← Lib.cells_of_tab ht he hce hct hd]
    · exact tabIs_of_mem hg hty ht he hce hct rest q hm hrest
theorem laid_bruijn : (Rows.laid_math_bits_deBruijn64tab : DataW Unit) = Lib.tabData .u8 (Lib.deBruijn64tab.map Int.ofNat) := by kernel_rfl
theorem tab64_of {W : World} {laid : List (String × DataW Unit)} (h : ("math/bits.deBruijn64tab", (Rows.laid_math_bits_deBruijn64tab : DataW Unit)) ∈ laid ∧ laidMet Tryz.prog laid W) : Tab64 W ∧ gt0 < W.heap.size := by
  obtain ⟨hm, ps, hps, _⟩ := h
  rw [laid_bruijn] at hm
  have ht := tabIs_of_mem (g := 0) (t := 155) (e := 5) (n := 64) (by kernel_rfl) (by kernel_rfl) Tryz.underlying155 Tryz.underlying5 (by kernel_rfl) (by kernel_rfl) laid ps hm hps
  have h64 : Tab64 W := fun j hj => by
    have := ht.cell (g := 0) (by kernel_rfl) j (by rw [List.length_map]; exact hj)
    simpa [List.getD, hj] using this
  exact ⟨h64, cell_lt (h64 0 (by decide))⟩

end Go.Proofs.YtgjcniokgdicpaaGreatDoor
