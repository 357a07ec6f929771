/- An object handed in, opened. -/
import Derived.Test.YtgjcniokgdicpaaGreatDoorShL
import Derived.Test.YtgjcniokgdicpaaGreatDoorOpen
namespace Go.Proofs.YtgjcniokgdicpaaGreatDoor
open Go.RowKit Go.ChangeShapes Go.WideShapes Go.ChangeAt

section
variable {H : Type} {enc : TypeId × Value → H} {w : World} {base : Nat} {spare : Nat → Bool} {held : Bool}
theorem open_words {v : Value} {fuel : Nat} {x : DataW H × List MemPlace} (h : DataW.trod enc Tryz.prog w base spare held fuel 33 [v] = some x) :
    ∃ A c l, v = .slice A l.length c ∧ l.length ≤ c ∧ c ≤ maxLen ∧ Ws w w.heap.size A l := by
  obtain ⟨A, c, l, h1, h2, h3, h4, h5⟩ := open_int_list (q := .u32) Tryz.underlying33 Tryz.underlying32 (by kernel_rfl) h
  exact ⟨A, c, l, h1, h2, h3, h4, h5⟩
set_option maxRecDepth 100000 in
theorem open_obcells {n : Nat} {cs : List Value} {y : DataW H × List MemPlace} (hy : DataW.trod enc Tryz.prog w base spare held n 36 cs = some y) :
    ∃ (o : Ob) (l r : List Int), cs = (obA o).toList ∧ 0 ≤ o.st ∧ o.st < 4294967296 ∧ o.ni = l.length ∧ o.nr = r.length ∧ Ws w w.heap.size o.I l ∧ Is w w.heap.size o.R r ∧ (∀ x ∈ o.wr :: r, (Lit.int .i64 x).wf = true) := by
  obtain ⟨xs, m, _, _, hl, hxl, hf⟩ := DataW.trod_struct Tryz.underlying36 hy
  have hl5 : cs.length = 8 := hl.trans (by kernel_rfl)
  have c1 : Tryz.prog.cellsOf 3 = 1 := by kernel_rfl
  have c2 : Tryz.prog.cellsOf 32 = 1 := by kernel_rfl
  have c3 : Tryz.prog.cellsOf 33 = 1 := by kernel_rfl
  have c4 : Tryz.prog.cellsOf 34 = 1 := by kernel_rfl
  match cs, hl5, xs, hxl with
  | [b0, b1, b2, b3, b4, b5, b6, b7], _, [y0, y1, y2, y3, y4, y5, y6, y7], _ =>
    have g0 := hf 0 _ rfl
    have g1 := hf 1 _ rfl
    have g2 := hf 2 _ rfl
    have g3 := hf 3 _ rfl
    have g4 := hf 4 _ rfl
    have g5 := hf 5 _ rfl
    have g6 := hf 6 _ rfl
    have g7 := hf 7 _ rfl
    simp [c1, c2, c3, c4] at g0 g1 g2 g3 g4 g5 g6 g7
    obtain ⟨z0, e0, _, _⟩ := DataW.trod_int Tryz.underlying3 g0
    obtain ⟨z1, e1, _, _⟩ := DataW.trod_int Tryz.underlying3 g1
    obtain ⟨z2, e2, _, _⟩ := DataW.trod_int Tryz.underlying3 g2
    obtain ⟨z3, e3, _, _⟩ := DataW.trod_int Tryz.underlying3 g3
    obtain ⟨z4, e4, _, w4⟩ := DataW.trod_int Tryz.underlying32 g4
    obtain ⟨A5, k5, l5, e5, u5, m5, w5⟩ := open_words g5
    obtain ⟨z6, e6, _, w6⟩ := DataW.trod_int Tryz.underlying3 g6
    obtain ⟨A7, k7, l7, e7, u7, m7, w7, wf7⟩ := open_int_list (q := .i64) Tryz.underlying34 Tryz.underlying3 (by kernel_rfl) g7
    simp at e0 e1 e2 e3 e4 e6
    subst e0 e1 e2 e3 e4 e5 e6 e7
    simp [Lit.wf, IntKind.min, IntKind.max, IntKind.signed, IntKind.bits] at w4
    exact ⟨⟨z0, z1, z2, z3, z4, A5, l5.length, k5, z6, A7, l7.length, k7⟩, l5, l7, rfl, w4.1, by show z4 < _; omega, rfl, rfl, w5, w7, fun x hx => (List.mem_cons.1 hx).elim (fun q => by rw [q]; exact w6) (wf7 x)⟩
set_option maxRecDepth 100000 in
theorem open_object {v : Value} {d : DataW H} {p : List MemPlace} {r : Reach} {b : Nat} (hv : Value.okWide Tryz.prog w r b 36 v) (h : DataW.Trod enc Tryz.prog w base spare held 36 v d p) :
    ∃ (o : Ob) (l r : List Int), v = .agg (obA o) ∧ 0 ≤ o.st ∧ o.st < 4294967296 ∧ o.ni = l.length ∧ o.nr = r.length ∧ Ws w w.heap.size o.I l ∧ Is w w.heap.size o.R r ∧ (∀ x ∈ o.wr :: r, (Lit.int .i64 x).wf = true) := by
  obtain ⟨cs, rfl, hc⟩ := okWide_struct Tryz.underlying36 hv
  obtain ⟨fuel, hf⟩ := h
  obtain ⟨o, l, r, e, rest⟩ := open_obcells (show DataW.trod enc Tryz.prog w base spare held fuel 36 cs.toList = _ from hf)
  exact ⟨o, l, r, congrArg Value.agg (Array.toList_inj.1 e), rest⟩
end

end Go.Proofs.YtgjcniokgdicpaaGreatDoor
