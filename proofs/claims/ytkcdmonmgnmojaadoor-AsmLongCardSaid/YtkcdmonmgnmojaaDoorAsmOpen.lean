/- Arguments of the laws on instructions, opened. -/
import Derived.Test.YtkcdmonmgnmojaaDoorAsmAw
import Derived.Test.YtkcdmonmgnmojaaDoorTabOpen
namespace Go.Proofs.YtkcdmonmgnmojaaDoor
open Go.RowKit Go.ChangeShapes Go.WideShapes Go.ChangeAt

theorem mx_of {W : World} (h : W.ShapedOpen Tryd.prog) : Mx W := Tryd.laysM146.s1_3 W h

section
variable {H : Type} {enc : TypeId × Value → H} {w : World} {base : Nat} {spare : Nat → Bool} {held : Bool}
set_option maxRecDepth 100000 in
theorem open_incells {n : Nat} {cs : List Value} {y : DataW H × List MemPlace} (hy : DataW.trod enc Tryd.prog w base spare held n 24 cs = some y) : ∃ e : Ins, cs = e.cells ∧ e.ok := by
  obtain ⟨xs, m, _, _, hl, hxl, hf⟩ := DataW.trod_struct Tryd.underlying24 hy
  have hl5 : cs.length = 5 := hl.trans (by kernel_rfl)
  have c1 : Tryd.prog.cellsOf 3 = 1 := by kernel_rfl
  have cu : Tryd.prog.cellsOf 22 = 1 := by kernel_rfl
  match cs, hl5, xs, hxl with
  | [c0, c1', c2, c3, c4], _, [y0, y1, y2, y3, y4], _ =>
    have g0 := hf 0 _ rfl
    have g1 := hf 1 _ rfl
    have g2 := hf 2 _ rfl
    have g3 := hf 3 _ rfl
    have g4 := hf 4 _ rfl
    simp [c1, cu] at g0 g1 g2 g3 g4
    obtain ⟨z0, e0, _, w0⟩ := DataW.trod_int Tryd.underlying3 g0
    obtain ⟨z1, e1, _, w1⟩ := DataW.trod_int Tryd.underlying3 g1
    obtain ⟨z2, e2, _, w2⟩ := DataW.trod_int Tryd.underlying3 g2
    obtain ⟨z3, e3, _, w3⟩ := DataW.trod_int Tryd.underlying3 g3
    obtain ⟨z4, e4, _, w4⟩ := DataW.trod_int Tryd.underlying22 g4
    simp at e0 e1 e2 e3 e4
    subst e0 e1 e2 e3 e4
    exact ⟨⟨z0, z1, z2, z3, z4⟩, rfl, w0, w1, w2, w3, w4⟩
theorem open_instrs {v : Value} {fuel : Nat} {x : DataW H × List MemPlace} (h : DataW.trod enc Tryd.prog w base spare held fuel 33 [v] = some x) :
    ∃ A c l, v = .slice A l.length c ∧ l.length ≤ c ∧ c ≤ maxLen ∧ InSl w w.heap.size A l := by
  obtain ⟨A, c, l, h1, h2, h3, h4, h5⟩ := open_list (E := insE) (ok := Ins.ok) Tryd.underlying33 (by kernel_rfl) (fun n cs y hy => open_incells hy) h
  exact ⟨A, c, l, h1, h2, h3, h4, h5⟩
set_option maxRecDepth 100000 in
theorem open_ins {v : Value} {d : DataW H} {p : List MemPlace} {r : Reach} {b : Nat} (hv : Value.okWide Tryd.prog w r b 24 v) (h : DataW.Trod enc Tryd.prog w base spare held 24 v d p) : ∃ e : Ins, v = insV e ∧ e.ok := by
  obtain ⟨cs, rfl, hc⟩ := okWide_struct Tryd.underlying24 hv
  obtain ⟨fuel, hf⟩ := h
  obtain ⟨e, h1, h2⟩ := open_incells hf
  have h3 : cs.toList = e.cells := h1
  exact ⟨e, congrArg Value.agg (Array.toList_inj.1 (h3.trans rfl)), h2⟩
end

end Go.Proofs.YtkcdmonmgnmojaaDoor
