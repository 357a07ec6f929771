/- Arguments of the laws on histories, opened. -/
import Derived.Test.YtkcdmonmgnmojaaDoorHPk
import Derived.Test.YtkcdmonmgnmojaaDoorTabOpen
namespace Go.Proofs.YtkcdmonmgnmojaaDoor
open Go.RowKit Go.ChangeShapes Go.WideShapes Go.ChangeAt

def clE : Enc (Cl × Option Addr × Nat) := ⟨fun y => [.int .i64 y.1.p, .int .i64 y.1.o, .int .i64 y.1.q, .slice y.2.1 y.1.r.length y.2.2, .int .i64 y.1.c, .int .i64 y.1.b, .int .i64 y.1.e], 7, fun _ => rfl, fun y u hu => by
  simp only [List.mem_cons, List.not_mem_nil, or_false] at hu
  rcases hu with rfl | rfl | rfl | rfl | rfl | rfl | rfl <;> rfl, by omega⟩
def clOk (w : World) (y : Cl × Option Addr × Nat) : Prop := Ws w w.heap.size y.2.1 y.1.r ∧ y.1.r.length ≤ y.2.2 ∧ y.2.2 ≤ maxLen

section
variable {H : Type} {enc : TypeId × Value → H} {w : World} {base : Nat} {spare : Nat → Bool} {held : Bool}
theorem open_words {v : Value} {fuel : Nat} {x : DataW H × List MemPlace} (h : DataW.trod enc Tryd.prog w base spare held fuel 43 [v] = some x) :
    ∃ A c l, v = .slice A l.length c ∧ l.length ≤ c ∧ c ≤ maxLen ∧ Ws w w.heap.size A l := by
  obtain ⟨A, c, l, h1, h2, h3, h4, h5⟩ := open_int_list (q := .u32) Tryd.underlying43 Tryd.underlying22 (by kernel_rfl) h
  exact ⟨A, c, l, h1, h2, h3, h4, h5⟩
set_option maxRecDepth 100000 in
theorem open_clcells {n : Nat} {cs : List Value} {y : DataW H × List MemPlace} (hy : DataW.trod enc Tryd.prog w base spare held n 45 cs = some y) : ∃ e : Cl × Option Addr × Nat, cs = clE.cells e ∧ clOk w e := by
  obtain ⟨xs, m, _, _, hl, hxl, hf⟩ := DataW.trod_struct Tryd.underlying45 hy
  have hl5 : cs.length = 7 := hl.trans (by kernel_rfl)
  have c1 : Tryd.prog.cellsOf 3 = 1 := by kernel_rfl
  have c3 : Tryd.prog.cellsOf 43 = 1 := by kernel_rfl
  match cs, hl5, xs, hxl with
  | [c0, c1', c2, c3', c4, c5, c6], _, [y0, y1, y2, y3, y4, y5, y6], _ =>
    have g0 := hf 0 _ rfl
    have g1 := hf 1 _ rfl
    have g2 := hf 2 _ rfl
    have g3 := hf 3 _ rfl
    have g4 := hf 4 _ rfl
    have g5 := hf 5 _ rfl
    have g6 := hf 6 _ rfl
    simp [c1, c3] at g0 g1 g2 g3 g4 g5 g6
    obtain ⟨z0, e0, _, _⟩ := DataW.trod_int Tryd.underlying3 g0
    obtain ⟨z1, e1, _, _⟩ := DataW.trod_int Tryd.underlying3 g1
    obtain ⟨z2, e2, _, _⟩ := DataW.trod_int Tryd.underlying3 g2
    obtain ⟨A3, k3, l3, e3, u3, m3, w3⟩ := open_words g3
    obtain ⟨z4, e4, _, _⟩ := DataW.trod_int Tryd.underlying3 g4
    obtain ⟨z5, e5, _, _⟩ := DataW.trod_int Tryd.underlying3 g5
    obtain ⟨z6, e6, _, _⟩ := DataW.trod_int Tryd.underlying3 g6
    simp at e0 e1 e2 e4 e5 e6
    subst e0 e1 e2 e3 e4 e5 e6
    exact ⟨⟨⟨z0, z1, z2, l3, z4, z5, z6⟩, A3, k3⟩, rfl, w3, u3, m3⟩
theorem open_calls {v : Value} {fuel : Nat} {x : DataW H × List MemPlace} (h : DataW.trod enc Tryd.prog w base spare held fuel 41 [v] = some x) :
    ∃ A c l, v = .slice A l.length c ∧ l.length ≤ c ∧ c ≤ maxLen ∧ ClSl w w.heap.size A l := by
  obtain ⟨A, c, l, h1, h2, h3, h4, h5⟩ := open_list (E := clE) (ok := clOk w) Tryd.underlying41 (by kernel_rfl) (fun n cs y hy => open_clcells hy) h
  refine ⟨A, c, l.map (·.1), by rw [List.length_map]; exact h1, by rw [List.length_map]; exact h2, h3, fun k x hx => ?_⟩
  rw [List.getElem?_map, Option.map_eq_some_iff] at hx
  obtain ⟨y, hy, rfl⟩ := hx
  obtain ⟨b, off, hA, hb, hc⟩ := h4 k y hy
  obtain ⟨o1, o2, o3⟩ := h5 y (List.mem_of_getElem? hy)
  have hj : ∀ j u, (clE.cells y)[j]? = some u → w.cell? ⟨b, off + k * 7 + j, none⟩ = some u := fun j u hu => by
    have := hc j u hu
    rwa [← Nat.add_assoc] at this
  exact ⟨b, off, y.2.1, y.2.2, hA, hb, ⟨hj 0 _ rfl, hj 1 _ rfl, hj 2 _ rfl, hj 3 _ rfl, hj 4 _ rfl, hj 5 _ rfl, hj 6 _ rfl⟩, o1, o2, o3⟩
end

end Go.Proofs.YtkcdmonmgnmojaaDoor
