/- Four calls handed in as an array, opened. -/
import Derived.Test.YtopclkkkchhgiaaDoorHOpen
namespace Go.Proofs.YtopclkkkchhgiaaDoor
open Go.RowKit Go.ChangeShapes Go.WideShapes Go.ChangeAt

theorem okWide_arr {P : Program} {w : World} {r : Reach} {b n : Nat} {t e : TypeId} {v : Value} (ht : P.underlying t = some (.array n e)) (h : Value.okWide P w r b t v) : ∃ cs, v = .agg cs ∧ cs.size = P.cellsOf t := by
  simp only [Value.okWide, ht] at h
  obtain ⟨cs, h1, h2, _⟩ := h
  exact ⟨cs, h1, h2⟩
theorem split7 {α : Type} (l : List α) (h : l.length = 28) : l = (l.drop 0).take 7 ++ ((l.drop 7).take 7 ++ ((l.drop 14).take 7 ++ (l.drop 21).take 7)) := by
  have e1 := (List.take_append_drop 7 l).symm
  have e2 := (List.take_append_drop 7 (l.drop 7)).symm
  have e3 := (List.take_append_drop 7 (l.drop 14)).symm
  rw [List.drop_drop] at e2 e3
  have e4 : (l.drop 21).take 7 = l.drop 21 := List.take_of_length_le (by simp; omega)
  rw [e4, List.drop_zero, ← e3, ← e2, ← e1]
section
variable {H : Type} {enc : TypeId × Value → H} {w : World} {base : Nat} {spare : Nat → Bool} {held : Bool}
set_option maxRecDepth 100000 in
theorem open_four {v : Value} {d : DataW H} {p : List MemPlace} {r : Reach} {b : Nat} (hv : Value.okWide Tryd.prog w r b 50 v) (h : DataW.Trod enc Tryd.prog w base spare held 50 v d p) :
    ∃ (xa xb xc xd : Cl) (Aa Ab Ac Ad : Option Addr) (ca cb cc cd : Nat), v = .agg #[.int .i64 xa.p, .int .i64 xa.o, .int .i64 xa.q, .slice Aa xa.r.length ca, .int .i64 xa.c, .int .i64 xa.b, .int .i64 xa.e, .int .i64 xb.p, .int .i64 xb.o, .int .i64 xb.q, .slice Ab xb.r.length cb, .int .i64 xb.c, .int .i64 xb.b, .int .i64 xb.e, .int .i64 xc.p, .int .i64 xc.o, .int .i64 xc.q, .slice Ac xc.r.length cc, .int .i64 xc.c, .int .i64 xc.b, .int .i64 xc.e, .int .i64 xd.p, .int .i64 xd.o, .int .i64 xd.q, .slice Ad xd.r.length cd, .int .i64 xd.c, .int .i64 xd.b, .int .i64 xd.e] ∧ Ws w w.heap.size Aa xa.r ∧ xa.r.length ≤ ca ∧ ca ≤ maxLen := by
  obtain ⟨cs, rfl, hc⟩ := okWide_arr Tryd.underlying50 hv
  obtain ⟨fuel, hf⟩ := h
  have hl : cs.toList.length = 28 := by rw [Array.length_toList, hc]; kernel_rfl
  have c7 : Tryd.prog.cellsOf 47 = 7 := by kernel_rfl
  obtain ⟨xs, m, _, _, _, hxl, hg⟩ := DataW.trod_array Tryd.underlying50 (show DataW.trod enc Tryd.prog w base spare held fuel 50 cs.toList = _ from hf)
  rw [c7] at hg
  have hgo : ∀ i, i < 4 → ∃ e : Cl × Option Addr × Nat, (cs.toList.drop (i * 7)).take 7 = clE.cells e ∧ clOk w e := fun i hi => by
    obtain ⟨y, hy⟩ := get_some (show i < xs.length by omega)
    exact open_clcells ((hg i hi).trans hy)
  obtain ⟨⟨xa, Aa, ca⟩, ea, oa⟩ := hgo 0 (by omega)
  obtain ⟨⟨xb, Ab, cb⟩, eb, _⟩ := hgo 1 (by omega)
  obtain ⟨⟨xc, Ac, cc⟩, ec, _⟩ := hgo 2 (by omega)
  obtain ⟨⟨xd, Ad, cd⟩, ed, _⟩ := hgo 3 (by omega)
  have hs := split7 cs.toList hl
  rw [show (cs.toList.drop 0).take 7 = _ from ea, show (cs.toList.drop 7).take 7 = _ from eb, show (cs.toList.drop 14).take 7 = _ from ec, show (cs.toList.drop 21).take 7 = _ from ed] at hs
  exact ⟨xa, xb, xc, xd, Aa, Ab, Ac, Ad, ca, cb, cc, cd, congrArg Value.agg (Array.toList_inj.1 (hs.trans rfl)), oa.1, oa.2.1, oa.2.2⟩
end

end Go.Proofs.YtopclkkkchhgiaaDoor
