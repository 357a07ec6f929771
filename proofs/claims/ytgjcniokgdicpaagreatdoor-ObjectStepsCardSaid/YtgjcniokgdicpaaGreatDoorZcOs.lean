/- The statement ObjectSteps: its case opened, and the law. -/
import Derived.Test.YtgjcniokgdicpaaGreatDoorZcA
import Derived.ProofKit
import Derived.OpenShut
import Derived.ShutString
import Derived.ChangeOld
import Derived.Below
import Derived.Deep.Slices
import Derived.ChangeSame
import Derived.Test.YtgjcniokgdicpaaGreatDoorZcOrW
import Derived.Lib.LaidTab
namespace Go.Proofs.YtgjcniokgdicpaaGreatDoor
open Go.RowKit Go.ChangeShapes Go.WideShapes Go.ChangeAt
theorem exists_list {α : Type} (p : Nat → α → Prop) : ∀ n : Nat, (∀ i, i < n → ∃ x, p i x) → ∃ l : List α, l.length = n ∧ ∀ k x, l[k]? = some x → p k x
 | 0, _ => ⟨[], rfl, fun k x h => by simp at h⟩
 | n + 1, h => by
  obtain ⟨l, hl, hp⟩ := exists_list p n (fun i hi => h i (by omega))
  obtain ⟨x, hx⟩ := h n (by omega)
  refine ⟨l ++ [x], by simp [hl], fun k y hk => ?_⟩
  by_cases hkn : k < n
  ·rw [List.getElem?_append_left (by omega)] at hk
   exact hp k y hk
  ·rw [List.getElem?_append_right (by omega), hl] at hk
   have : k - n = 0 := by
    have := get_lt hk
    simp at this; omega
   have hkn' : k = n := by omega
   subst hkn'
   simp at hk
   subst hk
   exact hx
theorem sl_of_cells {α : Type} {E : Enc α} {w : World} {a : Addr} {l : List α} (h : ∀ k x, l[k]? = some x → ∀ j u, (E.cells x)[j]? = some u → w.cell? (a.add (k * E.size + j)) = some u) :
  SlOf E w w.heap.size (some a) l := by
 intro k x hk
 have h0 : ∃ y, l[0]? = some y := get_some (by have := get_lt hk; omega)
 obtain ⟨y, hy⟩ := h0
 have hs : 0 < (E.cells y).length := by rw [E.len]; exact E.pos
 obtain ⟨u, hu⟩ := get_some hs
 have hc := h 0 y hy 0 u hu
 have e0 : 0 * E.size + 0 = 0 := by simp
 rw [e0] at hc
 have hsp := World.cell?_spot hc
 have hb := cell_lt hc
 rw [add_block] at hb
 obtain ⟨b, off, spot⟩ := a
 have : spot = none := by simpa [Addr.add] using hsp
 subst this
 refine ⟨b, off, rfl, hb, fun j u hu => ?_⟩
 have := h k x hk j u hu
 rwa [Addr.add_lit] at this
section
variable {H : Type} {enc : TypeId × Value → H} {P : Program} {w : World} {base : Nat} {spare : Nat → Bool} {held : Bool}
theorem open_list {α : Type} {E : Enc α} {ok : α → Prop} {t e : TypeId} {v : Value} {fuel : Nat} {x : DataW H × List MemPlace} (ht : P.underlying t = some (.slice e)) (hC : P.cellsOf e = E.size)
  (hel : ∀ n cs y, DataW.trod enc P w base spare held n e cs = some y → ∃ z, cs = E.cells z ∧ ok z) (h : DataW.trod enc P w base spare held fuel t [v] = some x) :
  ∃ A c l, v = .slice A l.length c ∧ l.length ≤ c ∧ c ≤ maxLen ∧ SlOf E w w.heap.size A l ∧ ∀ y ∈ l, ok y := by
 rcases Go.Deep.open_slice ht h with ⟨hv, _⟩ | ⟨a, len, cap, m, n, D, Pl, hv, hb, hl, hm, hmm, rfl, hx⟩
 ·simp at hv
  subst hv
  exact ⟨none, 0, [], rfl, by simp, by simp [maxLen], SlOf.nil, by simp⟩
 ·simp at hv
  subst hv
  have hlm : len ≤ m := by rw [hmm]; split <;> omega
  obtain ⟨l, hll, hp⟩ := exists_list (fun i z => (∀ j u, (E.cells z)[j]? = some u → w.cell? (a.add (i * E.size + j)) = some u) ∧ ok z) len (fun i hi => by
   obtain ⟨cs, hc, ht'⟩ := hx i (by omega)
   obtain ⟨z, rfl, hok⟩ := hel _ _ _ ht'
   rw [hC] at hc
   obtain ⟨_, _, hcell⟩ := World.cells?_some hc
   refine ⟨z, fun j u hu => ?_, hok⟩
   have hj : j < E.size := by rw [← E.len z]; exact get_lt hu
   have := hcell j hj
   rw [add_add', hu] at this
   exact this)
  refine ⟨some a, cap, l, by rw [hll], by omega, hm, sl_of_cells (fun k x hk => (hp k x hk).1), fun y hy => ?_⟩
  obtain ⟨k, hk⟩ := List.getElem?_of_mem hy
  exact (hp k y hk).2
theorem open_int_list {q : IntKind} {t e : TypeId} {v : Value} {fuel : Nat} {x : DataW H × List MemPlace} (ht : P.underlying t = some (.slice e)) (he : P.underlying e = some (.int q)) (hC : P.cellsOf e = 1)
  (h : DataW.trod enc P w base spare held fuel t [v] = some x) :
  ∃ A c l, v = .slice A l.length c ∧ l.length ≤ c ∧ c ≤ maxLen ∧ SlOf (ints q) w w.heap.size A l ∧ ∀ y ∈ l, (Lit.int q y).wf = true :=
 open_list (E := ints q) ht hC (fun n cs y hy => by
  obtain ⟨z, rfl, _, hz⟩ := DataW.trod_int he hy
  exact ⟨z, rfl, hz⟩) h
end
end Go.Proofs.YtgjcniokgdicpaaGreatDoor

namespace Go.Proofs.YtgjcniokgdicpaaGreatDoor
open Go.RowKit Go.ChangeShapes Go.WideShapes Go.ChangeAt
set_option maxRecDepth 100000
theorem objectSteps_any (c : Cs) (r l : List Int) (ps : List Pk) (W : World) (h : CsOk c r l ps W) (s0 : 0 ≤ c.o.st) (s1 : c.o.st < 4294967296) : Calls Tryz.prog 5 #[.agg (csA c)] W fun e w' => e = .returned (.bool true) ∧ Below W.heap.size W w' := by
 by_cases hl : lightB c
 ·obtain ⟨h1, h2, h3, h4, h5⟩ := hl
  have hob : c.o.Ok := ⟨s0, s1, by omega, by omega⟩
  have hrl : r.length ≤ 1000000 := by have := h.rn; omega
  have hli : decide (lightB c) = true := decide_eq_true ⟨h1, h2, h3, h4, h5⟩
  by_cases hc : begE c.o c.a c.op c.rd r.length = 0
  ·exact stps_M c r l ps W h hob hrl hli hc
  ·exact stps_E c r l ps W h hob hrl hli hc
 ·exact stps_N c r l ps W h (decide_eq_false hl)
section
variable {H : Type} {enc : TypeId × Value → H} {w : World} {base : Nat} {spare : Nat → Bool} {held : Bool}
theorem open_words {v : Value} {fuel : Nat} {x : DataW H × List MemPlace} (h : DataW.trod enc Tryz.prog w base spare held fuel 33 [v] = some x) :
  ∃ A c l, v = .slice A l.length c ∧ l.length ≤ c ∧ c ≤ maxLen ∧ Ws w w.heap.size A l := by
 obtain ⟨A, c, l, h1, h2, h3, h4, h5⟩ := open_int_list (q := .u32) Tryz.underlying33 Tryz.underlying32 (by kernel_rfl) h
 exact ⟨A, c, l, h1, h2, h3, h4, h5⟩
theorem open_obplain {n : Nat} {cs : List Value} {y : DataW H × List MemPlace} (hy : DataW.trod enc Tryz.prog w base spare held n 36 cs = some y) :
  ∃ o : Ob, cs = (obA o).toList ∧ 0 ≤ o.st ∧ o.st < 4294967296 := by
 obtain ⟨xs, m, _, _, hl, hxl, hf⟩ := DataW.trod_struct Tryz.underlying36 hy
 have hl5 : cs.length = 8 := hl.trans (by kernel_rfl)
 have c1 : Tryz.prog.cellsOf 3 = 1 := by kernel_rfl
 have c2 : Tryz.prog.cellsOf 32 = 1 := by kernel_rfl
 have c3 : Tryz.prog.cellsOf 33 = 1 := by kernel_rfl
 have c4 : Tryz.prog.cellsOf 34 = 1 := by kernel_rfl
 match cs, hl5, xs, hxl with
 | [b0, b1, b2, b3, b4, b5, b6, b7], _, [y0, y1, y2, y3, y4, y5, y6, y7], _ =>
  have g0 := hf 0 _ rfl
  have g1 := hf 1 _ rfl
  have g2 := hf 2 _ rfl
  have g3 := hf 3 _ rfl
  have g4 := hf 4 _ rfl
  have g5 := hf 5 _ rfl
  have g6 := hf 6 _ rfl
  have g7 := hf 7 _ rfl
  simp [c1, c2, c3, c4] at g0 g1 g2 g3 g4 g5 g6 g7
  obtain ⟨z0, e0, _, _⟩ := DataW.trod_int Tryz.underlying3 g0
  obtain ⟨z1, e1, _, _⟩ := DataW.trod_int Tryz.underlying3 g1
  obtain ⟨z2, e2, _, _⟩ := DataW.trod_int Tryz.underlying3 g2
  obtain ⟨z3, e3, _, _⟩ := DataW.trod_int Tryz.underlying3 g3
  obtain ⟨z4, e4, _, w4⟩ := DataW.trod_int Tryz.underlying32 g4
  obtain ⟨A5, k5, l5, e5, _⟩ := open_words g5
  obtain ⟨z6, e6, _, _⟩ := DataW.trod_int Tryz.underlying3 g6
  obtain ⟨A7, k7, l7, e7, _⟩ := open_int_list (q := .i64) Tryz.underlying34 Tryz.underlying3 (by kernel_rfl) g7
  simp at e0 e1 e2 e3 e4 e6
  subst e0 e1 e2 e3 e4 e5 e6 e7
  simp [Lit.wf, IntKind.min, IntKind.max, IntKind.signed, IntKind.bits] at w4
  exact ⟨⟨z0, z1, z2, z3, z4, A5, l5.length, k5, z6, A7, l7.length, k7⟩, rfl, w4.1, by show z4 < _; omega⟩
theorem open_pkcells {n : Nat} {cs : List Value} {y : DataW H × List MemPlace} (hy : DataW.trod enc Tryz.prog w base spare held n 95 cs = some y) :
  ∃ p : Pk, cs = pkE.cells p ∧ (0 ≤ p.w ∧ p.w < 4294967296) := by
 obtain ⟨xs, m, _, _, hl, hxl, hf⟩ := DataW.trod_struct Tryz.underlying95 hy
 have hl5 : cs.length = 3 := hl.trans (by kernel_rfl)
 have c1 : Tryz.prog.cellsOf 3 = 1 := by kernel_rfl
 have c2 : Tryz.prog.cellsOf 32 = 1 := by kernel_rfl
 match cs, hl5, xs, hxl with
 | [b0, b1, b2], _, [y0, y1, y2], _ =>
  have g0 := hf 0 _ rfl
  have g1 := hf 1 _ rfl
  have g2 := hf 2 _ rfl
  simp [c1, c2] at g0 g1 g2
  obtain ⟨z0, e0, _, _⟩ := DataW.trod_int Tryz.underlying3 g0
  obtain ⟨z1, e1, _, _⟩ := DataW.trod_int Tryz.underlying3 g1
  obtain ⟨z2, e2, _, w2⟩ := DataW.trod_int Tryz.underlying32 g2
  simp at e0 e1 e2
  subst e0 e1 e2
  simp [Lit.wf, IntKind.min, IntKind.max, IntKind.signed, IntKind.bits] at w2
  exact ⟨⟨z0, z1, z2⟩, rfl, w2.1, by show z2 < _; omega⟩
theorem open_pokes {v : Value} {fuel : Nat} {x : DataW H × List MemPlace} (h : DataW.trod enc Tryz.prog w base spare held fuel 37 [v] = some x) :
  ∃ A c l, v = .slice A l.length c ∧ l.length ≤ c ∧ c ≤ maxLen ∧ Pks w w.heap.size A l := by
 obtain ⟨A, c, l, h1, h2, h3, h4, h5⟩ := open_list (E := pkE) (ok := fun p => 0 ≤ p.w ∧ p.w < 4294967296) Tryz.underlying37 (by kernel_rfl) (fun n cs y hy => open_pkcells hy) h
 exact ⟨A, c, l, h1, h2, h3, h4, h5⟩
theorem open_case {v : Value} {d : DataW H} {p : List MemPlace} {r : Reach} {b : Nat} (hv : Value.okWide Tryz.prog w r b 39 v) (h : DataW.Trod enc Tryz.prog w base spare held 39 v d p) :
  ∃ (c : Cs) (r l : List Int) (ps : List Pk), v = .agg (csA c) ∧ 0 ≤ c.o.st ∧ c.o.st < 4294967296 ∧ c.rn = r.length ∧ c.ln = l.length ∧ c.pn = ps.length ∧ Ws w w.heap.size c.RA r ∧ Ws w w.heap.size c.LA l ∧ Pks w w.heap.size c.PA ps ∧ -9223372036854775808 ≤ c.a ∧ c.a < 9223372036854775808 := by
 obtain ⟨cs, rfl, hc⟩ := okWide_struct Tryz.underlying39 hv
 obtain ⟨fuel, hy⟩ := h
 obtain ⟨xs, m, _, _, hl, hxl, hf⟩ := DataW.trod_struct Tryz.underlying39 (show DataW.trod enc Tryz.prog w base spare held fuel 39 cs.toList = _ from hy)
 have hl5 : cs.toList.length = 14 := hl.trans (by kernel_rfl)
 have c1 : Tryz.prog.cellsOf 3 = 1 := by kernel_rfl
 have c2 : Tryz.prog.cellsOf 36 = 8 := by kernel_rfl
 have c3 : Tryz.prog.cellsOf 33 = 1 := by kernel_rfl
 have c4 : Tryz.prog.cellsOf 37 = 1 := by kernel_rfl
 obtain ⟨csl⟩ := cs
 simp only at hl5 hf
 match csl, hl5, xs, hxl with
 | [b0, b1, b2, b3, b4, b5, b6, b7, b8, b9, b10, b11, b12, b13], _, [y0, y1, y2, y3, y4, y5, y6], _ =>
  have g0 := hf 0 _ rfl
  have g1 := hf 1 _ rfl
  have g2 := hf 2 _ rfl
  have g3 := hf 3 _ rfl
  have g4 := hf 4 _ rfl
  have g5 := hf 5 _ rfl
  have g6 := hf 6 _ rfl
  simp [c1, c2, c3, c4] at g0 g1 g2 g3 g4 g5 g6
  obtain ⟨o, e0, s0, s1⟩ := open_obplain g0
  obtain ⟨z1, e1, _, w1⟩ := DataW.trod_int Tryz.underlying3 g1
  obtain ⟨z2, e2, _, _⟩ := DataW.trod_int Tryz.underlying3 g2
  obtain ⟨z3, e3, _, _⟩ := DataW.trod_int Tryz.underlying3 g3
  obtain ⟨A4, k4, l4, e4, _, _, w4⟩ := open_words g4
  obtain ⟨A5, k5, l5, e5, _, _, w5⟩ := open_words g5
  obtain ⟨A6, k6, l6, e6, _, _, w6⟩ := open_pokes g6
  simp [obA] at e0 e1 e2 e3
  obtain ⟨q0, q1, q2, q3, q4, q5, q6, q7⟩ := e0
  subst q0 q1 q2 q3 q4 q5 q6 q7 e1 e2 e3 e4 e5 e6
  simp [Lit.wf, IntKind.min, IntKind.max, IntKind.signed, IntKind.bits] at w1
  exact ⟨⟨o, z1, z2, z3, A4, l4.length, k4, A5, l5.length, k5, A6, l6.length, k6⟩, l4, l5, l6, rfl, s0, s1, rfl, rfl, rfl, w4, w5, w6, w1.1, by show z1 < _; omega⟩
end
theorem tabIs_of_mem {P : Program} {W : World} {name : String} {k : IntKind} {zs : List Int} {g : Nat} {t e : TypeId} {n : Nat}
  (hg : P.globalNamed name = some g) (hty : (P.globals[g]?).map (·.type) = some t) (ht : P.underlying t = some (.array n e)) (he : P.underlying e = some (.int k)) (hce : P.cellsOf e = 1) (hct : P.cellsOf t = n) :
  ∀ (laid : List (String × DataW Unit)) (ps : List MemPlace), (name, Lib.tabData k zs) ∈ laid → DataW.LaidVars P W laid ps → Lib.TabIs P W name k zs
 | [], _, hm, _ => by simp at hm
 | x :: rest, ps, hm, h => by
  obtain ⟨g', t', cs, fuel, p, q, hg', ht', hvar, hd, hrest, _⟩ := h
  rcases List.mem_cons.1 hm with rfl | hm
  ·obtain rfl := Option.some.inj (hg.symm.trans hg')
   obtain rfl := Option.some.inj (hty.symm.trans ht')
   unfold Lib.TabIs
   rw [hvar, ← Lib.cells_of_tab ht he hce hct hd]
  ·exact tabIs_of_mem hg hty ht he hce hct rest q hm hrest
theorem laid_bruijn : (Rows.laid_math_bits_deBruijn64tab : DataW Unit) = Lib.tabData .u8 (Lib.deBruijn64tab.map Int.ofNat) := by kernel_rfl
theorem tab64_of {W : World} {laid : List (String × DataW Unit)} (h : ("math/bits.deBruijn64tab", (Rows.laid_math_bits_deBruijn64tab : DataW Unit)) ∈ laid ∧ laidMet Tryz.prog laid W) : Tab64 W ∧ gt0 < W.heap.size := by
 obtain ⟨hm, ps, hps, _⟩ := h
 rw [laid_bruijn] at hm
 have ht := tabIs_of_mem (g := 0) (t := 155) (e := 5) (n := 64) (by kernel_rfl) (by kernel_rfl) Tryz.underlying155 Tryz.underlying5 (by kernel_rfl) (by kernel_rfl) laid ps hm hps
 have h64 : Tab64 W := fun j hj => by
  have := ht.cell (g := 0) (by kernel_rfl) j (by rw [List.length_map]; exact hj)
  simpa [List.getD, hj] using this
 exact ⟨h64, cell_lt (h64 0 (by decide))⟩
end Go.Proofs.YtgjcniokgdicpaaGreatDoor
