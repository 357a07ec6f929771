/- Texts joined: An argument that is a slice, opened to a list. The listed table of powers of ten. A system handed in, opened. Sources: are tasks and objects few? The law SourcePrints, walked. -/
import Derived.Test.YtfgmebjbibbpdaaGreatDoorZs1
import Derived.ProofKit
import Derived.OpenShut
import Derived.ShutString
import Derived.ChangeOld
import Derived.Below
import Derived.Deep.Slices
import Derived.ChangeSame
import Derived.Lib.LaidTab
import Derived.Test.YtfgmebjbibbpdaaGreatDoorZs9
import Derived.Test.YtfgmebjbibbpdaaGreatDoorZs4
import Derived.Test.YtfgmebjbibbpdaaGreatDoorZs6
namespace Go.Proofs.YtfgmebjbibbpdaaGreatDoor
open Go.RowKit Go.ChangeShapes Go.WideShapes Go.ChangeAt

theorem exists_list {α : Type} (p : Nat → α → Prop) : ∀ n : Nat, (∀ i, i < n → ∃ x, p i x) → ∃ l : List α, l.length = n ∧ ∀ k x, l[k]? = some x → p k x
  | 0, _ => ⟨[], rfl, fun k x h => by simp at h⟩
  | n + 1, h => by
    obtain ⟨l, hl, hp⟩ := exists_list p n (fun i hi => h i (by omega))
    obtain ⟨x, hx⟩ := h n (by omega)
    refine ⟨l ++ [x], by simp [hl], fun k y hk => ?_⟩
    by_cases hkn : k < n
    · rw [List.getElem?_append_left (by omega)] at hk
      exact hp k y hk
    · rw [List.getElem?_append_right (by omega), hl] at hk
      have : k - n = 0 := by
        have := get_lt hk
        simp at this; omega
      have hkn' : k = n := by omega
      subst hkn'
      simp at hk
      subst hk
      exact hx

theorem sl_of_cells {α : Type} {E : Enc α} {w : World} {a : Addr} {l : List α} (h : ∀ k x, l[k]? = some x → ∀ j u, (E.cells x)[j]? = some u → w.cell? (a.add (k * E.size + j)) = some u) :
    SlOf E w w.heap.size (some a) l := by
  intro k x hk
  have h0 : ∃ y, l[0]? = some y := get_some (by have := get_lt hk; omega)
  obtain ⟨y, hy⟩ := h0
  have hs : 0 < (E.cells y).length := by rw [E.len]; exact E.pos
  obtain ⟨u, hu⟩ := get_some hs
  have hc := h 0 y hy 0 u hu
  have e0 : 0 * E.size + 0 = 0 := by simp
  rw [e0] at hc
  have hsp := World.cell?_spot hc
  have hb := cell_lt hc
  rw [add_block] at hb
  obtain ⟨b, off, spot⟩ := a
  have : spot = none := by simpa [Addr.add] using hsp
  subst this
  refine ⟨b, off, rfl, hb, fun j u hu => ?_⟩
  have := h k x hk j u hu
  rwa [Addr.add_lit] at this

section
variable {H : Type} {enc : TypeId × Value → H} {P : Program} {w : World} {base : Nat} {spare : Nat → Bool} {held : Bool}

theorem open_list {α : Type} {E : Enc α} {ok : α → Prop} {t e : TypeId} {v : Value} {fuel : Nat} {x : DataW H × List MemPlace} (ht : P.underlying t = some (.slice e)) (hC : P.cellsOf e = E.size)
    (hel : ∀ n cs y, DataW.trod enc P w base spare held n e cs = some y → ∃ z, cs = E.cells z ∧ ok z) (h : DataW.trod enc P w base spare held fuel t [v] = some x) :
    ∃ A c l, v = .slice A l.length c ∧ l.length ≤ c ∧ c ≤ maxLen ∧ SlOf E w w.heap.size A l ∧ ∀ y ∈ l, ok y := by
  rcases Go.Deep.open_slice ht h with ⟨hv, _⟩ | ⟨a, len, cap, m, n, D, Pl, hv, hb, hl, hm, hmm, rfl, hx⟩
  · simp at hv
    subst hv
    exact ⟨none, 0, [], rfl, by simp, by simp [maxLen], SlOf.nil, by simp⟩
  · simp at hv
    subst hv
    have hlm : len ≤ m := by rw [hmm]; split <;> omega
    obtain ⟨l, hll, hp⟩ := exists_list (fun i z => (∀ j u, (E.cells z)[j]? = some u → w.cell? (a.add (i * E.size + j)) = some u) ∧ ok z) len (fun i hi => by
      obtain ⟨cs, hc, ht'⟩ := hx i (by omega)
      obtain ⟨z, rfl, hok⟩ := hel _ _ _ ht'
      rw [hC] at hc
      obtain ⟨_, _, hcell⟩ := World.cells?_some hc
      refine ⟨z, fun j u hu => ?_, hok⟩
      have hj : j < E.size := by rw [← E.len z]; exact get_lt hu
      have := hcell j hj
      rw [add_add', hu] at this
      exact this)
    refine ⟨some a, cap, l, by rw [hll], by omega, hm, sl_of_cells (fun k x hk => (hp k x hk).1), fun y hy => ?_⟩
    obtain ⟨k, hk⟩ := List.getElem?_of_mem hy
    exact (hp k y hk).2

/-- Integers. -/
theorem open_int_list {q : IntKind} {t e : TypeId} {v : Value} {fuel : Nat} {x : DataW H × List MemPlace} (ht : P.underlying t = some (.slice e)) (he : P.underlying e = some (.int q)) (hC : P.cellsOf e = 1)
    (h : DataW.trod enc P w base spare held fuel t [v] = some x) :
    ∃ A c l, v = .slice A l.length c ∧ l.length ≤ c ∧ c ≤ maxLen ∧ SlOf (ints q) w w.heap.size A l ∧ ∀ y ∈ l, (Lit.int q y).wf = true :=
  open_list (E := ints q) ht hC (fun n cs y hy => by
    obtain ⟨z, rfl, _, hz⟩ := DataW.trod_int he hy
    exact ⟨z, rfl, hz⟩) h
end

end Go.Proofs.YtfgmebjbibbpdaaGreatDoor

namespace Go.Proofs.YtfgmebjbibbpdaaGreatDoor
open Go.RowKit Go.ChangeShapes Go.WideShapes Go.ChangeAt

/-- A listed table, wherever it stands on the list. -/
theorem tabIs_of_mem {P : Program} {W : World} {name : String} {k : IntKind} {zs : List Int} {g : Nat} {t e : TypeId} {n : Nat}
    (hg : P.globalNamed name = some g) (hty : (P.globals[g]?).map (·.type) = some t) (ht : P.underlying t = some (.array n e)) (he : P.underlying e = some (.int k)) (hce : P.cellsOf e = 1) (hct : P.cellsOf t = n) :
    ∀ (laid : List (String × DataW Unit)) (ps : List MemPlace), (name, Lib.tabData k zs) ∈ laid → DataW.LaidVars P W laid ps → Lib.TabIs P W name k zs
  | [], _, hm, _ => by simp at hm
  | x :: rest, ps, hm, h => by
    obtain ⟨g', t', cs, fuel, p, q, hg', ht', hvar, hd, hrest, _⟩ := h
    rcases List.mem_cons.1 hm with rfl | hm
    · obtain rfl := Option.some.inj (hg.symm.trans hg')
      obtain rfl := Option.some.inj (hty.symm.trans ht')
      unfold Lib.TabIs
      rw [hvar, ← Lib.cells_of_tab ht he hce hct hd]
    · exact tabIs_of_mem hg hty ht he hce hct rest q hm hrest

theorem laid_pow : (Rows.laid_internal_strconv_uint64pow10 : DataW Unit) = Lib.tabData .u64 Lib.pow10Tab := by kernel_rfl

theorem tab_of {W : World} {laid : List (String × DataW Unit)} (h : ("internal/strconv.uint64pow10", (Rows.laid_internal_strconv_uint64pow10 : DataW Unit)) ∈ laid ∧ laidMet Tryz.prog laid W) : Tab W := by
  obtain ⟨hm, ps, hps, _⟩ := h
  rw [laid_pow] at hm
  exact tabIs_of_mem (g := 1) (t := 165) (e := 125) (n := 20) (by kernel_rfl) (by kernel_rfl) Tryz.underlying165 Tryz.underlying125 (by kernel_rfl) (by kernel_rfl) laid ps hm hps

end Go.Proofs.YtfgmebjbibbpdaaGreatDoor

namespace Go.Proofs.YtfgmebjbibbpdaaGreatDoor
open Go.RowKit Go.ChangeShapes Go.WideShapes Go.ChangeAt

theorem mx_of {W : World} (h : W.ShapedOpen Tryz.prog) : Mx W := Tryz.laysM146.s1_3 W h
theorem i64_bd {z : Int} (h : (Lit.int .i64 z).wf = true) : -9223372036854775808 ≤ z ∧ z ≤ 9223372036854775807 := by
  simp [Lit.wf, IntKind.min, IntKind.max, IntKind.signed, IntKind.bits] at h
  omega

def tyE : Enc (Tk × Option Addr × Nat) := ⟨fun y => [.int .i64 y.1.kd, .int .i64 y.1.pr, .int .i64 y.1.pe, .int .i64 y.1.off, .int .i64 y.1.dl, .int .i64 y.1.ow, .slice y.2.1 y.1.code.length y.2.2], 7, fun _ => rfl, fun y u hu => by
  simp only [List.mem_cons, List.not_mem_nil, or_false] at hu
  rcases hu with rfl | rfl | rfl | rfl | rfl | rfl | rfl <;> rfl, by omega⟩
def tyOk (w : World) (y : Tk × Option Addr × Nat) : Prop := InSl w w.heap.size y.2.1 y.1.code ∧ (y.1.code.length ≤ y.2.2 ∧ y.2.2 ≤ maxLen) ∧ ∀ z ∈ y.1.kd :: y.1.five, -9223372036854775808 ≤ z ∧ z ≤ 9223372036854775807
def oyE : Enc (Oj × (Option Addr × Nat) × (Option Addr × Nat)) := ⟨fun y => [.int .i64 y.1.kd, .int .i64 y.1.wd, .int .i64 y.1.sl, .int .i64 y.1.cp, .int .u32 y.1.st, .slice y.2.1.1 y.1.ini.length y.2.1.2, .int .i64 y.1.wr, .slice y.2.2.1 y.1.rd.length y.2.2.2], 8, fun _ => rfl, fun y u hu => by
  simp only [List.mem_cons, List.not_mem_nil, or_false] at hu
  rcases hu with rfl | rfl | rfl | rfl | rfl | rfl | rfl | rfl <;> rfl, by omega⟩
def oyOk (w : World) (y : Oj × (Option Addr × Nat) × (Option Addr × Nat)) : Prop := (Ws w w.heap.size y.2.1.1 y.1.ini ∧ y.1.ini.length ≤ y.2.1.2 ∧ y.2.1.2 ≤ maxLen) ∧ (SlOf (ints .i64) w w.heap.size y.2.2.1 y.1.rd ∧ y.1.rd.length ≤ y.2.2.2 ∧ y.2.2.2 ≤ maxLen) ∧ (0 ≤ y.1.st ∧ y.1.st < 4294967296) ∧ ∀ z ∈ y.1.kd :: y.1.wd :: y.1.sl :: y.1.cp :: y.1.wr :: y.1.rd, -9223372036854775808 ≤ z ∧ z ≤ 9223372036854775807

section
variable {H : Type} {enc : TypeId × Value → H} {w : World} {base : Nat} {spare : Nat → Bool} {held : Bool}
set_option maxRecDepth 100000 in
theorem open_incells {n : Nat} {cs : List Value} {y : DataW H × List MemPlace} (hy : DataW.trod enc Tryz.prog w base spare held n 73 cs = some y) : ∃ e : Ins, cs = e.cells ∧ e.ok := by
  obtain ⟨xs, m, _, _, hl, hxl, hf⟩ := DataW.trod_struct Tryz.underlying73 hy
  have hl5 : cs.length = 5 := hl.trans (by kernel_rfl)
  have c1 : Tryz.prog.cellsOf 3 = 1 := by kernel_rfl
  have cu : Tryz.prog.cellsOf 38 = 1 := by kernel_rfl
  match cs, hl5, xs, hxl with
  | [c0, c1', c2, c3, c4], _, [y0, y1, y2, y3, y4], _ =>
    have g0 := hf 0 _ rfl
    have g1 := hf 1 _ rfl
    have g2 := hf 2 _ rfl
    have g3 := hf 3 _ rfl
    have g4 := hf 4 _ rfl
    simp [c1, cu] at g0 g1 g2 g3 g4
    obtain ⟨z0, e0, _, w0⟩ := DataW.trod_int Tryz.underlying3 g0
    obtain ⟨z1, e1, _, w1⟩ := DataW.trod_int Tryz.underlying3 g1
    obtain ⟨z2, e2, _, w2⟩ := DataW.trod_int Tryz.underlying3 g2
    obtain ⟨z3, e3, _, w3⟩ := DataW.trod_int Tryz.underlying3 g3
    obtain ⟨z4, e4, _, w4⟩ := DataW.trod_int Tryz.underlying38 g4
    simp at e0 e1 e2 e3 e4
    subst e0 e1 e2 e3 e4
    exact ⟨⟨z0, z1, z2, z3, z4⟩, rfl, w0, w1, w2, w3, w4⟩
theorem open_instrs {v : Value} {fuel : Nat} {x : DataW H × List MemPlace} (h : DataW.trod enc Tryz.prog w base spare held fuel 44 [v] = some x) :
    ∃ A c l, v = .slice A l.length c ∧ l.length ≤ c ∧ c ≤ maxLen ∧ InSl w w.heap.size A l := by
  obtain ⟨A, c, l, h1, h2, h3, h4, h5⟩ := open_list (E := insE) (ok := Ins.ok) Tryz.underlying44 (by kernel_rfl) (fun n cs y hy => open_incells hy) h
  exact ⟨A, c, l, h1, h2, h3, h4, h5⟩
theorem open_words {v : Value} {fuel : Nat} {x : DataW H × List MemPlace} (h : DataW.trod enc Tryz.prog w base spare held fuel 39 [v] = some x) :
    ∃ A c l, v = .slice A l.length c ∧ l.length ≤ c ∧ c ≤ maxLen ∧ Ws w w.heap.size A l := by
  obtain ⟨A, c, l, h1, h2, h3, h4, h5⟩ := open_int_list (q := .u32) Tryz.underlying39 Tryz.underlying38 (by kernel_rfl) h
  exact ⟨A, c, l, h1, h2, h3, h4, h5⟩
set_option maxRecDepth 100000 in
theorem open_tkcells {n : Nat} {cs : List Value} {y : DataW H × List MemPlace} (hy : DataW.trod enc Tryz.prog w base spare held n 46 cs = some y) : ∃ e : Tk × Option Addr × Nat, cs = tyE.cells e ∧ tyOk w e := by
  obtain ⟨xs, m, _, _, hl, hxl, hf⟩ := DataW.trod_struct Tryz.underlying46 hy
  have hl5 : cs.length = 7 := hl.trans (by kernel_rfl)
  have c1 : Tryz.prog.cellsOf 3 = 1 := by kernel_rfl
  have c3 : Tryz.prog.cellsOf 44 = 1 := by kernel_rfl
  match cs, hl5, xs, hxl with
  | [b0, b1, b2, b3, b4, b5, b6], _, [y0, y1, y2, y3, y4, y5, y6], _ =>
    have g0 := hf 0 _ rfl
    have g1 := hf 1 _ rfl
    have g2 := hf 2 _ rfl
    have g3 := hf 3 _ rfl
    have g4 := hf 4 _ rfl
    have g5 := hf 5 _ rfl
    have g6 := hf 6 _ rfl
    simp [c1, c3] at g0 g1 g2 g3 g4 g5 g6
    obtain ⟨z0, e0, _, w0⟩ := DataW.trod_int Tryz.underlying3 g0
    obtain ⟨z1, e1, _, w1⟩ := DataW.trod_int Tryz.underlying3 g1
    obtain ⟨z2, e2, _, w2⟩ := DataW.trod_int Tryz.underlying3 g2
    obtain ⟨z3, e3, _, w3⟩ := DataW.trod_int Tryz.underlying3 g3
    obtain ⟨z4, e4, _, w4⟩ := DataW.trod_int Tryz.underlying3 g4
    obtain ⟨z5, e5, _, w5⟩ := DataW.trod_int Tryz.underlying3 g5
    obtain ⟨A6, k6, l6, e6, u6, m6, w6⟩ := open_instrs g6
    simp at e0 e1 e2 e3 e4 e5
    subst e0 e1 e2 e3 e4 e5 e6
    refine ⟨⟨⟨z0, z1, z2, z3, z4, z5, l6⟩, A6, k6⟩, rfl, w6, ⟨u6, m6⟩, fun z hz => ?_⟩
    simp only [Tk.five, List.mem_cons, List.not_mem_nil, or_false] at hz
    rcases hz with rfl | rfl | rfl | rfl | rfl | rfl
    · exact i64_bd w0
    · exact i64_bd w1
    · exact i64_bd w2
    · exact i64_bd w3
    · exact i64_bd w4
    · exact i64_bd w5
set_option maxRecDepth 100000 in
theorem open_ojcells {n : Nat} {cs : List Value} {y : DataW H × List MemPlace} (hy : DataW.trod enc Tryz.prog w base spare held n 42 cs = some y) : ∃ e : Oj × (Option Addr × Nat) × (Option Addr × Nat), cs = oyE.cells e ∧ oyOk w e := by
  obtain ⟨xs, m, _, _, hl, hxl, hf⟩ := DataW.trod_struct Tryz.underlying42 hy
  have hl5 : cs.length = 8 := hl.trans (by kernel_rfl)
  have c1 : Tryz.prog.cellsOf 3 = 1 := by kernel_rfl
  have c2 : Tryz.prog.cellsOf 38 = 1 := by kernel_rfl
  have c3 : Tryz.prog.cellsOf 39 = 1 := by kernel_rfl
  have c4 : Tryz.prog.cellsOf 40 = 1 := by kernel_rfl
  match cs, hl5, xs, hxl with
  | [b0, b1, b2, b3, b4, b5, b6, b7], _, [y0, y1, y2, y3, y4, y5, y6, y7], _ =>
    have g0 := hf 0 _ rfl
    have g1 := hf 1 _ rfl
    have g2 := hf 2 _ rfl
    have g3 := hf 3 _ rfl
    have g4 := hf 4 _ rfl
    have g5 := hf 5 _ rfl
    have g6 := hf 6 _ rfl
    have g7 := hf 7 _ rfl
    simp [c1, c2, c3, c4] at g0 g1 g2 g3 g4 g5 g6 g7
    obtain ⟨z0, e0, _, w0⟩ := DataW.trod_int Tryz.underlying3 g0
    obtain ⟨z1, e1, _, w1⟩ := DataW.trod_int Tryz.underlying3 g1
    obtain ⟨z2, e2, _, w2⟩ := DataW.trod_int Tryz.underlying3 g2
    obtain ⟨z3, e3, _, w3⟩ := DataW.trod_int Tryz.underlying3 g3
    obtain ⟨z4, e4, _, w4⟩ := DataW.trod_int Tryz.underlying38 g4
    obtain ⟨A5, k5, l5, e5, u5, m5, w5⟩ := open_words g5
    obtain ⟨z6, e6, _, w6⟩ := DataW.trod_int Tryz.underlying3 g6
    obtain ⟨A7, k7, l7, e7, u7, m7, w7, wf7⟩ := open_int_list (q := .i64) Tryz.underlying40 Tryz.underlying3 (by kernel_rfl) g7
    simp at e0 e1 e2 e3 e4 e6
    subst e0 e1 e2 e3 e4 e5 e6 e7
    have w4' := u32_of w4
    refine ⟨⟨⟨z0, z1, z2, z3, z4, l5, z6, l7⟩, (A5, k5), (A7, k7)⟩, rfl, ⟨w5, u5, m5⟩, ⟨w7, u7, m7⟩, w4', fun z hz => ?_⟩
    simp only [List.mem_cons] at hz
    rcases hz with rfl | rfl | rfl | rfl | rfl | hz
    · exact i64_bd w0
    · exact i64_bd w1
    · exact i64_bd w2
    · exact i64_bd w3
    · exact i64_bd w6
    · exact i64_bd (wf7 z hz)
theorem open_tasks {v : Value} {fuel : Nat} {x : DataW H × List MemPlace} (h : DataW.trod enc Tryz.prog w base spare held fuel 22 [v] = some x) :
    ∃ A c l, v = .slice A l.length c ∧ l.length ≤ c ∧ c ≤ maxLen ∧ TkSl w w.heap.size A l := by
  obtain ⟨A, c, l, h1, h2, h3, h4, h5⟩ := open_list (E := tyE) (ok := tyOk w) Tryz.underlying22 (by kernel_rfl) (fun n cs y hy => open_tkcells hy) h
  refine ⟨A, c, l.map (·.1), by rw [List.length_map]; exact h1, by rw [List.length_map]; exact h2, h3, fun k x hx => ?_⟩
  rw [List.getElem?_map, Option.map_eq_some_iff] at hx
  obtain ⟨y, hy, rfl⟩ := hx
  obtain ⟨b, off, hA, hb, hc⟩ := h4 k y hy
  obtain ⟨o1, o2, o3⟩ := h5 y (List.mem_of_getElem? hy)
  have hj : ∀ j u, (tyE.cells y)[j]? = some u → w.cell? ⟨b, off + k * 7 + j, none⟩ = some u := fun j u hu => by
    have := hc j u hu
    rwa [← Nat.add_assoc] at this
  exact ⟨b, off, y.2.1, y.2.2, hA, hb, ⟨hj 0 _ rfl, hj 1 _ rfl, hj 2 _ rfl, hj 3 _ rfl, hj 4 _ rfl, hj 5 _ rfl, hj 6 _ rfl⟩, o1, o2, o3⟩
theorem open_objects {v : Value} {fuel : Nat} {x : DataW H × List MemPlace} (h : DataW.trod enc Tryz.prog w base spare held fuel 23 [v] = some x) :
    ∃ A c l, v = .slice A l.length c ∧ l.length ≤ c ∧ c ≤ maxLen ∧ OjSl w w.heap.size A l := by
  obtain ⟨A, c, l, h1, h2, h3, h4, h5⟩ := open_list (E := oyE) (ok := oyOk w) Tryz.underlying23 (by kernel_rfl) (fun n cs y hy => open_ojcells hy) h
  refine ⟨A, c, l.map (·.1), by rw [List.length_map]; exact h1, by rw [List.length_map]; exact h2, h3, fun k x hx => ?_⟩
  rw [List.getElem?_map, Option.map_eq_some_iff] at hx
  obtain ⟨y, hy, rfl⟩ := hx
  obtain ⟨b, off, hA, hb, hc⟩ := h4 k y hy
  obtain ⟨o1, o2, o3, o4⟩ := h5 y (List.mem_of_getElem? hy)
  have hj : ∀ j u, (oyE.cells y)[j]? = some u → w.cell? ⟨b, off + k * 8 + j, none⟩ = some u := fun j u hu => by
    have := hc j u hu
    rwa [← Nat.add_assoc] at this
  exact ⟨b, off, y.2.1.1, y.2.1.2, y.2.2.1, y.2.2.2, hA, hb, ⟨hj 0 _ rfl, hj 1 _ rfl, hj 2 _ rfl, hj 3 _ rfl, hj 4 _ rfl, hj 5 _ rfl, hj 6 _ rfl, hj 7 _ rfl⟩, o1, o2, o3, o4⟩
set_option maxRecDepth 100000 in
theorem open_system {v : Value} {d : DataW H} {p : List MemPlace} {r : Reach} {b : Nat} (hv : Value.okWide Tryz.prog w r b 25 v) (h : DataW.Trod enc Tryz.prog w base spare held 25 v d p) :
    ∃ (s : Sy) (At Ao : Option Addr) (ct co : Nat), v = .agg #[.slice At s.ts.length ct, .slice Ao s.os.length co] ∧ (s.ts.length ≤ maxLen ∧ s.os.length ≤ maxLen) ∧ TkSl w w.heap.size At s.ts ∧ OjSl w w.heap.size Ao s.os := by
  obtain ⟨cs, rfl, hc⟩ := okWide_struct Tryz.underlying25 hv
  obtain ⟨fuel, hf⟩ := h
  obtain ⟨xs, m, _, _, hl, hxl, hg⟩ := DataW.trod_struct Tryz.underlying25 (show DataW.trod enc Tryz.prog w base spare held fuel 25 cs.toList = _ from hf)
  have hl5 : cs.toList.length = 2 := hl.trans (by kernel_rfl)
  have c1 : Tryz.prog.cellsOf 22 = 1 := by kernel_rfl
  have c2 : Tryz.prog.cellsOf 23 = 1 := by kernel_rfl
  obtain ⟨l, hlc⟩ : ∃ l, cs.toList = l := ⟨_, rfl⟩
  rw [hlc] at hl5 hg
  match l, hl5, xs, hxl with
  | [b0, b1], _, [y0, y1], _ =>
    have g0 := hg 0 _ rfl
    have g1 := hg 1 _ rfl
    simp [c1, c2] at g0 g1
    obtain ⟨A0, k0, l0, e0, u0, m0, w0⟩ := open_tasks g0
    obtain ⟨A1, k1, l1, e1, u1, m1, w1⟩ := open_objects g1
    subst e0 e1
    exact ⟨⟨l0, l1⟩, A0, A1, k0, k1, congrArg Value.agg (Array.toList_inj.1 (hlc.trans rfl)), ⟨by show l0.length ≤ _; omega, by show l1.length ≤ _; omega⟩, w0, w1⟩
end

end Go.Proofs.YtfgmebjbibbpdaaGreatDoor

namespace Go.Proofs.YtfgmebjbibbpdaaGreatDoor
open Go.RowKit
attribute [local go_sem] Oper.semAt_some

def tfew (l : List Tk) : Bool := decide (l.length ≤ 60) && l.all fun t => decide (t.code.length ≤ 200)
def smO (o : Oj) : Bool := decide (o.ini.length ≤ 100) && decide (o.rd.length ≤ 100)
def fewS (s : Sy) : Bool := tfew s.ts && (decide (s.os.length ≤ 60) && s.os.all smO)
theorem all_bad {α : Type} {l : List α} {k : Nat} {x : α} {p : α → Bool} (h : l[k]? = some x) (hp : p x = false) : l.all p = false := List.all_eq_false.2 ⟨x, List.mem_of_getElem? h, by rw [hp]; decide⟩
theorem all_more {α : Type} {l : List α} {k : Nat} {x : α} {p : α → Bool} (h : l[k]? = some x) (ha : (l.take k).all p = true) (hp : p x = true) : (l.take (k + 1)).all p = true := by
  rw [take_snoc h, List.all_append, ha]
  simp [hp]
set_option maxRecDepth 100000 in
set_option maxHeartbeats 2000000 in
theorem tfew_any (A : Option Addr) (c : Nat) (l : List Tk) (w : World) (hn : l.length ≤ 9223372036854775807) (ht : TkSl w w.heap.size A l) :
    Calls Tryz.prog 13 #[.slice A l.length c, .int .i64 60] w fun e w' => e = .returned (.bool (tfew l)) ∧ Below w.heap.size w w' := by
  by_cases h60 : 60 < l.length
  · have t1 : decide ((60 : Int) < (l.length : Int)) = true := by rw [decide_eq_true_iff]; omega
    have HF := Lib.hid (show tfew l = false by unfold tfew; rw [decide_eq_false (by omega), Bool.false_and])
    clear h60
    go_enter Tryz.func13, Tryz.ntmps13
    go_wp2_with fail
    go_ret
    exact ⟨by rw [HF.out]; rfl, Below.refl _ _⟩
  · have t1 : decide ((60 : Int) < (l.length : Int)) = false := by rw [decide_eq_false_iff_not]; omega
    have HL := Lib.hid h60
    have HT := Lib.hid ht
    clear h60 ht
    go_enter Tryz.func13, Tryz.ntmps13
    go_wp2_with fail
    go_loopw [13] (fun j wr => ∃ k : Nat, k ≤ l.length ∧ j = .int .i64 k ∧ ((l.take k).all fun t => decide (t.code.length ≤ 200)) = true ∧ Below w.heap.size w wr) (fun j _ => l.length - (intOf j).toNat)
    case atStart => exact ⟨0, Nat.zero_le _, rfl, rfl, Below.refl _ _⟩
    case round =>
      obtain ⟨k, hk, rfl, hall, hbw⟩ := hrel
      by_cases hlt : k < l.length
      · obtain ⟨t, htk⟩ := get_some hlt
        obtain ⟨b, off, A', c', hA, hlb, ⟨z0, z1, z2, z3, z4, z5, z6⟩, hI, hcc, hzz⟩ := HT.out k t htk
        subst hA
        have key : ∀ {j : Nat} {u : Value}, w.cell? ⟨b, j, none⟩ = some u → wr.cell? ⟨b, j, none⟩ = some u := fun {j u} hc => (hbw.cell (p := ⟨b, j, none⟩) hlb).trans hc
        have c0 := key z0
        have c1 := key z1
        have c2 := key z2
        have c3 := key z3
        have c4 := key z4
        have c5 := key z5
        have c6 := key z6
        have HTG := Lib.hid htk
        have HAL := Lib.hid hall
        have HBW := Lib.hid (hbw.alloc hbw.size (.cells #[.int .i64 t.kd, .int .i64 t.pr, .int .i64 t.pe, .int .i64 t.off, .int .i64 t.dl, .int .i64 t.ow, .slice A' t.code.length c'] 46))
        have hcl := hcc.1
        have hcm := hcc.2
        clear z0 z1 z2 z3 z4 z5 z6 key htk hall hI hcc hzz
        by_cases hc : 200 < t.code.length
        · have t2 : decide ((200 : Int) < (t.code.length : Int)) = true := by rw [decide_eq_true_iff]; omega
          have HF := Lib.hid (show tfew l = false by unfold tfew; rw [all_bad HTG.out (decide_eq_false (by omega)), Bool.and_false])
          clear hc
          go_wp2_with fail
          go_ret
          exact ⟨by rw [HF.out]; rfl, HBW.out⟩
        · have t2 : decide ((200 : Int) < (t.code.length : Int)) = false := by rw [decide_eq_false_iff_not]; omega
          have HM := Lib.hid (all_more (p := fun t : Tk => decide (t.code.length ≤ 200)) HTG.out HAL.out (decide_eq_true (by omega)))
          clear hc
          go_wp2_with fail
          go_roundw
          case rel => exact ⟨k + 1, by omega, by go_num, HM.out, HBW.out⟩
          case measure => simp [intOf]; omega
      · have htt := take_all hlt
        rw [htt] at hall
        have HF := Lib.hid (show tfew l = true by unfold tfew; rw [hall, decide_eq_true (by have := HL.out; omega)]; rfl)
        clear hall htt
        go_wp2_with fail
        go_ret
        exact ⟨by rw [HF.out]; rfl, hbw⟩
set_option maxRecDepth 100000 in
set_option maxHeartbeats 2000000 in
theorem osmall_any (o : Oj) (I R : Option Addr) (ci cr : Nat) (w : World) : Calls Tryz.prog 14 #[.agg #[.int .i64 o.kd, .int .i64 o.wd, .int .i64 o.sl, .int .i64 o.cp, .int .u32 o.st, .slice I o.ini.length ci, .int .i64 o.wr, .slice R o.rd.length cr]] w fun e w' => e = .returned (.bool (smO o)) ∧ Below w.heap.size w w' := by
  by_cases h1 : o.ini.length ≤ 100
  · have t1 : decide ((o.ini.length : Int) ≤ 100) = true := by rw [decide_eq_true_iff]; omega
    rcases h2 : decide ((o.rd.length : Int) ≤ 100) with _ | _
    · have HF := Lib.hid (show smO o = false by unfold smO; rw [decide_eq_false (show ¬ o.rd.length ≤ 100 by have := of_decide_eq_false h2; omega), Bool.and_false])
      clear h1
      go_enter Tryz.func14, Tryz.ntmps14
      go_wp2_with fail
      go_ret
      exact ⟨by rw [HF.out]; rfl, (Below.refl _ w).alloc (Nat.le_refl _) _⟩
    · have HF := Lib.hid (show smO o = true by unfold smO; rw [decide_eq_true h1, decide_eq_true (show o.rd.length ≤ 100 by have := of_decide_eq_true h2; omega)]; rfl)
      clear h1
      go_enter Tryz.func14, Tryz.ntmps14
      go_wp2_with fail
      go_ret
      exact ⟨by rw [HF.out]; rfl, (Below.refl _ w).alloc (Nat.le_refl _) _⟩
  · have t1 : decide ((o.ini.length : Int) ≤ 100) = false := by rw [decide_eq_false_iff_not]; omega
    have HF := Lib.hid (show smO o = false by unfold smO; rw [decide_eq_false h1, Bool.false_and])
    clear h1
    go_enter Tryz.func14, Tryz.ntmps14
    go_wp2_with fail
    go_ret
    exact ⟨by rw [HF.out]; rfl, (Below.refl _ w).alloc (Nat.le_refl _) _⟩
set_option maxRecDepth 100000 in
set_option maxHeartbeats 4000000 in
theorem few_any (s : Sy) (At Ao : Option Addr) (ct co : Nat) (w : World) (hnt : s.ts.length ≤ 9223372036854775807) (hno : s.os.length ≤ 9223372036854775807) (ht : TkSl w w.heap.size At s.ts) (ho : OjSl w w.heap.size Ao s.os) :
    Calls Tryz.prog 6 #[.agg #[.slice At s.ts.length ct, .slice Ao s.os.length co], .int .i64 60] w fun e w' => e = .returned (.bool (fewS s)) ∧ Below w.heap.size w w' := by
  have r1 := RowB.new w #[.slice At s.ts.length ct, .slice Ao s.os.length co] 25
  obtain ⟨w1, hw1⟩ : ∃ x, w.alloc (.cells #[.slice At s.ts.length ct, .slice Ao s.os.length co] 25) = x := ⟨_, rfl⟩
  rw [hw1] at r1
  have s1 : w1.heap.size = w.heap.size + 1 := by rw [← hw1, World.size_alloc]
  have hb1 : Below w.heap.size w w1 := by rw [← hw1]; exact (Below.refl _ w).alloc (Nat.le_refl _) _
  obtain ⟨n, hn⟩ : ∃ n, w.heap.size = n := ⟨_, rfl⟩
  rw [hn] at r1 s1 hb1
  have HN := Lib.hid hn
  have a0 : w1.cell? ⟨n, 0, none⟩ = some (.slice At s.ts.length ct) := (r1.cell 0).trans rfl
  have htf := tfew_any At ct s.ts w1 hnt (ht.below (by rw [hn]; exact hb1) (by omega))
  have HO := Lib.hid (ho.below (by rw [hn]; exact hb1) (B' := w1.heap.size) (by omega))
  have HR1 := Lib.hid r1
  have HB1 := Lib.hid hb1
  have HS1 := Lib.hid s1
  clear r1 hb1 ht ho s1
  have hF : fewS s = (tfew s.ts && (decide (s.os.length ≤ 60) && s.os.all smO)) := rfl
  obtain ⟨b1, hb1⟩ : ∃ b, tfew s.ts = b := ⟨_, rfl⟩
  rw [hb1] at htf hF
  have HTF := Lib.hid htf
  have HF := Lib.hid hF
  clear htf hF hb1
  cases b1 with
  | false =>
    go_enter Tryz.func6, Tryz.ntmps6
    go_wp2_with fail
    refine HTF.out.mono ?_
    rintro e w2 ⟨rfl, hb2⟩
    have HB2 := Lib.hid (HB1.out.trans (hb2.mono (by have := HS1.out; omega)))
    clear hb2
    go_wp2_with fail
    go_ret
    exact ⟨by rw [HF.out]; rfl, by rw [HN.out]; exact HB2.out⟩
  | true =>
    by_cases h60 : 60 < s.os.length
    · have t1 : decide ((60 : Int) < (s.os.length : Int)) = true := by rw [decide_eq_true_iff]; omega
      have HNO := Lib.hid (show fewS s = false by rw [HF.out, decide_eq_false (by omega)]; rfl)
      clear h60
      go_enter Tryz.func6, Tryz.ntmps6
      go_wp2_with fail
      refine HTF.out.mono ?_
      rintro e w2 ⟨rfl, hb2⟩
      have HB2 := Lib.hid (HB1.out.trans (hb2.mono (by have := HS1.out; omega)))
      have a1 : w2.cell? ⟨n, 1, none⟩ = some (.slice Ao s.os.length co) := ((HR1.out.kept hb2).cell 1).trans rfl
      clear hb2
      go_wp2_with fail
      go_ret
      exact ⟨by rw [HNO.out]; rfl, by rw [HN.out]; exact HB2.out⟩
    · have t1 : decide ((60 : Int) < (s.os.length : Int)) = false := by rw [decide_eq_false_iff_not]; omega
      have HL := Lib.hid h60
      clear h60
      go_enter Tryz.func6, Tryz.ntmps6
      go_wp2_with fail
      refine HTF.out.mono ?_
      rintro e w2 ⟨rfl, hb2⟩
      have HB2 := Lib.hid (HB1.out.trans (hb2.mono (by have := HS1.out; omega)))
      have a1 : w2.cell? ⟨n, 1, none⟩ = some (.slice Ao s.os.length co) := ((HR1.out.kept hb2).cell 1).trans rfl
      have HO2 := Lib.hid (HO.out.below hb2 hb2.size)
      clear hb2 a0
      go_wp2_with fail
      clear a1
      go_loopw [22] (fun j wr => ∃ k : Nat, k ≤ s.os.length ∧ j = .int .i64 k ∧ (s.os.take k).all smO = true ∧ Below w2.heap.size w2 wr) (fun j _ => s.os.length - (intOf j).toNat)
      case atStart => exact ⟨0, Nat.zero_le _, rfl, rfl, Below.refl _ _⟩
      case round =>
        obtain ⟨k, hk, rfl, hall, hbw⟩ := hrel
        by_cases hlt : k < s.os.length
        · obtain ⟨o, hok⟩ := get_some hlt
          obtain ⟨b, off, I, ci, R, cr, hA, hlb, ⟨z0, z1, z2, z3, z4, z5, z6, z7⟩, ⟨hI, hi⟩, ⟨hR, hr⟩, hst, hzz⟩ := HO2.out k o hok
          subst hA
          have key : ∀ {j : Nat} {u : Value}, w2.cell? ⟨b, j, none⟩ = some u → wr.cell? ⟨b, j, none⟩ = some u := fun {j u} hc => (hbw.cell (p := ⟨b, j, none⟩) hlb).trans hc
          have c0 := key z0
          have c1 := key z1
          have c2 := key z2
          have c3 := key z3
          have c4 := key z4
          have c5 := key z5
          have c6 := key z6
          have c7 := key z7
          have HOG := Lib.hid hok
          have HAL := Lib.hid hall
          have hb3 := (Below.refl wr.heap.size wr).alloc (Nat.le_refl _) (.cells #[.int .i64 o.kd, .int .i64 o.wd, .int .i64 o.sl, .int .i64 o.cp, .int .u32 o.st, .slice I o.ini.length ci, .int .i64 o.wr, .slice R o.rd.length cr] 42)
          have hrow := RowB.new wr #[.int .i64 o.kd, .int .i64 o.wd, .int .i64 o.sl, .int .i64 o.cp, .int .u32 o.st, .slice I o.ini.length ci, .int .i64 o.wr, .slice R o.rd.length cr] 42
          obtain ⟨W1, hW1⟩ : ∃ x, wr.alloc (.cells #[.int .i64 o.kd, .int .i64 o.wd, .int .i64 o.sl, .int .i64 o.cp, .int .u32 o.st, .slice I o.ini.length ci, .int .i64 o.wr, .slice R o.rd.length cr] 42) = x := ⟨_, rfl⟩
          obtain ⟨tb, htb⟩ : ∃ x, wr.heap.size = x := ⟨_, rfl⟩
          rw [hW1] at hb3 hrow
          have HBW := Lib.hid (hbw.trans (hb3.mono hbw.size))
          rw [htb] at hrow
          have k0 : W1.cell? ⟨tb, 0, none⟩ = some (.int .i64 o.kd) := (hrow.cell 0).trans rfl
          have k1 : W1.cell? ⟨tb, 1, none⟩ = some (.int .i64 o.wd) := (hrow.cell 1).trans rfl
          have k2 : W1.cell? ⟨tb, 2, none⟩ = some (.int .i64 o.sl) := (hrow.cell 2).trans rfl
          have k3 : W1.cell? ⟨tb, 3, none⟩ = some (.int .i64 o.cp) := (hrow.cell 3).trans rfl
          have k4 : W1.cell? ⟨tb, 4, none⟩ = some (.int .u32 o.st) := (hrow.cell 4).trans rfl
          have k5 : W1.cell? ⟨tb, 5, none⟩ = some (.slice I o.ini.length ci) := (hrow.cell 5).trans rfl
          have k6 : W1.cell? ⟨tb, 6, none⟩ = some (.int .i64 o.wr) := (hrow.cell 6).trans rfl
          have k7 : W1.cell? ⟨tb, 7, none⟩ = some (.slice R o.rd.length cr) := (hrow.cell 7).trans rfl
          have HSM := Lib.hid (osmall_any o I R ci cr W1)
          clear z0 z1 z2 z3 z4 z5 z6 z7 key hok hall hbw hI hi hR hr hst hzz hb3 hrow
          go_wp2_with fail
          refine HSM.out.mono ?_
          rintro e w5 ⟨rfl, hb5⟩
          have HB5 := Lib.hid (HBW.out.trans (hb5.mono HBW.out.size))
          clear hb5 c0 c1 c2 c3 c4 c5 c6 c7 k0 k1 k2 k3 k4 k5 k6 k7
          rcases hq : smO o with _ | _
          · have HNO := Lib.hid (show fewS s = false by rw [HF.out, all_bad HOG.out hq, Bool.and_false, Bool.and_false])
            clear hq
            go_wp2_with fail
            go_ret
            exact ⟨by rw [HNO.out]; rfl, by rw [HN.out]; exact HB2.out.trans (HB5.out.mono (by have := HB2.out.size; have := HN.out; omega))⟩
          · have HM := Lib.hid (all_more HOG.out HAL.out hq)
            clear hq
            go_wp2_with fail
            go_roundw
            case rel => exact ⟨k + 1, by omega, by go_num, HM.out, HB5.out⟩
            case measure => simp [intOf]; omega
        · have htt := take_all hlt
          rw [htt] at hall
          have HY := Lib.hid (show fewS s = true by rw [HF.out, hall, decide_eq_true (by have := HL.out; omega)]; rfl)
          have HB5 := Lib.hid hbw
          clear hall htt hbw
          go_wp2_with fail
          go_ret
          exact ⟨by rw [HY.out]; rfl, by rw [HN.out]; exact HB2.out.trans (HB5.out.mono (by have := HB2.out.size; have := HN.out; omega))⟩

end Go.Proofs.YtfgmebjbibbpdaaGreatDoor

namespace Go.Proofs.YtfgmebjbibbpdaaGreatDoor
open Go.RowKit

theorem fewS_bd {s : Sy} (h : fewS s = true) : s.ts.length ≤ 60 ∧ (∀ t ∈ s.ts, t.code.length ≤ 200) ∧ s.os.length ≤ 60 ∧ ∀ o ∈ s.os, o.ini.length ≤ 100 ∧ o.rd.length ≤ 100 := by
  unfold fewS tfew at h
  simp only [Bool.and_eq_true, decide_eq_true_iff, List.all_eq_true] at h
  refine ⟨h.1.1, h.1.2, h.2.1, fun o ho => ?_⟩
  have := h.2.2 o ho
  unfold smO at this
  simp only [Bool.and_eq_true, decide_eq_true_iff] at this
  exact this
set_option maxRecDepth 100000 in
set_option maxHeartbeats 2000000 in
theorem prints_any (s : Sy) (At Ao : Option Addr) (ct co : Nat) (w : World) (hnt : s.ts.length ≤ maxLen) (hno : s.os.length ≤ maxLen) (ht : TkSl w w.heap.size At s.ts) (ho : OjSl w w.heap.size Ao s.os) (hT : Tab w) (hM : Mx w) :
    Calls Tryz.prog 3 #[.agg #[.slice At s.ts.length ct, .slice Ao s.os.length co]] w fun e w' => e = .returned (.bool true) ∧ Below w.heap.size w w' := by
  unfold maxLen at hnt hno
  have h1 := fun W ht ho => few_any s At Ao ct co W (by omega) (by omega) ht ho
  have r1 := RowB.new w #[.slice At s.ts.length ct, .slice Ao s.os.length co] 25
  have hb1 := (Below.refl w.heap.size w).alloc (Nat.le_refl _) (.cells #[.slice At s.ts.length ct, .slice Ao s.os.length co] 25)
  have hT1 := hT.below hb1
  have hM1 := hM.below hb1
  have ht1 := ht.below hb1 hb1.size
  have ho1 := ho.below hb1 hb1.size
  cases hf : fewS s with
  | false =>
    rw [hf] at h1
    have H1 := Lib.hid h1
    clear h1 hf ht ho hT hM
    go_enter Tryz.func3, Tryz.ntmps3
    go_wp2_with fail
    obtain ⟨w1, hw1⟩ : ∃ x, w.alloc (.cells #[.slice At s.ts.length ct, .slice Ao s.os.length co] 25) = x := ⟨_, rfl⟩
    rw [hw1] at r1 hb1 hT1 hM1 ht1 ho1 ⊢
    refine (H1.out w1 ht1 ho1).mono ?_
    rintro e w2 ⟨rfl, hb2⟩
    go_wp2_with fail
    refine (awake_any _ (hT1.below hb2) (hM1.below hb2)).mono ?_
    rintro e w3 ⟨rfl, hb3⟩
    go_wp2_with fail
    go_ret
    exact ⟨rfl, hb1.trans ((hb2.trans (hb3.mono hb2.size)).mono hb1.size)⟩
  | true =>
    obtain ⟨f1, f2, f3, f4⟩ := fewS_bd hf
    rw [hf] at h1
    have h2 := fun W ht ho hT => sprint_any s At Ao ct co W ht ho (fun t h => by have := f2 t h; omega) (fun o h => by have := f4 o h; omega) (by omega) (by omega) hT
    have h3 := fun W ht ho => rprints_any s At Ao ct co W ht ho (fun t h => by have := f2 t h; omega) (fun o h => by have := f4 o h; omega) (by omega) (by omega)
    obtain ⟨S, hS⟩ : ∃ x, printT s = x := ⟨_, rfl⟩
    obtain ⟨q, hq⟩ : ∃ x, printOk s = x := ⟨_, rfl⟩
    rw [hS, hq] at h2 h3
    have H1 := Lib.hid h1
    have H2 := Lib.hid h2
    have H3 := Lib.hid h3
    have tq : (q == q) = true := by cases q <;> rfl
    have tS : (S.toList == S.toList) = true := by simp
    clear h1 h2 h3 hf ht ho hT hM hS hq f1 f2 f3 f4
    go_enter Tryz.func3, Tryz.ntmps3
    go_wp2_with fail
    obtain ⟨w1, hw1⟩ : ∃ x, w.alloc (.cells #[.slice At s.ts.length ct, .slice Ao s.os.length co] 25) = x := ⟨_, rfl⟩
    obtain ⟨n, hn⟩ : ∃ n, w.heap.size = n := ⟨_, rfl⟩
    rw [hn] at r1 hb1
    rw [hw1] at r1 hb1 hT1 hM1 ht1 ho1 ⊢
    rw [hn] at ⊢
    refine (H1.out w1 ht1 ho1).mono ?_
    rintro e w2 ⟨rfl, hb2⟩
    have r2 := r1.kept hb2
    have c0 := r2.cell 0
    have c1 := r2.cell 1
    simp only [List.getElem?_toArray, List.getElem?_cons_zero, List.getElem?_cons_succ] at c0 c1
    go_wp2_with fail
    have ht2 := ht1.below hb2 hb2.size
    have ho2 := ho1.below hb2 hb2.size
    refine (H2.out w2 ht2 ho2 (hT1.below hb2)).mono ?_
    rintro e w3 ⟨rfl, hb3⟩
    have r3 := r2.kept hb3
    clear c0 c1
    have c0 := r3.cell 0
    have c1 := r3.cell 1
    simp only [List.getElem?_toArray, List.getElem?_cons_zero, List.getElem?_cons_succ] at c0 c1
    go_wp2_with fail
    have ht3 := ht2.below hb3 hb3.size
    have ho3 := ho2.below hb3 hb3.size
    refine (H3.out w3 ht3 ho3).mono ?_
    rintro e w4 ⟨rfl, hb4⟩
    have hT4 := ((hT1.below hb2).below hb3).below hb4
    have hM4 := ((hM1.below hb2).below hb3).below hb4
    have hb24 := hb2.trans ((hb3.trans (hb4.mono hb3.size)).mono hb2.size)
    have hB := Lib.hid (hb1.trans (hb24.mono (by have := hb1.size; omega)))
    have hAw := Lib.hid (awake_any w4 hT4 hM4)
    clear c0 c1 r1 r2 r3 ht1 ht2 ht3 ho1 ho2 ho3 hb1 hb2 hb3 hb4 hb24 hT1 hM1 hT4 hM4
    go_wp2_with fail
    refine hAw.out.mono ?_
    rintro e w5 ⟨rfl, hb5⟩
    go_wp2_with fail
    go_ret
    exact ⟨rfl, by rw [hn]; exact hB.out.trans (hb5.mono (by have := hB.out.size; omega))⟩

end Go.Proofs.YtfgmebjbibbpdaaGreatDoor
