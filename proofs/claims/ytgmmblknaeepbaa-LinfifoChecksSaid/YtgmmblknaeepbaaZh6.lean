/- Texts joined: Histories: numbers alike; all processes. An argument that is a slice, opened to a list. Arguments of the laws on histories, opened. -/
import Derived.Test.YtgmmblknaeepbaaZa
import Derived.Lib.OwnBridge
import Derived.Sort.OwnSortedInts
import Derived.Test.YtgmmblknaeepbaaShelf
import Derived.ProofKit
import Derived.OpenShut
import Derived.ShutString
import Derived.ChangeOld
import Derived.Below
import Derived.Deep.Slices
import Derived.ChangeSame
import Derived.Test.YtgmmblknaeepbaaZh5
namespace Go.Proofs.Ytgmmblknaeepbaa
open Go.RowKit

theorem int_get {w : World} {B : Nat} {A : Option Addr} {l : List Int} (h : SlOf (ints .i64) w B A l) {k : Nat} {z : Int} (hk : l[k]? = some z) : ∃ b off, A = some ⟨b, off, none⟩ ∧ b < B ∧
    w.cell? ⟨b, off + k, none⟩ = some (.int .i64 z) := by
  obtain ⟨b, off, hA, hlt, hc⟩ := h k z hk
  have := hc 0 _ rfl
  exact ⟨b, off, hA, hlt, by simpa [ints, Enc.of1] using this⟩
theorem intTy : ElemTy Try.prog 26 3 1 8 := ElemTy.of (z := .int .i64 0) Try.underlying26 (by kernel_rfl) rfl (by omega)

set_option maxHeartbeats 400000 in
theorem ints_any (A A' : Option Addr) (c c' : Nat) (l m : List Int) (w : World) (hn : l.length ≤ 9223372036854775807) (_hm : m.length ≤ 9223372036854775807) (hl : SlOf (ints .i64) w w.heap.size A l) (hm' : SlOf (ints .i64) w w.heap.size A' m) :
    Calls Try.prog 11 #[.slice A l.length c, .slice A' m.length c'] w fun e w' => e = .returned (.bool (decide (l = m))) ∧ Below w.heap.size w w' := by
  by_cases hlen : l.length = m.length
  · have x0 : ((l.length : Int) != (m.length : Int)) = false := by simp [hlen]
    have hlen' := Lib.hid hlen
    clear hlen
    go_enter Try.func11, Try.ntmps11
    go_wp2
    go_loopw [5, 13] (fun i j wr => ∃ k : Nat, k ≤ l.length ∧ j = .int .i64 k ∧ l.take k = m.take k ∧ Below w.heap.size w wr) (fun _ j _ => l.length - (intOf j).toNat)
    case atStart => exact ⟨0, Nat.zero_le _, rfl, rfl, Below.refl _ _⟩
    case round =>
      obtain ⟨k, hk, rfl, heq, hb⟩ := hrel
      by_cases hlt : k < l.length
      · obtain ⟨x, hx⟩ := get_some hlt
        obtain ⟨y, hy⟩ := get_some (show k < m.length by have := hlen'.out; omega)
        obtain ⟨b, off, rfl, hlb, h0⟩ := int_get (hl.below hb (Nat.le_refl _)) hx
        obtain ⟨b2, off2, rfl, hlb2, h1⟩ := int_get (hm'.below hb (Nat.le_refl _)) hy
        have hmk : (k : Int) < m.length := by have := hlen'.out; omega
        have heq' := Lib.hid heq
        have hx' := Lib.hid hx
        have hy' := Lib.hid hy
        clear heq hx hy
        by_cases hxy : x = y
        · have x1 : (x != y) = false := by simp [hxy]
          have hxy' := Lib.hid hxy
          clear hxy
          go_wp2
          go_quiet (fail)
          go_wp2
          go_roundw
          case rel => exact ⟨k + 1, by omega, by go_num, by rw [take_snoc hx'.out, take_snoc hy'.out, heq'.out, hxy'.out], drewN_below hb _⟩
          case measure => simp [intOf]; omega
        · have x1 : (x != y) = true := by simp [hxy]
          go_wp2
          go_quiet (fail)
          go_wp2
          go_ret
          refine ⟨ret_bool ?_, drewN_below hb _⟩
          symm
          rw [decide_eq_false_iff_not]
          intro e
          have := hx'.out
          rw [e, hy'.out] at this
          exact hxy (by injection this with h; exact h.symm)
      · have h1 := take_all hlt
        have h2 : m.take k = m := take_all (by have := hlen'.out; omega)
        have h3 := Lib.hid (show l = m by rw [← h1, heq, h2])
        clear h1 h2 heq
        go_wp2
        go_ret
        exact ⟨ret_bool (by simpa using h3.out), hb⟩
  · have x0 : ((l.length : Int) != (m.length : Int)) = true := by simp; omega
    go_enter Try.func11, Try.ntmps11
    go_wp2
    go_ret
    exact ⟨ret_bool (by symm; rw [decide_eq_false_iff_not]; intro e; exact hlen (by rw [e])), Below.refl _ _⟩

def sorted (l : List Int) : List Int := Lib.compact (l.mergeSort fun x y => decide (x ≤ y))

theorem sorted_nil : sorted [] = [] := by
  unfold sorted
  rw [List.mergeSort_nil]
  rfl

end Go.Proofs.Ytgmmblknaeepbaa

namespace Go.Proofs.Ytgmmblknaeepbaa
open Go.RowKit Go.ChangeShapes Go.WideShapes Go.ChangeAt

theorem exists_list {α : Type} (p : Nat → α → Prop) : ∀ n : Nat, (∀ i, i < n → ∃ x, p i x) → ∃ l : List α, l.length = n ∧ ∀ k x, l[k]? = some x → p k x
  | 0, _ => ⟨[], rfl, fun k x h => by simp at h⟩
  | n + 1, h => by
    obtain ⟨l, hl, hp⟩ := exists_list p n (fun i hi => h i (by omega))
    obtain ⟨x, hx⟩ := h n (by omega)
    refine ⟨l ++ [x], by simp [hl], fun k y hk => ?_⟩
    by_cases hkn : k < n
    · rw [List.getElem?_append_left (by omega)] at hk
      exact hp k y hk
    · rw [List.getElem?_append_right (by omega), hl] at hk
      have : k - n = 0 := by
        have := get_lt hk
        simp at this; omega
      have hkn' : k = n := by omega
      subst hkn'
      simp at hk
      subst hk
      exact hx

theorem sl_of_cells {α : Type} {E : Enc α} {w : World} {a : Addr} {l : List α} (h : ∀ k x, l[k]? = some x → ∀ j u, (E.cells x)[j]? = some u → w.cell? (a.add (k * E.size + j)) = some u) :
    SlOf E w w.heap.size (some a) l := by
  intro k x hk
  have h0 : ∃ y, l[0]? = some y := get_some (by have := get_lt hk; omega)
  obtain ⟨y, hy⟩ := h0
  have hs : 0 < (E.cells y).length := by rw [E.len]; exact E.pos
  obtain ⟨u, hu⟩ := get_some hs
  have hc := h 0 y hy 0 u hu
  have e0 : 0 * E.size + 0 = 0 := by simp
  rw [e0] at hc
  have hsp := World.cell?_spot hc
  have hb := cell_lt hc
  rw [add_block] at hb
  obtain ⟨b, off, spot⟩ := a
  have : spot = none := by simpa [Addr.add] using hsp
  subst this
  refine ⟨b, off, rfl, hb, fun j u hu => ?_⟩
  have := h k x hk j u hu
  rwa [Addr.add_lit] at this

section
variable {H : Type} {enc : TypeId × Value → H} {P : Program} {w : World} {base : Nat} {spare : Nat → Bool} {held : Bool}

theorem open_list {α : Type} {E : Enc α} {ok : α → Prop} {t e : TypeId} {v : Value} {fuel : Nat} {x : DataW H × List MemPlace} (ht : P.underlying t = some (.slice e)) (hC : P.cellsOf e = E.size)
    (hel : ∀ n cs y, DataW.trod enc P w base spare held n e cs = some y → ∃ z, cs = E.cells z ∧ ok z) (h : DataW.trod enc P w base spare held fuel t [v] = some x) :
    ∃ A c l, v = .slice A l.length c ∧ l.length ≤ c ∧ c ≤ maxLen ∧ SlOf E w w.heap.size A l ∧ ∀ y ∈ l, ok y := by
  rcases Go.Deep.open_slice ht h with ⟨hv, _⟩ | ⟨a, len, cap, m, n, D, Pl, hv, hb, hl, hm, hmm, rfl, hx⟩
  · simp at hv
    subst hv
    exact ⟨none, 0, [], rfl, by simp, by simp [maxLen], SlOf.nil, by simp⟩
  · simp at hv
    subst hv
    have hlm : len ≤ m := by rw [hmm]; split <;> omega
    obtain ⟨l, hll, hp⟩ := exists_list (fun i z => (∀ j u, (E.cells z)[j]? = some u → w.cell? (a.add (i * E.size + j)) = some u) ∧ ok z) len (fun i hi => by
      obtain ⟨cs, hc, ht'⟩ := hx i (by omega)
      obtain ⟨z, rfl, hok⟩ := hel _ _ _ ht'
      rw [hC] at hc
      obtain ⟨_, _, hcell⟩ := World.cells?_some hc
      refine ⟨z, fun j u hu => ?_, hok⟩
      have hj : j < E.size := by rw [← E.len z]; exact get_lt hu
      have := hcell j hj
      rw [add_add', hu] at this
      exact this)
    refine ⟨some a, cap, l, by rw [hll], by omega, hm, sl_of_cells (fun k x hk => (hp k x hk).1), fun y hy => ?_⟩
    obtain ⟨k, hk⟩ := List.getElem?_of_mem hy
    exact (hp k y hk).2

/-- Integers. -/
theorem open_int_list {q : IntKind} {t e : TypeId} {v : Value} {fuel : Nat} {x : DataW H × List MemPlace} (ht : P.underlying t = some (.slice e)) (he : P.underlying e = some (.int q)) (hC : P.cellsOf e = 1)
    (h : DataW.trod enc P w base spare held fuel t [v] = some x) :
    ∃ A c l, v = .slice A l.length c ∧ l.length ≤ c ∧ c ≤ maxLen ∧ SlOf (ints q) w w.heap.size A l ∧ ∀ y ∈ l, (Lit.int q y).wf = true :=
  open_list (E := ints q) ht hC (fun n cs y hy => by
    obtain ⟨z, rfl, _, hz⟩ := DataW.trod_int he hy
    exact ⟨z, rfl, hz⟩) h
end

end Go.Proofs.Ytgmmblknaeepbaa

namespace Go.Proofs.Ytgmmblknaeepbaa
open Go.RowKit Go.ChangeShapes Go.WideShapes Go.ChangeAt

def clE : Enc (Cl × Option Addr × Nat) := ⟨fun y => [.int .i64 y.1.p, .int .i64 y.1.o, .int .i64 y.1.q, .slice y.2.1 y.1.r.length y.2.2, .int .i64 y.1.c, .int .i64 y.1.b, .int .i64 y.1.e], 7, fun _ => rfl, fun y u hu => by
  simp only [List.mem_cons, List.not_mem_nil, or_false] at hu
  rcases hu with rfl | rfl | rfl | rfl | rfl | rfl | rfl <;> rfl, by omega⟩
def clOk (w : World) (y : Cl × Option Addr × Nat) : Prop := Ws w w.heap.size y.2.1 y.1.r ∧ y.1.r.length ≤ y.2.2 ∧ y.2.2 ≤ maxLen

section
variable {H : Type} {enc : TypeId × Value → H} {w : World} {base : Nat} {spare : Nat → Bool} {held : Bool}
theorem open_words {v : Value} {fuel : Nat} {x : DataW H × List MemPlace} (h : DataW.trod enc Try.prog w base spare held fuel 30 [v] = some x) :
    ∃ A c l, v = .slice A l.length c ∧ l.length ≤ c ∧ c ≤ maxLen ∧ Ws w w.heap.size A l := by
  obtain ⟨A, c, l, h1, h2, h3, h4, h5⟩ := open_int_list (q := .u32) Try.underlying30 Try.underlying33 (by kernel_rfl) h
  exact ⟨A, c, l, h1, h2, h3, h4, h5⟩
set_option maxRecDepth 100000 in
theorem open_clcells {n : Nat} {cs : List Value} {y : DataW H × List MemPlace} (hy : DataW.trod enc Try.prog w base spare held n 32 cs = some y) : ∃ e : Cl × Option Addr × Nat, cs = clE.cells e ∧ clOk w e := by
  obtain ⟨xs, m, _, _, hl, hxl, hf⟩ := DataW.trod_struct Try.underlying32 hy
  have hl5 : cs.length = 7 := hl.trans (by kernel_rfl)
  have c1 : Try.prog.cellsOf 3 = 1 := by kernel_rfl
  have c3 : Try.prog.cellsOf 30 = 1 := by kernel_rfl
  match cs, hl5, xs, hxl with
  | [c0, c1', c2, c3', c4, c5, c6], _, [y0, y1, y2, y3, y4, y5, y6], _ =>
    have g0 := hf 0 _ rfl
    have g1 := hf 1 _ rfl
    have g2 := hf 2 _ rfl
    have g3 := hf 3 _ rfl
    have g4 := hf 4 _ rfl
    have g5 := hf 5 _ rfl
    have g6 := hf 6 _ rfl
    simp [c1, c3] at g0 g1 g2 g3 g4 g5 g6
    obtain ⟨z0, e0, _, _⟩ := DataW.trod_int Try.underlying3 g0
    obtain ⟨z1, e1, _, _⟩ := DataW.trod_int Try.underlying3 g1
    obtain ⟨z2, e2, _, _⟩ := DataW.trod_int Try.underlying3 g2
    obtain ⟨A3, k3, l3, e3, u3, m3, w3⟩ := open_words g3
    obtain ⟨z4, e4, _, _⟩ := DataW.trod_int Try.underlying3 g4
    obtain ⟨z5, e5, _, _⟩ := DataW.trod_int Try.underlying3 g5
    obtain ⟨z6, e6, _, _⟩ := DataW.trod_int Try.underlying3 g6
    simp at e0 e1 e2 e4 e5 e6
    subst e0 e1 e2 e3 e4 e5 e6
    exact ⟨⟨⟨z0, z1, z2, l3, z4, z5, z6⟩, A3, k3⟩, rfl, w3, u3, m3⟩
theorem open_calls {v : Value} {fuel : Nat} {x : DataW H × List MemPlace} (h : DataW.trod enc Try.prog w base spare held fuel 22 [v] = some x) :
    ∃ A c l, v = .slice A l.length c ∧ l.length ≤ c ∧ c ≤ maxLen ∧ ClSl w w.heap.size A l := by
  obtain ⟨A, c, l, h1, h2, h3, h4, h5⟩ := open_list (E := clE) (ok := clOk w) Try.underlying22 (by kernel_rfl) (fun n cs y hy => open_clcells hy) h
  refine ⟨A, c, l.map (·.1), by rw [List.length_map]; exact h1, by rw [List.length_map]; exact h2, h3, fun k x hx => ?_⟩
  rw [List.getElem?_map, Option.map_eq_some_iff] at hx
  obtain ⟨y, hy, rfl⟩ := hx
  obtain ⟨b, off, hA, hb, hc⟩ := h4 k y hy
  obtain ⟨o1, o2, o3⟩ := h5 y (List.mem_of_getElem? hy)
  have hj : ∀ j u, (clE.cells y)[j]? = some u → w.cell? ⟨b, off + k * 7 + j, none⟩ = some u := fun j u hu => by
    have := hc j u hu
    rwa [← Nat.add_assoc] at this
  exact ⟨b, off, y.2.1, y.2.2, hA, hb, ⟨hj 0 _ rfl, hj 1 _ rfl, hj 2 _ rfl, hj 3 _ rfl, hj 4 _ rfl, hj 5 _ rfl, hj 6 _ rfl⟩, o1, o2, o3⟩
end

end Go.Proofs.Ytgmmblknaeepbaa
