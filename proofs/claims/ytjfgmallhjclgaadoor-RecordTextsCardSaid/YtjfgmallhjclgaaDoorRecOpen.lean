/- Arguments of the laws on records, opened; the listed table. -/
import Derived.Test.YtjfgmallhjclgaaDoorRec3
import Derived.Test.YtjfgmallhjclgaaDoorOpen
import Derived.Lib.LaidTab
namespace Go.Proofs.YtjfgmallhjclgaaDoor
open Go.RowKit Go.ChangeShapes Go.WideShapes Go.ChangeAt

section
variable {H : Type} {enc : TypeId × Value → H} {w : World} {base : Nat} {spare : Nat → Bool} {held : Bool}
theorem open_words {v : Value} {fuel : Nat} {x : DataW H × List MemPlace} (h : DataW.trod enc Tryd.prog w base spare held fuel 23 [v] = some x) :
    ∃ A c l, v = .slice A l.length c ∧ l.length ≤ c ∧ c ≤ maxLen ∧ Ws w w.heap.size A l := by
  obtain ⟨A, c, l, h1, h2, h3, h4, h5⟩ := open_int_list (q := .u32) Tryd.underlying23 Tryd.underlying22 (by kernel_rfl) h
  exact ⟨A, c, l, h1, h2, h3, h4, h5⟩
def slE : Enc (Option Addr × Nat × Nat) := Enc.of1 (fun x => Value.slice x.1 x.2.1 x.2.2) fun _ => rfl
theorem open_recs {v : Value} {fuel : Nat} {x : DataW H × List MemPlace} (h : DataW.trod enc Tryd.prog w base spare held fuel 31 [v] = some x) :
    ∃ A c L, v = .slice A L.length c ∧ L.length ≤ c ∧ c ≤ maxLen ∧ Recs w w.heap.size A L := by
  obtain ⟨A, c, l, h1, h2, h3, h4, h5⟩ := open_list (E := slE) (ok := fun y => ∃ r, y.2.1 = r.length ∧ r.length ≤ y.2.2 ∧ y.2.2 ≤ maxLen ∧ Ws w w.heap.size y.1 r) Tryd.underlying31 (by kernel_rfl) (fun n cs y hy => by
    have hv : ∃ u, cs = [u] := by
      rcases Go.Deep.open_slice Tryd.underlying23 hy with ⟨hv, _⟩ | ⟨a, len, cap, m, n, D, Pl, hv, _⟩
      · exact ⟨_, hv⟩
      · exact ⟨_, hv⟩
    obtain ⟨u, rfl⟩ := hv
    obtain ⟨A, c, r, rfl, h1, h2, h3⟩ := open_words hy
    exact ⟨(A, r.length, c), rfl, r, rfl, h1, h2, h3⟩) h
  obtain ⟨L, hL, hp⟩ := exists_list (fun k (r : List Int) => ∃ A' c', l[k]? = some (A', r.length, c') ∧ Ws w w.heap.size A' r ∧ r.length ≤ c' ∧ c' ≤ maxLen) l.length (fun i hi => by
    obtain ⟨y, hy⟩ := get_some hi
    obtain ⟨r, e1, e2, e3, e4⟩ := h5 y (List.mem_of_getElem? hy)
    obtain ⟨A', n', c'⟩ := y
    dsimp only at e1 e2 e3 e4
    subst e1
    exact ⟨r, A', c', hy, e4, e2, e3⟩)
  refine ⟨A, c, L, by rw [hL]; exact h1, by omega, h3, fun k r hk => ?_⟩
  obtain ⟨A', c', e1, e2, e3, e4⟩ := hp k r hk
  obtain ⟨b, off, hA, hb, hc⟩ := h4 k _ e1
  have := hc 0 _ rfl
  exact ⟨b, off, A', c', hA, hb, by simpa [slE, Enc.of1] using this, e2, e3, e4⟩
end

/-- A listed table, wherever it stands on the list. -/
theorem tabIs_of_mem {P : Program} {W : World} {name : String} {k : IntKind} {zs : List Int} {g : Nat} {t e : TypeId} {n : Nat}
    (hg : P.globalNamed name = some g) (hty : (P.globals[g]?).map (·.type) = some t) (ht : P.underlying t = some (.array n e)) (he : P.underlying e = some (.int k)) (hce : P.cellsOf e = 1) (hct : P.cellsOf t = n) :
    ∀ (laid : List (String × DataW Unit)) (ps : List MemPlace), (name, Lib.tabData k zs) ∈ laid → DataW.LaidVars P W laid ps → Lib.TabIs P W name k zs
  | [], _, hm, _ => by simp at hm
  | x :: rest, ps, hm, h => by
    obtain ⟨g', t', cs, fuel, p, q, hg', ht', hvar, hd, hrest, _⟩ := h
    rcases List.mem_cons.1 hm with rfl | hm
    · obtain rfl := Option.some.inj (hg.symm.trans hg')
      obtain rfl := Option.some.inj (hty.symm.trans ht')
      unfold Lib.TabIs
      rw [hvar, ← Lib.cells_of_tab ht he hce hct hd]
    · exact tabIs_of_mem hg hty ht he hce hct rest q hm hrest

theorem laid_pow : (Rows.laid_internal_strconv_uint64pow10 : DataW Unit) = Lib.tabData .u64 Lib.pow10Tab := by kernel_rfl

theorem tab_of {W : World} {laid : List (String × DataW Unit)} (h : ("internal/strconv.uint64pow10", (Rows.laid_internal_strconv_uint64pow10 : DataW Unit)) ∈ laid ∧ laidMet Tryd.prog laid W) : Tab W := by
  obtain ⟨hm, ps, hps, _⟩ := h
  rw [laid_pow] at hm
  exact tabIs_of_mem (g := 0) (t := 77) (e := 49) (n := 20) (by kernel_rfl) (by kernel_rfl) Tryd.underlying77 Tryd.underlying49 (by kernel_rfl) (by kernel_rfl) laid ps hm hps

theorem rows_pow1 {W : World} (h : laidMetH Tryd.prog Rows.recordFindsRow.laid W) : ("internal/strconv.uint64pow10", (Rows.laid_internal_strconv_uint64pow10 : DataW Unit)) ∈ Rows.recordFindsRow.laid ∧ laidMet Tryd.prog Rows.recordFindsRow.laid W :=
  ⟨by simp [Rows.recordFindsRow], h⟩
theorem rows_pow3 {W : World} (h : laidMetH Tryd.prog Rows.recordStampsRow.laid W) : ("internal/strconv.uint64pow10", (Rows.laid_internal_strconv_uint64pow10 : DataW Unit)) ∈ Rows.recordStampsRow.laid ∧ laidMet Tryd.prog Rows.recordStampsRow.laid W :=
  ⟨by simp [Rows.recordStampsRow], h⟩
theorem rows_pow {W : World} (h : laidMetH Tryd.prog Rows.recordUnstampsRow.laid W) : ("internal/strconv.uint64pow10", (Rows.laid_internal_strconv_uint64pow10 : DataW Unit)) ∈ Rows.recordUnstampsRow.laid ∧ laidMet Tryd.prog Rows.recordUnstampsRow.laid W :=
  ⟨by simp [Rows.recordUnstampsRow], h⟩
theorem rows_pow4 {W : World} (h : laidMetH Tryd.prog Rows.recordTextsRow.laid W) : ("internal/strconv.uint64pow10", (Rows.laid_internal_strconv_uint64pow10 : DataW Unit)) ∈ Rows.recordTextsRow.laid ∧ laidMet Tryd.prog Rows.recordTextsRow.laid W :=
  ⟨by simp [Rows.recordTextsRow], h⟩

end Go.Proofs.YtjfgmallhjclgaaDoor
