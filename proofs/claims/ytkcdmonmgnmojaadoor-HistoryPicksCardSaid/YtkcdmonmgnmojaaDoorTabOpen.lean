/- The listed table of powers of ten. -/
import Derived.Test.YtkcdmonmgnmojaaDoorTab
import Derived.Test.YtkcdmonmgnmojaaDoorOpen
import Derived.Lib.LaidTab
namespace Go.Proofs.YtkcdmonmgnmojaaDoor
open Go.RowKit Go.ChangeShapes Go.WideShapes Go.ChangeAt

/-- A listed table, wherever it stands on the list. -/
theorem tabIs_of_mem {P : Program} {W : World} {name : String} {k : IntKind} {zs : List Int} {g : Nat} {t e : TypeId} {n : Nat}
    (hg : P.globalNamed name = some g) (hty : (P.globals[g]?).map (·.type) = some t) (ht : P.underlying t = some (.array n e)) (he : P.underlying e = some (.int k)) (hce : P.cellsOf e = 1) (hct : P.cellsOf t = n) :
    ∀ (laid : List (String × DataW Unit)) (ps : List MemPlace), (name, Lib.tabData k zs) ∈ laid → DataW.LaidVars P W laid ps → Lib.TabIs P W name k zs
  | [], _, hm, _ => by simp at hm
  | x :: rest, ps, hm, h => by
    obtain ⟨g', t', cs, fuel, p, q, hg', ht', hvar, hd, hrest, _⟩ := h
    rcases List.mem_cons.1 hm with rfl | hm
    · obtain rfl := Option.some.inj (hg.symm.trans hg')
      obtain rfl := Option.some.inj (hty.symm.trans ht')
      unfold Lib.TabIs
      rw [hvar, ← Lib.cells_of_tab ht he hce hct hd]
    · exact tabIs_of_mem hg hty ht he hce hct rest q hm hrest

theorem laid_pow : (Rows.laid_internal_strconv_uint64pow10 : DataW Unit) = Lib.tabData .u64 Lib.pow10Tab := by kernel_rfl

theorem tab_of {W : World} {laid : List (String × DataW Unit)} (h : ("internal/strconv.uint64pow10", (Rows.laid_internal_strconv_uint64pow10 : DataW Unit)) ∈ laid ∧ laidMet Tryd.prog laid W) : Tab W := by
  obtain ⟨hm, ps, hps, _⟩ := h
  rw [laid_pow] at hm
  exact tabIs_of_mem (g := 0) (t := 176) (e := 114) (n := 20) (by kernel_rfl) (by kernel_rfl) Tryd.underlying176 Tryd.underlying114 (by kernel_rfl) (by kernel_rfl) laid ps hm hps

end Go.Proofs.YtkcdmonmgnmojaaDoor
