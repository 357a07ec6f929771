/- The reference's Line. -/
import Derived.Test.YtkcdmonmgnmojaaDoorAsmV1
import Derived.Test.YtkcdmonmgnmojaaDoorAsmV2
import Derived.Test.YtkcdmonmgnmojaaDoorAsmV3
import Derived.Test.YtkcdmonmgnmojaaDoorAsmV4
namespace Go.Proofs.YtkcdmonmgnmojaaDoor
open Go.RowKit

theorem rline_any (i : Ins) (w : World) (h : insB i = true) (hk : i.ok) : Calls Tryd.prog 11 #[insV i] w fun r w' => r = .returned (.string (lineS i)) ∧ Below w.heap.size w w' := by
  rw [← rline_eq]
  obtain ⟨ha, hb, hc, hm⟩ := fields_bd h hk
  have hkn := (ins_bd h hk).1
  obtain ⟨op, a, b, c, m⟩ := i
  unfold insV
  simp only at ha hb hc hm hkn ⊢
  refine op_all (P := fun op => Calls Tryd.prog 11 #[.agg #[.int .i64 op, .int .i64 a, .int .i64 b, .int .i64 c, .int .u32 m]] w fun r w' => r = .returned (.string (rlineS ⟨op, a, b, c, m⟩)) ∧ Below w.heap.size w w') ?_ op hkn
  intro k hk
  have hcs : k = 0 ∨ k = 1 ∨ k = 2 ∨ k = 3 ∨ k = 4 ∨ k = 5 ∨ k = 6 ∨ k = 7 ∨ k = 8 ∨ k = 9 ∨ k = 10 ∨ k = 11 ∨ k = 12 ∨ k = 13 ∨ k = 14 ∨ k = 15 ∨ k = 16 ∨ k = 17 ∨ k = 18 ∨ k = 19 ∨ k = 20 ∨ k = 21 := by omega
  rcases hcs with rfl | rfl | rfl | rfl | rfl | rfl | rfl | rfl | rfl | rfl | rfl | rfl | rfl | rfl | rfl | rfl | rfl | rfl | rfl | rfl | rfl | rfl
  · exact rline_0 a b c m w ha hb hc hm
  · exact rline_1 a b c m w ha hb hc hm
  · exact rline_2 a b c m w ha hb hc hm
  · exact rline_3 a b c m w ha hb hc hm
  · exact rline_4 a b c m w ha hb hc hm
  · exact rline_5 a b c m w ha hb hc hm
  · exact rline_6 a b c m w ha hb hc hm
  · exact rline_7 a b c m w ha hb hc hm
  · exact rline_8 a b c m w ha hb hc hm
  · exact rline_9 a b c m w ha hb hc hm
  · exact rline_10 a b c m w ha hb hc hm
  · exact rline_11 a b c m w ha hb hc hm
  · exact rline_12 a b c m w ha hb hc hm
  · exact rline_13 a b c m w ha hb hc hm
  · exact rline_14 a b c m w ha hb hc hm
  · exact rline_15 a b c m w ha hb hc hm
  · exact rline_16 a b c m w ha hb hc hm
  · exact rline_17 a b c m w ha hb hc hm
  · exact rline_18 a b c m w ha hb hc hm
  · exact rline_19 a b c m w ha hb hc hm
  · exact rline_20 a b c m w ha hb hc hm
  · exact rline_21 a b c m w ha hb hc hm

end Go.Proofs.YtkcdmonmgnmojaaDoor
