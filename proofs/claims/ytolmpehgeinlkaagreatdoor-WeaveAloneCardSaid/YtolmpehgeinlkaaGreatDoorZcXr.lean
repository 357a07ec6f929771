/- The statement WeaveAlone, walked, and what is handed in, opened. -/
import Derived.Test.YtolmpehgeinlkaaGreatDoorZcXa
import Derived.Test.YtolmpehgeinlkaaGreatDoorZcWm
import Derived.Test.YtolmpehgeinlkaaGreatDoorZcA
import Derived.ProofKit
import Derived.OpenShut
import Derived.ShutString
import Derived.ChangeOld
import Derived.Below
import Derived.Deep.Slices
import Derived.ChangeSame
import Derived.Lib.LaidTab
namespace Go.Proofs.YtolmpehgeinlkaaGreatDoor
open Go.RowKit
attribute [local go_sem] Oper.semAt_some

/-- What is handed in. -/
structure CaOk (o : Ob) (A : Option Addr) (gs : List PG) (l : List Int) (w : World) : Prop where
  hin : ProcsIn w w.heap.size A gs
  ni : o.ni = l.length
  ini : Ws w w.heap.size o.I l
  s0 : 0 ≤ o.st
  s1 : o.st < 4294967296
  tab : Tab64 w
  gt : (0 : Nat) < w.heap.size
section
variable {o : Ob} {A : Option Addr} {gs : List PG} {l : List Int} {w w' : World}
theorem CaOk.below (h : CaOk o A gs l w) (hb : Below w.heap.size w w') : CaOk o A gs l w' :=
  ⟨h.hin.below hb hb.size, h.ni, h.ini.below hb hb.size, h.s0, h.s1, fun j hj => (hb.cell (p := ⟨_, j, none⟩) h.gt).trans (h.tab j hj), Nat.lt_of_lt_of_le h.gt hb.size⟩
theorem CaOk.ok (h : CaOk o A gs l w) (hl : lightW o gs 0) : o.Ok := ⟨h.s0, h.s1, by have := hl.1.1; omega, by have := hl.1.2; omega⟩
theorem light_bd (hl : lightW o gs 0) : gs.length ≤ 1000 ∧ (∀ g ∈ gs, g.ts.length ≤ 1000) ∧ (∀ g ∈ gs, ∀ t ∈ g.ts, t.r.length ≤ 1000) :=
  ⟨by have := hl.2.1; omega, fun g hg => by have := (hl.2.2.2 g hg).1; omega, fun g hg t ht => by have := (hl.2.2.2 g hg).2 t ht; omega⟩
end
theorem none_ks {w : World} {n : Nat} : SlOf (ints .i64) w n none ([] : List Int) := fun j x h => by cases h

set_option maxRecDepth 100000 in
set_option maxHeartbeats 1000000 in
theorem weaveAlone_N (o : Ob) (A : Option Addr) (cap : Nat) (gs : List PG) (l : List Int) (w : World) (h : CaOk o A gs l w) (hl : ¬ lightW o gs 0) : Calls Tryz.prog 4 #[.agg (obA o), .slice A gs.length cap] w fun e w' => e = .returned (.bool true) ∧ Below w.heap.size w w' := by
  have hli := decide_eq_false hl
  have HLI := Lib.hid fun W (h : CaOk o A gs l W) => wlight_g o A none cap 0 0 gs W h.hin
  rw [hli] at HLI
  unfold cwA at HLI
  have HAW := Lib.hid fun W (h : CaOk o A gs l W) => wawake W h.tab h.gt
  clear hli hl
  have hn := RowB.new w (obA o) 26
  have hB := (Below.refl w.heap.size w).alloc (Nat.le_refl _) (.cells (obA o) 26)
  obtain ⟨n, hn0⟩ : ∃ n, w.heap.size = n := ⟨_, rfl⟩
  rw [hn0] at hn hB
  have HN1 := Lib.hid hn
  have HB1 := Lib.hid hB
  have HN0 := Lib.hid hn0
  have HC := Lib.hid h
  clear hn hB h
  rw [hn0]
  unfold obA at HN1 HB1 ⊢
  go_enter Tryz.func4, Tryz.ntmps4
  go_wp2_with fail
  generalize (w.alloc (.cells #[.int .i64 o.k, .int .i64 o.wd, .int .i64 o.s, .int .i64 o.c, .int .u32 o.st, .slice o.I o.ni o.ci, .int .i64 o.wr, .slice o.R o.nr o.cr] 26)) = w1 at HN1 HB1 ⊢
  clear hn0
  have hc : w1.cell? ⟨n, 0, none⟩ = some (.int .i64 o.k) ∧ w1.cell? ⟨n, 1, none⟩ = some (.int .i64 o.wd) ∧ w1.cell? ⟨n, 2, none⟩ = some (.int .i64 o.s) ∧ w1.cell? ⟨n, 3, none⟩ = some (.int .i64 o.c) ∧ w1.cell? ⟨n, 4, none⟩ = some (.int .u32 o.st) ∧ w1.cell? ⟨n, 5, none⟩ = some (.slice o.I o.ni o.ci) ∧ w1.cell? ⟨n, 6, none⟩ = some (.int .i64 o.wr) ∧ w1.cell? ⟨n, 7, none⟩ = some (.slice o.R o.nr o.cr) := ⟨(HN1.out.cell 0).trans rfl, (HN1.out.cell 1).trans rfl, (HN1.out.cell 2).trans rfl, (HN1.out.cell 3).trans rfl, (HN1.out.cell 4).trans rfl, (HN1.out.cell 5).trans rfl, (HN1.out.cell 6).trans rfl, (HN1.out.cell 7).trans rfl⟩
  obtain ⟨c0, c1, c2, c3, c4, c5, c6, c7⟩ := hc
  go_wp2_with fail
  have hba := (Below.refl w1.heap.size w1).alloc (Nat.le_refl _) (.cells #[.int .i64 o.k, .int .i64 o.wd, .int .i64 o.s, .int .i64 o.c, .int .u32 o.st, .slice o.I o.ni o.ci, .int .i64 o.wr, .slice o.R o.nr o.cr, .slice A gs.length cap, .slice none 0 0] 29)
  have HN2 := Lib.hid (HN1.out.kept hba)
  have HB2 := Lib.hid (HB1.out.trans (hba.mono (by have := HN1.out.lt; omega)))
  generalize (w1.alloc (.cells #[.int .i64 o.k, .int .i64 o.wd, .int .i64 o.s, .int .i64 o.c, .int .u32 o.st, .slice o.I o.ni o.ci, .int .i64 o.wr, .slice o.R o.nr o.cr, .slice A gs.length cap, .slice none 0 0] 29)) = w2 at HN2 HB2 hba ⊢
  clear hba c0 c1 c2 c3 c4 c5 c6 c7
  have hc : w2.cell? ⟨n, 0, none⟩ = some (.int .i64 o.k) ∧ w2.cell? ⟨n, 1, none⟩ = some (.int .i64 o.wd) ∧ w2.cell? ⟨n, 2, none⟩ = some (.int .i64 o.s) ∧ w2.cell? ⟨n, 3, none⟩ = some (.int .i64 o.c) ∧ w2.cell? ⟨n, 4, none⟩ = some (.int .u32 o.st) ∧ w2.cell? ⟨n, 5, none⟩ = some (.slice o.I o.ni o.ci) ∧ w2.cell? ⟨n, 6, none⟩ = some (.int .i64 o.wr) ∧ w2.cell? ⟨n, 7, none⟩ = some (.slice o.R o.nr o.cr) := ⟨(HN2.out.cell 0).trans rfl, (HN2.out.cell 1).trans rfl, (HN2.out.cell 2).trans rfl, (HN2.out.cell 3).trans rfl, (HN2.out.cell 4).trans rfl, (HN2.out.cell 5).trans rfl, (HN2.out.cell 6).trans rfl, (HN2.out.cell 7).trans rfl⟩
  obtain ⟨c0, c1, c2, c3, c4, c5, c6, c7⟩ := hc
  refine (HLI.out _ (HC.out.below (by rw [HN0.out]; exact HB2.out))).mono ?_
  rintro e w3 ⟨rfl, hb⟩
  clear c0 c1 c2 c3 c4 c5 c6 c7
  have HN3 := Lib.hid (HN2.out.kept hb)
  have HB3 := Lib.hid (HB2.out.trans (hb.mono (by have := HN2.out.lt; omega)))
  clear hb
  have hc : w3.cell? ⟨n, 0, none⟩ = some (.int .i64 o.k) ∧ w3.cell? ⟨n, 1, none⟩ = some (.int .i64 o.wd) ∧ w3.cell? ⟨n, 2, none⟩ = some (.int .i64 o.s) ∧ w3.cell? ⟨n, 3, none⟩ = some (.int .i64 o.c) ∧ w3.cell? ⟨n, 4, none⟩ = some (.int .u32 o.st) ∧ w3.cell? ⟨n, 5, none⟩ = some (.slice o.I o.ni o.ci) ∧ w3.cell? ⟨n, 6, none⟩ = some (.int .i64 o.wr) ∧ w3.cell? ⟨n, 7, none⟩ = some (.slice o.R o.nr o.cr) := ⟨(HN3.out.cell 0).trans rfl, (HN3.out.cell 1).trans rfl, (HN3.out.cell 2).trans rfl, (HN3.out.cell 3).trans rfl, (HN3.out.cell 4).trans rfl, (HN3.out.cell 5).trans rfl, (HN3.out.cell 6).trans rfl, (HN3.out.cell 7).trans rfl⟩
  obtain ⟨c0, c1, c2, c3, c4, c5, c6, c7⟩ := hc
  go_wp2_with fail
  refine (HAW.out _ (HC.out.below (by rw [HN0.out]; exact HB3.out))).mono ?_
  rintro e w4 ⟨rfl, hb⟩
  clear c0 c1 c2 c3 c4 c5 c6 c7
  have HN4 := Lib.hid (HN3.out.kept hb)
  have HB4 := Lib.hid (HB3.out.trans (hb.mono (by have := HN3.out.lt; omega)))
  clear hb
  have hc : w4.cell? ⟨n, 0, none⟩ = some (.int .i64 o.k) ∧ w4.cell? ⟨n, 1, none⟩ = some (.int .i64 o.wd) ∧ w4.cell? ⟨n, 2, none⟩ = some (.int .i64 o.s) ∧ w4.cell? ⟨n, 3, none⟩ = some (.int .i64 o.c) ∧ w4.cell? ⟨n, 4, none⟩ = some (.int .u32 o.st) ∧ w4.cell? ⟨n, 5, none⟩ = some (.slice o.I o.ni o.ci) ∧ w4.cell? ⟨n, 6, none⟩ = some (.int .i64 o.wr) ∧ w4.cell? ⟨n, 7, none⟩ = some (.slice o.R o.nr o.cr) := ⟨(HN4.out.cell 0).trans rfl, (HN4.out.cell 1).trans rfl, (HN4.out.cell 2).trans rfl, (HN4.out.cell 3).trans rfl, (HN4.out.cell 4).trans rfl, (HN4.out.cell 5).trans rfl, (HN4.out.cell 6).trans rfl, (HN4.out.cell 7).trans rfl⟩
  obtain ⟨c0, c1, c2, c3, c4, c5, c6, c7⟩ := hc
  go_wp2_with fail
  go_ret
  exact ⟨rfl, HB4.out⟩
set_option maxRecDepth 100000 in
set_option maxHeartbeats 1000000 in
theorem weaveAlone_F (o : Ob) (A : Option Addr) (cap : Nat) (gs : List PG) (l : List Int) (w : World) (h : CaOk o A gs l w) (hl : lightW o gs 0) (hf : faultP o (tds gs) ≠ 0) : Calls Tryz.prog 4 #[.agg (obA o), .slice A gs.length cap] w fun e w' => e = .returned (.bool true) ∧ Below w.heap.size w w' := by
  have hli := decide_eq_true hl
  have HLI := Lib.hid fun W (h : CaOk o A gs l W) => wlight_g o A none cap 0 0 gs W h.hin
  rw [hli] at HLI
  unfold cwA at HLI
  have HAW := Lib.hid fun W (h : CaOk o A gs l W) => wawake W h.tab h.gt
  have ho := h.ok hl
  obtain ⟨b1, b2, b3⟩ := light_bd hl
  have HRF := Lib.hid fun W (h : CaOk o A gs l W) => rfault_o o ho A cap gs W h.hin b1 b2 b3
  obtain ⟨fv, hfv⟩ : ∃ x, faultP o (tds gs) = x := ⟨_, rfl⟩
  rw [hfv] at HRF hf
  have d0 : (fv != 0) = true := by simpa using hf
  unfold obA at HRF
  clear hli hl ho b1 b2 b3 hf hfv
  have hn := RowB.new w (obA o) 26
  have hB := (Below.refl w.heap.size w).alloc (Nat.le_refl _) (.cells (obA o) 26)
  obtain ⟨n, hn0⟩ : ∃ n, w.heap.size = n := ⟨_, rfl⟩
  rw [hn0] at hn hB
  have HN1 := Lib.hid hn
  have HB1 := Lib.hid hB
  have HN0 := Lib.hid hn0
  have HC := Lib.hid h
  clear hn hB h
  rw [hn0]
  unfold obA at HN1 HB1 ⊢
  go_enter Tryz.func4, Tryz.ntmps4
  go_wp2_with fail
  generalize (w.alloc (.cells #[.int .i64 o.k, .int .i64 o.wd, .int .i64 o.s, .int .i64 o.c, .int .u32 o.st, .slice o.I o.ni o.ci, .int .i64 o.wr, .slice o.R o.nr o.cr] 26)) = w1 at HN1 HB1 ⊢
  clear hn0
  have hc : w1.cell? ⟨n, 0, none⟩ = some (.int .i64 o.k) ∧ w1.cell? ⟨n, 1, none⟩ = some (.int .i64 o.wd) ∧ w1.cell? ⟨n, 2, none⟩ = some (.int .i64 o.s) ∧ w1.cell? ⟨n, 3, none⟩ = some (.int .i64 o.c) ∧ w1.cell? ⟨n, 4, none⟩ = some (.int .u32 o.st) ∧ w1.cell? ⟨n, 5, none⟩ = some (.slice o.I o.ni o.ci) ∧ w1.cell? ⟨n, 6, none⟩ = some (.int .i64 o.wr) ∧ w1.cell? ⟨n, 7, none⟩ = some (.slice o.R o.nr o.cr) := ⟨(HN1.out.cell 0).trans rfl, (HN1.out.cell 1).trans rfl, (HN1.out.cell 2).trans rfl, (HN1.out.cell 3).trans rfl, (HN1.out.cell 4).trans rfl, (HN1.out.cell 5).trans rfl, (HN1.out.cell 6).trans rfl, (HN1.out.cell 7).trans rfl⟩
  obtain ⟨c0, c1, c2, c3, c4, c5, c6, c7⟩ := hc
  go_wp2_with fail
  have hba := (Below.refl w1.heap.size w1).alloc (Nat.le_refl _) (.cells #[.int .i64 o.k, .int .i64 o.wd, .int .i64 o.s, .int .i64 o.c, .int .u32 o.st, .slice o.I o.ni o.ci, .int .i64 o.wr, .slice o.R o.nr o.cr, .slice A gs.length cap, .slice none 0 0] 29)
  have HN2 := Lib.hid (HN1.out.kept hba)
  have HB2 := Lib.hid (HB1.out.trans (hba.mono (by have := HN1.out.lt; omega)))
  generalize (w1.alloc (.cells #[.int .i64 o.k, .int .i64 o.wd, .int .i64 o.s, .int .i64 o.c, .int .u32 o.st, .slice o.I o.ni o.ci, .int .i64 o.wr, .slice o.R o.nr o.cr, .slice A gs.length cap, .slice none 0 0] 29)) = w2 at HN2 HB2 hba ⊢
  clear hba c0 c1 c2 c3 c4 c5 c6 c7
  have hc : w2.cell? ⟨n, 0, none⟩ = some (.int .i64 o.k) ∧ w2.cell? ⟨n, 1, none⟩ = some (.int .i64 o.wd) ∧ w2.cell? ⟨n, 2, none⟩ = some (.int .i64 o.s) ∧ w2.cell? ⟨n, 3, none⟩ = some (.int .i64 o.c) ∧ w2.cell? ⟨n, 4, none⟩ = some (.int .u32 o.st) ∧ w2.cell? ⟨n, 5, none⟩ = some (.slice o.I o.ni o.ci) ∧ w2.cell? ⟨n, 6, none⟩ = some (.int .i64 o.wr) ∧ w2.cell? ⟨n, 7, none⟩ = some (.slice o.R o.nr o.cr) := ⟨(HN2.out.cell 0).trans rfl, (HN2.out.cell 1).trans rfl, (HN2.out.cell 2).trans rfl, (HN2.out.cell 3).trans rfl, (HN2.out.cell 4).trans rfl, (HN2.out.cell 5).trans rfl, (HN2.out.cell 6).trans rfl, (HN2.out.cell 7).trans rfl⟩
  obtain ⟨c0, c1, c2, c3, c4, c5, c6, c7⟩ := hc
  refine (HLI.out _ (HC.out.below (by rw [HN0.out]; exact HB2.out))).mono ?_
  rintro e w3 ⟨rfl, hb⟩
  clear c0 c1 c2 c3 c4 c5 c6 c7
  have HN3 := Lib.hid (HN2.out.kept hb)
  have HB3 := Lib.hid (HB2.out.trans (hb.mono (by have := HN2.out.lt; omega)))
  clear hb
  have hc : w3.cell? ⟨n, 0, none⟩ = some (.int .i64 o.k) ∧ w3.cell? ⟨n, 1, none⟩ = some (.int .i64 o.wd) ∧ w3.cell? ⟨n, 2, none⟩ = some (.int .i64 o.s) ∧ w3.cell? ⟨n, 3, none⟩ = some (.int .i64 o.c) ∧ w3.cell? ⟨n, 4, none⟩ = some (.int .u32 o.st) ∧ w3.cell? ⟨n, 5, none⟩ = some (.slice o.I o.ni o.ci) ∧ w3.cell? ⟨n, 6, none⟩ = some (.int .i64 o.wr) ∧ w3.cell? ⟨n, 7, none⟩ = some (.slice o.R o.nr o.cr) := ⟨(HN3.out.cell 0).trans rfl, (HN3.out.cell 1).trans rfl, (HN3.out.cell 2).trans rfl, (HN3.out.cell 3).trans rfl, (HN3.out.cell 4).trans rfl, (HN3.out.cell 5).trans rfl, (HN3.out.cell 6).trans rfl, (HN3.out.cell 7).trans rfl⟩
  obtain ⟨c0, c1, c2, c3, c4, c5, c6, c7⟩ := hc
  go_wp2_with fail
  refine (HRF.out _ (HC.out.below (by rw [HN0.out]; exact HB3.out))).mono ?_
  rintro e w4 ⟨rfl, hb⟩
  clear c0 c1 c2 c3 c4 c5 c6 c7
  have HN4 := Lib.hid (HN3.out.kept hb)
  have HB4 := Lib.hid (HB3.out.trans (hb.mono (by have := HN3.out.lt; omega)))
  clear hb
  have hc : w4.cell? ⟨n, 0, none⟩ = some (.int .i64 o.k) ∧ w4.cell? ⟨n, 1, none⟩ = some (.int .i64 o.wd) ∧ w4.cell? ⟨n, 2, none⟩ = some (.int .i64 o.s) ∧ w4.cell? ⟨n, 3, none⟩ = some (.int .i64 o.c) ∧ w4.cell? ⟨n, 4, none⟩ = some (.int .u32 o.st) ∧ w4.cell? ⟨n, 5, none⟩ = some (.slice o.I o.ni o.ci) ∧ w4.cell? ⟨n, 6, none⟩ = some (.int .i64 o.wr) ∧ w4.cell? ⟨n, 7, none⟩ = some (.slice o.R o.nr o.cr) := ⟨(HN4.out.cell 0).trans rfl, (HN4.out.cell 1).trans rfl, (HN4.out.cell 2).trans rfl, (HN4.out.cell 3).trans rfl, (HN4.out.cell 4).trans rfl, (HN4.out.cell 5).trans rfl, (HN4.out.cell 6).trans rfl, (HN4.out.cell 7).trans rfl⟩
  obtain ⟨c0, c1, c2, c3, c4, c5, c6, c7⟩ := hc
  go_wp2_with fail
  refine (HAW.out _ (HC.out.below (by rw [HN0.out]; exact HB4.out))).mono ?_
  rintro e w5 ⟨rfl, hb⟩
  clear c0 c1 c2 c3 c4 c5 c6 c7
  have HN5 := Lib.hid (HN4.out.kept hb)
  have HB5 := Lib.hid (HB4.out.trans (hb.mono (by have := HN4.out.lt; omega)))
  clear hb
  have hc : w5.cell? ⟨n, 0, none⟩ = some (.int .i64 o.k) ∧ w5.cell? ⟨n, 1, none⟩ = some (.int .i64 o.wd) ∧ w5.cell? ⟨n, 2, none⟩ = some (.int .i64 o.s) ∧ w5.cell? ⟨n, 3, none⟩ = some (.int .i64 o.c) ∧ w5.cell? ⟨n, 4, none⟩ = some (.int .u32 o.st) ∧ w5.cell? ⟨n, 5, none⟩ = some (.slice o.I o.ni o.ci) ∧ w5.cell? ⟨n, 6, none⟩ = some (.int .i64 o.wr) ∧ w5.cell? ⟨n, 7, none⟩ = some (.slice o.R o.nr o.cr) := ⟨(HN5.out.cell 0).trans rfl, (HN5.out.cell 1).trans rfl, (HN5.out.cell 2).trans rfl, (HN5.out.cell 3).trans rfl, (HN5.out.cell 4).trans rfl, (HN5.out.cell 5).trans rfl, (HN5.out.cell 6).trans rfl, (HN5.out.cell 7).trans rfl⟩
  obtain ⟨c0, c1, c2, c3, c4, c5, c6, c7⟩ := hc
  go_wp2_with fail
  go_ret
  exact ⟨rfl, HB5.out⟩
set_option maxRecDepth 100000 in
set_option maxHeartbeats 4000000 in
theorem weaveAlone_G (o : Ob) (A : Option Addr) (cap : Nat) (gs : List PG) (l : List Int) (w : World) (h : CaOk o A gs l w) (hl : lightW o gs 0) (hf : faultP o (tds gs) = 0) : Calls Tryz.prog 4 #[.agg (obA o), .slice A gs.length cap] w fun e w' => e = .returned (.bool true) ∧ Below w.heap.size w w' := by
  have hli := decide_eq_true hl
  have HLI := Lib.hid fun W (h : CaOk o A gs l W) => wlight_g o A none cap 0 0 gs W h.hin
  rw [hli] at HLI
  unfold cwA at HLI
  have HAW := Lib.hid fun W (h : CaOk o A gs l W) => wawake W h.tab h.gt
  have ho := h.ok hl
  obtain ⟨b1, b2, b3⟩ := light_bd hl
  have HRF := Lib.hid fun W (h : CaOk o A gs l W) => rfault_o o ho A cap gs W h.hin b1 b2 b3
  have hR := (fault_zero hf).1
  have hg20 := hl.2.1
  have ht20 : ∀ g ∈ gs, g.ts.length ≤ 20 := fun g hg => (hl.2.2.2 g hg).1
  have hT1 : opsN (tds gs) ≤ 1000 := Nat.le_trans (opsN_le hg20 ht20) (by omega)
  have hn1 : bndN o (tds gs) ≤ 1000000 := Nat.le_trans (bndN_le hR hg20 ht20) (by omega)
  have HFN := Lib.hid fun W (h : CaOk o A gs l W) => wFin_2 o ho A none cap 0 gs l [] W h.hin b1 b2 b3 hf h.ni h.ini none_ks (by simp) h.tab h.gt hT1 hn1
  rw [hf] at HRF
  have HSO := Lib.hid (alone_all ho h.ni (ws_w32 h.ini) hf b3 h.hin)
  have HRX := Lib.hid hT1
  unfold obA at HRF HFN
  clear hli hl ho b1 b2 b3 hf hR hg20 ht20 hT1 hn1
  have hn := RowB.new w (obA o) 26
  have hB := (Below.refl w.heap.size w).alloc (Nat.le_refl _) (.cells (obA o) 26)
  obtain ⟨n, hn0⟩ : ∃ n, w.heap.size = n := ⟨_, rfl⟩
  rw [hn0] at hn hB
  have HN1 := Lib.hid hn
  have HB1 := Lib.hid hB
  have HN0 := Lib.hid hn0
  have HC := Lib.hid h
  clear hn hB h
  rw [hn0]
  unfold obA at HN1 HB1 ⊢
  go_enter Tryz.func4, Tryz.ntmps4
  go_wp2_with fail
  generalize (w.alloc (.cells #[.int .i64 o.k, .int .i64 o.wd, .int .i64 o.s, .int .i64 o.c, .int .u32 o.st, .slice o.I o.ni o.ci, .int .i64 o.wr, .slice o.R o.nr o.cr] 26)) = w1 at HN1 HB1 ⊢
  clear hn0
  have hc : w1.cell? ⟨n, 0, none⟩ = some (.int .i64 o.k) ∧ w1.cell? ⟨n, 1, none⟩ = some (.int .i64 o.wd) ∧ w1.cell? ⟨n, 2, none⟩ = some (.int .i64 o.s) ∧ w1.cell? ⟨n, 3, none⟩ = some (.int .i64 o.c) ∧ w1.cell? ⟨n, 4, none⟩ = some (.int .u32 o.st) ∧ w1.cell? ⟨n, 5, none⟩ = some (.slice o.I o.ni o.ci) ∧ w1.cell? ⟨n, 6, none⟩ = some (.int .i64 o.wr) ∧ w1.cell? ⟨n, 7, none⟩ = some (.slice o.R o.nr o.cr) := ⟨(HN1.out.cell 0).trans rfl, (HN1.out.cell 1).trans rfl, (HN1.out.cell 2).trans rfl, (HN1.out.cell 3).trans rfl, (HN1.out.cell 4).trans rfl, (HN1.out.cell 5).trans rfl, (HN1.out.cell 6).trans rfl, (HN1.out.cell 7).trans rfl⟩
  obtain ⟨c0, c1, c2, c3, c4, c5, c6, c7⟩ := hc
  go_wp2_with fail
  have hba := (Below.refl w1.heap.size w1).alloc (Nat.le_refl _) (.cells #[.int .i64 o.k, .int .i64 o.wd, .int .i64 o.s, .int .i64 o.c, .int .u32 o.st, .slice o.I o.ni o.ci, .int .i64 o.wr, .slice o.R o.nr o.cr, .slice A gs.length cap, .slice none 0 0] 29)
  have HN2 := Lib.hid (HN1.out.kept hba)
  have HB2 := Lib.hid (HB1.out.trans (hba.mono (by have := HN1.out.lt; omega)))
  generalize (w1.alloc (.cells #[.int .i64 o.k, .int .i64 o.wd, .int .i64 o.s, .int .i64 o.c, .int .u32 o.st, .slice o.I o.ni o.ci, .int .i64 o.wr, .slice o.R o.nr o.cr, .slice A gs.length cap, .slice none 0 0] 29)) = w2 at HN2 HB2 hba ⊢
  clear hba c0 c1 c2 c3 c4 c5 c6 c7
  have hc : w2.cell? ⟨n, 0, none⟩ = some (.int .i64 o.k) ∧ w2.cell? ⟨n, 1, none⟩ = some (.int .i64 o.wd) ∧ w2.cell? ⟨n, 2, none⟩ = some (.int .i64 o.s) ∧ w2.cell? ⟨n, 3, none⟩ = some (.int .i64 o.c) ∧ w2.cell? ⟨n, 4, none⟩ = some (.int .u32 o.st) ∧ w2.cell? ⟨n, 5, none⟩ = some (.slice o.I o.ni o.ci) ∧ w2.cell? ⟨n, 6, none⟩ = some (.int .i64 o.wr) ∧ w2.cell? ⟨n, 7, none⟩ = some (.slice o.R o.nr o.cr) := ⟨(HN2.out.cell 0).trans rfl, (HN2.out.cell 1).trans rfl, (HN2.out.cell 2).trans rfl, (HN2.out.cell 3).trans rfl, (HN2.out.cell 4).trans rfl, (HN2.out.cell 5).trans rfl, (HN2.out.cell 6).trans rfl, (HN2.out.cell 7).trans rfl⟩
  obtain ⟨c0, c1, c2, c3, c4, c5, c6, c7⟩ := hc
  refine (HLI.out _ (HC.out.below (by rw [HN0.out]; exact HB2.out))).mono ?_
  rintro e w3 ⟨rfl, hb⟩
  clear c0 c1 c2 c3 c4 c5 c6 c7
  have HN3 := Lib.hid (HN2.out.kept hb)
  have HB3 := Lib.hid (HB2.out.trans (hb.mono (by have := HN2.out.lt; omega)))
  clear hb
  have hc : w3.cell? ⟨n, 0, none⟩ = some (.int .i64 o.k) ∧ w3.cell? ⟨n, 1, none⟩ = some (.int .i64 o.wd) ∧ w3.cell? ⟨n, 2, none⟩ = some (.int .i64 o.s) ∧ w3.cell? ⟨n, 3, none⟩ = some (.int .i64 o.c) ∧ w3.cell? ⟨n, 4, none⟩ = some (.int .u32 o.st) ∧ w3.cell? ⟨n, 5, none⟩ = some (.slice o.I o.ni o.ci) ∧ w3.cell? ⟨n, 6, none⟩ = some (.int .i64 o.wr) ∧ w3.cell? ⟨n, 7, none⟩ = some (.slice o.R o.nr o.cr) := ⟨(HN3.out.cell 0).trans rfl, (HN3.out.cell 1).trans rfl, (HN3.out.cell 2).trans rfl, (HN3.out.cell 3).trans rfl, (HN3.out.cell 4).trans rfl, (HN3.out.cell 5).trans rfl, (HN3.out.cell 6).trans rfl, (HN3.out.cell 7).trans rfl⟩
  obtain ⟨c0, c1, c2, c3, c4, c5, c6, c7⟩ := hc
  go_wp2_with fail
  refine (HRF.out _ (HC.out.below (by rw [HN0.out]; exact HB3.out))).mono ?_
  rintro e w4 ⟨rfl, hb⟩
  clear c0 c1 c2 c3 c4 c5 c6 c7
  have HN4 := Lib.hid (HN3.out.kept hb)
  have HB4 := Lib.hid (HB3.out.trans (hb.mono (by have := HN3.out.lt; omega)))
  clear hb
  have hc : w4.cell? ⟨n, 0, none⟩ = some (.int .i64 o.k) ∧ w4.cell? ⟨n, 1, none⟩ = some (.int .i64 o.wd) ∧ w4.cell? ⟨n, 2, none⟩ = some (.int .i64 o.s) ∧ w4.cell? ⟨n, 3, none⟩ = some (.int .i64 o.c) ∧ w4.cell? ⟨n, 4, none⟩ = some (.int .u32 o.st) ∧ w4.cell? ⟨n, 5, none⟩ = some (.slice o.I o.ni o.ci) ∧ w4.cell? ⟨n, 6, none⟩ = some (.int .i64 o.wr) ∧ w4.cell? ⟨n, 7, none⟩ = some (.slice o.R o.nr o.cr) := ⟨(HN4.out.cell 0).trans rfl, (HN4.out.cell 1).trans rfl, (HN4.out.cell 2).trans rfl, (HN4.out.cell 3).trans rfl, (HN4.out.cell 4).trans rfl, (HN4.out.cell 5).trans rfl, (HN4.out.cell 6).trans rfl, (HN4.out.cell 7).trans rfl⟩
  obtain ⟨c0, c1, c2, c3, c4, c5, c6, c7⟩ := hc
  go_wp2_with fail
  refine (HFN.out _ (HC.out.below (by rw [HN0.out]; exact HB4.out))).mono ?_
  rintro e w5 ⟨A3, c3x, es, rfl, hfin, hdn, hgd, hx, hsl, hws, hb⟩
  clear c0 c1 c2 c3 c4 c5 c6 c7
  have HN5 := Lib.hid (HN4.out.kept hb)
  have HB5 := Lib.hid (HB4.out.trans (hb.mono (by have := HN4.out.lt; omega)))
  have HSL := Lib.hid hsl
  have HEL := Lib.hid (alone_es HSO.out hfin hdn hx)
  have HES := Lib.hid (show es.length ≤ 1000000 by have h1 := hfin.cl; have h2 := HRX.out; rw [← hx, List.length_map] at h1; omega)
  clear hfin hdn hgd hx hsl hws
  clear hb
  have hc : w5.cell? ⟨n, 0, none⟩ = some (.int .i64 o.k) ∧ w5.cell? ⟨n, 1, none⟩ = some (.int .i64 o.wd) ∧ w5.cell? ⟨n, 2, none⟩ = some (.int .i64 o.s) ∧ w5.cell? ⟨n, 3, none⟩ = some (.int .i64 o.c) ∧ w5.cell? ⟨n, 4, none⟩ = some (.int .u32 o.st) ∧ w5.cell? ⟨n, 5, none⟩ = some (.slice o.I o.ni o.ci) ∧ w5.cell? ⟨n, 6, none⟩ = some (.int .i64 o.wr) ∧ w5.cell? ⟨n, 7, none⟩ = some (.slice o.R o.nr o.cr) := ⟨(HN5.out.cell 0).trans rfl, (HN5.out.cell 1).trans rfl, (HN5.out.cell 2).trans rfl, (HN5.out.cell 3).trans rfl, (HN5.out.cell 4).trans rfl, (HN5.out.cell 5).trans rfl, (HN5.out.cell 6).trans rfl, (HN5.out.cell 7).trans rfl⟩
  obtain ⟨c0, c1, c2, c3, c4, c5, c6, c7⟩ := hc
  go_wp2_with fail
  clear c0 c1 c2 c3 c4 c5 c6 c7
  go_loopw [4, 31] (fun _ jv wr => ∃ i : Nat, i ≤ es.length ∧ jv = .int .i64 (i : Int) ∧ Below w5.heap.size w5 wr) (fun _ jv _ => es.length - (intOf jv).toNat)
  case atStart => exact ⟨0, Nat.zero_le _, rfl, Below.refl _ _⟩
  case round =>
    obtain ⟨i, hi, rfl, hb⟩ := hrel
    by_cases hlt : i < es.length
    · have hd : decide ((i : Int) < (es.length : Int)) = true := decide_eq_true (by omega)
      have hd2 : decide (i < es.length) = true := decide_eq_true hlt
      obtain ⟨x, hx⟩ : ∃ x, es[i]? = some x := ⟨_, List.getElem?_eq_getElem hlt⟩
      obtain ⟨xb, xo, hA, hxb, hcell⟩ := (HSL.out.below hb hb.size) i x hx
      have z0 : wr.cell? ⟨xb, xo + i * 7, none⟩ = some (.int .i64 x.x.p) := by simpa [cvE, CV.cells, Nat.add_assoc] using hcell 0 _ rfl
      have z1 : wr.cell? ⟨xb, xo + i * 7 + 1, none⟩ = some (.int .i64 x.x.o) := by simpa [cvE, CV.cells, Nat.add_assoc] using hcell 1 _ rfl
      have z2 : wr.cell? ⟨xb, xo + i * 7 + 2, none⟩ = some (.int .i64 x.x.q) := by simpa [cvE, CV.cells, Nat.add_assoc] using hcell 2 _ rfl
      have z3 : wr.cell? ⟨xb, xo + i * 7 + 3, none⟩ = some (.slice x.A x.x.r.length x.c) := by simpa [cvE, CV.cells, Nat.add_assoc] using hcell 3 _ rfl
      have z4 : wr.cell? ⟨xb, xo + i * 7 + 4, none⟩ = some (.int .i64 x.x.c) := by simpa [cvE, CV.cells, Nat.add_assoc] using hcell 4 _ rfl
      have z5 : wr.cell? ⟨xb, xo + i * 7 + 5, none⟩ = some (.int .i64 x.x.b) := by simpa [cvE, CV.cells, Nat.add_assoc] using hcell 5 _ rfl
      have z6 : wr.cell? ⟨xb, xo + i * 7 + 6, none⟩ = some (.int .i64 x.x.e) := by simpa [cvE, CV.cells, Nat.add_assoc] using hcell 6 _ rfl
      have i0 : (0 : Int) ≤ (i : Int) := by omega
      have i1 : (i : Int) < (es.length : Int) := by omega
      have hwi : IntKind.i64.wrap ((i : Int) + 1) = (i : Int) + 1 := sh_wrap (by omega) (by have := HES.out; omega)
      have hba := (Below.refl wr.heap.size wr).alloc (Nat.le_refl _) (.cells #[.int .i64 x.x.p, .int .i64 x.x.o, .int .i64 x.x.q, .slice x.A x.x.r.length x.c, .int .i64 x.x.c, .int .i64 x.x.b, .int .i64 x.x.e] 40)
      have HBQ := Lib.hid (hb.trans (hba.mono hb.size))
      have HI := Lib.hid hlt
      obtain ⟨g1, g2⟩ := HEL.out x (List.mem_of_getElem? hx)
      subst hA
      clear hb hba hlt hi hx hcell hxb
      go_wp2_with fail
      go_roundw
      case rel => exact ⟨i + 1, by have := HI.out; omega, by go_num, HBQ.out⟩
      case measure => have := HI.out; simp [intOf]; omega
    · have hd : decide ((i : Int) < (es.length : Int)) = false := decide_eq_false (by omega)
      obtain rfl : i = es.length := by omega
      have HB9 := Lib.hid (HB5.out.trans (hb.mono (by have := HN5.out.lt; omega)))
      clear hb hlt hi
      go_wp2_with fail
      refine (HAW.out _ (HC.out.below (by rw [HN0.out]; exact HB9.out))).mono ?_
      rintro e w9 ⟨rfl, hb⟩
      have HBA := Lib.hid (HB9.out.trans (hb.mono (by have h2 := HB9.out.size; have h3 := HN0.out; have h4 := HN5.out.lt; omega)))
      clear hb
      go_wp2_with fail
      go_ret
      exact ⟨rfl, HBA.out⟩
theorem weaveAlone_any (o : Ob) (A : Option Addr) (cap : Nat) (gs : List PG) (l : List Int) (w : World) (h : CaOk o A gs l w) : Calls Tryz.prog 4 #[.agg (obA o), .slice A gs.length cap] w fun e w' => e = .returned (.bool true) ∧ Below w.heap.size w w' := by
  by_cases hl : lightW o gs 0
  · by_cases hf : faultP o (tds gs) = 0
    · exact weaveAlone_G o A cap gs l w h hl hf
    · exact weaveAlone_F o A cap gs l w h hl hf
  · exact weaveAlone_N o A cap gs l w h hl

end Go.Proofs.YtolmpehgeinlkaaGreatDoor

namespace Go.Proofs.YtolmpehgeinlkaaGreatDoor
open Go.RowKit Go.ChangeShapes Go.WideShapes Go.ChangeAt

theorem exists_list {α : Type} (p : Nat → α → Prop) : ∀ n : Nat, (∀ i, i < n → ∃ x, p i x) → ∃ l : List α, l.length = n ∧ ∀ k x, l[k]? = some x → p k x
  | 0, _ => ⟨[], rfl, fun k x h => by simp at h⟩
  | n + 1, h => by
    obtain ⟨l, hl, hp⟩ := exists_list p n (fun i hi => h i (by omega))
    obtain ⟨x, hx⟩ := h n (by omega)
    refine ⟨l ++ [x], by simp [hl], fun k y hk => ?_⟩
    by_cases hkn : k < n
    · rw [List.getElem?_append_left (by omega)] at hk
      exact hp k y hk
    · rw [List.getElem?_append_right (by omega), hl] at hk
      have : k - n = 0 := by
        have := get_lt hk
        simp at this; omega
      have hkn' : k = n := by omega
      subst hkn'
      simp at hk
      subst hk
      exact hx

theorem sl_of_cells {α : Type} {E : Enc α} {w : World} {a : Addr} {l : List α} (h : ∀ k x, l[k]? = some x → ∀ j u, (E.cells x)[j]? = some u → w.cell? (a.add (k * E.size + j)) = some u) :
    SlOf E w w.heap.size (some a) l := by
  intro k x hk
  have h0 : ∃ y, l[0]? = some y := get_some (by have := get_lt hk; omega)
  obtain ⟨y, hy⟩ := h0
  have hs : 0 < (E.cells y).length := by rw [E.len]; exact E.pos
  obtain ⟨u, hu⟩ := get_some hs
  have hc := h 0 y hy 0 u hu
  have e0 : 0 * E.size + 0 = 0 := by simp
  rw [e0] at hc
  have hsp := World.cell?_spot hc
  have hb := cell_lt hc
  rw [add_block] at hb
  obtain ⟨b, off, spot⟩ := a
  have : spot = none := by simpa [Addr.add] using hsp
  subst this
  refine ⟨b, off, rfl, hb, fun j u hu => ?_⟩
  have := h k x hk j u hu
  rwa [Addr.add_lit] at this

section
variable {H : Type} {enc : TypeId × Value → H} {P : Program} {w : World} {base : Nat} {spare : Nat → Bool} {held : Bool}

theorem open_list {α : Type} {E : Enc α} {ok : α → Prop} {t e : TypeId} {v : Value} {fuel : Nat} {x : DataW H × List MemPlace} (ht : P.underlying t = some (.slice e)) (hC : P.cellsOf e = E.size)
    (hel : ∀ n cs y, DataW.trod enc P w base spare held n e cs = some y → ∃ z, cs = E.cells z ∧ ok z) (h : DataW.trod enc P w base spare held fuel t [v] = some x) :
    ∃ A c l, v = .slice A l.length c ∧ l.length ≤ c ∧ c ≤ maxLen ∧ SlOf E w w.heap.size A l ∧ ∀ y ∈ l, ok y := by
  rcases Go.Deep.open_slice ht h with ⟨hv, _⟩ | ⟨a, len, cap, m, n, D, Pl, hv, hb, hl, hm, hmm, rfl, hx⟩
  · simp at hv
    subst hv
    exact ⟨none, 0, [], rfl, by simp, by simp [maxLen], SlOf.nil, by simp⟩
  · simp at hv
    subst hv
    have hlm : len ≤ m := by rw [hmm]; split <;> omega
    obtain ⟨l, hll, hp⟩ := exists_list (fun i z => (∀ j u, (E.cells z)[j]? = some u → w.cell? (a.add (i * E.size + j)) = some u) ∧ ok z) len (fun i hi => by
      obtain ⟨cs, hc, ht'⟩ := hx i (by omega)
      obtain ⟨z, rfl, hok⟩ := hel _ _ _ ht'
      rw [hC] at hc
      obtain ⟨_, _, hcell⟩ := World.cells?_some hc
      refine ⟨z, fun j u hu => ?_, hok⟩
      have hj : j < E.size := by rw [← E.len z]; exact get_lt hu
      have := hcell j hj
      rw [add_add', hu] at this
      exact this)
    refine ⟨some a, cap, l, by rw [hll], by omega, hm, sl_of_cells (fun k x hk => (hp k x hk).1), fun y hy => ?_⟩
    obtain ⟨k, hk⟩ := List.getElem?_of_mem hy
    exact (hp k y hk).2

/-- Integers. -/
theorem open_int_list {q : IntKind} {t e : TypeId} {v : Value} {fuel : Nat} {x : DataW H × List MemPlace} (ht : P.underlying t = some (.slice e)) (he : P.underlying e = some (.int q)) (hC : P.cellsOf e = 1)
    (h : DataW.trod enc P w base spare held fuel t [v] = some x) :
    ∃ A c l, v = .slice A l.length c ∧ l.length ≤ c ∧ c ≤ maxLen ∧ SlOf (ints q) w w.heap.size A l ∧ ∀ y ∈ l, (Lit.int q y).wf = true :=
  open_list (E := ints q) ht hC (fun n cs y hy => by
    obtain ⟨z, rfl, _, hz⟩ := DataW.trod_int he hy
    exact ⟨z, rfl, hz⟩) h
end

end Go.Proofs.YtolmpehgeinlkaaGreatDoor

namespace Go.Proofs.YtolmpehgeinlkaaGreatDoor
open Go.RowKit Go.ChangeShapes Go.WideShapes Go.ChangeAt

section
variable {H : Type} {enc : TypeId × Value → H} {w : World} {base : Nat} {spare : Nat → Bool} {held : Bool}
theorem open_words {v : Value} {fuel : Nat} {x : DataW H × List MemPlace} (h : DataW.trod enc Tryz.prog w base spare held fuel 23 [v] = some x) :
    ∃ A c l, v = .slice A l.length c ∧ l.length ≤ c ∧ c ≤ maxLen ∧ Ws w w.heap.size A l := by
  obtain ⟨A, c, l, h1, h2, h3, h4, h5⟩ := open_int_list (q := .u32) Tryz.underlying23 Tryz.underlying22 (by kernel_rfl) h
  exact ⟨A, c, l, h1, h2, h3, h4, h5⟩
set_option maxRecDepth 100000 in
theorem open_obplain {n : Nat} {cs : List Value} {y : DataW H × List MemPlace} (hy : DataW.trod enc Tryz.prog w base spare held n 26 cs = some y) :
    ∃ (o : Ob) (l : List Int), cs = (obA o).toList ∧ 0 ≤ o.st ∧ o.st < 4294967296 ∧ o.ni = l.length ∧ Ws w w.heap.size o.I l := by
  obtain ⟨xs, m, _, _, hl, hxl, hf⟩ := DataW.trod_struct Tryz.underlying26 hy
  have hl5 : cs.length = 8 := hl.trans (by kernel_rfl)
  have c1 : Tryz.prog.cellsOf 3 = 1 := by kernel_rfl
  have c2 : Tryz.prog.cellsOf 22 = 1 := by kernel_rfl
  have c3 : Tryz.prog.cellsOf 23 = 1 := by kernel_rfl
  have c4 : Tryz.prog.cellsOf 24 = 1 := by kernel_rfl
  match cs, hl5, xs, hxl with
  | [b0, b1, b2, b3, b4, b5, b6, b7], _, [y0, y1, y2, y3, y4, y5, y6, y7], _ =>
    have g0 := hf 0 _ rfl
    have g1 := hf 1 _ rfl
    have g2 := hf 2 _ rfl
    have g3 := hf 3 _ rfl
    have g4 := hf 4 _ rfl
    have g5 := hf 5 _ rfl
    have g6 := hf 6 _ rfl
    have g7 := hf 7 _ rfl
    simp [c1, c2, c3, c4] at g0 g1 g2 g3 g4 g5 g6 g7
    obtain ⟨z0, e0, _, _⟩ := DataW.trod_int Tryz.underlying3 g0
    obtain ⟨z1, e1, _, _⟩ := DataW.trod_int Tryz.underlying3 g1
    obtain ⟨z2, e2, _, _⟩ := DataW.trod_int Tryz.underlying3 g2
    obtain ⟨z3, e3, _, _⟩ := DataW.trod_int Tryz.underlying3 g3
    obtain ⟨z4, e4, _, w4⟩ := DataW.trod_int Tryz.underlying22 g4
    obtain ⟨A5, k5, l5, e5, _, _, hw5⟩ := open_words g5
    obtain ⟨z6, e6, _, _⟩ := DataW.trod_int Tryz.underlying3 g6
    obtain ⟨A7, k7, l7, e7, _⟩ := open_int_list (q := .i64) Tryz.underlying24 Tryz.underlying3 (by kernel_rfl) g7
    simp at e0 e1 e2 e3 e4 e6
    subst e0 e1 e2 e3 e4 e5 e6 e7
    simp [Lit.wf, IntKind.min, IntKind.max, IntKind.signed, IntKind.bits] at w4
    exact ⟨⟨z0, z1, z2, z3, z4, A5, l5.length, k5, z6, A7, l7.length, k7⟩, l5, rfl, w4.1, by show z4 < _; omega, rfl, hw5⟩
set_option maxRecDepth 100000 in
theorem open_todo {n : Nat} {cs : List Value} {y : DataW H × List MemPlace} (hy : DataW.trod enc Tryz.prog w base spare held n 45 cs = some y) :
    ∃ t : TV, cs = tvE.cells t ∧ Ws w w.heap.size t.A t.r := by
  obtain ⟨xs, m, _, _, hl, hxl, hf⟩ := DataW.trod_struct Tryz.underlying45 hy
  have hl5 : cs.length = 2 := hl.trans (by kernel_rfl)
  have c1 : Tryz.prog.cellsOf 3 = 1 := by kernel_rfl
  have c3 : Tryz.prog.cellsOf 23 = 1 := by kernel_rfl
  match cs, hl5, xs, hxl with
  | [b0, b1], _, [y0, y1], _ =>
    have g0 := hf 0 _ rfl
    have g1 := hf 1 _ rfl
    simp [c1, c3] at g0 g1
    obtain ⟨z0, e0, _, _⟩ := DataW.trod_int Tryz.underlying3 g0
    obtain ⟨A1, k1, l1, e1, _, _, w1⟩ := open_words g1
    simp at e0
    subst e0 e1
    exact ⟨⟨z0, A1, k1, l1⟩, rfl, w1⟩
set_option maxRecDepth 100000 in
theorem open_todos {v : Value} {fuel : Nat} {x : DataW H × List MemPlace} (h : DataW.trod enc Tryz.prog w base spare held fuel 43 [v] = some x) :
    ∃ A c l, v = .slice A l.length c ∧ l.length ≤ c ∧ c ≤ maxLen ∧ SlOf tvE w w.heap.size A l ∧ ∀ t ∈ l, Ws w w.heap.size t.A t.r :=
  open_list (E := tvE) (ok := fun t => Ws w w.heap.size t.A t.r) Tryz.underlying43 (by kernel_rfl) (fun n cs y hy => open_todo hy) h
set_option maxRecDepth 100000 in
theorem open_procs {v : Value} {fuel : Nat} {x : DataW H × List MemPlace} (h : DataW.trod enc Tryz.prog w base spare held fuel 27 [v] = some x) :
    ∃ A c gs, v = .slice A gs.length c ∧ ProcsIn w w.heap.size A gs := by
  obtain ⟨A, c, gs, h1, h2, h3, h4, h5⟩ := open_list (E := hdE) (ok := fun g => SlOf tvE w w.heap.size g.A g.ts ∧ g.ts.length ≤ g.c ∧ ∀ t ∈ g.ts, Ws w w.heap.size t.A t.r) Tryz.underlying27 (by kernel_rfl) (fun n cs y hy => by
    have hv : ∃ u, cs = [u] := by
      rcases Go.Deep.open_slice Tryz.underlying43 hy with ⟨hv, _⟩ | ⟨a, len, cap, m, n, D, Pl, hv, _⟩
      · exact ⟨_, hv⟩
      · exact ⟨_, hv⟩
    obtain ⟨u, rfl⟩ := hv
    obtain ⟨A, c, r, rfl, h1, h2, h3, h4⟩ := open_todos hy
    exact ⟨⟨A, c, r, none, 0⟩, rfl, h3, h1, h4⟩) h
  exact ⟨A, c, gs, h1, h4, fun g hg => (h5 g hg).1, fun g hg => (h5 g hg).2.1, fun g hg => (h5 g hg).2.2⟩
set_option maxRecDepth 100000 in
theorem open_obj24 {v : Value} {d : DataW H} {p : List MemPlace} {r : Reach} {b : Nat} (hv : Value.okWide Tryz.prog w r b 26 v) (h : DataW.Trod enc Tryz.prog w base spare held 26 v d p) :
    ∃ (o : Ob) (l : List Int), v = .agg (obA o) ∧ 0 ≤ o.st ∧ o.st < 4294967296 ∧ o.ni = l.length ∧ Ws w w.heap.size o.I l := by
  obtain ⟨cs, rfl, _⟩ := okWide_struct Tryz.underlying26 hv
  obtain ⟨fuel, hy⟩ := h
  obtain ⟨o, l, e0, s0, s1, hn, hw⟩ := open_obplain (show DataW.trod enc Tryz.prog w base spare held fuel 26 cs.toList = _ from hy)
  exact ⟨o, l, congrArg Value.agg (Array.toList_inj.1 e0), s0, s1, hn, hw⟩
end

/-- A listed table, wherever it stands on the list. -/
theorem tabIs_of_mem {P : Program} {W : World} {name : String} {k : IntKind} {zs : List Int} {g : Nat} {t e : TypeId} {n : Nat}
    (hg : P.globalNamed name = some g) (hty : (P.globals[g]?).map (·.type) = some t) (ht : P.underlying t = some (.array n e)) (he : P.underlying e = some (.int k)) (hce : P.cellsOf e = 1) (hct : P.cellsOf t = n) :
    ∀ (laid : List (String × DataW Unit)) (ps : List MemPlace), (name, Lib.tabData k zs) ∈ laid → DataW.LaidVars P W laid ps → Lib.TabIs P W name k zs
  | [], _, hm, _ => by simp at hm
  | x :: rest, ps, hm, h => by
    obtain ⟨g', t', cs, fuel, p, q, hg', ht', hvar, hd, hrest, _⟩ := h
    rcases List.mem_cons.1 hm with rfl | hm
    · obtain rfl := Option.some.inj (hg.symm.trans hg')
      obtain rfl := Option.some.inj (hty.symm.trans ht')
      unfold Lib.TabIs
      rw [hvar, ← Lib.cells_of_tab ht he hce hct hd]
    · exact tabIs_of_mem hg hty ht he hce hct rest q hm hrest
theorem laid_bruijn : (Rows.laid_math_bits_deBruijn64tab : DataW Unit) = Lib.tabData .u8 (Lib.deBruijn64tab.map Int.ofNat) := by kernel_rfl
theorem tab64_of {W : World} {laid : List (String × DataW Unit)} (h : ("math/bits.deBruijn64tab", (Rows.laid_math_bits_deBruijn64tab : DataW Unit)) ∈ laid ∧ laidMet Tryz.prog laid W) : Tab64 W ∧ (0 : Nat) < W.heap.size := by
  obtain ⟨hm, ps, hps, _⟩ := h
  rw [laid_bruijn] at hm
  have ht := tabIs_of_mem (g := 0) (t := 170) (e := 5) (n := 64) (by kernel_rfl) (by kernel_rfl) Tryz.underlying170 Tryz.underlying5 (by kernel_rfl) (by kernel_rfl) laid ps hm hps
  have h64 : Tab64 W := fun j hj => by
    have := ht.cell (g := 0) (by kernel_rfl) j (by rw [List.length_map]; exact hj)
    simpa [List.getD, hj] using this
  exact ⟨h64, cell_lt (h64 0 (by decide))⟩

end Go.Proofs.YtolmpehgeinlkaaGreatDoor
