/- A memory's words. -/
import Derived.Test.YtgjcniokgdicpaaGreatDoorZcOgT
namespace Go.Proofs.YtgjcniokgdicpaaGreatDoor
open Go.RowKit
attribute [local go_sem] Oper.semAt_some
set_option maxHeartbeats 4000000
set_option maxRecDepth 100000
theorem res_twin (tmps : Array Value) (w : World) (arr : Array Value) {b : Nat} (ha : tmps.getD 2 undef = .pointer (some ⟨b, 0, none⟩)) (hg : RowB w b arr 113) (hs : arr.size = 23) :
  (results Tryz.f145 tmps).run Tryz.prog w = .ok (.agg arr) w :=
 results_cell_row (by rfl) tmps w b 113 arr (0, 0) _ ha hg Tryz.underlying113 rfl (by rw [hs]; kernel_rfl)
section
variable (sb : Nat) (ty : TypeId) (o : Ob) (c : Kc) (rv mp : Value)
theorem twin_o (w : World) (h : OpS w sb ty o c rv mp) (hl : c.rc.length ≤ 1000000) (hmp : ∃ q, mp = .pointer q) : Calls Tryz.prog 145 #[.pointer (some ⟨sb, 0, none⟩)] w fun e w' => ∃ u A9 M9 c9, e = .returned (.agg (coreG o c u (.slice A9 M9 c9) mp)) ∧ UsedIs u c.used ∧ Own (ints .u32) 32 w.heap.size w' (.slice A9 M9 c9) c.rc ∧ Below w.heap.size w w' := by
 obtain ⟨mq, rfl⟩ := hmp
 obtain ⟨u, hu, hr⟩ := h.row
 obtain ⟨A, M, hrv, hc1, hc2, hsl⟩ := h.rc.sl
 subst hrv
 have HWS := Lib.hid (show Ws w w.heap.size A c.rc from ⟨hsl, h.w32.wf⟩)
 obtain ⟨n, hn⟩ : ∃ n, w.heap.size = n := ⟨_, rfl⟩
 have hlt := hr.lt
 unfold coreG at hr
 have hb1 := (Below.refl w.heap.size w).alloc (Nat.le_refl _) (.cells #[.int .i64 0, .int .i64 0, .int .i64 0, .int .i64 0, .int .u32 0, .slice none 0 0, .int .i64 0, .slice none 0 0, .int .i64 0, .int .i64 0, .int .i64 0, .int .i64 0, .int .i64 0, .int .u32 0, .int .u32 0, .int .u64 0, .slice none 0 0, .pointer none, .int .i64 0, .int .i64 0, .int .i64 0, .int .i64 0, .bool false] 113)
 have hr1 := hr.kept hb1
 have hz1 := RowB.new w #[.int .i64 0, .int .i64 0, .int .i64 0, .int .i64 0, .int .u32 0, .slice none 0 0, .int .i64 0, .slice none 0 0, .int .i64 0, .int .i64 0, .int .i64 0, .int .i64 0, .int .i64 0, .int .u32 0, .int .u32 0, .int .u64 0, .slice none 0 0, .pointer none, .int .i64 0, .int .i64 0, .int .i64 0, .int .i64 0, .bool false] 113
 obtain ⟨w1, hw1⟩ : ∃ x, w.alloc (.cells #[.int .i64 0, .int .i64 0, .int .i64 0, .int .i64 0, .int .u32 0, .slice none 0 0, .int .i64 0, .slice none 0 0, .int .i64 0, .int .i64 0, .int .i64 0, .int .i64 0, .int .i64 0, .int .u32 0, .int .u32 0, .int .u64 0, .slice none 0 0, .pointer none, .int .i64 0, .int .i64 0, .int .i64 0, .int .i64 0, .bool false] 113) = x := ⟨_, rfl⟩
 have hs1 : w1.heap.size = n + 1 := by rw [← hw1, World.size_alloc, hn]
 rw [hw1] at hb1 hr1 hz1
 rw [hn] at hz1 hb1
 have hb2 := hb1.alloc (by omega) (.cells #[.int .i64 0, .int .i64 0, .int .i64 0, .int .i64 0, .int .u32 0, .slice none 0 0, .int .i64 0, .slice none 0 0, .int .i64 0, .int .i64 0, .int .i64 0, .int .i64 0, .int .i64 0, .int .u32 0, .int .u32 0, .int .u64 0, .slice none 0 0, .pointer none, .int .i64 0, .int .i64 0, .int .i64 0, .int .i64 0, .bool false] 113)
 have hr2 := hr1.kept ((Below.refl w1.heap.size w1).alloc (Nat.le_refl _) (.cells #[.int .i64 0, .int .i64 0, .int .i64 0, .int .i64 0, .int .u32 0, .slice none 0 0, .int .i64 0, .slice none 0 0, .int .i64 0, .int .i64 0, .int .i64 0, .int .i64 0, .int .i64 0, .int .u32 0, .int .u32 0, .int .u64 0, .slice none 0 0, .pointer none, .int .i64 0, .int .i64 0, .int .i64 0, .int .i64 0, .bool false] 113))
 have hz2 := hz1.kept ((Below.refl w1.heap.size w1).alloc (Nat.le_refl _) (.cells #[.int .i64 0, .int .i64 0, .int .i64 0, .int .i64 0, .int .u32 0, .slice none 0 0, .int .i64 0, .slice none 0 0, .int .i64 0, .int .i64 0, .int .i64 0, .int .i64 0, .int .i64 0, .int .u32 0, .int .u32 0, .int .u64 0, .slice none 0 0, .pointer none, .int .i64 0, .int .i64 0, .int .i64 0, .int .i64 0, .bool false] 113))
 have hc2' := RowB.new w1 #[.int .i64 0, .int .i64 0, .int .i64 0, .int .i64 0, .int .u32 0, .slice none 0 0, .int .i64 0, .slice none 0 0, .int .i64 0, .int .i64 0, .int .i64 0, .int .i64 0, .int .i64 0, .int .u32 0, .int .u32 0, .int .u64 0, .slice none 0 0, .pointer none, .int .i64 0, .int .i64 0, .int .i64 0, .int .i64 0, .bool false] 113
 rw [hs1] at hc2'
 have hr3 := hr2.far (g := n + 1) (cells := #[.int .i64 o.k, .int .i64 o.wd, .int .i64 o.s, .int .i64 o.c, .int .u32 o.st, .slice o.I o.ni o.ci, .int .i64 o.wr, .slice o.R o.nr o.cr, .int .i64 c.op, .int .i64 (c.rd : Int), .int .i64 (c.ph : Int), .int .i64 (c.i : Int), .int .i64 (c.tr : Int), .int .u32 c.A, .int .u32 c.B, .int .u64 u, .slice A c.rc.length M, .pointer mq, .int .i64 (c.base : Int), .int .i64 (c.size : Int), .int .i64 c.code, .int .i64 (c.steps : Int), .bool c.over]) (by omega)
 have hz3 := hz2.far (g := n + 1) (cells := #[.int .i64 o.k, .int .i64 o.wd, .int .i64 o.s, .int .i64 o.c, .int .u32 o.st, .slice o.I o.ni o.ci, .int .i64 o.wr, .slice o.R o.nr o.cr, .int .i64 c.op, .int .i64 (c.rd : Int), .int .i64 (c.ph : Int), .int .i64 (c.i : Int), .int .i64 (c.tr : Int), .int .u32 c.A, .int .u32 c.B, .int .u64 u, .slice A c.rc.length M, .pointer mq, .int .i64 (c.base : Int), .int .i64 (c.size : Int), .int .i64 c.code, .int .i64 (c.steps : Int), .bool c.over]) (by omega)
 have hc3 : RowB ((w1.alloc (.cells #[.int .i64 0, .int .i64 0, .int .i64 0, .int .i64 0, .int .u32 0, .slice none 0 0, .int .i64 0, .slice none 0 0, .int .i64 0, .int .i64 0, .int .i64 0, .int .i64 0, .int .i64 0, .int .u32 0, .int .u32 0, .int .u64 0, .slice none 0 0, .pointer none, .int .i64 0, .int .i64 0, .int .i64 0, .int .i64 0, .bool false] 113)).setRow (n + 1) #[.int .i64 o.k, .int .i64 o.wd, .int .i64 o.s, .int .i64 o.c, .int .u32 o.st, .slice o.I o.ni o.ci, .int .i64 o.wr, .slice o.R o.nr o.cr, .int .i64 c.op, .int .i64 (c.rd : Int), .int .i64 (c.ph : Int), .int .i64 (c.i : Int), .int .i64 (c.tr : Int), .int .u32 c.A, .int .u32 c.B, .int .u64 u, .slice A c.rc.length M, .pointer mq, .int .i64 (c.base : Int), .int .i64 (c.size : Int), .int .i64 c.code, .int .i64 (c.steps : Int), .bool c.over]) (n + 1) #[.int .i64 o.k, .int .i64 o.wd, .int .i64 o.s, .int .i64 o.c, .int .u32 o.st, .slice o.I o.ni o.ci, .int .i64 o.wr, .slice o.R o.nr o.cr, .int .i64 c.op, .int .i64 (c.rd : Int), .int .i64 (c.ph : Int), .int .i64 (c.i : Int), .int .i64 (c.tr : Int), .int .u32 c.A, .int .u32 c.B, .int .u64 u, .slice A c.rc.length M, .pointer mq, .int .i64 (c.base : Int), .int .i64 (c.size : Int), .int .i64 c.code, .int .i64 (c.steps : Int), .bool c.over] 113 := hc2'.row
 have hb3 := below_setRow hb2 (n + 1) #[.int .i64 o.k, .int .i64 o.wd, .int .i64 o.s, .int .i64 o.c, .int .u32 o.st, .slice o.I o.ni o.ci, .int .i64 o.wr, .slice o.R o.nr o.cr, .int .i64 c.op, .int .i64 (c.rd : Int), .int .i64 (c.ph : Int), .int .i64 (c.i : Int), .int .i64 (c.tr : Int), .int .u32 c.A, .int .u32 c.B, .int .u64 u, .slice A c.rc.length M, .pointer mq, .int .i64 (c.base : Int), .int .i64 (c.size : Int), .int .i64 c.code, .int .i64 (c.steps : Int), .bool c.over] (by omega)
 have HR1 := Lib.hid hr1
 have HC2 := Lib.hid hc2'
 have HR3 := Lib.hid hr3
 have HZ3 := Lib.hid hz3
 have HC3 := Lib.hid hc3
 have HB3 := Lib.hid hb3
 have HU := Lib.hid hu
 have HL := Lib.hid hl
 have HN := Lib.hid hn
 have HS1 := Lib.hid hs1
 clear hr hr1 hz1 hb1 hb2 hr2 hz2 hc2' hr3 hz3 hc3 hb3 hu hl hsl hc1 hc2 h
 go_enter Tryz.func145, Tryz.ntmps145
 go_wp2_with (first
  | (refine wpList_load_row rfl 113 (.tmp 5) rfl sb rfl ty #[.int .i64 o.k, .int .i64 o.wd, .int .i64 o.s, .int .i64 o.c, .int .u32 o.st, .slice o.I o.ni o.ci, .int .i64 o.wr, .slice o.R o.nr o.cr, .int .i64 c.op, .int .i64 (c.rd : Int), .int .i64 (c.ph : Int), .int .i64 (c.i : Int), .int .i64 (c.tr : Int), .int .u32 c.A, .int .u32 c.B, .int .u64 u, .slice A c.rc.length M, .pointer mq, .int .i64 (c.base : Int), .int .i64 (c.size : Int), .int .i64 c.code, .int .i64 (c.steps : Int), .bool c.over] (0, 0) _ HR1.out Tryz.underlying113 rfl (by kernel_rfl) ?_)
  | (refine wpList_store_row rfl 113 (.tmp 3) (.tmp 6) rfl (n + 1) #[.int .i64 o.k, .int .i64 o.wd, .int .i64 o.s, .int .i64 o.c, .int .u32 o.st, .slice o.I o.ni o.ci, .int .i64 o.wr, .slice o.R o.nr o.cr, .int .i64 c.op, .int .i64 (c.rd : Int), .int .i64 (c.ph : Int), .int .i64 (c.i : Int), .int .i64 (c.tr : Int), .int .u32 c.A, .int .u32 c.B, .int .u64 u, .slice A c.rc.length M, .pointer mq, .int .i64 (c.base : Int), .int .i64 (c.size : Int), .int .i64 c.code, .int .i64 (c.steps : Int), .bool c.over] rfl rfl 113 _ HC2.out (by kernel_rfl) rfl (by simp [Value.oneCell']) ?_
     generalize (w1.alloc (.cells #[.int .i64 0, .int .i64 0, .int .i64 0, .int .i64 0, .int .u32 0, .slice none 0 0, .int .i64 0, .slice none 0 0, .int .i64 0, .int .i64 0, .int .i64 0, .int .i64 0, .int .i64 0, .int .u32 0, .int .u32 0, .int .u64 0, .slice none 0 0, .pointer none, .int .i64 0, .int .i64 0, .int .i64 0, .int .i64 0, .bool false] 113)).setRow (n + 1) #[.int .i64 o.k, .int .i64 o.wd, .int .i64 o.s, .int .i64 o.c, .int .u32 o.st, .slice o.I o.ni o.ci, .int .i64 o.wr, .slice o.R o.nr o.cr, .int .i64 c.op, .int .i64 (c.rd : Int), .int .i64 (c.ph : Int), .int .i64 (c.i : Int), .int .i64 (c.tr : Int), .int .u32 c.A, .int .u32 c.B, .int .u64 u, .slice A c.rc.length M, .pointer mq, .int .i64 (c.base : Int), .int .i64 (c.size : Int), .int .i64 c.code, .int .i64 (c.steps : Int), .bool c.over] = w3 at HR3 HZ3 HC3 HB3 ⊢
     have c16 := HR3.out.at 16 (.slice A c.rc.length M)
     clear hw1))
 refine (clone_w A M c.rc w3 HL.out (HWS.out.below (HN.out.symm ▸ HB3.out) HB3.out.size)).mono ?_
 rintro ex wx ⟨v, rfl, hv, hbx⟩
 obtain ⟨A9, M9, c9, rfl⟩ := own_slice hv.1
 have HV := Lib.hid hv
 have HZ4 := Lib.hid (HZ3.out.kept hbx)
 have hc4 := HC3.out.kept hbx
 have HB4 := Lib.hid (HB3.out.trans (hbx.mono (by have := HB3.out.size; omega)))
 have HB3b := Lib.hid HB3.out.size
 have d16 := (hc4.cell 16).trans rfl
 have f16 := hc4.frozen 16
 have HC5 := Lib.hid (show RowB (wx.setCell ⟨n + 1, 16, none⟩ (.slice A9 M9 c9)) (n + 1) #[.int .i64 o.k, .int .i64 o.wd, .int .i64 o.s, .int .i64 o.c, .int .u32 o.st, .slice o.I o.ni o.ci, .int .i64 o.wr, .slice o.R o.nr o.cr, .int .i64 c.op, .int .i64 (c.rd : Int), .int .i64 (c.ph : Int), .int .i64 (c.i : Int), .int .i64 (c.tr : Int), .int .u32 c.A, .int .u32 c.B, .int .u64 u, .slice A9 M9 c9, .pointer mq, .int .i64 (c.base : Int), .int .i64 (c.size : Int), .int .i64 c.code, .int .i64 (c.steps : Int), .bool c.over] 113 from hc4.set 16 (.slice A9 M9 c9))
 have HT5 := Lib.hid ((Tch.refl (fun b => b = n + 1) wx).set (b := n + 1) rfl 16 (.slice A9 M9 c9))
 have HZ5 := Lib.hid (HZ4.out.tch HT5.out (by omega))
 clear hv hbx hc4 c16
 have HF := Lib.hid (show RowB ((wx.setCell ⟨n + 1, 16, none⟩ (.slice A9 M9 c9)).setRow n #[.int .i64 o.k, .int .i64 o.wd, .int .i64 o.s, .int .i64 o.c, .int .u32 o.st, .slice o.I o.ni o.ci, .int .i64 o.wr, .slice o.R o.nr o.cr, .int .i64 c.op, .int .i64 (c.rd : Int), .int .i64 (c.ph : Int), .int .i64 (c.i : Int), .int .i64 (c.tr : Int), .int .u32 c.A, .int .u32 c.B, .int .u64 u, .slice A9 M9 c9, .pointer mq, .int .i64 (c.base : Int), .int .i64 (c.size : Int), .int .i64 c.code, .int .i64 (c.steps : Int), .bool c.over]) n #[.int .i64 o.k, .int .i64 o.wd, .int .i64 o.s, .int .i64 o.c, .int .u32 o.st, .slice o.I o.ni o.ci, .int .i64 o.wr, .slice o.R o.nr o.cr, .int .i64 c.op, .int .i64 (c.rd : Int), .int .i64 (c.ph : Int), .int .i64 (c.i : Int), .int .i64 (c.tr : Int), .int .u32 c.A, .int .u32 c.B, .int .u64 u, .slice A9 M9 c9, .pointer mq, .int .i64 (c.base : Int), .int .i64 (c.size : Int), .int .i64 c.code, .int .i64 (c.steps : Int), .bool c.over] 113 from HZ5.out.row)
 have HTT := Lib.hid (((Tch.refl (fun b => b = n + 1 ∨ b = n) wx).set (b := n + 1) (.inl rfl) 16 (.slice A9 M9 c9)).row (b := n) (.inr rfl) #[.int .i64 o.k, .int .i64 o.wd, .int .i64 o.s, .int .i64 o.c, .int .u32 o.st, .slice o.I o.ni o.ci, .int .i64 o.wr, .slice o.R o.nr o.cr, .int .i64 c.op, .int .i64 (c.rd : Int), .int .i64 (c.ph : Int), .int .i64 (c.i : Int), .int .i64 (c.tr : Int), .int .u32 c.A, .int .u32 c.B, .int .u64 u, .slice A9 M9 c9, .pointer mq, .int .i64 (c.base : Int), .int .i64 (c.size : Int), .int .i64 c.code, .int .i64 (c.steps : Int), .bool c.over])
 go_wp2_with (first
  | (refine wpList_load_row rfl 113 (.tmp 3) rfl (n + 1) rfl 113 #[.int .i64 o.k, .int .i64 o.wd, .int .i64 o.s, .int .i64 o.c, .int .u32 o.st, .slice o.I o.ni o.ci, .int .i64 o.wr, .slice o.R o.nr o.cr, .int .i64 c.op, .int .i64 (c.rd : Int), .int .i64 (c.ph : Int), .int .i64 (c.i : Int), .int .i64 (c.tr : Int), .int .u32 c.A, .int .u32 c.B, .int .u64 u, .slice A9 M9 c9, .pointer mq, .int .i64 (c.base : Int), .int .i64 (c.size : Int), .int .i64 c.code, .int .i64 (c.steps : Int), .bool c.over] (0, 0) _ HC5.out Tryz.underlying113 rfl (by kernel_rfl) ?_)
  | (refine wpList_store_row rfl 113 (.tmp 2) (.tmp 13) rfl n #[.int .i64 o.k, .int .i64 o.wd, .int .i64 o.s, .int .i64 o.c, .int .u32 o.st, .slice o.I o.ni o.ci, .int .i64 o.wr, .slice o.R o.nr o.cr, .int .i64 c.op, .int .i64 (c.rd : Int), .int .i64 (c.ph : Int), .int .i64 (c.i : Int), .int .i64 (c.tr : Int), .int .u32 c.A, .int .u32 c.B, .int .u64 u, .slice A9 M9 c9, .pointer mq, .int .i64 (c.base : Int), .int .i64 (c.size : Int), .int .i64 c.code, .int .i64 (c.steps : Int), .bool c.over] rfl rfl 113 _ HZ5.out (by kernel_rfl) rfl (by simp [Value.oneCell']) ?_))
 refine bodyPost_ret (res_twin _ _ _ rfl HF.out rfl) rfl ?_
 have h3 := HB3b.out
 have hw3 := HR3.out.lt
 have hlt3 := HC3.out.lt
 have hx3 := HB4.out.size
 refine ⟨u, A9, M9, c9, rfl, HU.out, ?_, ?_⟩
 ·refine own_tch (HV.out.1.mono (Nat.le_trans h3 (Nat.le_refl _))) HTT.out (fun b hb e => ?_)
  have := (World.ownsRow.lt HV.out.1 b hb).1
  rcases e with q | q <;> omega
 ·have hB := HB4.out.trans (HTT.out.below (N := n) (by have := HN.out; omega) (fun k _ q => by rcases q with q | q <;> omega))
  rw [HN.out]
  exact hB
end
end Go.Proofs.YtgjcniokgdicpaaGreatDoor

namespace Go.Proofs.YtgjcniokgdicpaaGreatDoor
open Go.RowKit
attribute [local go_sem] Oper.semAt_some
set_option maxHeartbeats 1000000
set_option maxRecDepth 100000
theorem fourClone_nil (w : World) : Calls Tryz.prog 87 #[.pointer none] w fun e w' => e = .returned (.pointer none) ∧ w' = w := by
 go_enter Tryz.func87, Tryz.ntmps87
 go_wp2_with fail
 go_ret
 exact ⟨rfl, rfl⟩
theorem fourClone_o (sb : Nat) (ty : TypeId) (o : Ob) (c : Kc) (rv mp : Value) (w : World) (h : OpS w sb ty o c rv mp) (hl : c.rc.length ≤ 1000000) (hmp : ∃ q, mp = .pointer q) : Calls Tryz.prog 87 #[.pointer (some ⟨sb, 0, none⟩)] w fun e w' => ∃ x, e = .returned (.pointer (some ⟨x, 0, none⟩)) ∧ w.heap.size ≤ x ∧ Below w.heap.size w w' ∧ ∃ rv', OpS w' x 118 o c rv' mp ∧ (∀ b, rv'.ownBlock = some b → w.heap.size ≤ b) := by
 have HT := Lib.hid (twin_o sb ty o c rv mp w h hl hmp)
 have HF := Lib.hid h.fits
 have HW := Lib.hid h.w32
 obtain ⟨mq, rfl⟩ := hmp
 clear h hl
 go_enter Tryz.func87, Tryz.ntmps87
 go_wp2_with fail
 refine HT.out.mono ?_
 rintro e w1 ⟨u, A9, M9, c9, rfl, hu, hown, hb⟩
 unfold coreG
 have HO := Lib.hid hown
 have HB := Lib.hid hb
 have HU := Lib.hid hu
 obtain ⟨N, hN⟩ : ∃ N, w1.heap.size = N := ⟨_, rfl⟩
 clear hown hb hu
 go_wp2_with (first
  | (refine wpList_build rfl 118 _ rfl (by kernel_rfl) ?_
     refine Great.wpList_boxTo rfl 118 (.tmp 9) rfl (some 10) rfl N hN #[.int .i64 o.k, .int .i64 o.wd, .int .i64 o.s, .int .i64 o.c, .int .u32 o.st, .slice o.I o.ni o.ci, .int .i64 o.wr, .slice o.R o.nr o.cr, .int .i64 c.op, .int .i64 (c.rd : Int), .int .i64 (c.ph : Int), .int .i64 (c.i : Int), .int .i64 (c.tr : Int), .int .u32 c.A, .int .u32 c.B, .int .u64 u, .slice A9 M9 c9, .pointer mq, .int .i64 (c.base : Int), .int .i64 (c.size : Int), .int .i64 c.code, .int .i64 (c.steps : Int), .bool c.over] (by kernel_rfl) ?_))
 go_ret
 have hb9 := (Below.refl w1.heap.size w1).alloc (Nat.le_refl _) (.cells #[.int .i64 o.k, .int .i64 o.wd, .int .i64 o.s, .int .i64 o.c, .int .u32 o.st, .slice o.I o.ni o.ci, .int .i64 o.wr, .slice o.R o.nr o.cr, .int .i64 c.op, .int .i64 (c.rd : Int), .int .i64 (c.ph : Int), .int .i64 (c.i : Int), .int .i64 (c.tr : Int), .int .u32 c.A, .int .u32 c.B, .int .u64 u, .slice A9 M9 c9, .pointer mq, .int .i64 (c.base : Int), .int .i64 (c.size : Int), .int .i64 c.code, .int .i64 (c.steps : Int), .bool c.over] 118)
 have hrow := RowB.new w1 #[.int .i64 o.k, .int .i64 o.wd, .int .i64 o.s, .int .i64 o.c, .int .u32 o.st, .slice o.I o.ni o.ci, .int .i64 o.wr, .slice o.R o.nr o.cr, .int .i64 c.op, .int .i64 (c.rd : Int), .int .i64 (c.ph : Int), .int .i64 (c.i : Int), .int .i64 (c.tr : Int), .int .u32 c.A, .int .u32 c.B, .int .u64 u, .slice A9 M9 c9, .pointer mq, .int .i64 (c.base : Int), .int .i64 (c.size : Int), .int .i64 c.code, .int .i64 (c.steps : Int), .bool c.over] 118
 rw [hN] at hrow
 have hs1 := HB.out.size
 have hlt : ∀ b, (Value.slice A9 M9 c9).ownBlock = some b → w.heap.size ≤ b ∧ b < w1.heap.size := fun b hb => World.ownsRow.lt HO.out b hb
 refine ⟨N, rfl, by omega, HB.out.trans (hb9.mono hs1), .slice A9 M9 c9, ⟨⟨u, HU.out, hrow⟩, (HO.out.below hb9 (Nat.le_refl _)).mono (Nat.zero_le _), HW.out, HF.out, fun e => ?_⟩, fun b hb => (hlt b hb).1⟩
 have := (hlt N e).2
 omega
theorem chenClone_nil (w : World) : Calls Tryz.prog 88 #[.pointer none] w fun e w' => e = .returned (.pointer none) ∧ w' = w := by
 go_enter Tryz.func88, Tryz.ntmps88
 go_wp2_with fail
 go_ret
 exact ⟨rfl, rfl⟩
theorem chenClone_o (sb : Nat) (ty : TypeId) (o : Ob) (c : Kc) (rv mp : Value) (w : World) (h : OpS w sb ty o c rv mp) (hl : c.rc.length ≤ 1000000) (hmp : ∃ q, mp = .pointer q) : Calls Tryz.prog 88 #[.pointer (some ⟨sb, 0, none⟩)] w fun e w' => ∃ x, e = .returned (.pointer (some ⟨x, 0, none⟩)) ∧ w.heap.size ≤ x ∧ Below w.heap.size w w' ∧ ∃ rv', OpS w' x 119 o c rv' mp ∧ (∀ b, rv'.ownBlock = some b → w.heap.size ≤ b) := by
 have HT := Lib.hid (twin_o sb ty o c rv mp w h hl hmp)
 have HF := Lib.hid h.fits
 have HW := Lib.hid h.w32
 obtain ⟨mq, rfl⟩ := hmp
 clear h hl
 go_enter Tryz.func88, Tryz.ntmps88
 go_wp2_with fail
 refine HT.out.mono ?_
 rintro e w1 ⟨u, A9, M9, c9, rfl, hu, hown, hb⟩
 unfold coreG
 have HO := Lib.hid hown
 have HB := Lib.hid hb
 have HU := Lib.hid hu
 obtain ⟨N, hN⟩ : ∃ N, w1.heap.size = N := ⟨_, rfl⟩
 clear hown hb hu
 go_wp2_with (first
  | (refine wpList_build rfl 119 _ rfl (by kernel_rfl) ?_
     refine Great.wpList_boxTo rfl 119 (.tmp 9) rfl (some 10) rfl N hN #[.int .i64 o.k, .int .i64 o.wd, .int .i64 o.s, .int .i64 o.c, .int .u32 o.st, .slice o.I o.ni o.ci, .int .i64 o.wr, .slice o.R o.nr o.cr, .int .i64 c.op, .int .i64 (c.rd : Int), .int .i64 (c.ph : Int), .int .i64 (c.i : Int), .int .i64 (c.tr : Int), .int .u32 c.A, .int .u32 c.B, .int .u64 u, .slice A9 M9 c9, .pointer mq, .int .i64 (c.base : Int), .int .i64 (c.size : Int), .int .i64 c.code, .int .i64 (c.steps : Int), .bool c.over] (by kernel_rfl) ?_))
 go_ret
 have hb9 := (Below.refl w1.heap.size w1).alloc (Nat.le_refl _) (.cells #[.int .i64 o.k, .int .i64 o.wd, .int .i64 o.s, .int .i64 o.c, .int .u32 o.st, .slice o.I o.ni o.ci, .int .i64 o.wr, .slice o.R o.nr o.cr, .int .i64 c.op, .int .i64 (c.rd : Int), .int .i64 (c.ph : Int), .int .i64 (c.i : Int), .int .i64 (c.tr : Int), .int .u32 c.A, .int .u32 c.B, .int .u64 u, .slice A9 M9 c9, .pointer mq, .int .i64 (c.base : Int), .int .i64 (c.size : Int), .int .i64 c.code, .int .i64 (c.steps : Int), .bool c.over] 119)
 have hrow := RowB.new w1 #[.int .i64 o.k, .int .i64 o.wd, .int .i64 o.s, .int .i64 o.c, .int .u32 o.st, .slice o.I o.ni o.ci, .int .i64 o.wr, .slice o.R o.nr o.cr, .int .i64 c.op, .int .i64 (c.rd : Int), .int .i64 (c.ph : Int), .int .i64 (c.i : Int), .int .i64 (c.tr : Int), .int .u32 c.A, .int .u32 c.B, .int .u64 u, .slice A9 M9 c9, .pointer mq, .int .i64 (c.base : Int), .int .i64 (c.size : Int), .int .i64 c.code, .int .i64 (c.steps : Int), .bool c.over] 119
 rw [hN] at hrow
 have hs1 := HB.out.size
 have hlt : ∀ b, (Value.slice A9 M9 c9).ownBlock = some b → w.heap.size ≤ b ∧ b < w1.heap.size := fun b hb => World.ownsRow.lt HO.out b hb
 refine ⟨N, rfl, by omega, HB.out.trans (hb9.mono hs1), .slice A9 M9 c9, ⟨⟨u, HU.out, hrow⟩, (HO.out.below hb9 (Nat.le_refl _)).mono (Nat.zero_le _), HW.out, HF.out, fun e => ?_⟩, fun b hb => (hlt b hb).1⟩
 have := (hlt N e).2
 omega
theorem seqClone_nil (w : World) : Calls Tryz.prog 89 #[.pointer none] w fun e w' => e = .returned (.pointer none) ∧ w' = w := by
 go_enter Tryz.func89, Tryz.ntmps89
 go_wp2_with fail
 go_ret
 exact ⟨rfl, rfl⟩
theorem seqClone_o (sb : Nat) (ty : TypeId) (o : Ob) (c : Kc) (rv mp : Value) (w : World) (h : OpS w sb ty o c rv mp) (hl : c.rc.length ≤ 1000000) (hmp : ∃ q, mp = .pointer q) : Calls Tryz.prog 89 #[.pointer (some ⟨sb, 0, none⟩)] w fun e w' => ∃ x, e = .returned (.pointer (some ⟨x, 0, none⟩)) ∧ w.heap.size ≤ x ∧ Below w.heap.size w w' ∧ ∃ rv', OpS w' x 120 o c rv' mp ∧ (∀ b, rv'.ownBlock = some b → w.heap.size ≤ b) := by
 have HT := Lib.hid (twin_o sb ty o c rv mp w h hl hmp)
 have HF := Lib.hid h.fits
 have HW := Lib.hid h.w32
 obtain ⟨mq, rfl⟩ := hmp
 clear h hl
 go_enter Tryz.func89, Tryz.ntmps89
 go_wp2_with fail
 refine HT.out.mono ?_
 rintro e w1 ⟨u, A9, M9, c9, rfl, hu, hown, hb⟩
 unfold coreG
 have HO := Lib.hid hown
 have HB := Lib.hid hb
 have HU := Lib.hid hu
 obtain ⟨N, hN⟩ : ∃ N, w1.heap.size = N := ⟨_, rfl⟩
 clear hown hb hu
 go_wp2_with (first
  | (refine wpList_build rfl 120 _ rfl (by kernel_rfl) ?_
     refine Great.wpList_boxTo rfl 120 (.tmp 9) rfl (some 10) rfl N hN #[.int .i64 o.k, .int .i64 o.wd, .int .i64 o.s, .int .i64 o.c, .int .u32 o.st, .slice o.I o.ni o.ci, .int .i64 o.wr, .slice o.R o.nr o.cr, .int .i64 c.op, .int .i64 (c.rd : Int), .int .i64 (c.ph : Int), .int .i64 (c.i : Int), .int .i64 (c.tr : Int), .int .u32 c.A, .int .u32 c.B, .int .u64 u, .slice A9 M9 c9, .pointer mq, .int .i64 (c.base : Int), .int .i64 (c.size : Int), .int .i64 c.code, .int .i64 (c.steps : Int), .bool c.over] (by kernel_rfl) ?_))
 go_ret
 have hb9 := (Below.refl w1.heap.size w1).alloc (Nat.le_refl _) (.cells #[.int .i64 o.k, .int .i64 o.wd, .int .i64 o.s, .int .i64 o.c, .int .u32 o.st, .slice o.I o.ni o.ci, .int .i64 o.wr, .slice o.R o.nr o.cr, .int .i64 c.op, .int .i64 (c.rd : Int), .int .i64 (c.ph : Int), .int .i64 (c.i : Int), .int .i64 (c.tr : Int), .int .u32 c.A, .int .u32 c.B, .int .u64 u, .slice A9 M9 c9, .pointer mq, .int .i64 (c.base : Int), .int .i64 (c.size : Int), .int .i64 c.code, .int .i64 (c.steps : Int), .bool c.over] 120)
 have hrow := RowB.new w1 #[.int .i64 o.k, .int .i64 o.wd, .int .i64 o.s, .int .i64 o.c, .int .u32 o.st, .slice o.I o.ni o.ci, .int .i64 o.wr, .slice o.R o.nr o.cr, .int .i64 c.op, .int .i64 (c.rd : Int), .int .i64 (c.ph : Int), .int .i64 (c.i : Int), .int .i64 (c.tr : Int), .int .u32 c.A, .int .u32 c.B, .int .u64 u, .slice A9 M9 c9, .pointer mq, .int .i64 (c.base : Int), .int .i64 (c.size : Int), .int .i64 c.code, .int .i64 (c.steps : Int), .bool c.over] 120
 rw [hN] at hrow
 have hs1 := HB.out.size
 have hlt : ∀ b, (Value.slice A9 M9 c9).ownBlock = some b → w.heap.size ≤ b ∧ b < w1.heap.size := fun b hb => World.ownsRow.lt HO.out b hb
 refine ⟨N, rfl, by omega, HB.out.trans (hb9.mono hs1), .slice A9 M9 c9, ⟨⟨u, HU.out, hrow⟩, (HO.out.below hb9 (Nat.le_refl _)).mono (Nat.zero_le _), HW.out, HF.out, fun e => ?_⟩, fun b hb => (hlt b hb).1⟩
 have := (hlt N e).2
 omega
theorem ringClone_nil (w : World) : Calls Tryz.prog 90 #[.pointer none] w fun e w' => e = .returned (.pointer none) ∧ w' = w := by
 go_enter Tryz.func90, Tryz.ntmps90
 go_wp2_with fail
 go_ret
 exact ⟨rfl, rfl⟩
theorem ringClone_o (sb : Nat) (ty : TypeId) (o : Ob) (c : Kc) (rv mp : Value) (w : World) (h : OpS w sb ty o c rv mp) (hl : c.rc.length ≤ 1000000) (hmp : ∃ q, mp = .pointer q) : Calls Tryz.prog 90 #[.pointer (some ⟨sb, 0, none⟩)] w fun e w' => ∃ x, e = .returned (.pointer (some ⟨x, 0, none⟩)) ∧ w.heap.size ≤ x ∧ Below w.heap.size w w' ∧ ∃ rv', OpS w' x 121 o c rv' mp ∧ (∀ b, rv'.ownBlock = some b → w.heap.size ≤ b) := by
 have HT := Lib.hid (twin_o sb ty o c rv mp w h hl hmp)
 have HF := Lib.hid h.fits
 have HW := Lib.hid h.w32
 obtain ⟨mq, rfl⟩ := hmp
 clear h hl
 go_enter Tryz.func90, Tryz.ntmps90
 go_wp2_with fail
 refine HT.out.mono ?_
 rintro e w1 ⟨u, A9, M9, c9, rfl, hu, hown, hb⟩
 unfold coreG
 have HO := Lib.hid hown
 have HB := Lib.hid hb
 have HU := Lib.hid hu
 obtain ⟨N, hN⟩ : ∃ N, w1.heap.size = N := ⟨_, rfl⟩
 clear hown hb hu
 go_wp2_with (first
  | (refine wpList_build rfl 121 _ rfl (by kernel_rfl) ?_
     refine Great.wpList_boxTo rfl 121 (.tmp 9) rfl (some 10) rfl N hN #[.int .i64 o.k, .int .i64 o.wd, .int .i64 o.s, .int .i64 o.c, .int .u32 o.st, .slice o.I o.ni o.ci, .int .i64 o.wr, .slice o.R o.nr o.cr, .int .i64 c.op, .int .i64 (c.rd : Int), .int .i64 (c.ph : Int), .int .i64 (c.i : Int), .int .i64 (c.tr : Int), .int .u32 c.A, .int .u32 c.B, .int .u64 u, .slice A9 M9 c9, .pointer mq, .int .i64 (c.base : Int), .int .i64 (c.size : Int), .int .i64 c.code, .int .i64 (c.steps : Int), .bool c.over] (by kernel_rfl) ?_))
 go_ret
 have hb9 := (Below.refl w1.heap.size w1).alloc (Nat.le_refl _) (.cells #[.int .i64 o.k, .int .i64 o.wd, .int .i64 o.s, .int .i64 o.c, .int .u32 o.st, .slice o.I o.ni o.ci, .int .i64 o.wr, .slice o.R o.nr o.cr, .int .i64 c.op, .int .i64 (c.rd : Int), .int .i64 (c.ph : Int), .int .i64 (c.i : Int), .int .i64 (c.tr : Int), .int .u32 c.A, .int .u32 c.B, .int .u64 u, .slice A9 M9 c9, .pointer mq, .int .i64 (c.base : Int), .int .i64 (c.size : Int), .int .i64 c.code, .int .i64 (c.steps : Int), .bool c.over] 121)
 have hrow := RowB.new w1 #[.int .i64 o.k, .int .i64 o.wd, .int .i64 o.s, .int .i64 o.c, .int .u32 o.st, .slice o.I o.ni o.ci, .int .i64 o.wr, .slice o.R o.nr o.cr, .int .i64 c.op, .int .i64 (c.rd : Int), .int .i64 (c.ph : Int), .int .i64 (c.i : Int), .int .i64 (c.tr : Int), .int .u32 c.A, .int .u32 c.B, .int .u64 u, .slice A9 M9 c9, .pointer mq, .int .i64 (c.base : Int), .int .i64 (c.size : Int), .int .i64 c.code, .int .i64 (c.steps : Int), .bool c.over] 121
 rw [hN] at hrow
 have hs1 := HB.out.size
 have hlt : ∀ b, (Value.slice A9 M9 c9).ownBlock = some b → w.heap.size ≤ b ∧ b < w1.heap.size := fun b hb => World.ownsRow.lt HO.out b hb
 refine ⟨N, rfl, by omega, HB.out.trans (hb9.mono hs1), .slice A9 M9 c9, ⟨⟨u, HU.out, hrow⟩, (HO.out.below hb9 (Nat.le_refl _)).mono (Nat.zero_le _), HW.out, HF.out, fun e => ?_⟩, fun b hb => (hlt b hb).1⟩
 have := (hlt N e).2
 omega
theorem cabClone_nil (w : World) : Calls Tryz.prog 91 #[.pointer none] w fun e w' => e = .returned (.pointer none) ∧ w' = w := by
 go_enter Tryz.func91, Tryz.ntmps91
 go_wp2_with fail
 go_ret
 exact ⟨rfl, rfl⟩
theorem cabClone_o (sb : Nat) (ty : TypeId) (o : Ob) (c : Kc) (rv mp : Value) (w : World) (h : OpS w sb ty o c rv mp) (hl : c.rc.length ≤ 1000000) (hmp : ∃ q, mp = .pointer q) : Calls Tryz.prog 91 #[.pointer (some ⟨sb, 0, none⟩)] w fun e w' => ∃ x, e = .returned (.pointer (some ⟨x, 0, none⟩)) ∧ w.heap.size ≤ x ∧ Below w.heap.size w w' ∧ ∃ rv', OpS w' x 122 o c rv' mp ∧ (∀ b, rv'.ownBlock = some b → w.heap.size ≤ b) := by
 have HT := Lib.hid (twin_o sb ty o c rv mp w h hl hmp)
 have HF := Lib.hid h.fits
 have HW := Lib.hid h.w32
 obtain ⟨mq, rfl⟩ := hmp
 clear h hl
 go_enter Tryz.func91, Tryz.ntmps91
 go_wp2_with fail
 refine HT.out.mono ?_
 rintro e w1 ⟨u, A9, M9, c9, rfl, hu, hown, hb⟩
 unfold coreG
 have HO := Lib.hid hown
 have HB := Lib.hid hb
 have HU := Lib.hid hu
 obtain ⟨N, hN⟩ : ∃ N, w1.heap.size = N := ⟨_, rfl⟩
 clear hown hb hu
 go_wp2_with (first
  | (refine wpList_build rfl 122 _ rfl (by kernel_rfl) ?_
     refine Great.wpList_boxTo rfl 122 (.tmp 9) rfl (some 10) rfl N hN #[.int .i64 o.k, .int .i64 o.wd, .int .i64 o.s, .int .i64 o.c, .int .u32 o.st, .slice o.I o.ni o.ci, .int .i64 o.wr, .slice o.R o.nr o.cr, .int .i64 c.op, .int .i64 (c.rd : Int), .int .i64 (c.ph : Int), .int .i64 (c.i : Int), .int .i64 (c.tr : Int), .int .u32 c.A, .int .u32 c.B, .int .u64 u, .slice A9 M9 c9, .pointer mq, .int .i64 (c.base : Int), .int .i64 (c.size : Int), .int .i64 c.code, .int .i64 (c.steps : Int), .bool c.over] (by kernel_rfl) ?_))
 go_ret
 have hb9 := (Below.refl w1.heap.size w1).alloc (Nat.le_refl _) (.cells #[.int .i64 o.k, .int .i64 o.wd, .int .i64 o.s, .int .i64 o.c, .int .u32 o.st, .slice o.I o.ni o.ci, .int .i64 o.wr, .slice o.R o.nr o.cr, .int .i64 c.op, .int .i64 (c.rd : Int), .int .i64 (c.ph : Int), .int .i64 (c.i : Int), .int .i64 (c.tr : Int), .int .u32 c.A, .int .u32 c.B, .int .u64 u, .slice A9 M9 c9, .pointer mq, .int .i64 (c.base : Int), .int .i64 (c.size : Int), .int .i64 c.code, .int .i64 (c.steps : Int), .bool c.over] 122)
 have hrow := RowB.new w1 #[.int .i64 o.k, .int .i64 o.wd, .int .i64 o.s, .int .i64 o.c, .int .u32 o.st, .slice o.I o.ni o.ci, .int .i64 o.wr, .slice o.R o.nr o.cr, .int .i64 c.op, .int .i64 (c.rd : Int), .int .i64 (c.ph : Int), .int .i64 (c.i : Int), .int .i64 (c.tr : Int), .int .u32 c.A, .int .u32 c.B, .int .u64 u, .slice A9 M9 c9, .pointer mq, .int .i64 (c.base : Int), .int .i64 (c.size : Int), .int .i64 c.code, .int .i64 (c.steps : Int), .bool c.over] 122
 rw [hN] at hrow
 have hs1 := HB.out.size
 have hlt : ∀ b, (Value.slice A9 M9 c9).ownBlock = some b → w.heap.size ≤ b ∧ b < w1.heap.size := fun b hb => World.ownsRow.lt HO.out b hb
 refine ⟨N, rfl, by omega, HB.out.trans (hb9.mono hs1), .slice A9 M9 c9, ⟨⟨u, HU.out, hrow⟩, (HO.out.below hb9 (Nat.le_refl _)).mono (Nat.zero_le _), HW.out, HF.out, fun e => ?_⟩, fun b hb => (hlt b hb).1⟩
 have := (hlt N e).2
 omega
theorem fifoClone_nil (w : World) : Calls Tryz.prog 92 #[.pointer none] w fun e w' => e = .returned (.pointer none) ∧ w' = w := by
 go_enter Tryz.func92, Tryz.ntmps92
 go_wp2_with fail
 go_ret
 exact ⟨rfl, rfl⟩
theorem fifoClone_o (sb : Nat) (ty : TypeId) (o : Ob) (c : Kc) (rv mp : Value) (w : World) (h : OpS w sb ty o c rv mp) (hl : c.rc.length ≤ 1000000) (hmp : ∃ q, mp = .pointer q) : Calls Tryz.prog 92 #[.pointer (some ⟨sb, 0, none⟩)] w fun e w' => ∃ x, e = .returned (.pointer (some ⟨x, 0, none⟩)) ∧ w.heap.size ≤ x ∧ Below w.heap.size w w' ∧ ∃ rv', OpS w' x 123 o c rv' mp ∧ (∀ b, rv'.ownBlock = some b → w.heap.size ≤ b) := by
 have HT := Lib.hid (twin_o sb ty o c rv mp w h hl hmp)
 have HF := Lib.hid h.fits
 have HW := Lib.hid h.w32
 obtain ⟨mq, rfl⟩ := hmp
 clear h hl
 go_enter Tryz.func92, Tryz.ntmps92
 go_wp2_with fail
 refine HT.out.mono ?_
 rintro e w1 ⟨u, A9, M9, c9, rfl, hu, hown, hb⟩
 unfold coreG
 have HO := Lib.hid hown
 have HB := Lib.hid hb
 have HU := Lib.hid hu
 obtain ⟨N, hN⟩ : ∃ N, w1.heap.size = N := ⟨_, rfl⟩
 clear hown hb hu
 go_wp2_with (first
  | (refine wpList_build rfl 123 _ rfl (by kernel_rfl) ?_
     refine Great.wpList_boxTo rfl 123 (.tmp 9) rfl (some 10) rfl N hN #[.int .i64 o.k, .int .i64 o.wd, .int .i64 o.s, .int .i64 o.c, .int .u32 o.st, .slice o.I o.ni o.ci, .int .i64 o.wr, .slice o.R o.nr o.cr, .int .i64 c.op, .int .i64 (c.rd : Int), .int .i64 (c.ph : Int), .int .i64 (c.i : Int), .int .i64 (c.tr : Int), .int .u32 c.A, .int .u32 c.B, .int .u64 u, .slice A9 M9 c9, .pointer mq, .int .i64 (c.base : Int), .int .i64 (c.size : Int), .int .i64 c.code, .int .i64 (c.steps : Int), .bool c.over] (by kernel_rfl) ?_))
 go_ret
 have hb9 := (Below.refl w1.heap.size w1).alloc (Nat.le_refl _) (.cells #[.int .i64 o.k, .int .i64 o.wd, .int .i64 o.s, .int .i64 o.c, .int .u32 o.st, .slice o.I o.ni o.ci, .int .i64 o.wr, .slice o.R o.nr o.cr, .int .i64 c.op, .int .i64 (c.rd : Int), .int .i64 (c.ph : Int), .int .i64 (c.i : Int), .int .i64 (c.tr : Int), .int .u32 c.A, .int .u32 c.B, .int .u64 u, .slice A9 M9 c9, .pointer mq, .int .i64 (c.base : Int), .int .i64 (c.size : Int), .int .i64 c.code, .int .i64 (c.steps : Int), .bool c.over] 123)
 have hrow := RowB.new w1 #[.int .i64 o.k, .int .i64 o.wd, .int .i64 o.s, .int .i64 o.c, .int .u32 o.st, .slice o.I o.ni o.ci, .int .i64 o.wr, .slice o.R o.nr o.cr, .int .i64 c.op, .int .i64 (c.rd : Int), .int .i64 (c.ph : Int), .int .i64 (c.i : Int), .int .i64 (c.tr : Int), .int .u32 c.A, .int .u32 c.B, .int .u64 u, .slice A9 M9 c9, .pointer mq, .int .i64 (c.base : Int), .int .i64 (c.size : Int), .int .i64 c.code, .int .i64 (c.steps : Int), .bool c.over] 123
 rw [hN] at hrow
 have hs1 := HB.out.size
 have hlt : ∀ b, (Value.slice A9 M9 c9).ownBlock = some b → w.heap.size ≤ b ∧ b < w1.heap.size := fun b hb => World.ownsRow.lt HO.out b hb
 refine ⟨N, rfl, by omega, HB.out.trans (hb9.mono hs1), .slice A9 M9 c9, ⟨⟨u, HU.out, hrow⟩, (HO.out.below hb9 (Nat.le_refl _)).mono (Nat.zero_le _), HW.out, HF.out, fun e => ?_⟩, fun b hb => (hlt b hb).1⟩
 have := (hlt N e).2
 omega
end Go.Proofs.YtgjcniokgdicpaaGreatDoor

namespace Go.Proofs.YtgjcniokgdicpaaGreatDoor
open Go.RowKit
attribute [local go_sem] Oper.semAt_some
set_option maxHeartbeats 2000000
set_option maxRecDepth 100000
def ClK (k j : Int) (t : TypeId) (o : Ob) (c : Kc) (mp : Value) (W w : World) (q : Option Addr) : Prop := (k = j → ∃ x, q = some ⟨x, 0, none⟩ ∧ W.heap.size ≤ x ∧ ∃ rv, OpS w x t o c rv mp ∧ ∀ b, rv.ownBlock = some b → W.heap.size ≤ b) ∧ (k ≠ j → q = none)
def Acc (k : Int) (o : Ob) (c : Kc) (mp : Value) (W w : World) (L : List (Int × TypeId × Option Addr)) : Prop := Below W.heap.size W w ∧ ∀ x ∈ L, ClK k x.1 x.2.1 o c mp W w x.2.2
section
variable {k : Int} {o : Ob} {c : Kc} {mp : Value} {W w w' : World} {L : List (Int × TypeId × Option Addr)}
theorem ClK.mono {j : Int} {t : TypeId} {q : Option Addr} (h : ClK k j t o c mp W w q) (hb : Below w.heap.size w w') : ClK k j t o c mp W w' q :=
 ⟨fun e => let ⟨x, h1, h2, rv, h3, h4⟩ := h.1 e; ⟨x, h1, h2, rv, h3.tch (T := fun _ => False) (Tch.of_below _ hb) (fun h => h) (fun _ _ h => h), h4⟩, h.2⟩
theorem Acc.below (h : Acc k o c mp W w L) (hb : Below w.heap.size w w') : Acc k o c mp W w' L := ⟨h.1.trans (hb.mono h.1.size), fun x hx => (h.2 x hx).mono hb⟩
theorem Acc.step {j : Int} {t : TypeId} {q : Option Addr} (h : Acc k o c mp W w L) (hb : Below w.heap.size w w') (hc : ClK k j t o c mp w w' q) : Acc k o c mp W w' ((j, t, q) :: L) := by
 refine ⟨h.1.trans (hb.mono h.1.size), fun x hx => ?_⟩
 rcases List.mem_cons.1 hx with rfl | hx
 ·exact ⟨fun e => let ⟨x, h1, h2, rv, h3, h4⟩ := hc.1 e; ⟨x, h1, Nat.le_trans h.1.size h2, rv, h3, fun b hb => Nat.le_trans h.1.size (h4 b hb)⟩, hc.2⟩
 ·exact (h.2 x hx).mono hb
end
section
variable (xb sb : Nat) (ty : TypeId) (o : Ob) (c : Kc) (rv mp : Value)
theorem oclone_o (w : World) (h : Oj w xb sb ty o c rv mp) (hI : Kc.Inv c) : Calls Tryz.prog 25 #[.pointer (some ⟨xb, 0, none⟩)] w fun e w' => ∃ zx, e = .returned (.pointer (some ⟨zx, 0, none⟩)) ∧ Below w.heap.size w w' ∧ ∃ zs zt zr, Oj w' zx zs zt o c zr mp ∧ w.heap.size ≤ zx ∧ w.heap.size ≤ zs ∧ ∀ b, zr.ownBlock = some b → w.heap.size ≤ b := by
 have hl : c.rc.length ≤ 1000000 := by
  have h1 := hI.gen.rcl
  have h2 := hI.st
  omega
 have hbd := (Below.refl w.heap.size w).drew
 have HMP := Lib.hid h.mpp
 have HO := Lib.hid (h.op.tch (T := fun _ => False) (Tch.refl _ w).drew (fun h => h) (fun _ _ h => h))
 have HA0 := Lib.hid (show Acc c.kd o c mp w w.drew [] from ⟨hbd, fun _ h => by cases h⟩)
 have hkd := hI.sta.kd
 have HKD := Lib.hid hkd
 have k0 : (c.kd == 0) = false := by
  have : c.kd ≠ 0 := by omega
  simpa using this
 obtain ⟨p1, e1, h1⟩ : ∃ p, pAt c.kd 1 sb = .pointer p ∧ ∀ W, OpS W sb ty o c rv mp → Calls Tryz.prog 87 #[.pointer p] W (fun e w' => ∃ q, e = .returned (.pointer q) ∧ Below W.heap.size W w' ∧ ClK c.kd 1 118 o c mp W w' q) := pAt_ex _ _ _ (fun q W hW => (fourClone_o sb ty o c rv mp W hW hl HMP.out).mono fun _ _ ⟨x, e, h1, h2, h3⟩ => ⟨_, e, h2, fun _ => ⟨x, rfl, h1, h3⟩, fun z => absurd q z⟩) (fun q W hW => (fourClone_nil W).mono fun _ _ ⟨e, h1⟩ => ⟨_, e, by rw [h1]; exact Below.refl _ _, fun z => absurd z q, fun _ => rfl⟩)
 have H1 := Lib.hid h1
 clear h1
 obtain ⟨p2, e2, h2⟩ : ∃ p, pAt c.kd 2 sb = .pointer p ∧ ∀ W, OpS W sb ty o c rv mp → Calls Tryz.prog 88 #[.pointer p] W (fun e w' => ∃ q, e = .returned (.pointer q) ∧ Below W.heap.size W w' ∧ ClK c.kd 2 119 o c mp W w' q) := pAt_ex _ _ _ (fun q W hW => (chenClone_o sb ty o c rv mp W hW hl HMP.out).mono fun _ _ ⟨x, e, h1, h2, h3⟩ => ⟨_, e, h2, fun _ => ⟨x, rfl, h1, h3⟩, fun z => absurd q z⟩) (fun q W hW => (chenClone_nil W).mono fun _ _ ⟨e, h1⟩ => ⟨_, e, by rw [h1]; exact Below.refl _ _, fun z => absurd z q, fun _ => rfl⟩)
 have H2 := Lib.hid h2
 clear h2
 obtain ⟨p3, e3, h3⟩ : ∃ p, pAt c.kd 3 sb = .pointer p ∧ ∀ W, OpS W sb ty o c rv mp → Calls Tryz.prog 89 #[.pointer p] W (fun e w' => ∃ q, e = .returned (.pointer q) ∧ Below W.heap.size W w' ∧ ClK c.kd 3 120 o c mp W w' q) := pAt_ex _ _ _ (fun q W hW => (seqClone_o sb ty o c rv mp W hW hl HMP.out).mono fun _ _ ⟨x, e, h1, h2, h3⟩ => ⟨_, e, h2, fun _ => ⟨x, rfl, h1, h3⟩, fun z => absurd q z⟩) (fun q W hW => (seqClone_nil W).mono fun _ _ ⟨e, h1⟩ => ⟨_, e, by rw [h1]; exact Below.refl _ _, fun z => absurd z q, fun _ => rfl⟩)
 have H3 := Lib.hid h3
 clear h3
 obtain ⟨p4, e4, h4⟩ : ∃ p, pAt c.kd 4 sb = .pointer p ∧ ∀ W, OpS W sb ty o c rv mp → Calls Tryz.prog 90 #[.pointer p] W (fun e w' => ∃ q, e = .returned (.pointer q) ∧ Below W.heap.size W w' ∧ ClK c.kd 4 121 o c mp W w' q) := pAt_ex _ _ _ (fun q W hW => (ringClone_o sb ty o c rv mp W hW hl HMP.out).mono fun _ _ ⟨x, e, h1, h2, h3⟩ => ⟨_, e, h2, fun _ => ⟨x, rfl, h1, h3⟩, fun z => absurd q z⟩) (fun q W hW => (ringClone_nil W).mono fun _ _ ⟨e, h1⟩ => ⟨_, e, by rw [h1]; exact Below.refl _ _, fun z => absurd z q, fun _ => rfl⟩)
 have H4 := Lib.hid h4
 clear h4
 obtain ⟨p5, e5, h5⟩ : ∃ p, pAt c.kd 5 sb = .pointer p ∧ ∀ W, OpS W sb ty o c rv mp → Calls Tryz.prog 91 #[.pointer p] W (fun e w' => ∃ q, e = .returned (.pointer q) ∧ Below W.heap.size W w' ∧ ClK c.kd 5 122 o c mp W w' q) := pAt_ex _ _ _ (fun q W hW => (cabClone_o sb ty o c rv mp W hW hl HMP.out).mono fun _ _ ⟨x, e, h1, h2, h3⟩ => ⟨_, e, h2, fun _ => ⟨x, rfl, h1, h3⟩, fun z => absurd q z⟩) (fun q W hW => (cabClone_nil W).mono fun _ _ ⟨e, h1⟩ => ⟨_, e, by rw [h1]; exact Below.refl _ _, fun z => absurd z q, fun _ => rfl⟩)
 have H5 := Lib.hid h5
 clear h5
 obtain ⟨p6, e6, h6⟩ : ∃ p, pAt c.kd 6 sb = .pointer p ∧ ∀ W, OpS W sb ty o c rv mp → Calls Tryz.prog 92 #[.pointer p] W (fun e w' => ∃ q, e = .returned (.pointer q) ∧ Below W.heap.size W w' ∧ ClK c.kd 6 123 o c mp W w' q) := pAt_ex _ _ _ (fun q W hW => (fifoClone_o sb ty o c rv mp W hW hl HMP.out).mono fun _ _ ⟨x, e, h1, h2, h3⟩ => ⟨_, e, h2, fun _ => ⟨x, rfl, h1, h3⟩, fun z => absurd q z⟩) (fun q W hW => (fifoClone_nil W).mono fun _ _ ⟨e, h1⟩ => ⟨_, e, by rw [h1]; exact Below.refl _ _, fun z => absurd z q, fun _ => rfl⟩)
 have H6 := Lib.hid h6
 clear h6
 have hrow : RowB w xb #[.int .i64 c.kd, .pointer p1, .pointer p2, .pointer p3, .pointer p4, .pointer p5, .pointer p6] 78 := by have := h.row; unfold opRow at this; rw [e1, e2, e3, e4, e5, e6] at this; exact this
 have c0 := hrow.at 0 (.int .i64 c.kd)
 have HR := Lib.hid (hrow.kept hbd)
 clear h hI hl hkd hrow e1 e2 e3 e4 e5 e6 hbd
 go_enter Tryz.func25, Tryz.ntmps25
 go_wp2_with fail
 clear c0
 have hSd : (fun w' : World => w'.cell? ⟨xb, 0, none⟩ = some (.int .i64 c.kd) ∧ w'.cell? ⟨xb, 1, none⟩ = some (.pointer p1) ∧ w'.cell? ⟨xb, 2, none⟩ = some (.pointer p2) ∧ w'.cell? ⟨xb, 3, none⟩ = some (.pointer p3) ∧ w'.cell? ⟨xb, 4, none⟩ = some (.pointer p4) ∧ w'.cell? ⟨xb, 5, none⟩ = some (.pointer p5) ∧ w'.cell? ⟨xb, 6, none⟩ = some (.pointer p6)) w.drew := (by and_intros <;> exact HR.out.c rfl)
 refine wp_region_held_drew (S := (fun w' : World => w'.cell? ⟨xb, 0, none⟩ = some (.int .i64 c.kd) ∧ w'.cell? ⟨xb, 1, none⟩ = some (.pointer p1) ∧ w'.cell? ⟨xb, 2, none⟩ = some (.pointer p2) ∧ w'.cell? ⟨xb, 3, none⟩ = some (.pointer p3) ∧ w'.cell? ⟨xb, 4, none⟩ = some (.pointer p4) ∧ w'.cell? ⟨xb, 5, none⟩ = some (.pointer p5) ∧ w'.cell? ⟨xb, 6, none⟩ = some (.pointer p6))) (by kernel_rfl) hSd (fun hHeld => ?_)
 clear hSd
 generalize w.drew = w0 at hHeld HR HA0 HO ⊢
 have hHeld : (fun w' : World => w'.cell? ⟨xb, 0, none⟩ = some (.int .i64 c.kd) ∧ w'.cell? ⟨xb, 1, none⟩ = some (.pointer p1) ∧ w'.cell? ⟨xb, 2, none⟩ = some (.pointer p2) ∧ w'.cell? ⟨xb, 3, none⟩ = some (.pointer p3) ∧ w'.cell? ⟨xb, 4, none⟩ = some (.pointer p4) ∧ w'.cell? ⟨xb, 5, none⟩ = some (.pointer p5) ∧ w'.cell? ⟨xb, 6, none⟩ = some (.pointer p6)) w0 := hHeld
 refine tk4 0 1 2 3 ?_
 refine tk4 4 5 6 7 ?_
 refine tk4 9 10 11 12 ?_
 refine tk4 14 15 16 17 ?_
 refine tk4 19 20 21 22 ?_
 refine tk4 24 25 26 27 ?_
 refine tk4 29 30 31 32 ?_
 refine clH 8 (fun K hK => ?_)
 go_simp
 go_at_call 87
 refine (H1.out _ HO.out).mono ?_
 rintro ex w1 ⟨q1, rfl, hb, hc⟩
 have HR := Lib.hid (HR.out.kept hb)
 have HO := Lib.hid (HO.out.tch (T := fun _ => False) (Tch.of_below _ hb) (fun h => h) (fun _ _ h => h))
 have HA1 := Lib.hid (HA0.out.step hb hc)
 have hSx : (fun w' : World => w'.cell? ⟨xb, 0, none⟩ = some (.int .i64 c.kd) ∧ w'.cell? ⟨xb, 1, none⟩ = some (.pointer p1) ∧ w'.cell? ⟨xb, 2, none⟩ = some (.pointer p2) ∧ w'.cell? ⟨xb, 3, none⟩ = some (.pointer p3) ∧ w'.cell? ⟨xb, 4, none⟩ = some (.pointer p4) ∧ w'.cell? ⟨xb, 5, none⟩ = some (.pointer p5) ∧ w'.cell? ⟨xb, 6, none⟩ = some (.pointer p6)) w1 := (by and_intros <;> exact HR.out.c rfl)
 clear hb hc
 refine kH hK hSx fun hHeld => ?_
 clear hK K
 refine clH 13 (fun K hK => ?_)
 go_simp
 go_at_call 88
 refine (H2.out _ HO.out).mono ?_
 rintro ex w2 ⟨q2, rfl, hb, hc⟩
 have HR := Lib.hid (HR.out.kept hb)
 have HO := Lib.hid (HO.out.tch (T := fun _ => False) (Tch.of_below _ hb) (fun h => h) (fun _ _ h => h))
 have HA2 := Lib.hid (HA1.out.step hb hc)
 have hSx : (fun w' : World => w'.cell? ⟨xb, 0, none⟩ = some (.int .i64 c.kd) ∧ w'.cell? ⟨xb, 1, none⟩ = some (.pointer p1) ∧ w'.cell? ⟨xb, 2, none⟩ = some (.pointer p2) ∧ w'.cell? ⟨xb, 3, none⟩ = some (.pointer p3) ∧ w'.cell? ⟨xb, 4, none⟩ = some (.pointer p4) ∧ w'.cell? ⟨xb, 5, none⟩ = some (.pointer p5) ∧ w'.cell? ⟨xb, 6, none⟩ = some (.pointer p6)) w2 := (by and_intros <;> exact HR.out.c rfl)
 clear hb hc
 refine kH hK hSx fun hHeld => ?_
 clear hK K
 refine clH 18 (fun K hK => ?_)
 go_simp
 go_at_call 89
 refine (H3.out _ HO.out).mono ?_
 rintro ex w3 ⟨q3, rfl, hb, hc⟩
 have HR := Lib.hid (HR.out.kept hb)
 have HO := Lib.hid (HO.out.tch (T := fun _ => False) (Tch.of_below _ hb) (fun h => h) (fun _ _ h => h))
 have HA3 := Lib.hid (HA2.out.step hb hc)
 have hSx : (fun w' : World => w'.cell? ⟨xb, 0, none⟩ = some (.int .i64 c.kd) ∧ w'.cell? ⟨xb, 1, none⟩ = some (.pointer p1) ∧ w'.cell? ⟨xb, 2, none⟩ = some (.pointer p2) ∧ w'.cell? ⟨xb, 3, none⟩ = some (.pointer p3) ∧ w'.cell? ⟨xb, 4, none⟩ = some (.pointer p4) ∧ w'.cell? ⟨xb, 5, none⟩ = some (.pointer p5) ∧ w'.cell? ⟨xb, 6, none⟩ = some (.pointer p6)) w3 := (by and_intros <;> exact HR.out.c rfl)
 clear hb hc
 refine kH hK hSx fun hHeld => ?_
 clear hK K
 refine clH 23 (fun K hK => ?_)
 go_simp
 go_at_call 90
 refine (H4.out _ HO.out).mono ?_
 rintro ex w4 ⟨q4, rfl, hb, hc⟩
 have HR := Lib.hid (HR.out.kept hb)
 have HO := Lib.hid (HO.out.tch (T := fun _ => False) (Tch.of_below _ hb) (fun h => h) (fun _ _ h => h))
 have HA4 := Lib.hid (HA3.out.step hb hc)
 have hSx : (fun w' : World => w'.cell? ⟨xb, 0, none⟩ = some (.int .i64 c.kd) ∧ w'.cell? ⟨xb, 1, none⟩ = some (.pointer p1) ∧ w'.cell? ⟨xb, 2, none⟩ = some (.pointer p2) ∧ w'.cell? ⟨xb, 3, none⟩ = some (.pointer p3) ∧ w'.cell? ⟨xb, 4, none⟩ = some (.pointer p4) ∧ w'.cell? ⟨xb, 5, none⟩ = some (.pointer p5) ∧ w'.cell? ⟨xb, 6, none⟩ = some (.pointer p6)) w4 := (by and_intros <;> exact HR.out.c rfl)
 clear hb hc
 refine kH hK hSx fun hHeld => ?_
 clear hK K
 refine clH 28 (fun K hK => ?_)
 go_simp
 go_at_call 91
 refine (H5.out _ HO.out).mono ?_
 rintro ex w5 ⟨q5, rfl, hb, hc⟩
 have HR := Lib.hid (HR.out.kept hb)
 have HO := Lib.hid (HO.out.tch (T := fun _ => False) (Tch.of_below _ hb) (fun h => h) (fun _ _ h => h))
 have HA5 := Lib.hid (HA4.out.step hb hc)
 have hSx : (fun w' : World => w'.cell? ⟨xb, 0, none⟩ = some (.int .i64 c.kd) ∧ w'.cell? ⟨xb, 1, none⟩ = some (.pointer p1) ∧ w'.cell? ⟨xb, 2, none⟩ = some (.pointer p2) ∧ w'.cell? ⟨xb, 3, none⟩ = some (.pointer p3) ∧ w'.cell? ⟨xb, 4, none⟩ = some (.pointer p4) ∧ w'.cell? ⟨xb, 5, none⟩ = some (.pointer p5) ∧ w'.cell? ⟨xb, 6, none⟩ = some (.pointer p6)) w5 := (by and_intros <;> exact HR.out.c rfl)
 clear hb hc
 refine kH hK hSx fun hHeld => ?_
 clear hK K
 refine clH 33 (fun K hK => ?_)
 go_simp
 go_at_call 92
 refine (H6.out _ HO.out).mono ?_
 rintro ex w6 ⟨q6, rfl, hb, hc⟩
 have HR := Lib.hid (HR.out.kept hb)
 have HO := Lib.hid (HO.out.tch (T := fun _ => False) (Tch.of_below _ hb) (fun h => h) (fun _ _ h => h))
 have HA6 := Lib.hid (HA5.out.step hb hc)
 have hSx : (fun w' : World => w'.cell? ⟨xb, 0, none⟩ = some (.int .i64 c.kd) ∧ w'.cell? ⟨xb, 1, none⟩ = some (.pointer p1) ∧ w'.cell? ⟨xb, 2, none⟩ = some (.pointer p2) ∧ w'.cell? ⟨xb, 3, none⟩ = some (.pointer p3) ∧ w'.cell? ⟨xb, 4, none⟩ = some (.pointer p4) ∧ w'.cell? ⟨xb, 5, none⟩ = some (.pointer p5) ∧ w'.cell? ⟨xb, 6, none⟩ = some (.pointer p6)) w6 := (by and_intros <;> exact HR.out.c rfl)
 clear hb hc
 refine kH hK hSx fun hHeld => ?_
 clear hK K
 refine tkH 34 ?_
 refine clH 35 (fun K hK => ?_)
 go_simp
 have hba := (Below.refl w6.heap.size w6).alloc (Nat.le_refl _) (.cells #[.int .i64 c.kd, .pointer q1, .pointer q2, .pointer q3, .pointer q4, .pointer q5, .pointer q6] 78)
 have HNEW := Lib.hid (RowB.new w6 #[.int .i64 c.kd, .pointer q1, .pointer q2, .pointer q3, .pointer q4, .pointer q5, .pointer q6] 78)
 have HA7 := Lib.hid (HA6.out.below hba)
 have HS6 := Lib.hid HA6.out.1.size
 have HR := Lib.hid (HR.out.kept hba)
 have hSa : (fun w' : World => w'.cell? ⟨xb, 0, none⟩ = some (.int .i64 c.kd) ∧ w'.cell? ⟨xb, 1, none⟩ = some (.pointer p1) ∧ w'.cell? ⟨xb, 2, none⟩ = some (.pointer p2) ∧ w'.cell? ⟨xb, 3, none⟩ = some (.pointer p3) ∧ w'.cell? ⟨xb, 4, none⟩ = some (.pointer p4) ∧ w'.cell? ⟨xb, 5, none⟩ = some (.pointer p5) ∧ w'.cell? ⟨xb, 6, none⟩ = some (.pointer p6)) (w6.alloc (.cells #[.int .i64 c.kd, .pointer q1, .pointer q2, .pointer q3, .pointer q4, .pointer q5, .pointer q6] 78)) := (by and_intros <;> exact HR.out.c rfl)
 clear hba
 refine kH hK hSa fun hHeld => ?_
 clear hK K
 refine tkH 36 ?_
 refine wpAnyH_done (by kernel_rfl) ?_ _
 clear hHeld
 have HL := HA6.out.2
 simp only [List.mem_cons, List.not_mem_nil, or_false, forall_eq_or_imp, forall_eq] at HL
 have HL := Lib.hid HL
 go_wp2_with fail
 go_ret
 obtain ⟨l6, l5, l4, l3, l2, l1⟩ := HL.out
 have HN := HNEW.out
 have HA := HA7.out
 rcases HKD.out with q | q | q | q | q | q
 ·obtain ⟨x, rfl, hx, rv', hop, hrv⟩ := l1.1 q
  obtain rfl := l2.2 (by omega)
  obtain rfl := l3.2 (by omega)
  obtain rfl := l4.2 (by omega)
  obtain rfl := l5.2 (by omega)
  obtain rfl := l6.2 (by omega)
  have hlt : x < w6.heap.size := by
   obtain ⟨u, _, hr⟩ := hop.row
   exact hr.lt
  exact ⟨w6.heap.size, rfl, HA.1, x, _, rv', ⟨by unfold opRow pAt; rw [q] at HN ⊢; exact HN, hop.tch (T := fun _ => False) (Tch.of_below _ ((Below.refl _ _).alloc (Nat.le_refl _) _)) (fun h => h) (fun _ _ h => h), by omega, fun e => by have := (World.ownsRow.lt hop.rc _ e).2; omega, HMP.out⟩, HS6.out, hx, hrv⟩
 ·obtain ⟨x, rfl, hx, rv', hop, hrv⟩ := l2.1 q
  obtain rfl := l1.2 (by omega)
  obtain rfl := l3.2 (by omega)
  obtain rfl := l4.2 (by omega)
  obtain rfl := l5.2 (by omega)
  obtain rfl := l6.2 (by omega)
  have hlt : x < w6.heap.size := by
   obtain ⟨u, _, hr⟩ := hop.row
   exact hr.lt
  exact ⟨w6.heap.size, rfl, HA.1, x, _, rv', ⟨by unfold opRow pAt; rw [q] at HN ⊢; exact HN, hop.tch (T := fun _ => False) (Tch.of_below _ ((Below.refl _ _).alloc (Nat.le_refl _) _)) (fun h => h) (fun _ _ h => h), by omega, fun e => by have := (World.ownsRow.lt hop.rc _ e).2; omega, HMP.out⟩, HS6.out, hx, hrv⟩
 ·obtain ⟨x, rfl, hx, rv', hop, hrv⟩ := l3.1 q
  obtain rfl := l1.2 (by omega)
  obtain rfl := l2.2 (by omega)
  obtain rfl := l4.2 (by omega)
  obtain rfl := l5.2 (by omega)
  obtain rfl := l6.2 (by omega)
  have hlt : x < w6.heap.size := by
   obtain ⟨u, _, hr⟩ := hop.row
   exact hr.lt
  exact ⟨w6.heap.size, rfl, HA.1, x, _, rv', ⟨by unfold opRow pAt; rw [q] at HN ⊢; exact HN, hop.tch (T := fun _ => False) (Tch.of_below _ ((Below.refl _ _).alloc (Nat.le_refl _) _)) (fun h => h) (fun _ _ h => h), by omega, fun e => by have := (World.ownsRow.lt hop.rc _ e).2; omega, HMP.out⟩, HS6.out, hx, hrv⟩
 ·obtain ⟨x, rfl, hx, rv', hop, hrv⟩ := l4.1 q
  obtain rfl := l1.2 (by omega)
  obtain rfl := l2.2 (by omega)
  obtain rfl := l3.2 (by omega)
  obtain rfl := l5.2 (by omega)
  obtain rfl := l6.2 (by omega)
  have hlt : x < w6.heap.size := by
   obtain ⟨u, _, hr⟩ := hop.row
   exact hr.lt
  exact ⟨w6.heap.size, rfl, HA.1, x, _, rv', ⟨by unfold opRow pAt; rw [q] at HN ⊢; exact HN, hop.tch (T := fun _ => False) (Tch.of_below _ ((Below.refl _ _).alloc (Nat.le_refl _) _)) (fun h => h) (fun _ _ h => h), by omega, fun e => by have := (World.ownsRow.lt hop.rc _ e).2; omega, HMP.out⟩, HS6.out, hx, hrv⟩
 ·obtain ⟨x, rfl, hx, rv', hop, hrv⟩ := l5.1 q
  obtain rfl := l1.2 (by omega)
  obtain rfl := l2.2 (by omega)
  obtain rfl := l3.2 (by omega)
  obtain rfl := l4.2 (by omega)
  obtain rfl := l6.2 (by omega)
  have hlt : x < w6.heap.size := by
   obtain ⟨u, _, hr⟩ := hop.row
   exact hr.lt
  exact ⟨w6.heap.size, rfl, HA.1, x, _, rv', ⟨by unfold opRow pAt; rw [q] at HN ⊢; exact HN, hop.tch (T := fun _ => False) (Tch.of_below _ ((Below.refl _ _).alloc (Nat.le_refl _) _)) (fun h => h) (fun _ _ h => h), by omega, fun e => by have := (World.ownsRow.lt hop.rc _ e).2; omega, HMP.out⟩, HS6.out, hx, hrv⟩
 ·obtain ⟨x, rfl, hx, rv', hop, hrv⟩ := l6.1 q
  obtain rfl := l1.2 (by omega)
  obtain rfl := l2.2 (by omega)
  obtain rfl := l3.2 (by omega)
  obtain rfl := l4.2 (by omega)
  obtain rfl := l5.2 (by omega)
  have hlt : x < w6.heap.size := by
   obtain ⟨u, _, hr⟩ := hop.row
   exact hr.lt
  exact ⟨w6.heap.size, rfl, HA.1, x, _, rv', ⟨by unfold opRow pAt; rw [q] at HN ⊢; exact HN, hop.tch (T := fun _ => False) (Tch.of_below _ ((Below.refl _ _).alloc (Nat.le_refl _) _)) (fun h => h) (fun _ _ h => h), by omega, fun e => by have := (World.ownsRow.lt hop.rc _ e).2; omega, HMP.out⟩, HS6.out, hx, hrv⟩
end
end Go.Proofs.YtgjcniokgdicpaaGreatDoor

namespace Go.Proofs.YtgjcniokgdicpaaGreatDoor
open Go.RowKit
attribute [local go_sem] Oper.semAt_some
set_option maxHeartbeats 2000000
set_option maxRecDepth 100000
theorem look_g (mb lb : Nat) (l : List Int) (w : World) (h : MemG w mb lb l) : Calls Tryz.prog 103 #[.pointer (some ⟨mb, 0, none⟩), .agg #[.int .i64 0, .int .i64 (l.length : Int)]] w fun e w' => ∃ v, e = .returned (.tuple #[v, .int .i64 0]) ∧ OwnW w.heap.size w' v l ∧ Below w.heap.size w w' := by
 obtain ⟨k, c, hr, ho, hn, hl, hw⟩ := h
 obtain ⟨A, c', hv, hcc, _, hsl⟩ := ho.sl
 injection hv with hA _ hc
 subst hA hc
 have hlc := hcc.1
 have HWS := Lib.hid (show Ws w w.heap.size (some ⟨lb, 0, none⟩) l from ⟨hsl, W32.wf hw⟩)
 have HL := Lib.hid hl
 obtain ⟨n, hnn⟩ : ∃ n, w.heap.size = n := ⟨_, rfl⟩
 have hB := (Below.refl w.heap.size w).alloc (Nat.le_refl _) (.cells #[.int .i64 0, .int .i64 (l.length : Int)] 108)
 have hreg := RowB.new w #[.int .i64 0, .int .i64 (l.length : Int)] 108
 have hr1 := hr.kept hB
 rw [hnn] at hreg
 have HB := Lib.hid hB
 have HREG := Lib.hid hreg
 have HR1 := Lib.hid hr1
 have HNN := Lib.hid hnn
 have HIN := Lib.hid fun W => inside_g (l.length : Int) 0 (l.length : Int) W (by omega) (by omega) (by omega) (by omega) (by omega)
 clear hB hreg hr1 hr ho hsl hcc hw hn
 have hl0 : (0 : Int) ≤ (l.length : Int) := by omega
 have hlc2 : (l.length : Int) ≤ (c : Int) := by omega
 have ew : IntKind.i64.wrap (l.length : Int) = (l.length : Int) := sh_wrap (by omega) (by omega)
 have ew2 : IntKind.i64.wrap (0 + (l.length : Int)) = (l.length : Int) := sh_wrap (by omega) (by omega) |>.trans (by omega)
 go_enter Tryz.func103, Tryz.ntmps103
 go_wp2_with fail
 obtain ⟨w1, hw1⟩ : ∃ x, w.alloc (.cells #[.int .i64 0, .int .i64 (l.length : Int)] 108) = x := ⟨_, rfl⟩
 rw [hw1] at HB HREG HR1 ⊢
 clear hw1
 have HB1 := Lib.hid HB.out.drew
 have HREG1 := Lib.hid (HREG.out.kept (Below.refl _ w1).drew)
 have HR2 := Lib.hid (HR1.out.kept (Below.refl _ w1).drew)
 clear HB HREG HR1
 have hSd : (fun w' : World => w'.cell? ⟨mb, 0, none⟩ = some (.slice (some ⟨lb, 0, none⟩) l.length c) ∧ w'.cell? ⟨n, 0, none⟩ = some (.int .i64 0) ∧ w'.cell? ⟨n, 1, none⟩ = some (.int .i64 (l.length : Int))) w1.drew := ⟨(HR2.out.cell 0).trans rfl, (HREG1.out.cell 0).trans rfl, (HREG1.out.cell 1).trans rfl⟩
 refine wp_region_held_drew (S := (fun w' : World => w'.cell? ⟨mb, 0, none⟩ = some (.slice (some ⟨lb, 0, none⟩) l.length c) ∧ w'.cell? ⟨n, 0, none⟩ = some (.int .i64 0) ∧ w'.cell? ⟨n, 1, none⟩ = some (.int .i64 (l.length : Int)))) (by kernel_rfl) hSd (fun hHeld => ?_)
 clear hSd
 generalize w1.drew = wd at hHeld HB1 HREG1 HR2 ⊢
 have hHeld : (fun w' : World => w'.cell? ⟨mb, 0, none⟩ = some (.slice (some ⟨lb, 0, none⟩) l.length c) ∧ w'.cell? ⟨n, 0, none⟩ = some (.int .i64 0) ∧ w'.cell? ⟨n, 1, none⟩ = some (.int .i64 (l.length : Int))) wd := hHeld
 refine tk4 0 1 2 3 ?_
 refine tk2 4 5 ?_
 refine clH 6 (fun K hK => ?_)
 go_simp
 go_at_call 140
 refine (HIN.out _).mono ?_
 rintro ex wx ⟨rfl, hbx⟩
 have HB3 := Lib.hid (HB1.out.trans (hbx.mono HB1.out.size))
 have HREG3 := Lib.hid (HREG1.out.kept hbx)
 have HR3 := Lib.hid (HR2.out.kept hbx)
 have hSx : (fun w' : World => w'.cell? ⟨mb, 0, none⟩ = some (.slice (some ⟨lb, 0, none⟩) l.length c) ∧ w'.cell? ⟨n, 0, none⟩ = some (.int .i64 0) ∧ w'.cell? ⟨n, 1, none⟩ = some (.int .i64 (l.length : Int))) wx := ⟨(HR3.out.cell 0).trans rfl, (HREG3.out.cell 0).trans rfl, (HREG3.out.cell 1).trans rfl⟩
 clear hbx
 refine kH hK hSx fun hHeld => ?_
 clear hK K
 refine tk2 7 8 ?_
 refine wpAnyH_done (by kernel_rfl) ?_ _
 clear hHeld hSx
 have hin : decide ((0 : Int) ≤ (l.length : Int) ∧ (l.length : Int) ≤ (l.length : Int) - 0) = true := decide_eq_true (by omega)
 go_wp2_with fail
 have HB4 := Lib.hid HB3.out.drew
 have HREG4 := Lib.hid (HREG3.out.kept (Below.refl _ wx).drew)
 have HR4 := Lib.hid (HR3.out.kept (Below.refl _ wx).drew)
 clear HB3 HREG3 HR3
 have hSd : (fun w' : World => w'.cell? ⟨mb, 0, none⟩ = some (.slice (some ⟨lb, 0, none⟩) l.length c) ∧ w'.cell? ⟨n, 0, none⟩ = some (.int .i64 0) ∧ w'.cell? ⟨n, 1, none⟩ = some (.int .i64 (l.length : Int))) wx.drew := ⟨(HR4.out.cell 0).trans rfl, (HREG4.out.cell 0).trans rfl, (HREG4.out.cell 1).trans rfl⟩
 refine wp_region_held_drew (S := (fun w' : World => w'.cell? ⟨mb, 0, none⟩ = some (.slice (some ⟨lb, 0, none⟩) l.length c) ∧ w'.cell? ⟨n, 0, none⟩ = some (.int .i64 0) ∧ w'.cell? ⟨n, 1, none⟩ = some (.int .i64 (l.length : Int)))) (by kernel_rfl) hSd (fun hHeld => ?_)
 clear hSd
 generalize wx.drew = we at hHeld HB4 HREG4 HR4 ⊢
 have hHeld : (fun w' : World => w'.cell? ⟨mb, 0, none⟩ = some (.slice (some ⟨lb, 0, none⟩) l.length c) ∧ w'.cell? ⟨n, 0, none⟩ = some (.int .i64 0) ∧ w'.cell? ⟨n, 1, none⟩ = some (.int .i64 (l.length : Int))) we := hHeld
 refine tk4 0 1 2 3 ?_
 refine tk4 4 5 6 7 ?_
 refine tk4 8 9 10 11 ?_
 refine clH 12 (fun K hK => ?_)
 go_simp
 go_at_call 154
 refine (clone_w (some ⟨lb, 0, none⟩) c l we HL.out (HWS.out.below HB4.out HB4.out.size)).mono ?_
 rintro ex wy ⟨v, rfl, hv, hby⟩
 have HV := Lib.hid hv
 have HB5 := Lib.hid (HB4.out.trans (hby.mono HB4.out.size))
 have HBB := Lib.hid HB4.out.size
 have hSx : (fun w' : World => w'.cell? ⟨mb, 0, none⟩ = some (.slice (some ⟨lb, 0, none⟩) l.length c) ∧ w'.cell? ⟨n, 0, none⟩ = some (.int .i64 0) ∧ w'.cell? ⟨n, 1, none⟩ = some (.int .i64 (l.length : Int))) wy := ⟨((HR4.out.kept hby).cell 0).trans rfl, ((HREG4.out.kept hby).cell 0).trans rfl, ((HREG4.out.kept hby).cell 1).trans rfl⟩
 clear hv hby
 refine kH hK hSx fun hHeld => ?_
 clear hK K
 refine tk2 13 14 ?_
 refine wpAnyH_done (by kernel_rfl) ?_ _
 clear hHeld
 go_wp2_with fail
 go_ret2
 rw [← HNN.out]
 exact ⟨v, rfl, ⟨HV.out.1.mono HBB.out, HV.out.2⟩, HB5.out⟩
theorem words_g (mb lb : Nat) (l : List Int) (w : World) (h : MemG w mb lb l) : Calls Tryz.prog 28 #[.pointer (some ⟨mb, 0, none⟩)] w fun e w' => ∃ v, e = .returned v ∧ OwnW w.heap.size w' v l ∧ Below w.heap.size w w' := by
 have HLN := Lib.hid (mlen_g mb lb l w h)
 have HLK := Lib.hid (look_g mb lb l w h)
 clear h
 go_enter Tryz.func28, Tryz.ntmps28
 go_wp2_with fail
 refine HLN.out.mono ?_
 rintro e w1 ⟨rfl, hw1⟩
 rw [hw1]
 clear hw1
 go_wp2_with fail
 refine HLK.out.mono ?_
 rintro e w2 ⟨v, rfl, hv, hb⟩
 go_wp2_with fail
 go_ret
 exact ⟨v, rfl, hv, hb⟩
end Go.Proofs.YtgjcniokgdicpaaGreatDoor
