/- An operation on an object, of whatever kind: its step, whether it is over, its steps, its answer. -/
import Derived.Test.YtgjcniokgdicpaaGreatDoorOgO
namespace Go.Proofs.YtgjcniokgdicpaaGreatDoor
open Go.RowKit
attribute [local go_sem] Oper.semAt_some

def pAt (k j : Int) (sb : Nat) : Value := .pointer (if k = j then some ⟨sb, 0, none⟩ else none)
def opRow (k : Int) (sb : Nat) : Array Value := #[.int .i64 k, pAt k 1 sb, pAt k 2 sb, pAt k 3 sb, pAt k 4 sb, pAt k 5 sb, pAt k 6 sb]
/-- An operation under way. -/
structure Oj (w : World) (xb sb : Nat) (ty : TypeId) (o : Ob) (c : Kc) (rv mp : Value) : Prop where
  row : RowB w xb (opRow c.kd sb) 78
  op : OpS w sb ty o c rv mp
  ne : xb ≠ sb
  rx : rv.ownBlock ≠ some xb
  mpp : ∃ q, mp = .pointer q
theorem Oj.tch {w w' : World} {xb sb : Nat} {ty : TypeId} {o : Ob} {c : Kc} {rv mp : Value} {T : Nat → Prop} (h : Oj w xb sb ty o c rv mp) (hk : Tch T w w') (h0 : ¬ T xb) (h1 : ¬ T sb) (h2 : ∀ b, rv.ownBlock = some b → ¬ T b) : Oj w' xb sb ty o c rv mp :=
  ⟨h.row.tch hk h0, h.op.tch hk h1 h2, h.ne, h.rx, h.mpp⟩
theorem Oj.below {w w' : World} {xb sb : Nat} {ty : TypeId} {o : Ob} {c : Kc} {rv mp : Value} (h : Oj w xb sb ty o c rv mp) (hb : Below w.heap.size w w') : Oj w' xb sb ty o c rv mp :=
  h.tch (T := fun _ => False) (Tch.of_below _ hb) (fun h => h) (fun h => h) (fun _ _ h => h)
/-- What a step comes to. -/
def Went (xb sb mb lb : Nat) (ty : TypeId) (o : Ob) (w : World) (rv : Value) (c' : Kc) (l' : List Int) (e : Ending) (w' : World) : Prop :=
  ∃ rv', e = .returned (.bool true) ∧ Oj w' xb sb ty o c' rv' (.pointer (some ⟨mb, 0, none⟩)) ∧ MemG w' mb lb l' ∧ (rv'.ownBlock ≠ some mb ∧ rv'.ownBlock ≠ some lb) ∧ Mv sb mb lb w w' rv rv'
theorem Went.of {xb sb mb lb : Nat} {ty : TypeId} {o : Ob} {w w' : World} {rv rv' : Value} {c c' : Kc} {l' : List Int} {mp : Value} (h : Oj w xb sb ty o c rv mp) (hm : xb ≠ mb) (hl : xb ≠ lb) (hk : c'.kd = c.kd) (hs : St w' sb mb lb ty o c' rv' l') (hv : Mv sb mb lb w w' rv rv') : Went xb sb mb lb ty o w rv c' l' (.returned (.bool true)) w' := by
  have hx : ¬ fp sb mb lb rv xb := by
    rintro (q | q | q | q)
    · exact h.ne q
    · exact hm q
    · exact hl q
    · exact h.rx q
  refine ⟨rv', rfl, ⟨by rw [hk]; exact h.row.tch hv.tch hx, hs.op, h.ne, fun q => ?_, ⟨_, rfl⟩⟩, hs.mem, ⟨hs.s3, hs.s4⟩, hv⟩
  rcases hv.rv xb q with e | e
  · exact h.rx e
  · have := h.row.lt
    omega
section
variable (xb sb mb lb : Nat) (ty : TypeId) (o : Ob) (c : Kc) (rv mp : Value) (l : List Int)
set_option maxRecDepth 100000 in
set_option maxHeartbeats 1000000 in
theorem ostep_four_yes (w : World) (h : Oj w xb sb ty o c rv mp) (hm : MemG w mb lb l) (hI : Kc.Inv c) (hk : c.kd = 1) (hcan : c.can l = true) (s1 : sb ≠ mb) (s2 : sb ≠ lb) (s3 : rv.ownBlock ≠ some mb) (s4 : rv.ownBlock ≠ some lb) (s5 : xb ≠ mb) (s6 : xb ≠ lb) (hT : Tab64 w) (hn : ¬ fp sb mb lb rv 0) : Calls Tryz.prog 17 #[.pointer (some ⟨xb, 0, none⟩), .pointer (some ⟨mb, 0, none⟩)] w (Went xb sb mb lb ty o w rv (c.step l).1 (c.step l).2) := by
  have c0 : w.cell? ⟨xb, 0, none⟩ = some (.int .i64 1) := (h.row.cell 0).trans (by rw [hk]; rfl)
  have c1 : w.cell? ⟨xb, 1, none⟩ = some (.pointer (some ⟨sb, 0, none⟩)) := (h.row.cell 1).trans (by rw [hk]; rfl)
  have hov := (can_sz hcan).1
  have hkd : (c.step l).1.kd = c.kd := (Kc.left_step (l := l) hov hI.sta.wd1 hI.sta.nr1 hI.sta.cap1).2.1
  have HS := Lib.hid (fourStep_yes sb mb lb ty o c rv mp l w h.op hm h.mpp hI hk hcan s1 s2 s3 s4 hT hn)
  obtain ⟨d, hd⟩ : ∃ x, c.step l = x := ⟨_, rfl⟩
  rw [hd] at HS hkd ⊢
  have HK := Lib.hid hkd
  have HJ := Lib.hid h
  clear h hm hI hk hcan hT hn hd hkd hov
  go_enter Tryz.func17, Tryz.ntmps17
  go_wp2_with fail
  refine HS.out.mono ?_
  rintro e w1 ⟨rv1, rfl, hs, hv⟩
  have HW := Lib.hid (Went.of HJ.out s5 s6 HK.out hs hv)
  clear hs hv
  go_wp2_with fail
  go_ret
  exact HW.out
set_option maxRecDepth 100000 in
set_option maxHeartbeats 1000000 in
theorem ostep_four_no (w : World) (h : Oj w xb sb ty o c rv mp) (hm : MemG w mb lb l) (hI : Kc.Inv c) (hk : c.kd = 1) (hcan : c.can l = false) : Calls Tryz.prog 17 #[.pointer (some ⟨xb, 0, none⟩), .pointer (some ⟨mb, 0, none⟩)] w fun e w' => e = .returned (.bool false) ∧ Below w.heap.size w w' := by
  have c0 : w.cell? ⟨xb, 0, none⟩ = some (.int .i64 1) := (h.row.cell 0).trans (by rw [hk]; rfl)
  have c1 : w.cell? ⟨xb, 1, none⟩ = some (.pointer (some ⟨sb, 0, none⟩)) := (h.row.cell 1).trans (by rw [hk]; rfl)
  have HS := Lib.hid (fourStep_no sb mb lb ty o c rv mp l w h.op hm h.mpp hI hcan)
  clear h hm hI hk hcan
  go_enter Tryz.func17, Tryz.ntmps17
  go_wp2_with fail
  refine HS.out.mono ?_
  rintro e w1 ⟨rfl, hb⟩
  have HB := Lib.hid hb
  clear hb
  go_wp2_with fail
  go_ret
  exact ⟨rfl, HB.out⟩
set_option maxRecDepth 100000 in
set_option maxHeartbeats 1000000 in
theorem ostep_chen_yes (w : World) (h : Oj w xb sb ty o c rv mp) (hm : MemG w mb lb l) (hI : Kc.Inv c) (hk : c.kd = 2) (hcan : c.can l = true) (s1 : sb ≠ mb) (s2 : sb ≠ lb) (s3 : rv.ownBlock ≠ some mb) (s4 : rv.ownBlock ≠ some lb) (s5 : xb ≠ mb) (s6 : xb ≠ lb) (hT : Tab64 w) (hn : ¬ fp sb mb lb rv 0) : Calls Tryz.prog 17 #[.pointer (some ⟨xb, 0, none⟩), .pointer (some ⟨mb, 0, none⟩)] w (Went xb sb mb lb ty o w rv (c.step l).1 (c.step l).2) := by
  have c0 : w.cell? ⟨xb, 0, none⟩ = some (.int .i64 2) := (h.row.cell 0).trans (by rw [hk]; rfl)
  have c2 : w.cell? ⟨xb, 2, none⟩ = some (.pointer (some ⟨sb, 0, none⟩)) := (h.row.cell 2).trans (by rw [hk]; rfl)
  have hov := (can_sz hcan).1
  have hkd : (c.step l).1.kd = c.kd := (Kc.left_step (l := l) hov hI.sta.wd1 hI.sta.nr1 hI.sta.cap1).2.1
  have HS := Lib.hid (chenStep_yes sb mb lb ty o c rv mp l w h.op hm h.mpp hI hk hcan s1 s2 s3 s4 hT hn)
  obtain ⟨d, hd⟩ : ∃ x, c.step l = x := ⟨_, rfl⟩
  rw [hd] at HS hkd ⊢
  have HK := Lib.hid hkd
  have HJ := Lib.hid h
  clear h hm hI hk hcan hT hn hd hkd hov
  go_enter Tryz.func17, Tryz.ntmps17
  go_wp2_with fail
  refine HS.out.mono ?_
  rintro e w1 ⟨rv1, rfl, hs, hv⟩
  have HW := Lib.hid (Went.of HJ.out s5 s6 HK.out hs hv)
  clear hs hv
  go_wp2_with fail
  go_ret
  exact HW.out
set_option maxRecDepth 100000 in
set_option maxHeartbeats 1000000 in
theorem ostep_chen_no (w : World) (h : Oj w xb sb ty o c rv mp) (hm : MemG w mb lb l) (hI : Kc.Inv c) (hk : c.kd = 2) (hcan : c.can l = false) : Calls Tryz.prog 17 #[.pointer (some ⟨xb, 0, none⟩), .pointer (some ⟨mb, 0, none⟩)] w fun e w' => e = .returned (.bool false) ∧ Below w.heap.size w w' := by
  have c0 : w.cell? ⟨xb, 0, none⟩ = some (.int .i64 2) := (h.row.cell 0).trans (by rw [hk]; rfl)
  have c2 : w.cell? ⟨xb, 2, none⟩ = some (.pointer (some ⟨sb, 0, none⟩)) := (h.row.cell 2).trans (by rw [hk]; rfl)
  have HS := Lib.hid (chenStep_no sb mb lb ty o c rv mp l w h.op hm h.mpp hI hcan)
  clear h hm hI hk hcan
  go_enter Tryz.func17, Tryz.ntmps17
  go_wp2_with fail
  refine HS.out.mono ?_
  rintro e w1 ⟨rfl, hb⟩
  have HB := Lib.hid hb
  clear hb
  go_wp2_with fail
  go_ret
  exact ⟨rfl, HB.out⟩
set_option maxRecDepth 100000 in
set_option maxHeartbeats 1000000 in
theorem ostep_seq_yes (w : World) (h : Oj w xb sb ty o c rv mp) (hm : MemG w mb lb l) (hI : Kc.Inv c) (hk : c.kd = 3) (hcan : c.can l = true) (s1 : sb ≠ mb) (s2 : sb ≠ lb) (s3 : rv.ownBlock ≠ some mb) (s4 : rv.ownBlock ≠ some lb) (s5 : xb ≠ mb) (s6 : xb ≠ lb) (hT : Tab64 w) (hn : ¬ fp sb mb lb rv 0) : Calls Tryz.prog 17 #[.pointer (some ⟨xb, 0, none⟩), .pointer (some ⟨mb, 0, none⟩)] w (Went xb sb mb lb ty o w rv (c.step l).1 (c.step l).2) := by
  have c0 : w.cell? ⟨xb, 0, none⟩ = some (.int .i64 3) := (h.row.cell 0).trans (by rw [hk]; rfl)
  have c3 : w.cell? ⟨xb, 3, none⟩ = some (.pointer (some ⟨sb, 0, none⟩)) := (h.row.cell 3).trans (by rw [hk]; rfl)
  have hov := (can_sz hcan).1
  have hkd : (c.step l).1.kd = c.kd := (Kc.left_step (l := l) hov hI.sta.wd1 hI.sta.nr1 hI.sta.cap1).2.1
  have HS := Lib.hid (seqStep_yes sb mb lb ty o c rv mp l w h.op hm h.mpp hI hk hcan s1 s2 s3 s4 hT hn)
  obtain ⟨d, hd⟩ : ∃ x, c.step l = x := ⟨_, rfl⟩
  rw [hd] at HS hkd ⊢
  have HK := Lib.hid hkd
  have HJ := Lib.hid h
  clear h hm hI hk hcan hT hn hd hkd hov
  go_enter Tryz.func17, Tryz.ntmps17
  go_wp2_with fail
  refine HS.out.mono ?_
  rintro e w1 ⟨rv1, rfl, hs, hv⟩
  have HW := Lib.hid (Went.of HJ.out s5 s6 HK.out hs hv)
  clear hs hv
  go_wp2_with fail
  go_ret
  exact HW.out
set_option maxRecDepth 100000 in
set_option maxHeartbeats 1000000 in
theorem ostep_seq_no (w : World) (h : Oj w xb sb ty o c rv mp) (hm : MemG w mb lb l) (hI : Kc.Inv c) (hk : c.kd = 3) (hcan : c.can l = false) : Calls Tryz.prog 17 #[.pointer (some ⟨xb, 0, none⟩), .pointer (some ⟨mb, 0, none⟩)] w fun e w' => e = .returned (.bool false) ∧ Below w.heap.size w w' := by
  have c0 : w.cell? ⟨xb, 0, none⟩ = some (.int .i64 3) := (h.row.cell 0).trans (by rw [hk]; rfl)
  have c3 : w.cell? ⟨xb, 3, none⟩ = some (.pointer (some ⟨sb, 0, none⟩)) := (h.row.cell 3).trans (by rw [hk]; rfl)
  have HS := Lib.hid (seqStep_no sb mb lb ty o c rv mp l w h.op hm h.mpp hI hcan)
  clear h hm hI hk hcan
  go_enter Tryz.func17, Tryz.ntmps17
  go_wp2_with fail
  refine HS.out.mono ?_
  rintro e w1 ⟨rfl, hb⟩
  have HB := Lib.hid hb
  clear hb
  go_wp2_with fail
  go_ret
  exact ⟨rfl, HB.out⟩
set_option maxRecDepth 100000 in
set_option maxHeartbeats 1000000 in
theorem ostep_ring_yes (w : World) (h : Oj w xb sb ty o c rv mp) (hm : MemG w mb lb l) (hI : Kc.Inv c) (hk : c.kd = 4) (hcan : c.can l = true) (s1 : sb ≠ mb) (s2 : sb ≠ lb) (s3 : rv.ownBlock ≠ some mb) (s4 : rv.ownBlock ≠ some lb) (s5 : xb ≠ mb) (s6 : xb ≠ lb) (hT : Tab64 w) (hn : ¬ fp sb mb lb rv 0) : Calls Tryz.prog 17 #[.pointer (some ⟨xb, 0, none⟩), .pointer (some ⟨mb, 0, none⟩)] w (Went xb sb mb lb ty o w rv (c.step l).1 (c.step l).2) := by
  have c0 : w.cell? ⟨xb, 0, none⟩ = some (.int .i64 4) := (h.row.cell 0).trans (by rw [hk]; rfl)
  have c4 : w.cell? ⟨xb, 4, none⟩ = some (.pointer (some ⟨sb, 0, none⟩)) := (h.row.cell 4).trans (by rw [hk]; rfl)
  have hov := (can_sz hcan).1
  have hkd : (c.step l).1.kd = c.kd := (Kc.left_step (l := l) hov hI.sta.wd1 hI.sta.nr1 hI.sta.cap1).2.1
  have HS := Lib.hid (ringStep_yes sb mb lb ty o c rv mp l w h.op hm h.mpp hI hk hcan s1 s2 s3 s4 hT hn)
  obtain ⟨d, hd⟩ : ∃ x, c.step l = x := ⟨_, rfl⟩
  rw [hd] at HS hkd ⊢
  have HK := Lib.hid hkd
  have HJ := Lib.hid h
  clear h hm hI hk hcan hT hn hd hkd hov
  go_enter Tryz.func17, Tryz.ntmps17
  go_wp2_with fail
  refine HS.out.mono ?_
  rintro e w1 ⟨rv1, rfl, hs, hv⟩
  have HW := Lib.hid (Went.of HJ.out s5 s6 HK.out hs hv)
  clear hs hv
  go_wp2_with fail
  go_ret
  exact HW.out
set_option maxRecDepth 100000 in
set_option maxHeartbeats 1000000 in
theorem ostep_ring_no (w : World) (h : Oj w xb sb ty o c rv mp) (hm : MemG w mb lb l) (hI : Kc.Inv c) (hk : c.kd = 4) (hcan : c.can l = false) : Calls Tryz.prog 17 #[.pointer (some ⟨xb, 0, none⟩), .pointer (some ⟨mb, 0, none⟩)] w fun e w' => e = .returned (.bool false) ∧ Below w.heap.size w w' := by
  have c0 : w.cell? ⟨xb, 0, none⟩ = some (.int .i64 4) := (h.row.cell 0).trans (by rw [hk]; rfl)
  have c4 : w.cell? ⟨xb, 4, none⟩ = some (.pointer (some ⟨sb, 0, none⟩)) := (h.row.cell 4).trans (by rw [hk]; rfl)
  have HS := Lib.hid (ringStep_no sb mb lb ty o c rv mp l w h.op hm h.mpp hI hcan)
  clear h hm hI hk hcan
  go_enter Tryz.func17, Tryz.ntmps17
  go_wp2_with fail
  refine HS.out.mono ?_
  rintro e w1 ⟨rfl, hb⟩
  have HB := Lib.hid hb
  clear hb
  go_wp2_with fail
  go_ret
  exact ⟨rfl, HB.out⟩
set_option maxRecDepth 100000 in
set_option maxHeartbeats 1000000 in
theorem ostep_cab_yes (w : World) (h : Oj w xb sb ty o c rv mp) (hm : MemG w mb lb l) (hI : Kc.Inv c) (hk : c.kd = 5) (hcan : c.can l = true) (s1 : sb ≠ mb) (s2 : sb ≠ lb) (s3 : rv.ownBlock ≠ some mb) (s4 : rv.ownBlock ≠ some lb) (s5 : xb ≠ mb) (s6 : xb ≠ lb) (hT : Tab64 w) (hn : ¬ fp sb mb lb rv 0) : Calls Tryz.prog 17 #[.pointer (some ⟨xb, 0, none⟩), .pointer (some ⟨mb, 0, none⟩)] w (Went xb sb mb lb ty o w rv (c.step l).1 (c.step l).2) := by
  have c0 : w.cell? ⟨xb, 0, none⟩ = some (.int .i64 5) := (h.row.cell 0).trans (by rw [hk]; rfl)
  have c5 : w.cell? ⟨xb, 5, none⟩ = some (.pointer (some ⟨sb, 0, none⟩)) := (h.row.cell 5).trans (by rw [hk]; rfl)
  have hov := (can_sz hcan).1
  have hkd : (c.step l).1.kd = c.kd := (Kc.left_step (l := l) hov hI.sta.wd1 hI.sta.nr1 hI.sta.cap1).2.1
  have HS := Lib.hid (cabStep_yes sb mb lb ty o c rv mp l w h.op hm h.mpp hI hk hcan s1 s2 s3 s4 hT hn)
  obtain ⟨d, hd⟩ : ∃ x, c.step l = x := ⟨_, rfl⟩
  rw [hd] at HS hkd ⊢
  have HK := Lib.hid hkd
  have HJ := Lib.hid h
  clear h hm hI hk hcan hT hn hd hkd hov
  go_enter Tryz.func17, Tryz.ntmps17
  go_wp2_with fail
  refine HS.out.mono ?_
  rintro e w1 ⟨rv1, rfl, hs, hv⟩
  have HW := Lib.hid (Went.of HJ.out s5 s6 HK.out hs hv)
  clear hs hv
  go_wp2_with fail
  go_ret
  exact HW.out
set_option maxRecDepth 100000 in
set_option maxHeartbeats 1000000 in
theorem ostep_cab_no (w : World) (h : Oj w xb sb ty o c rv mp) (hm : MemG w mb lb l) (hI : Kc.Inv c) (hk : c.kd = 5) (hcan : c.can l = false) : Calls Tryz.prog 17 #[.pointer (some ⟨xb, 0, none⟩), .pointer (some ⟨mb, 0, none⟩)] w fun e w' => e = .returned (.bool false) ∧ Below w.heap.size w w' := by
  have c0 : w.cell? ⟨xb, 0, none⟩ = some (.int .i64 5) := (h.row.cell 0).trans (by rw [hk]; rfl)
  have c5 : w.cell? ⟨xb, 5, none⟩ = some (.pointer (some ⟨sb, 0, none⟩)) := (h.row.cell 5).trans (by rw [hk]; rfl)
  have HS := Lib.hid (cabStep_no sb mb lb ty o c rv mp l w h.op hm h.mpp hI hcan)
  clear h hm hI hk hcan
  go_enter Tryz.func17, Tryz.ntmps17
  go_wp2_with fail
  refine HS.out.mono ?_
  rintro e w1 ⟨rfl, hb⟩
  have HB := Lib.hid hb
  clear hb
  go_wp2_with fail
  go_ret
  exact ⟨rfl, HB.out⟩
set_option maxRecDepth 100000 in
set_option maxHeartbeats 1000000 in
theorem ostep_fifo_yes (w : World) (h : Oj w xb sb ty o c rv mp) (hm : MemG w mb lb l) (hI : Kc.Inv c) (hk : c.kd = 6) (hcan : c.can l = true) (s1 : sb ≠ mb) (s2 : sb ≠ lb) (s3 : rv.ownBlock ≠ some mb) (s4 : rv.ownBlock ≠ some lb) (s5 : xb ≠ mb) (s6 : xb ≠ lb) (hT : Tab64 w) (hn : ¬ fp sb mb lb rv 0) : Calls Tryz.prog 17 #[.pointer (some ⟨xb, 0, none⟩), .pointer (some ⟨mb, 0, none⟩)] w (Went xb sb mb lb ty o w rv (c.step l).1 (c.step l).2) := by
  have c0 : w.cell? ⟨xb, 0, none⟩ = some (.int .i64 6) := (h.row.cell 0).trans (by rw [hk]; rfl)
  have c6 : w.cell? ⟨xb, 6, none⟩ = some (.pointer (some ⟨sb, 0, none⟩)) := (h.row.cell 6).trans (by rw [hk]; rfl)
  have hov := (can_sz hcan).1
  have hkd : (c.step l).1.kd = c.kd := (Kc.left_step (l := l) hov hI.sta.wd1 hI.sta.nr1 hI.sta.cap1).2.1
  have HS := Lib.hid (fifoStep_yes sb mb lb ty o c rv mp l w h.op hm h.mpp hI hk hcan s1 s2 s3 s4 hT hn)
  obtain ⟨d, hd⟩ : ∃ x, c.step l = x := ⟨_, rfl⟩
  rw [hd] at HS hkd ⊢
  have HK := Lib.hid hkd
  have HJ := Lib.hid h
  clear h hm hI hk hcan hT hn hd hkd hov
  go_enter Tryz.func17, Tryz.ntmps17
  go_wp2_with fail
  refine HS.out.mono ?_
  rintro e w1 ⟨rv1, rfl, hs, hv⟩
  have HW := Lib.hid (Went.of HJ.out s5 s6 HK.out hs hv)
  clear hs hv
  go_wp2_with fail
  go_ret
  exact HW.out
set_option maxRecDepth 100000 in
set_option maxHeartbeats 1000000 in
theorem ostep_fifo_no (w : World) (h : Oj w xb sb ty o c rv mp) (hm : MemG w mb lb l) (hI : Kc.Inv c) (hk : c.kd = 6) (hcan : c.can l = false) : Calls Tryz.prog 17 #[.pointer (some ⟨xb, 0, none⟩), .pointer (some ⟨mb, 0, none⟩)] w fun e w' => e = .returned (.bool false) ∧ Below w.heap.size w w' := by
  have c0 : w.cell? ⟨xb, 0, none⟩ = some (.int .i64 6) := (h.row.cell 0).trans (by rw [hk]; rfl)
  have c6 : w.cell? ⟨xb, 6, none⟩ = some (.pointer (some ⟨sb, 0, none⟩)) := (h.row.cell 6).trans (by rw [hk]; rfl)
  have HS := Lib.hid (fifoStep_no sb mb lb ty o c rv mp l w h.op hm h.mpp hI hcan)
  clear h hm hI hk hcan
  go_enter Tryz.func17, Tryz.ntmps17
  go_wp2_with fail
  refine HS.out.mono ?_
  rintro e w1 ⟨rfl, hb⟩
  have HB := Lib.hid hb
  clear hb
  go_wp2_with fail
  go_ret
  exact ⟨rfl, HB.out⟩
theorem ostep_yes (w : World) (h : Oj w xb sb ty o c rv mp) (hm : MemG w mb lb l) (hI : Kc.Inv c) (hcan : c.can l = true) (s1 : sb ≠ mb) (s2 : sb ≠ lb) (s3 : rv.ownBlock ≠ some mb) (s4 : rv.ownBlock ≠ some lb) (s5 : xb ≠ mb) (s6 : xb ≠ lb) (hT : Tab64 w) (hn : ¬ fp sb mb lb rv 0) : Calls Tryz.prog 17 #[.pointer (some ⟨xb, 0, none⟩), .pointer (some ⟨mb, 0, none⟩)] w (Went xb sb mb lb ty o w rv (c.step l).1 (c.step l).2) := by
  rcases hI.sta.kd with q | q | q | q | q | q
  · exact ostep_four_yes xb sb mb lb ty o c rv mp l w h hm hI q hcan s1 s2 s3 s4 s5 s6 hT hn
  · exact ostep_chen_yes xb sb mb lb ty o c rv mp l w h hm hI q hcan s1 s2 s3 s4 s5 s6 hT hn
  · exact ostep_seq_yes xb sb mb lb ty o c rv mp l w h hm hI q hcan s1 s2 s3 s4 s5 s6 hT hn
  · exact ostep_ring_yes xb sb mb lb ty o c rv mp l w h hm hI q hcan s1 s2 s3 s4 s5 s6 hT hn
  · exact ostep_cab_yes xb sb mb lb ty o c rv mp l w h hm hI q hcan s1 s2 s3 s4 s5 s6 hT hn
  · exact ostep_fifo_yes xb sb mb lb ty o c rv mp l w h hm hI q hcan s1 s2 s3 s4 s5 s6 hT hn
theorem ostep_no (w : World) (h : Oj w xb sb ty o c rv mp) (hm : MemG w mb lb l) (hI : Kc.Inv c) (hcan : c.can l = false) : Calls Tryz.prog 17 #[.pointer (some ⟨xb, 0, none⟩), .pointer (some ⟨mb, 0, none⟩)] w fun e w' => e = .returned (.bool false) ∧ Below w.heap.size w w' := by
  rcases hI.sta.kd with q | q | q | q | q | q
  · exact ostep_four_no xb sb mb lb ty o c rv mp l w h hm hI q hcan
  · exact ostep_chen_no xb sb mb lb ty o c rv mp l w h hm hI q hcan
  · exact ostep_seq_no xb sb mb lb ty o c rv mp l w h hm hI q hcan
  · exact ostep_ring_no xb sb mb lb ty o c rv mp l w h hm hI q hcan
  · exact ostep_cab_no xb sb mb lb ty o c rv mp l w h hm hI q hcan
  · exact ostep_fifo_no xb sb mb lb ty o c rv mp l w h hm hI q hcan
set_option maxRecDepth 100000 in
set_option maxHeartbeats 1000000 in
theorem oover_four_t (w : World) (h : Oj w xb sb ty o c rv mp) (hk : c.kd = 1) (hov : c.over = true) : Calls Tryz.prog 20 #[.pointer (some ⟨xb, 0, none⟩)] w fun e w' => e = .returned (.bool true) ∧ w' = w := by
  have c0 : w.cell? ⟨xb, 0, none⟩ = some (.int .i64 1) := (h.row.cell 0).trans (by rw [hk]; rfl)
  have c1 : w.cell? ⟨xb, 1, none⟩ = some (.pointer (some ⟨sb, 0, none⟩)) := (h.row.cell 1).trans (by rw [hk]; rfl)
  have c2 : w.cell? ⟨xb, 2, none⟩ = some (.pointer (none)) := (h.row.cell 2).trans (by rw [hk]; rfl)
  have c3 : w.cell? ⟨xb, 3, none⟩ = some (.pointer (none)) := (h.row.cell 3).trans (by rw [hk]; rfl)
  have c4 : w.cell? ⟨xb, 4, none⟩ = some (.pointer (none)) := (h.row.cell 4).trans (by rw [hk]; rfl)
  have c5 : w.cell? ⟨xb, 5, none⟩ = some (.pointer (none)) := (h.row.cell 5).trans (by rw [hk]; rfl)
  have c6 : w.cell? ⟨xb, 6, none⟩ = some (.pointer (none)) := (h.row.cell 6).trans (by rw [hk]; rfl)
  have hs := fourOver_is sb ty o c rv mp w h.op
  rw [hov] at hs
  have HS := Lib.hid hs
  clear h hs hk hov
  go_enter Tryz.func20, Tryz.ntmps20
  go_wp2_with fail
  refine (HS.out).mono ?_
  rintro e w' ⟨rfl, hw⟩
  subst hw
  go_wp2_with fail
  refine (chenOver_nil _).mono ?_
  rintro e w' ⟨rfl, hw⟩
  subst hw
  go_wp2_with fail
  refine (seqOver_nil _).mono ?_
  rintro e w' ⟨rfl, hw⟩
  subst hw
  go_wp2_with fail
  refine (ringOver_nil _).mono ?_
  rintro e w' ⟨rfl, hw⟩
  subst hw
  go_wp2_with fail
  refine (cabOver_nil _).mono ?_
  rintro e w' ⟨rfl, hw⟩
  subst hw
  go_wp2_with fail
  refine (fifoOver_nil _).mono ?_
  rintro e w' ⟨rfl, hw⟩
  subst hw
  go_wp2_with fail
  go_ret
  exact ⟨rfl, rfl⟩
set_option maxRecDepth 100000 in
set_option maxHeartbeats 1000000 in
theorem oover_four_f (w : World) (h : Oj w xb sb ty o c rv mp) (hk : c.kd = 1) (hov : c.over = false) : Calls Tryz.prog 20 #[.pointer (some ⟨xb, 0, none⟩)] w fun e w' => e = .returned (.bool false) ∧ w' = w := by
  have c0 : w.cell? ⟨xb, 0, none⟩ = some (.int .i64 1) := (h.row.cell 0).trans (by rw [hk]; rfl)
  have c1 : w.cell? ⟨xb, 1, none⟩ = some (.pointer (some ⟨sb, 0, none⟩)) := (h.row.cell 1).trans (by rw [hk]; rfl)
  have c2 : w.cell? ⟨xb, 2, none⟩ = some (.pointer (none)) := (h.row.cell 2).trans (by rw [hk]; rfl)
  have c3 : w.cell? ⟨xb, 3, none⟩ = some (.pointer (none)) := (h.row.cell 3).trans (by rw [hk]; rfl)
  have c4 : w.cell? ⟨xb, 4, none⟩ = some (.pointer (none)) := (h.row.cell 4).trans (by rw [hk]; rfl)
  have c5 : w.cell? ⟨xb, 5, none⟩ = some (.pointer (none)) := (h.row.cell 5).trans (by rw [hk]; rfl)
  have c6 : w.cell? ⟨xb, 6, none⟩ = some (.pointer (none)) := (h.row.cell 6).trans (by rw [hk]; rfl)
  have hs := fourOver_is sb ty o c rv mp w h.op
  rw [hov] at hs
  have HS := Lib.hid hs
  clear h hs hk hov
  go_enter Tryz.func20, Tryz.ntmps20
  go_wp2_with fail
  refine (HS.out).mono ?_
  rintro e w' ⟨rfl, hw⟩
  subst hw
  go_wp2_with fail
  go_ret
  exact ⟨rfl, rfl⟩
set_option maxRecDepth 100000 in
set_option maxHeartbeats 1000000 in
theorem oover_chen_t (w : World) (h : Oj w xb sb ty o c rv mp) (hk : c.kd = 2) (hov : c.over = true) : Calls Tryz.prog 20 #[.pointer (some ⟨xb, 0, none⟩)] w fun e w' => e = .returned (.bool true) ∧ w' = w := by
  have c0 : w.cell? ⟨xb, 0, none⟩ = some (.int .i64 2) := (h.row.cell 0).trans (by rw [hk]; rfl)
  have c1 : w.cell? ⟨xb, 1, none⟩ = some (.pointer (none)) := (h.row.cell 1).trans (by rw [hk]; rfl)
  have c2 : w.cell? ⟨xb, 2, none⟩ = some (.pointer (some ⟨sb, 0, none⟩)) := (h.row.cell 2).trans (by rw [hk]; rfl)
  have c3 : w.cell? ⟨xb, 3, none⟩ = some (.pointer (none)) := (h.row.cell 3).trans (by rw [hk]; rfl)
  have c4 : w.cell? ⟨xb, 4, none⟩ = some (.pointer (none)) := (h.row.cell 4).trans (by rw [hk]; rfl)
  have c5 : w.cell? ⟨xb, 5, none⟩ = some (.pointer (none)) := (h.row.cell 5).trans (by rw [hk]; rfl)
  have c6 : w.cell? ⟨xb, 6, none⟩ = some (.pointer (none)) := (h.row.cell 6).trans (by rw [hk]; rfl)
  have hs := chenOver_is sb ty o c rv mp w h.op
  rw [hov] at hs
  have HS := Lib.hid hs
  clear h hs hk hov
  go_enter Tryz.func20, Tryz.ntmps20
  go_wp2_with fail
  refine (fourOver_nil _).mono ?_
  rintro e w' ⟨rfl, hw⟩
  subst hw
  go_wp2_with fail
  refine (HS.out).mono ?_
  rintro e w' ⟨rfl, hw⟩
  subst hw
  go_wp2_with fail
  refine (seqOver_nil _).mono ?_
  rintro e w' ⟨rfl, hw⟩
  subst hw
  go_wp2_with fail
  refine (ringOver_nil _).mono ?_
  rintro e w' ⟨rfl, hw⟩
  subst hw
  go_wp2_with fail
  refine (cabOver_nil _).mono ?_
  rintro e w' ⟨rfl, hw⟩
  subst hw
  go_wp2_with fail
  refine (fifoOver_nil _).mono ?_
  rintro e w' ⟨rfl, hw⟩
  subst hw
  go_wp2_with fail
  go_ret
  exact ⟨rfl, rfl⟩
set_option maxRecDepth 100000 in
set_option maxHeartbeats 1000000 in
theorem oover_chen_f (w : World) (h : Oj w xb sb ty o c rv mp) (hk : c.kd = 2) (hov : c.over = false) : Calls Tryz.prog 20 #[.pointer (some ⟨xb, 0, none⟩)] w fun e w' => e = .returned (.bool false) ∧ w' = w := by
  have c0 : w.cell? ⟨xb, 0, none⟩ = some (.int .i64 2) := (h.row.cell 0).trans (by rw [hk]; rfl)
  have c1 : w.cell? ⟨xb, 1, none⟩ = some (.pointer (none)) := (h.row.cell 1).trans (by rw [hk]; rfl)
  have c2 : w.cell? ⟨xb, 2, none⟩ = some (.pointer (some ⟨sb, 0, none⟩)) := (h.row.cell 2).trans (by rw [hk]; rfl)
  have c3 : w.cell? ⟨xb, 3, none⟩ = some (.pointer (none)) := (h.row.cell 3).trans (by rw [hk]; rfl)
  have c4 : w.cell? ⟨xb, 4, none⟩ = some (.pointer (none)) := (h.row.cell 4).trans (by rw [hk]; rfl)
  have c5 : w.cell? ⟨xb, 5, none⟩ = some (.pointer (none)) := (h.row.cell 5).trans (by rw [hk]; rfl)
  have c6 : w.cell? ⟨xb, 6, none⟩ = some (.pointer (none)) := (h.row.cell 6).trans (by rw [hk]; rfl)
  have hs := chenOver_is sb ty o c rv mp w h.op
  rw [hov] at hs
  have HS := Lib.hid hs
  clear h hs hk hov
  go_enter Tryz.func20, Tryz.ntmps20
  go_wp2_with fail
  refine (fourOver_nil _).mono ?_
  rintro e w' ⟨rfl, hw⟩
  subst hw
  go_wp2_with fail
  refine (HS.out).mono ?_
  rintro e w' ⟨rfl, hw⟩
  subst hw
  go_wp2_with fail
  go_ret
  exact ⟨rfl, rfl⟩
set_option maxRecDepth 100000 in
set_option maxHeartbeats 1000000 in
theorem oover_seq_t (w : World) (h : Oj w xb sb ty o c rv mp) (hk : c.kd = 3) (hov : c.over = true) : Calls Tryz.prog 20 #[.pointer (some ⟨xb, 0, none⟩)] w fun e w' => e = .returned (.bool true) ∧ w' = w := by
  have c0 : w.cell? ⟨xb, 0, none⟩ = some (.int .i64 3) := (h.row.cell 0).trans (by rw [hk]; rfl)
  have c1 : w.cell? ⟨xb, 1, none⟩ = some (.pointer (none)) := (h.row.cell 1).trans (by rw [hk]; rfl)
  have c2 : w.cell? ⟨xb, 2, none⟩ = some (.pointer (none)) := (h.row.cell 2).trans (by rw [hk]; rfl)
  have c3 : w.cell? ⟨xb, 3, none⟩ = some (.pointer (some ⟨sb, 0, none⟩)) := (h.row.cell 3).trans (by rw [hk]; rfl)
  have c4 : w.cell? ⟨xb, 4, none⟩ = some (.pointer (none)) := (h.row.cell 4).trans (by rw [hk]; rfl)
  have c5 : w.cell? ⟨xb, 5, none⟩ = some (.pointer (none)) := (h.row.cell 5).trans (by rw [hk]; rfl)
  have c6 : w.cell? ⟨xb, 6, none⟩ = some (.pointer (none)) := (h.row.cell 6).trans (by rw [hk]; rfl)
  have hs := seqOver_is sb ty o c rv mp w h.op
  rw [hov] at hs
  have HS := Lib.hid hs
  clear h hs hk hov
  go_enter Tryz.func20, Tryz.ntmps20
  go_wp2_with fail
  refine (fourOver_nil _).mono ?_
  rintro e w' ⟨rfl, hw⟩
  subst hw
  go_wp2_with fail
  refine (chenOver_nil _).mono ?_
  rintro e w' ⟨rfl, hw⟩
  subst hw
  go_wp2_with fail
  refine (HS.out).mono ?_
  rintro e w' ⟨rfl, hw⟩
  subst hw
  go_wp2_with fail
  refine (ringOver_nil _).mono ?_
  rintro e w' ⟨rfl, hw⟩
  subst hw
  go_wp2_with fail
  refine (cabOver_nil _).mono ?_
  rintro e w' ⟨rfl, hw⟩
  subst hw
  go_wp2_with fail
  refine (fifoOver_nil _).mono ?_
  rintro e w' ⟨rfl, hw⟩
  subst hw
  go_wp2_with fail
  go_ret
  exact ⟨rfl, rfl⟩
set_option maxRecDepth 100000 in
set_option maxHeartbeats 1000000 in
theorem oover_seq_f (w : World) (h : Oj w xb sb ty o c rv mp) (hk : c.kd = 3) (hov : c.over = false) : Calls Tryz.prog 20 #[.pointer (some ⟨xb, 0, none⟩)] w fun e w' => e = .returned (.bool false) ∧ w' = w := by
  have c0 : w.cell? ⟨xb, 0, none⟩ = some (.int .i64 3) := (h.row.cell 0).trans (by rw [hk]; rfl)
  have c1 : w.cell? ⟨xb, 1, none⟩ = some (.pointer (none)) := (h.row.cell 1).trans (by rw [hk]; rfl)
  have c2 : w.cell? ⟨xb, 2, none⟩ = some (.pointer (none)) := (h.row.cell 2).trans (by rw [hk]; rfl)
  have c3 : w.cell? ⟨xb, 3, none⟩ = some (.pointer (some ⟨sb, 0, none⟩)) := (h.row.cell 3).trans (by rw [hk]; rfl)
  have c4 : w.cell? ⟨xb, 4, none⟩ = some (.pointer (none)) := (h.row.cell 4).trans (by rw [hk]; rfl)
  have c5 : w.cell? ⟨xb, 5, none⟩ = some (.pointer (none)) := (h.row.cell 5).trans (by rw [hk]; rfl)
  have c6 : w.cell? ⟨xb, 6, none⟩ = some (.pointer (none)) := (h.row.cell 6).trans (by rw [hk]; rfl)
  have hs := seqOver_is sb ty o c rv mp w h.op
  rw [hov] at hs
  have HS := Lib.hid hs
  clear h hs hk hov
  go_enter Tryz.func20, Tryz.ntmps20
  go_wp2_with fail
  refine (fourOver_nil _).mono ?_
  rintro e w' ⟨rfl, hw⟩
  subst hw
  go_wp2_with fail
  refine (chenOver_nil _).mono ?_
  rintro e w' ⟨rfl, hw⟩
  subst hw
  go_wp2_with fail
  refine (HS.out).mono ?_
  rintro e w' ⟨rfl, hw⟩
  subst hw
  go_wp2_with fail
  go_ret
  exact ⟨rfl, rfl⟩
set_option maxRecDepth 100000 in
set_option maxHeartbeats 1000000 in
theorem oover_ring_t (w : World) (h : Oj w xb sb ty o c rv mp) (hk : c.kd = 4) (hov : c.over = true) : Calls Tryz.prog 20 #[.pointer (some ⟨xb, 0, none⟩)] w fun e w' => e = .returned (.bool true) ∧ w' = w := by
  have c0 : w.cell? ⟨xb, 0, none⟩ = some (.int .i64 4) := (h.row.cell 0).trans (by rw [hk]; rfl)
  have c1 : w.cell? ⟨xb, 1, none⟩ = some (.pointer (none)) := (h.row.cell 1).trans (by rw [hk]; rfl)
  have c2 : w.cell? ⟨xb, 2, none⟩ = some (.pointer (none)) := (h.row.cell 2).trans (by rw [hk]; rfl)
  have c3 : w.cell? ⟨xb, 3, none⟩ = some (.pointer (none)) := (h.row.cell 3).trans (by rw [hk]; rfl)
  have c4 : w.cell? ⟨xb, 4, none⟩ = some (.pointer (some ⟨sb, 0, none⟩)) := (h.row.cell 4).trans (by rw [hk]; rfl)
  have c5 : w.cell? ⟨xb, 5, none⟩ = some (.pointer (none)) := (h.row.cell 5).trans (by rw [hk]; rfl)
  have c6 : w.cell? ⟨xb, 6, none⟩ = some (.pointer (none)) := (h.row.cell 6).trans (by rw [hk]; rfl)
  have hs := ringOver_is sb ty o c rv mp w h.op
  rw [hov] at hs
  have HS := Lib.hid hs
  clear h hs hk hov
  go_enter Tryz.func20, Tryz.ntmps20
  go_wp2_with fail
  refine (fourOver_nil _).mono ?_
  rintro e w' ⟨rfl, hw⟩
  subst hw
  go_wp2_with fail
  refine (chenOver_nil _).mono ?_
  rintro e w' ⟨rfl, hw⟩
  subst hw
  go_wp2_with fail
  refine (seqOver_nil _).mono ?_
  rintro e w' ⟨rfl, hw⟩
  subst hw
  go_wp2_with fail
  refine (HS.out).mono ?_
  rintro e w' ⟨rfl, hw⟩
  subst hw
  go_wp2_with fail
  refine (cabOver_nil _).mono ?_
  rintro e w' ⟨rfl, hw⟩
  subst hw
  go_wp2_with fail
  refine (fifoOver_nil _).mono ?_
  rintro e w' ⟨rfl, hw⟩
  subst hw
  go_wp2_with fail
  go_ret
  exact ⟨rfl, rfl⟩
set_option maxRecDepth 100000 in
set_option maxHeartbeats 1000000 in
theorem oover_ring_f (w : World) (h : Oj w xb sb ty o c rv mp) (hk : c.kd = 4) (hov : c.over = false) : Calls Tryz.prog 20 #[.pointer (some ⟨xb, 0, none⟩)] w fun e w' => e = .returned (.bool false) ∧ w' = w := by
  have c0 : w.cell? ⟨xb, 0, none⟩ = some (.int .i64 4) := (h.row.cell 0).trans (by rw [hk]; rfl)
  have c1 : w.cell? ⟨xb, 1, none⟩ = some (.pointer (none)) := (h.row.cell 1).trans (by rw [hk]; rfl)
  have c2 : w.cell? ⟨xb, 2, none⟩ = some (.pointer (none)) := (h.row.cell 2).trans (by rw [hk]; rfl)
  have c3 : w.cell? ⟨xb, 3, none⟩ = some (.pointer (none)) := (h.row.cell 3).trans (by rw [hk]; rfl)
  have c4 : w.cell? ⟨xb, 4, none⟩ = some (.pointer (some ⟨sb, 0, none⟩)) := (h.row.cell 4).trans (by rw [hk]; rfl)
  have c5 : w.cell? ⟨xb, 5, none⟩ = some (.pointer (none)) := (h.row.cell 5).trans (by rw [hk]; rfl)
  have c6 : w.cell? ⟨xb, 6, none⟩ = some (.pointer (none)) := (h.row.cell 6).trans (by rw [hk]; rfl)
  have hs := ringOver_is sb ty o c rv mp w h.op
  rw [hov] at hs
  have HS := Lib.hid hs
  clear h hs hk hov
  go_enter Tryz.func20, Tryz.ntmps20
  go_wp2_with fail
  refine (fourOver_nil _).mono ?_
  rintro e w' ⟨rfl, hw⟩
  subst hw
  go_wp2_with fail
  refine (chenOver_nil _).mono ?_
  rintro e w' ⟨rfl, hw⟩
  subst hw
  go_wp2_with fail
  refine (seqOver_nil _).mono ?_
  rintro e w' ⟨rfl, hw⟩
  subst hw
  go_wp2_with fail
  refine (HS.out).mono ?_
  rintro e w' ⟨rfl, hw⟩
  subst hw
  go_wp2_with fail
  go_ret
  exact ⟨rfl, rfl⟩
set_option maxRecDepth 100000 in
set_option maxHeartbeats 1000000 in
theorem oover_cab_t (w : World) (h : Oj w xb sb ty o c rv mp) (hk : c.kd = 5) (hov : c.over = true) : Calls Tryz.prog 20 #[.pointer (some ⟨xb, 0, none⟩)] w fun e w' => e = .returned (.bool true) ∧ w' = w := by
  have c0 : w.cell? ⟨xb, 0, none⟩ = some (.int .i64 5) := (h.row.cell 0).trans (by rw [hk]; rfl)
  have c1 : w.cell? ⟨xb, 1, none⟩ = some (.pointer (none)) := (h.row.cell 1).trans (by rw [hk]; rfl)
  have c2 : w.cell? ⟨xb, 2, none⟩ = some (.pointer (none)) := (h.row.cell 2).trans (by rw [hk]; rfl)
  have c3 : w.cell? ⟨xb, 3, none⟩ = some (.pointer (none)) := (h.row.cell 3).trans (by rw [hk]; rfl)
  have c4 : w.cell? ⟨xb, 4, none⟩ = some (.pointer (none)) := (h.row.cell 4).trans (by rw [hk]; rfl)
  have c5 : w.cell? ⟨xb, 5, none⟩ = some (.pointer (some ⟨sb, 0, none⟩)) := (h.row.cell 5).trans (by rw [hk]; rfl)
  have c6 : w.cell? ⟨xb, 6, none⟩ = some (.pointer (none)) := (h.row.cell 6).trans (by rw [hk]; rfl)
  have hs := cabOver_is sb ty o c rv mp w h.op
  rw [hov] at hs
  have HS := Lib.hid hs
  clear h hs hk hov
  go_enter Tryz.func20, Tryz.ntmps20
  go_wp2_with fail
  refine (fourOver_nil _).mono ?_
  rintro e w' ⟨rfl, hw⟩
  subst hw
  go_wp2_with fail
  refine (chenOver_nil _).mono ?_
  rintro e w' ⟨rfl, hw⟩
  subst hw
  go_wp2_with fail
  refine (seqOver_nil _).mono ?_
  rintro e w' ⟨rfl, hw⟩
  subst hw
  go_wp2_with fail
  refine (ringOver_nil _).mono ?_
  rintro e w' ⟨rfl, hw⟩
  subst hw
  go_wp2_with fail
  refine (HS.out).mono ?_
  rintro e w' ⟨rfl, hw⟩
  subst hw
  go_wp2_with fail
  refine (fifoOver_nil _).mono ?_
  rintro e w' ⟨rfl, hw⟩
  subst hw
  go_wp2_with fail
  go_ret
  exact ⟨rfl, rfl⟩
set_option maxRecDepth 100000 in
set_option maxHeartbeats 1000000 in
theorem oover_cab_f (w : World) (h : Oj w xb sb ty o c rv mp) (hk : c.kd = 5) (hov : c.over = false) : Calls Tryz.prog 20 #[.pointer (some ⟨xb, 0, none⟩)] w fun e w' => e = .returned (.bool false) ∧ w' = w := by
  have c0 : w.cell? ⟨xb, 0, none⟩ = some (.int .i64 5) := (h.row.cell 0).trans (by rw [hk]; rfl)
  have c1 : w.cell? ⟨xb, 1, none⟩ = some (.pointer (none)) := (h.row.cell 1).trans (by rw [hk]; rfl)
  have c2 : w.cell? ⟨xb, 2, none⟩ = some (.pointer (none)) := (h.row.cell 2).trans (by rw [hk]; rfl)
  have c3 : w.cell? ⟨xb, 3, none⟩ = some (.pointer (none)) := (h.row.cell 3).trans (by rw [hk]; rfl)
  have c4 : w.cell? ⟨xb, 4, none⟩ = some (.pointer (none)) := (h.row.cell 4).trans (by rw [hk]; rfl)
  have c5 : w.cell? ⟨xb, 5, none⟩ = some (.pointer (some ⟨sb, 0, none⟩)) := (h.row.cell 5).trans (by rw [hk]; rfl)
  have c6 : w.cell? ⟨xb, 6, none⟩ = some (.pointer (none)) := (h.row.cell 6).trans (by rw [hk]; rfl)
  have hs := cabOver_is sb ty o c rv mp w h.op
  rw [hov] at hs
  have HS := Lib.hid hs
  clear h hs hk hov
  go_enter Tryz.func20, Tryz.ntmps20
  go_wp2_with fail
  refine (fourOver_nil _).mono ?_
  rintro e w' ⟨rfl, hw⟩
  subst hw
  go_wp2_with fail
  refine (chenOver_nil _).mono ?_
  rintro e w' ⟨rfl, hw⟩
  subst hw
  go_wp2_with fail
  refine (seqOver_nil _).mono ?_
  rintro e w' ⟨rfl, hw⟩
  subst hw
  go_wp2_with fail
  refine (ringOver_nil _).mono ?_
  rintro e w' ⟨rfl, hw⟩
  subst hw
  go_wp2_with fail
  refine (HS.out).mono ?_
  rintro e w' ⟨rfl, hw⟩
  subst hw
  go_wp2_with fail
  go_ret
  exact ⟨rfl, rfl⟩
set_option maxRecDepth 100000 in
set_option maxHeartbeats 1000000 in
theorem oover_fifo_t (w : World) (h : Oj w xb sb ty o c rv mp) (hk : c.kd = 6) (hov : c.over = true) : Calls Tryz.prog 20 #[.pointer (some ⟨xb, 0, none⟩)] w fun e w' => e = .returned (.bool true) ∧ w' = w := by
  have c0 : w.cell? ⟨xb, 0, none⟩ = some (.int .i64 6) := (h.row.cell 0).trans (by rw [hk]; rfl)
  have c1 : w.cell? ⟨xb, 1, none⟩ = some (.pointer (none)) := (h.row.cell 1).trans (by rw [hk]; rfl)
  have c2 : w.cell? ⟨xb, 2, none⟩ = some (.pointer (none)) := (h.row.cell 2).trans (by rw [hk]; rfl)
  have c3 : w.cell? ⟨xb, 3, none⟩ = some (.pointer (none)) := (h.row.cell 3).trans (by rw [hk]; rfl)
  have c4 : w.cell? ⟨xb, 4, none⟩ = some (.pointer (none)) := (h.row.cell 4).trans (by rw [hk]; rfl)
  have c5 : w.cell? ⟨xb, 5, none⟩ = some (.pointer (none)) := (h.row.cell 5).trans (by rw [hk]; rfl)
  have c6 : w.cell? ⟨xb, 6, none⟩ = some (.pointer (some ⟨sb, 0, none⟩)) := (h.row.cell 6).trans (by rw [hk]; rfl)
  have hs := fifoOver_is sb ty o c rv mp w h.op
  rw [hov] at hs
  have HS := Lib.hid hs
  clear h hs hk hov
  go_enter Tryz.func20, Tryz.ntmps20
  go_wp2_with fail
  refine (fourOver_nil _).mono ?_
  rintro e w' ⟨rfl, hw⟩
  subst hw
  go_wp2_with fail
  refine (chenOver_nil _).mono ?_
  rintro e w' ⟨rfl, hw⟩
  subst hw
  go_wp2_with fail
  refine (seqOver_nil _).mono ?_
  rintro e w' ⟨rfl, hw⟩
  subst hw
  go_wp2_with fail
  refine (ringOver_nil _).mono ?_
  rintro e w' ⟨rfl, hw⟩
  subst hw
  go_wp2_with fail
  refine (cabOver_nil _).mono ?_
  rintro e w' ⟨rfl, hw⟩
  subst hw
  go_wp2_with fail
  refine (HS.out).mono ?_
  rintro e w' ⟨rfl, hw⟩
  subst hw
  go_wp2_with fail
  go_ret
  exact ⟨rfl, rfl⟩
set_option maxRecDepth 100000 in
set_option maxHeartbeats 1000000 in
theorem oover_fifo_f (w : World) (h : Oj w xb sb ty o c rv mp) (hk : c.kd = 6) (hov : c.over = false) : Calls Tryz.prog 20 #[.pointer (some ⟨xb, 0, none⟩)] w fun e w' => e = .returned (.bool false) ∧ w' = w := by
  have c0 : w.cell? ⟨xb, 0, none⟩ = some (.int .i64 6) := (h.row.cell 0).trans (by rw [hk]; rfl)
  have c1 : w.cell? ⟨xb, 1, none⟩ = some (.pointer (none)) := (h.row.cell 1).trans (by rw [hk]; rfl)
  have c2 : w.cell? ⟨xb, 2, none⟩ = some (.pointer (none)) := (h.row.cell 2).trans (by rw [hk]; rfl)
  have c3 : w.cell? ⟨xb, 3, none⟩ = some (.pointer (none)) := (h.row.cell 3).trans (by rw [hk]; rfl)
  have c4 : w.cell? ⟨xb, 4, none⟩ = some (.pointer (none)) := (h.row.cell 4).trans (by rw [hk]; rfl)
  have c5 : w.cell? ⟨xb, 5, none⟩ = some (.pointer (none)) := (h.row.cell 5).trans (by rw [hk]; rfl)
  have c6 : w.cell? ⟨xb, 6, none⟩ = some (.pointer (some ⟨sb, 0, none⟩)) := (h.row.cell 6).trans (by rw [hk]; rfl)
  have hs := fifoOver_is sb ty o c rv mp w h.op
  rw [hov] at hs
  have HS := Lib.hid hs
  clear h hs hk hov
  go_enter Tryz.func20, Tryz.ntmps20
  go_wp2_with fail
  refine (fourOver_nil _).mono ?_
  rintro e w' ⟨rfl, hw⟩
  subst hw
  go_wp2_with fail
  refine (chenOver_nil _).mono ?_
  rintro e w' ⟨rfl, hw⟩
  subst hw
  go_wp2_with fail
  refine (seqOver_nil _).mono ?_
  rintro e w' ⟨rfl, hw⟩
  subst hw
  go_wp2_with fail
  refine (ringOver_nil _).mono ?_
  rintro e w' ⟨rfl, hw⟩
  subst hw
  go_wp2_with fail
  refine (cabOver_nil _).mono ?_
  rintro e w' ⟨rfl, hw⟩
  subst hw
  go_wp2_with fail
  refine (HS.out).mono ?_
  rintro e w' ⟨rfl, hw⟩
  subst hw
  go_wp2_with fail
  go_ret
  exact ⟨rfl, rfl⟩
theorem oover_o (w : World) (h : Oj w xb sb ty o c rv mp) (hI : Kc.Inv c) : Calls Tryz.prog 20 #[.pointer (some ⟨xb, 0, none⟩)] w fun e w' => e = .returned (.bool c.over) ∧ w' = w := by
  cases ho : c.over
  · rcases hI.sta.kd with q | q | q | q | q | q
    · exact oover_four_f xb sb ty o c rv mp w h q ho
    · exact oover_chen_f xb sb ty o c rv mp w h q ho
    · exact oover_seq_f xb sb ty o c rv mp w h q ho
    · exact oover_ring_f xb sb ty o c rv mp w h q ho
    · exact oover_cab_f xb sb ty o c rv mp w h q ho
    · exact oover_fifo_f xb sb ty o c rv mp w h q ho
  · rcases hI.sta.kd with q | q | q | q | q | q
    · exact oover_four_t xb sb ty o c rv mp w h q ho
    · exact oover_chen_t xb sb ty o c rv mp w h q ho
    · exact oover_seq_t xb sb ty o c rv mp w h q ho
    · exact oover_ring_t xb sb ty o c rv mp w h q ho
    · exact oover_cab_t xb sb ty o c rv mp w h q ho
    · exact oover_fifo_t xb sb ty o c rv mp w h q ho
set_option maxRecDepth 100000 in
set_option maxHeartbeats 2000000 in
theorem osteps_four (w : World) (h : Oj w xb sb ty o c rv mp) (hk : c.kd = 1) (hst : c.steps ≤ 1000000) : Calls Tryz.prog 22 #[.pointer (some ⟨xb, 0, none⟩)] w fun e w' => e = .returned (.int .i64 (c.steps : Int)) ∧ Below w.heap.size w w' := by
  have hbd := (Below.refl w.heap.size w).drew
  have hJ := h.below hbd
  have HB := Lib.hid hbd
  have HS := Lib.hid (fourSteps_is sb ty o c rv mp w.drew hJ.op)
  have h0 : (0 : Int) ≤ (c.steps : Int) := by omega
  have h1 : (c.steps : Int) ≤ 1000000 := by omega
  obtain ⟨N, hN⟩ : ∃ x : Int, (c.steps : Int) = x := ⟨_, rfl⟩
  rw [hN] at HS h0 h1 ⊢
  have e1 : IntKind.i64.wrap N = N := sh_wrap (by omega) (by omega)
  have e0 : IntKind.i64.wrap 0 = 0 := rfl
  have e2 : IntKind.i64.wrap (0 + N) = N := by rw [Int.zero_add]; exact e1
  have e3 : IntKind.i64.wrap (N + 0) = N := by rw [Int.add_zero]; exact e1
  clear h hN hst
  have c1 : w.drew.cell? ⟨xb, 1, none⟩ = some (.pointer (some ⟨sb, 0, none⟩)) := (hJ.row.cell 1).trans (by rw [hk]; rfl)
  have c2 : w.drew.cell? ⟨xb, 2, none⟩ = some (.pointer (none)) := (hJ.row.cell 2).trans (by rw [hk]; rfl)
  have c3 : w.drew.cell? ⟨xb, 3, none⟩ = some (.pointer (none)) := (hJ.row.cell 3).trans (by rw [hk]; rfl)
  have c4 : w.drew.cell? ⟨xb, 4, none⟩ = some (.pointer (none)) := (hJ.row.cell 4).trans (by rw [hk]; rfl)
  have c5 : w.drew.cell? ⟨xb, 5, none⟩ = some (.pointer (none)) := (hJ.row.cell 5).trans (by rw [hk]; rfl)
  have c6 : w.drew.cell? ⟨xb, 6, none⟩ = some (.pointer (none)) := (hJ.row.cell 6).trans (by rw [hk]; rfl)
  clear hJ hk hbd
  go_enter Tryz.func22, Tryz.ntmps22
  go_wp2_with fail
  have hSd : (fun w' : World => w'.cell? ⟨xb, 1, none⟩ = some (.pointer (some ⟨sb, 0, none⟩)) ∧ w'.cell? ⟨xb, 2, none⟩ = some (.pointer (none)) ∧ w'.cell? ⟨xb, 3, none⟩ = some (.pointer (none)) ∧ w'.cell? ⟨xb, 4, none⟩ = some (.pointer (none)) ∧ w'.cell? ⟨xb, 5, none⟩ = some (.pointer (none)) ∧ w'.cell? ⟨xb, 6, none⟩ = some (.pointer (none))) w.drew := ⟨c1, c2, c3, c4, c5, c6⟩
  refine wp_region_held_drew (S := (fun w' : World => w'.cell? ⟨xb, 1, none⟩ = some (.pointer (some ⟨sb, 0, none⟩)) ∧ w'.cell? ⟨xb, 2, none⟩ = some (.pointer (none)) ∧ w'.cell? ⟨xb, 3, none⟩ = some (.pointer (none)) ∧ w'.cell? ⟨xb, 4, none⟩ = some (.pointer (none)) ∧ w'.cell? ⟨xb, 5, none⟩ = some (.pointer (none)) ∧ w'.cell? ⟨xb, 6, none⟩ = some (.pointer (none)))) (by kernel_rfl) hSd (fun hHeld => ?_)
  clear hSd
  generalize w.drew = wd at hHeld HS HB ⊢
  have hHeld : (fun w' : World => w'.cell? ⟨xb, 1, none⟩ = some (.pointer (some ⟨sb, 0, none⟩)) ∧ w'.cell? ⟨xb, 2, none⟩ = some (.pointer (none)) ∧ w'.cell? ⟨xb, 3, none⟩ = some (.pointer (none)) ∧ w'.cell? ⟨xb, 4, none⟩ = some (.pointer (none)) ∧ w'.cell? ⟨xb, 5, none⟩ = some (.pointer (none)) ∧ w'.cell? ⟨xb, 6, none⟩ = some (.pointer (none))) wd := hHeld
  refine tkH 0 ?_
  refine tkH 1 ?_
  refine tkH 2 ?_
  refine tkH 3 ?_
  refine tkH 5 ?_
  refine tkH 6 ?_
  refine tkH 7 ?_
  refine tkH 8 ?_
  refine tkH 11 ?_
  refine tkH 12 ?_
  refine tkH 13 ?_
  refine tkH 14 ?_
  refine tkH 17 ?_
  refine tkH 18 ?_
  refine tkH 19 ?_
  refine tkH 20 ?_
  refine tkH 23 ?_
  refine tkH 24 ?_
  refine tkH 25 ?_
  refine tkH 26 ?_
  refine tkH 29 ?_
  refine tkH 30 ?_
  refine tkH 31 ?_
  refine tkH 32 ?_
  refine clH 4 (fun K hK => ?_)
  go_simp
  go_at_call 75
  refine (HS.out).mono ?_
  rintro ex wx ⟨rfl, hwx⟩
  subst hwx
  have hSx : (fun w' : World => w'.cell? ⟨xb, 1, none⟩ = some (.pointer (some ⟨sb, 0, none⟩)) ∧ w'.cell? ⟨xb, 2, none⟩ = some (.pointer (none)) ∧ w'.cell? ⟨xb, 3, none⟩ = some (.pointer (none)) ∧ w'.cell? ⟨xb, 4, none⟩ = some (.pointer (none)) ∧ w'.cell? ⟨xb, 5, none⟩ = some (.pointer (none)) ∧ w'.cell? ⟨xb, 6, none⟩ = some (.pointer (none))) _ := hHeld
  refine hK.out _ _ hSx (fun hHeld => ?_)
  clear hK K
  try first | simp only [pS, List.set] | simp only [pN]
  refine clH 9 (fun K hK => ?_)
  go_simp
  go_at_call 76
  refine (chenSteps_nil _).mono ?_
  rintro ex wx ⟨rfl, hwx⟩
  subst hwx
  have hSx : (fun w' : World => w'.cell? ⟨xb, 1, none⟩ = some (.pointer (some ⟨sb, 0, none⟩)) ∧ w'.cell? ⟨xb, 2, none⟩ = some (.pointer (none)) ∧ w'.cell? ⟨xb, 3, none⟩ = some (.pointer (none)) ∧ w'.cell? ⟨xb, 4, none⟩ = some (.pointer (none)) ∧ w'.cell? ⟨xb, 5, none⟩ = some (.pointer (none)) ∧ w'.cell? ⟨xb, 6, none⟩ = some (.pointer (none))) _ := hHeld
  refine hK.out _ _ hSx (fun hHeld => ?_)
  clear hK K
  try first | simp only [pS, List.set] | simp only [pN]
  refine tkH 10 ?_
  refine clH 15 (fun K hK => ?_)
  go_simp
  go_at_call 77
  refine (seqSteps_nil _).mono ?_
  rintro ex wx ⟨rfl, hwx⟩
  subst hwx
  have hSx : (fun w' : World => w'.cell? ⟨xb, 1, none⟩ = some (.pointer (some ⟨sb, 0, none⟩)) ∧ w'.cell? ⟨xb, 2, none⟩ = some (.pointer (none)) ∧ w'.cell? ⟨xb, 3, none⟩ = some (.pointer (none)) ∧ w'.cell? ⟨xb, 4, none⟩ = some (.pointer (none)) ∧ w'.cell? ⟨xb, 5, none⟩ = some (.pointer (none)) ∧ w'.cell? ⟨xb, 6, none⟩ = some (.pointer (none))) _ := hHeld
  refine hK.out _ _ hSx (fun hHeld => ?_)
  clear hK K
  try first | simp only [pS, List.set] | simp only [pN]
  refine tkH 16 ?_
  refine clH 21 (fun K hK => ?_)
  go_simp
  go_at_call 78
  refine (ringSteps_nil _).mono ?_
  rintro ex wx ⟨rfl, hwx⟩
  subst hwx
  have hSx : (fun w' : World => w'.cell? ⟨xb, 1, none⟩ = some (.pointer (some ⟨sb, 0, none⟩)) ∧ w'.cell? ⟨xb, 2, none⟩ = some (.pointer (none)) ∧ w'.cell? ⟨xb, 3, none⟩ = some (.pointer (none)) ∧ w'.cell? ⟨xb, 4, none⟩ = some (.pointer (none)) ∧ w'.cell? ⟨xb, 5, none⟩ = some (.pointer (none)) ∧ w'.cell? ⟨xb, 6, none⟩ = some (.pointer (none))) _ := hHeld
  refine hK.out _ _ hSx (fun hHeld => ?_)
  clear hK K
  try first | simp only [pS, List.set] | simp only [pN]
  refine tkH 22 ?_
  refine clH 27 (fun K hK => ?_)
  go_simp
  go_at_call 79
  refine (cabSteps_nil _).mono ?_
  rintro ex wx ⟨rfl, hwx⟩
  subst hwx
  have hSx : (fun w' : World => w'.cell? ⟨xb, 1, none⟩ = some (.pointer (some ⟨sb, 0, none⟩)) ∧ w'.cell? ⟨xb, 2, none⟩ = some (.pointer (none)) ∧ w'.cell? ⟨xb, 3, none⟩ = some (.pointer (none)) ∧ w'.cell? ⟨xb, 4, none⟩ = some (.pointer (none)) ∧ w'.cell? ⟨xb, 5, none⟩ = some (.pointer (none)) ∧ w'.cell? ⟨xb, 6, none⟩ = some (.pointer (none))) _ := hHeld
  refine hK.out _ _ hSx (fun hHeld => ?_)
  clear hK K
  try first | simp only [pS, List.set] | simp only [pN]
  refine tkH 28 ?_
  refine clH 33 (fun K hK => ?_)
  go_simp
  go_at_call 80
  refine (fifoSteps_nil _).mono ?_
  rintro ex wx ⟨rfl, hwx⟩
  subst hwx
  have hSx : (fun w' : World => w'.cell? ⟨xb, 1, none⟩ = some (.pointer (some ⟨sb, 0, none⟩)) ∧ w'.cell? ⟨xb, 2, none⟩ = some (.pointer (none)) ∧ w'.cell? ⟨xb, 3, none⟩ = some (.pointer (none)) ∧ w'.cell? ⟨xb, 4, none⟩ = some (.pointer (none)) ∧ w'.cell? ⟨xb, 5, none⟩ = some (.pointer (none)) ∧ w'.cell? ⟨xb, 6, none⟩ = some (.pointer (none))) _ := hHeld
  refine hK.out _ _ hSx (fun hHeld => ?_)
  clear hK K
  try first | simp only [pS, List.set] | simp only [pN]
  refine tkH 34 ?_
  refine tkH 35 ?_
  refine wpAnyH_done (by kernel_rfl) ?_ _
  clear hHeld
  go_wp2_with fail
  go_ret
  exact ⟨rfl, HB.out⟩
set_option maxRecDepth 100000 in
set_option maxHeartbeats 2000000 in
theorem osteps_chen (w : World) (h : Oj w xb sb ty o c rv mp) (hk : c.kd = 2) (hst : c.steps ≤ 1000000) : Calls Tryz.prog 22 #[.pointer (some ⟨xb, 0, none⟩)] w fun e w' => e = .returned (.int .i64 (c.steps : Int)) ∧ Below w.heap.size w w' := by
  have hbd := (Below.refl w.heap.size w).drew
  have hJ := h.below hbd
  have HB := Lib.hid hbd
  have HS := Lib.hid (chenSteps_is sb ty o c rv mp w.drew hJ.op)
  have h0 : (0 : Int) ≤ (c.steps : Int) := by omega
  have h1 : (c.steps : Int) ≤ 1000000 := by omega
  obtain ⟨N, hN⟩ : ∃ x : Int, (c.steps : Int) = x := ⟨_, rfl⟩
  rw [hN] at HS h0 h1 ⊢
  have e1 : IntKind.i64.wrap N = N := sh_wrap (by omega) (by omega)
  have e0 : IntKind.i64.wrap 0 = 0 := rfl
  have e2 : IntKind.i64.wrap (0 + N) = N := by rw [Int.zero_add]; exact e1
  have e3 : IntKind.i64.wrap (N + 0) = N := by rw [Int.add_zero]; exact e1
  clear h hN hst
  have c1 : w.drew.cell? ⟨xb, 1, none⟩ = some (.pointer (none)) := (hJ.row.cell 1).trans (by rw [hk]; rfl)
  have c2 : w.drew.cell? ⟨xb, 2, none⟩ = some (.pointer (some ⟨sb, 0, none⟩)) := (hJ.row.cell 2).trans (by rw [hk]; rfl)
  have c3 : w.drew.cell? ⟨xb, 3, none⟩ = some (.pointer (none)) := (hJ.row.cell 3).trans (by rw [hk]; rfl)
  have c4 : w.drew.cell? ⟨xb, 4, none⟩ = some (.pointer (none)) := (hJ.row.cell 4).trans (by rw [hk]; rfl)
  have c5 : w.drew.cell? ⟨xb, 5, none⟩ = some (.pointer (none)) := (hJ.row.cell 5).trans (by rw [hk]; rfl)
  have c6 : w.drew.cell? ⟨xb, 6, none⟩ = some (.pointer (none)) := (hJ.row.cell 6).trans (by rw [hk]; rfl)
  clear hJ hk hbd
  go_enter Tryz.func22, Tryz.ntmps22
  go_wp2_with fail
  have hSd : (fun w' : World => w'.cell? ⟨xb, 1, none⟩ = some (.pointer (none)) ∧ w'.cell? ⟨xb, 2, none⟩ = some (.pointer (some ⟨sb, 0, none⟩)) ∧ w'.cell? ⟨xb, 3, none⟩ = some (.pointer (none)) ∧ w'.cell? ⟨xb, 4, none⟩ = some (.pointer (none)) ∧ w'.cell? ⟨xb, 5, none⟩ = some (.pointer (none)) ∧ w'.cell? ⟨xb, 6, none⟩ = some (.pointer (none))) w.drew := ⟨c1, c2, c3, c4, c5, c6⟩
  refine wp_region_held_drew (S := (fun w' : World => w'.cell? ⟨xb, 1, none⟩ = some (.pointer (none)) ∧ w'.cell? ⟨xb, 2, none⟩ = some (.pointer (some ⟨sb, 0, none⟩)) ∧ w'.cell? ⟨xb, 3, none⟩ = some (.pointer (none)) ∧ w'.cell? ⟨xb, 4, none⟩ = some (.pointer (none)) ∧ w'.cell? ⟨xb, 5, none⟩ = some (.pointer (none)) ∧ w'.cell? ⟨xb, 6, none⟩ = some (.pointer (none)))) (by kernel_rfl) hSd (fun hHeld => ?_)
  clear hSd
  generalize w.drew = wd at hHeld HS HB ⊢
  have hHeld : (fun w' : World => w'.cell? ⟨xb, 1, none⟩ = some (.pointer (none)) ∧ w'.cell? ⟨xb, 2, none⟩ = some (.pointer (some ⟨sb, 0, none⟩)) ∧ w'.cell? ⟨xb, 3, none⟩ = some (.pointer (none)) ∧ w'.cell? ⟨xb, 4, none⟩ = some (.pointer (none)) ∧ w'.cell? ⟨xb, 5, none⟩ = some (.pointer (none)) ∧ w'.cell? ⟨xb, 6, none⟩ = some (.pointer (none))) wd := hHeld
  refine tkH 0 ?_
  refine tkH 1 ?_
  refine tkH 2 ?_
  refine tkH 3 ?_
  refine tkH 5 ?_
  refine tkH 6 ?_
  refine tkH 7 ?_
  refine tkH 8 ?_
  refine tkH 11 ?_
  refine tkH 12 ?_
  refine tkH 13 ?_
  refine tkH 14 ?_
  refine tkH 17 ?_
  refine tkH 18 ?_
  refine tkH 19 ?_
  refine tkH 20 ?_
  refine tkH 23 ?_
  refine tkH 24 ?_
  refine tkH 25 ?_
  refine tkH 26 ?_
  refine tkH 29 ?_
  refine tkH 30 ?_
  refine tkH 31 ?_
  refine tkH 32 ?_
  refine clH 4 (fun K hK => ?_)
  go_simp
  go_at_call 75
  refine (fourSteps_nil _).mono ?_
  rintro ex wx ⟨rfl, hwx⟩
  subst hwx
  have hSx : (fun w' : World => w'.cell? ⟨xb, 1, none⟩ = some (.pointer (none)) ∧ w'.cell? ⟨xb, 2, none⟩ = some (.pointer (some ⟨sb, 0, none⟩)) ∧ w'.cell? ⟨xb, 3, none⟩ = some (.pointer (none)) ∧ w'.cell? ⟨xb, 4, none⟩ = some (.pointer (none)) ∧ w'.cell? ⟨xb, 5, none⟩ = some (.pointer (none)) ∧ w'.cell? ⟨xb, 6, none⟩ = some (.pointer (none))) _ := hHeld
  refine hK.out _ _ hSx (fun hHeld => ?_)
  clear hK K
  try first | simp only [pS, List.set] | simp only [pN]
  refine clH 9 (fun K hK => ?_)
  go_simp
  go_at_call 76
  refine (HS.out).mono ?_
  rintro ex wx ⟨rfl, hwx⟩
  subst hwx
  have hSx : (fun w' : World => w'.cell? ⟨xb, 1, none⟩ = some (.pointer (none)) ∧ w'.cell? ⟨xb, 2, none⟩ = some (.pointer (some ⟨sb, 0, none⟩)) ∧ w'.cell? ⟨xb, 3, none⟩ = some (.pointer (none)) ∧ w'.cell? ⟨xb, 4, none⟩ = some (.pointer (none)) ∧ w'.cell? ⟨xb, 5, none⟩ = some (.pointer (none)) ∧ w'.cell? ⟨xb, 6, none⟩ = some (.pointer (none))) _ := hHeld
  refine hK.out _ _ hSx (fun hHeld => ?_)
  clear hK K
  try first | simp only [pS, List.set] | simp only [pN]
  refine tkH 10 ?_
  refine clH 15 (fun K hK => ?_)
  go_simp
  go_at_call 77
  refine (seqSteps_nil _).mono ?_
  rintro ex wx ⟨rfl, hwx⟩
  subst hwx
  have hSx : (fun w' : World => w'.cell? ⟨xb, 1, none⟩ = some (.pointer (none)) ∧ w'.cell? ⟨xb, 2, none⟩ = some (.pointer (some ⟨sb, 0, none⟩)) ∧ w'.cell? ⟨xb, 3, none⟩ = some (.pointer (none)) ∧ w'.cell? ⟨xb, 4, none⟩ = some (.pointer (none)) ∧ w'.cell? ⟨xb, 5, none⟩ = some (.pointer (none)) ∧ w'.cell? ⟨xb, 6, none⟩ = some (.pointer (none))) _ := hHeld
  refine hK.out _ _ hSx (fun hHeld => ?_)
  clear hK K
  try first | simp only [pS, List.set] | simp only [pN]
  refine tkH 16 ?_
  refine clH 21 (fun K hK => ?_)
  go_simp
  go_at_call 78
  refine (ringSteps_nil _).mono ?_
  rintro ex wx ⟨rfl, hwx⟩
  subst hwx
  have hSx : (fun w' : World => w'.cell? ⟨xb, 1, none⟩ = some (.pointer (none)) ∧ w'.cell? ⟨xb, 2, none⟩ = some (.pointer (some ⟨sb, 0, none⟩)) ∧ w'.cell? ⟨xb, 3, none⟩ = some (.pointer (none)) ∧ w'.cell? ⟨xb, 4, none⟩ = some (.pointer (none)) ∧ w'.cell? ⟨xb, 5, none⟩ = some (.pointer (none)) ∧ w'.cell? ⟨xb, 6, none⟩ = some (.pointer (none))) _ := hHeld
  refine hK.out _ _ hSx (fun hHeld => ?_)
  clear hK K
  try first | simp only [pS, List.set] | simp only [pN]
  refine tkH 22 ?_
  refine clH 27 (fun K hK => ?_)
  go_simp
  go_at_call 79
  refine (cabSteps_nil _).mono ?_
  rintro ex wx ⟨rfl, hwx⟩
  subst hwx
  have hSx : (fun w' : World => w'.cell? ⟨xb, 1, none⟩ = some (.pointer (none)) ∧ w'.cell? ⟨xb, 2, none⟩ = some (.pointer (some ⟨sb, 0, none⟩)) ∧ w'.cell? ⟨xb, 3, none⟩ = some (.pointer (none)) ∧ w'.cell? ⟨xb, 4, none⟩ = some (.pointer (none)) ∧ w'.cell? ⟨xb, 5, none⟩ = some (.pointer (none)) ∧ w'.cell? ⟨xb, 6, none⟩ = some (.pointer (none))) _ := hHeld
  refine hK.out _ _ hSx (fun hHeld => ?_)
  clear hK K
  try first | simp only [pS, List.set] | simp only [pN]
  refine tkH 28 ?_
  refine clH 33 (fun K hK => ?_)
  go_simp
  go_at_call 80
  refine (fifoSteps_nil _).mono ?_
  rintro ex wx ⟨rfl, hwx⟩
  subst hwx
  have hSx : (fun w' : World => w'.cell? ⟨xb, 1, none⟩ = some (.pointer (none)) ∧ w'.cell? ⟨xb, 2, none⟩ = some (.pointer (some ⟨sb, 0, none⟩)) ∧ w'.cell? ⟨xb, 3, none⟩ = some (.pointer (none)) ∧ w'.cell? ⟨xb, 4, none⟩ = some (.pointer (none)) ∧ w'.cell? ⟨xb, 5, none⟩ = some (.pointer (none)) ∧ w'.cell? ⟨xb, 6, none⟩ = some (.pointer (none))) _ := hHeld
  refine hK.out _ _ hSx (fun hHeld => ?_)
  clear hK K
  try first | simp only [pS, List.set] | simp only [pN]
  refine tkH 34 ?_
  refine tkH 35 ?_
  refine wpAnyH_done (by kernel_rfl) ?_ _
  clear hHeld
  go_wp2_with fail
  go_ret
  exact ⟨rfl, HB.out⟩
set_option maxRecDepth 100000 in
set_option maxHeartbeats 2000000 in
theorem osteps_seq (w : World) (h : Oj w xb sb ty o c rv mp) (hk : c.kd = 3) (hst : c.steps ≤ 1000000) : Calls Tryz.prog 22 #[.pointer (some ⟨xb, 0, none⟩)] w fun e w' => e = .returned (.int .i64 (c.steps : Int)) ∧ Below w.heap.size w w' := by
  have hbd := (Below.refl w.heap.size w).drew
  have hJ := h.below hbd
  have HB := Lib.hid hbd
  have HS := Lib.hid (seqSteps_is sb ty o c rv mp w.drew hJ.op)
  have h0 : (0 : Int) ≤ (c.steps : Int) := by omega
  have h1 : (c.steps : Int) ≤ 1000000 := by omega
  obtain ⟨N, hN⟩ : ∃ x : Int, (c.steps : Int) = x := ⟨_, rfl⟩
  rw [hN] at HS h0 h1 ⊢
  have e1 : IntKind.i64.wrap N = N := sh_wrap (by omega) (by omega)
  have e0 : IntKind.i64.wrap 0 = 0 := rfl
  have e2 : IntKind.i64.wrap (0 + N) = N := by rw [Int.zero_add]; exact e1
  have e3 : IntKind.i64.wrap (N + 0) = N := by rw [Int.add_zero]; exact e1
  clear h hN hst
  have c1 : w.drew.cell? ⟨xb, 1, none⟩ = some (.pointer (none)) := (hJ.row.cell 1).trans (by rw [hk]; rfl)
  have c2 : w.drew.cell? ⟨xb, 2, none⟩ = some (.pointer (none)) := (hJ.row.cell 2).trans (by rw [hk]; rfl)
  have c3 : w.drew.cell? ⟨xb, 3, none⟩ = some (.pointer (some ⟨sb, 0, none⟩)) := (hJ.row.cell 3).trans (by rw [hk]; rfl)
  have c4 : w.drew.cell? ⟨xb, 4, none⟩ = some (.pointer (none)) := (hJ.row.cell 4).trans (by rw [hk]; rfl)
  have c5 : w.drew.cell? ⟨xb, 5, none⟩ = some (.pointer (none)) := (hJ.row.cell 5).trans (by rw [hk]; rfl)
  have c6 : w.drew.cell? ⟨xb, 6, none⟩ = some (.pointer (none)) := (hJ.row.cell 6).trans (by rw [hk]; rfl)
  clear hJ hk hbd
  go_enter Tryz.func22, Tryz.ntmps22
  go_wp2_with fail
  have hSd : (fun w' : World => w'.cell? ⟨xb, 1, none⟩ = some (.pointer (none)) ∧ w'.cell? ⟨xb, 2, none⟩ = some (.pointer (none)) ∧ w'.cell? ⟨xb, 3, none⟩ = some (.pointer (some ⟨sb, 0, none⟩)) ∧ w'.cell? ⟨xb, 4, none⟩ = some (.pointer (none)) ∧ w'.cell? ⟨xb, 5, none⟩ = some (.pointer (none)) ∧ w'.cell? ⟨xb, 6, none⟩ = some (.pointer (none))) w.drew := ⟨c1, c2, c3, c4, c5, c6⟩
  refine wp_region_held_drew (S := (fun w' : World => w'.cell? ⟨xb, 1, none⟩ = some (.pointer (none)) ∧ w'.cell? ⟨xb, 2, none⟩ = some (.pointer (none)) ∧ w'.cell? ⟨xb, 3, none⟩ = some (.pointer (some ⟨sb, 0, none⟩)) ∧ w'.cell? ⟨xb, 4, none⟩ = some (.pointer (none)) ∧ w'.cell? ⟨xb, 5, none⟩ = some (.pointer (none)) ∧ w'.cell? ⟨xb, 6, none⟩ = some (.pointer (none)))) (by kernel_rfl) hSd (fun hHeld => ?_)
  clear hSd
  generalize w.drew = wd at hHeld HS HB ⊢
  have hHeld : (fun w' : World => w'.cell? ⟨xb, 1, none⟩ = some (.pointer (none)) ∧ w'.cell? ⟨xb, 2, none⟩ = some (.pointer (none)) ∧ w'.cell? ⟨xb, 3, none⟩ = some (.pointer (some ⟨sb, 0, none⟩)) ∧ w'.cell? ⟨xb, 4, none⟩ = some (.pointer (none)) ∧ w'.cell? ⟨xb, 5, none⟩ = some (.pointer (none)) ∧ w'.cell? ⟨xb, 6, none⟩ = some (.pointer (none))) wd := hHeld
  refine tkH 0 ?_
  refine tkH 1 ?_
  refine tkH 2 ?_
  refine tkH 3 ?_
  refine tkH 5 ?_
  refine tkH 6 ?_
  refine tkH 7 ?_
  refine tkH 8 ?_
  refine tkH 11 ?_
  refine tkH 12 ?_
  refine tkH 13 ?_
  refine tkH 14 ?_
  refine tkH 17 ?_
  refine tkH 18 ?_
  refine tkH 19 ?_
  refine tkH 20 ?_
  refine tkH 23 ?_
  refine tkH 24 ?_
  refine tkH 25 ?_
  refine tkH 26 ?_
  refine tkH 29 ?_
  refine tkH 30 ?_
  refine tkH 31 ?_
  refine tkH 32 ?_
  refine clH 4 (fun K hK => ?_)
  go_simp
  go_at_call 75
  refine (fourSteps_nil _).mono ?_
  rintro ex wx ⟨rfl, hwx⟩
  subst hwx
  have hSx : (fun w' : World => w'.cell? ⟨xb, 1, none⟩ = some (.pointer (none)) ∧ w'.cell? ⟨xb, 2, none⟩ = some (.pointer (none)) ∧ w'.cell? ⟨xb, 3, none⟩ = some (.pointer (some ⟨sb, 0, none⟩)) ∧ w'.cell? ⟨xb, 4, none⟩ = some (.pointer (none)) ∧ w'.cell? ⟨xb, 5, none⟩ = some (.pointer (none)) ∧ w'.cell? ⟨xb, 6, none⟩ = some (.pointer (none))) _ := hHeld
  refine hK.out _ _ hSx (fun hHeld => ?_)
  clear hK K
  try first | simp only [pS, List.set] | simp only [pN]
  refine clH 9 (fun K hK => ?_)
  go_simp
  go_at_call 76
  refine (chenSteps_nil _).mono ?_
  rintro ex wx ⟨rfl, hwx⟩
  subst hwx
  have hSx : (fun w' : World => w'.cell? ⟨xb, 1, none⟩ = some (.pointer (none)) ∧ w'.cell? ⟨xb, 2, none⟩ = some (.pointer (none)) ∧ w'.cell? ⟨xb, 3, none⟩ = some (.pointer (some ⟨sb, 0, none⟩)) ∧ w'.cell? ⟨xb, 4, none⟩ = some (.pointer (none)) ∧ w'.cell? ⟨xb, 5, none⟩ = some (.pointer (none)) ∧ w'.cell? ⟨xb, 6, none⟩ = some (.pointer (none))) _ := hHeld
  refine hK.out _ _ hSx (fun hHeld => ?_)
  clear hK K
  try first | simp only [pS, List.set] | simp only [pN]
  refine tkH 10 ?_
  refine clH 15 (fun K hK => ?_)
  go_simp
  go_at_call 77
  refine (HS.out).mono ?_
  rintro ex wx ⟨rfl, hwx⟩
  subst hwx
  have hSx : (fun w' : World => w'.cell? ⟨xb, 1, none⟩ = some (.pointer (none)) ∧ w'.cell? ⟨xb, 2, none⟩ = some (.pointer (none)) ∧ w'.cell? ⟨xb, 3, none⟩ = some (.pointer (some ⟨sb, 0, none⟩)) ∧ w'.cell? ⟨xb, 4, none⟩ = some (.pointer (none)) ∧ w'.cell? ⟨xb, 5, none⟩ = some (.pointer (none)) ∧ w'.cell? ⟨xb, 6, none⟩ = some (.pointer (none))) _ := hHeld
  refine hK.out _ _ hSx (fun hHeld => ?_)
  clear hK K
  try first | simp only [pS, List.set] | simp only [pN]
  refine tkH 16 ?_
  refine clH 21 (fun K hK => ?_)
  go_simp
  go_at_call 78
  refine (ringSteps_nil _).mono ?_
  rintro ex wx ⟨rfl, hwx⟩
  subst hwx
  have hSx : (fun w' : World => w'.cell? ⟨xb, 1, none⟩ = some (.pointer (none)) ∧ w'.cell? ⟨xb, 2, none⟩ = some (.pointer (none)) ∧ w'.cell? ⟨xb, 3, none⟩ = some (.pointer (some ⟨sb, 0, none⟩)) ∧ w'.cell? ⟨xb, 4, none⟩ = some (.pointer (none)) ∧ w'.cell? ⟨xb, 5, none⟩ = some (.pointer (none)) ∧ w'.cell? ⟨xb, 6, none⟩ = some (.pointer (none))) _ := hHeld
  refine hK.out _ _ hSx (fun hHeld => ?_)
  clear hK K
  try first | simp only [pS, List.set] | simp only [pN]
  refine tkH 22 ?_
  refine clH 27 (fun K hK => ?_)
  go_simp
  go_at_call 79
  refine (cabSteps_nil _).mono ?_
  rintro ex wx ⟨rfl, hwx⟩
  subst hwx
  have hSx : (fun w' : World => w'.cell? ⟨xb, 1, none⟩ = some (.pointer (none)) ∧ w'.cell? ⟨xb, 2, none⟩ = some (.pointer (none)) ∧ w'.cell? ⟨xb, 3, none⟩ = some (.pointer (some ⟨sb, 0, none⟩)) ∧ w'.cell? ⟨xb, 4, none⟩ = some (.pointer (none)) ∧ w'.cell? ⟨xb, 5, none⟩ = some (.pointer (none)) ∧ w'.cell? ⟨xb, 6, none⟩ = some (.pointer (none))) _ := hHeld
  refine hK.out _ _ hSx (fun hHeld => ?_)
  clear hK K
  try first | simp only [pS, List.set] | simp only [pN]
  refine tkH 28 ?_
  refine clH 33 (fun K hK => ?_)
  go_simp
  go_at_call 80
  refine (fifoSteps_nil _).mono ?_
  rintro ex wx ⟨rfl, hwx⟩
  subst hwx
  have hSx : (fun w' : World => w'.cell? ⟨xb, 1, none⟩ = some (.pointer (none)) ∧ w'.cell? ⟨xb, 2, none⟩ = some (.pointer (none)) ∧ w'.cell? ⟨xb, 3, none⟩ = some (.pointer (some ⟨sb, 0, none⟩)) ∧ w'.cell? ⟨xb, 4, none⟩ = some (.pointer (none)) ∧ w'.cell? ⟨xb, 5, none⟩ = some (.pointer (none)) ∧ w'.cell? ⟨xb, 6, none⟩ = some (.pointer (none))) _ := hHeld
  refine hK.out _ _ hSx (fun hHeld => ?_)
  clear hK K
  try first | simp only [pS, List.set] | simp only [pN]
  refine tkH 34 ?_
  refine tkH 35 ?_
  refine wpAnyH_done (by kernel_rfl) ?_ _
  clear hHeld
  go_wp2_with fail
  go_ret
  exact ⟨rfl, HB.out⟩
set_option maxRecDepth 100000 in
set_option maxHeartbeats 2000000 in
theorem osteps_ring (w : World) (h : Oj w xb sb ty o c rv mp) (hk : c.kd = 4) (hst : c.steps ≤ 1000000) : Calls Tryz.prog 22 #[.pointer (some ⟨xb, 0, none⟩)] w fun e w' => e = .returned (.int .i64 (c.steps : Int)) ∧ Below w.heap.size w w' := by
  have hbd := (Below.refl w.heap.size w).drew
  have hJ := h.below hbd
  have HB := Lib.hid hbd
  have HS := Lib.hid (ringSteps_is sb ty o c rv mp w.drew hJ.op)
  have h0 : (0 : Int) ≤ (c.steps : Int) := by omega
  have h1 : (c.steps : Int) ≤ 1000000 := by omega
  obtain ⟨N, hN⟩ : ∃ x : Int, (c.steps : Int) = x := ⟨_, rfl⟩
  rw [hN] at HS h0 h1 ⊢
  have e1 : IntKind.i64.wrap N = N := sh_wrap (by omega) (by omega)
  have e0 : IntKind.i64.wrap 0 = 0 := rfl
  have e2 : IntKind.i64.wrap (0 + N) = N := by rw [Int.zero_add]; exact e1
  have e3 : IntKind.i64.wrap (N + 0) = N := by rw [Int.add_zero]; exact e1
  clear h hN hst
  have c1 : w.drew.cell? ⟨xb, 1, none⟩ = some (.pointer (none)) := (hJ.row.cell 1).trans (by rw [hk]; rfl)
  have c2 : w.drew.cell? ⟨xb, 2, none⟩ = some (.pointer (none)) := (hJ.row.cell 2).trans (by rw [hk]; rfl)
  have c3 : w.drew.cell? ⟨xb, 3, none⟩ = some (.pointer (none)) := (hJ.row.cell 3).trans (by rw [hk]; rfl)
  have c4 : w.drew.cell? ⟨xb, 4, none⟩ = some (.pointer (some ⟨sb, 0, none⟩)) := (hJ.row.cell 4).trans (by rw [hk]; rfl)
  have c5 : w.drew.cell? ⟨xb, 5, none⟩ = some (.pointer (none)) := (hJ.row.cell 5).trans (by rw [hk]; rfl)
  have c6 : w.drew.cell? ⟨xb, 6, none⟩ = some (.pointer (none)) := (hJ.row.cell 6).trans (by rw [hk]; rfl)
  clear hJ hk hbd
  go_enter Tryz.func22, Tryz.ntmps22
  go_wp2_with fail
  have hSd : (fun w' : World => w'.cell? ⟨xb, 1, none⟩ = some (.pointer (none)) ∧ w'.cell? ⟨xb, 2, none⟩ = some (.pointer (none)) ∧ w'.cell? ⟨xb, 3, none⟩ = some (.pointer (none)) ∧ w'.cell? ⟨xb, 4, none⟩ = some (.pointer (some ⟨sb, 0, none⟩)) ∧ w'.cell? ⟨xb, 5, none⟩ = some (.pointer (none)) ∧ w'.cell? ⟨xb, 6, none⟩ = some (.pointer (none))) w.drew := ⟨c1, c2, c3, c4, c5, c6⟩
  refine wp_region_held_drew (S := (fun w' : World => w'.cell? ⟨xb, 1, none⟩ = some (.pointer (none)) ∧ w'.cell? ⟨xb, 2, none⟩ = some (.pointer (none)) ∧ w'.cell? ⟨xb, 3, none⟩ = some (.pointer (none)) ∧ w'.cell? ⟨xb, 4, none⟩ = some (.pointer (some ⟨sb, 0, none⟩)) ∧ w'.cell? ⟨xb, 5, none⟩ = some (.pointer (none)) ∧ w'.cell? ⟨xb, 6, none⟩ = some (.pointer (none)))) (by kernel_rfl) hSd (fun hHeld => ?_)
  clear hSd
  generalize w.drew = wd at hHeld HS HB ⊢
  have hHeld : (fun w' : World => w'.cell? ⟨xb, 1, none⟩ = some (.pointer (none)) ∧ w'.cell? ⟨xb, 2, none⟩ = some (.pointer (none)) ∧ w'.cell? ⟨xb, 3, none⟩ = some (.pointer (none)) ∧ w'.cell? ⟨xb, 4, none⟩ = some (.pointer (some ⟨sb, 0, none⟩)) ∧ w'.cell? ⟨xb, 5, none⟩ = some (.pointer (none)) ∧ w'.cell? ⟨xb, 6, none⟩ = some (.pointer (none))) wd := hHeld
  refine tkH 0 ?_
  refine tkH 1 ?_
  refine tkH 2 ?_
  refine tkH 3 ?_
  refine tkH 5 ?_
  refine tkH 6 ?_
  refine tkH 7 ?_
  refine tkH 8 ?_
  refine tkH 11 ?_
  refine tkH 12 ?_
  refine tkH 13 ?_
  refine tkH 14 ?_
  refine tkH 17 ?_
  refine tkH 18 ?_
  refine tkH 19 ?_
  refine tkH 20 ?_
  refine tkH 23 ?_
  refine tkH 24 ?_
  refine tkH 25 ?_
  refine tkH 26 ?_
  refine tkH 29 ?_
  refine tkH 30 ?_
  refine tkH 31 ?_
  refine tkH 32 ?_
  refine clH 4 (fun K hK => ?_)
  go_simp
  go_at_call 75
  refine (fourSteps_nil _).mono ?_
  rintro ex wx ⟨rfl, hwx⟩
  subst hwx
  have hSx : (fun w' : World => w'.cell? ⟨xb, 1, none⟩ = some (.pointer (none)) ∧ w'.cell? ⟨xb, 2, none⟩ = some (.pointer (none)) ∧ w'.cell? ⟨xb, 3, none⟩ = some (.pointer (none)) ∧ w'.cell? ⟨xb, 4, none⟩ = some (.pointer (some ⟨sb, 0, none⟩)) ∧ w'.cell? ⟨xb, 5, none⟩ = some (.pointer (none)) ∧ w'.cell? ⟨xb, 6, none⟩ = some (.pointer (none))) _ := hHeld
  refine hK.out _ _ hSx (fun hHeld => ?_)
  clear hK K
  try first | simp only [pS, List.set] | simp only [pN]
  refine clH 9 (fun K hK => ?_)
  go_simp
  go_at_call 76
  refine (chenSteps_nil _).mono ?_
  rintro ex wx ⟨rfl, hwx⟩
  subst hwx
  have hSx : (fun w' : World => w'.cell? ⟨xb, 1, none⟩ = some (.pointer (none)) ∧ w'.cell? ⟨xb, 2, none⟩ = some (.pointer (none)) ∧ w'.cell? ⟨xb, 3, none⟩ = some (.pointer (none)) ∧ w'.cell? ⟨xb, 4, none⟩ = some (.pointer (some ⟨sb, 0, none⟩)) ∧ w'.cell? ⟨xb, 5, none⟩ = some (.pointer (none)) ∧ w'.cell? ⟨xb, 6, none⟩ = some (.pointer (none))) _ := hHeld
  refine hK.out _ _ hSx (fun hHeld => ?_)
  clear hK K
  try first | simp only [pS, List.set] | simp only [pN]
  refine tkH 10 ?_
  refine clH 15 (fun K hK => ?_)
  go_simp
  go_at_call 77
  refine (seqSteps_nil _).mono ?_
  rintro ex wx ⟨rfl, hwx⟩
  subst hwx
  have hSx : (fun w' : World => w'.cell? ⟨xb, 1, none⟩ = some (.pointer (none)) ∧ w'.cell? ⟨xb, 2, none⟩ = some (.pointer (none)) ∧ w'.cell? ⟨xb, 3, none⟩ = some (.pointer (none)) ∧ w'.cell? ⟨xb, 4, none⟩ = some (.pointer (some ⟨sb, 0, none⟩)) ∧ w'.cell? ⟨xb, 5, none⟩ = some (.pointer (none)) ∧ w'.cell? ⟨xb, 6, none⟩ = some (.pointer (none))) _ := hHeld
  refine hK.out _ _ hSx (fun hHeld => ?_)
  clear hK K
  try first | simp only [pS, List.set] | simp only [pN]
  refine tkH 16 ?_
  refine clH 21 (fun K hK => ?_)
  go_simp
  go_at_call 78
  refine (HS.out).mono ?_
  rintro ex wx ⟨rfl, hwx⟩
  subst hwx
  have hSx : (fun w' : World => w'.cell? ⟨xb, 1, none⟩ = some (.pointer (none)) ∧ w'.cell? ⟨xb, 2, none⟩ = some (.pointer (none)) ∧ w'.cell? ⟨xb, 3, none⟩ = some (.pointer (none)) ∧ w'.cell? ⟨xb, 4, none⟩ = some (.pointer (some ⟨sb, 0, none⟩)) ∧ w'.cell? ⟨xb, 5, none⟩ = some (.pointer (none)) ∧ w'.cell? ⟨xb, 6, none⟩ = some (.pointer (none))) _ := hHeld
  refine hK.out _ _ hSx (fun hHeld => ?_)
  clear hK K
  try first | simp only [pS, List.set] | simp only [pN]
  refine tkH 22 ?_
  refine clH 27 (fun K hK => ?_)
  go_simp
  go_at_call 79
  refine (cabSteps_nil _).mono ?_
  rintro ex wx ⟨rfl, hwx⟩
  subst hwx
  have hSx : (fun w' : World => w'.cell? ⟨xb, 1, none⟩ = some (.pointer (none)) ∧ w'.cell? ⟨xb, 2, none⟩ = some (.pointer (none)) ∧ w'.cell? ⟨xb, 3, none⟩ = some (.pointer (none)) ∧ w'.cell? ⟨xb, 4, none⟩ = some (.pointer (some ⟨sb, 0, none⟩)) ∧ w'.cell? ⟨xb, 5, none⟩ = some (.pointer (none)) ∧ w'.cell? ⟨xb, 6, none⟩ = some (.pointer (none))) _ := hHeld
  refine hK.out _ _ hSx (fun hHeld => ?_)
  clear hK K
  try first | simp only [pS, List.set] | simp only [pN]
  refine tkH 28 ?_
  refine clH 33 (fun K hK => ?_)
  go_simp
  go_at_call 80
  refine (fifoSteps_nil _).mono ?_
  rintro ex wx ⟨rfl, hwx⟩
  subst hwx
  have hSx : (fun w' : World => w'.cell? ⟨xb, 1, none⟩ = some (.pointer (none)) ∧ w'.cell? ⟨xb, 2, none⟩ = some (.pointer (none)) ∧ w'.cell? ⟨xb, 3, none⟩ = some (.pointer (none)) ∧ w'.cell? ⟨xb, 4, none⟩ = some (.pointer (some ⟨sb, 0, none⟩)) ∧ w'.cell? ⟨xb, 5, none⟩ = some (.pointer (none)) ∧ w'.cell? ⟨xb, 6, none⟩ = some (.pointer (none))) _ := hHeld
  refine hK.out _ _ hSx (fun hHeld => ?_)
  clear hK K
  try first | simp only [pS, List.set] | simp only [pN]
  refine tkH 34 ?_
  refine tkH 35 ?_
  refine wpAnyH_done (by kernel_rfl) ?_ _
  clear hHeld
  go_wp2_with fail
  go_ret
  exact ⟨rfl, HB.out⟩
set_option maxRecDepth 100000 in
set_option maxHeartbeats 2000000 in
theorem osteps_cab (w : World) (h : Oj w xb sb ty o c rv mp) (hk : c.kd = 5) (hst : c.steps ≤ 1000000) : Calls Tryz.prog 22 #[.pointer (some ⟨xb, 0, none⟩)] w fun e w' => e = .returned (.int .i64 (c.steps : Int)) ∧ Below w.heap.size w w' := by
  have hbd := (Below.refl w.heap.size w).drew
  have hJ := h.below hbd
  have HB := Lib.hid hbd
  have HS := Lib.hid (cabSteps_is sb ty o c rv mp w.drew hJ.op)
  have h0 : (0 : Int) ≤ (c.steps : Int) := by omega
  have h1 : (c.steps : Int) ≤ 1000000 := by omega
  obtain ⟨N, hN⟩ : ∃ x : Int, (c.steps : Int) = x := ⟨_, rfl⟩
  rw [hN] at HS h0 h1 ⊢
  have e1 : IntKind.i64.wrap N = N := sh_wrap (by omega) (by omega)
  have e0 : IntKind.i64.wrap 0 = 0 := rfl
  have e2 : IntKind.i64.wrap (0 + N) = N := by rw [Int.zero_add]; exact e1
  have e3 : IntKind.i64.wrap (N + 0) = N := by rw [Int.add_zero]; exact e1
  clear h hN hst
  have c1 : w.drew.cell? ⟨xb, 1, none⟩ = some (.pointer (none)) := (hJ.row.cell 1).trans (by rw [hk]; rfl)
  have c2 : w.drew.cell? ⟨xb, 2, none⟩ = some (.pointer (none)) := (hJ.row.cell 2).trans (by rw [hk]; rfl)
  have c3 : w.drew.cell? ⟨xb, 3, none⟩ = some (.pointer (none)) := (hJ.row.cell 3).trans (by rw [hk]; rfl)
  have c4 : w.drew.cell? ⟨xb, 4, none⟩ = some (.pointer (none)) := (hJ.row.cell 4).trans (by rw [hk]; rfl)
  have c5 : w.drew.cell? ⟨xb, 5, none⟩ = some (.pointer (some ⟨sb, 0, none⟩)) := (hJ.row.cell 5).trans (by rw [hk]; rfl)
  have c6 : w.drew.cell? ⟨xb, 6, none⟩ = some (.pointer (none)) := (hJ.row.cell 6).trans (by rw [hk]; rfl)
  clear hJ hk hbd
  go_enter Tryz.func22, Tryz.ntmps22
  go_wp2_with fail
  have hSd : (fun w' : World => w'.cell? ⟨xb, 1, none⟩ = some (.pointer (none)) ∧ w'.cell? ⟨xb, 2, none⟩ = some (.pointer (none)) ∧ w'.cell? ⟨xb, 3, none⟩ = some (.pointer (none)) ∧ w'.cell? ⟨xb, 4, none⟩ = some (.pointer (none)) ∧ w'.cell? ⟨xb, 5, none⟩ = some (.pointer (some ⟨sb, 0, none⟩)) ∧ w'.cell? ⟨xb, 6, none⟩ = some (.pointer (none))) w.drew := ⟨c1, c2, c3, c4, c5, c6⟩
  refine wp_region_held_drew (S := (fun w' : World => w'.cell? ⟨xb, 1, none⟩ = some (.pointer (none)) ∧ w'.cell? ⟨xb, 2, none⟩ = some (.pointer (none)) ∧ w'.cell? ⟨xb, 3, none⟩ = some (.pointer (none)) ∧ w'.cell? ⟨xb, 4, none⟩ = some (.pointer (none)) ∧ w'.cell? ⟨xb, 5, none⟩ = some (.pointer (some ⟨sb, 0, none⟩)) ∧ w'.cell? ⟨xb, 6, none⟩ = some (.pointer (none)))) (by kernel_rfl) hSd (fun hHeld => ?_)
  clear hSd
  generalize w.drew = wd at hHeld HS HB ⊢
  have hHeld : (fun w' : World => w'.cell? ⟨xb, 1, none⟩ = some (.pointer (none)) ∧ w'.cell? ⟨xb, 2, none⟩ = some (.pointer (none)) ∧ w'.cell? ⟨xb, 3, none⟩ = some (.pointer (none)) ∧ w'.cell? ⟨xb, 4, none⟩ = some (.pointer (none)) ∧ w'.cell? ⟨xb, 5, none⟩ = some (.pointer (some ⟨sb, 0, none⟩)) ∧ w'.cell? ⟨xb, 6, none⟩ = some (.pointer (none))) wd := hHeld
  refine tkH 0 ?_
  refine tkH 1 ?_
  refine tkH 2 ?_
  refine tkH 3 ?_
  refine tkH 5 ?_
  refine tkH 6 ?_
  refine tkH 7 ?_
  refine tkH 8 ?_
  refine tkH 11 ?_
  refine tkH 12 ?_
  refine tkH 13 ?_
  refine tkH 14 ?_
  refine tkH 17 ?_
  refine tkH 18 ?_
  refine tkH 19 ?_
  refine tkH 20 ?_
  refine tkH 23 ?_
  refine tkH 24 ?_
  refine tkH 25 ?_
  refine tkH 26 ?_
  refine tkH 29 ?_
  refine tkH 30 ?_
  refine tkH 31 ?_
  refine tkH 32 ?_
  refine clH 4 (fun K hK => ?_)
  go_simp
  go_at_call 75
  refine (fourSteps_nil _).mono ?_
  rintro ex wx ⟨rfl, hwx⟩
  subst hwx
  have hSx : (fun w' : World => w'.cell? ⟨xb, 1, none⟩ = some (.pointer (none)) ∧ w'.cell? ⟨xb, 2, none⟩ = some (.pointer (none)) ∧ w'.cell? ⟨xb, 3, none⟩ = some (.pointer (none)) ∧ w'.cell? ⟨xb, 4, none⟩ = some (.pointer (none)) ∧ w'.cell? ⟨xb, 5, none⟩ = some (.pointer (some ⟨sb, 0, none⟩)) ∧ w'.cell? ⟨xb, 6, none⟩ = some (.pointer (none))) _ := hHeld
  refine hK.out _ _ hSx (fun hHeld => ?_)
  clear hK K
  try first | simp only [pS, List.set] | simp only [pN]
  refine clH 9 (fun K hK => ?_)
  go_simp
  go_at_call 76
  refine (chenSteps_nil _).mono ?_
  rintro ex wx ⟨rfl, hwx⟩
  subst hwx
  have hSx : (fun w' : World => w'.cell? ⟨xb, 1, none⟩ = some (.pointer (none)) ∧ w'.cell? ⟨xb, 2, none⟩ = some (.pointer (none)) ∧ w'.cell? ⟨xb, 3, none⟩ = some (.pointer (none)) ∧ w'.cell? ⟨xb, 4, none⟩ = some (.pointer (none)) ∧ w'.cell? ⟨xb, 5, none⟩ = some (.pointer (some ⟨sb, 0, none⟩)) ∧ w'.cell? ⟨xb, 6, none⟩ = some (.pointer (none))) _ := hHeld
  refine hK.out _ _ hSx (fun hHeld => ?_)
  clear hK K
  try first | simp only [pS, List.set] | simp only [pN]
  refine tkH 10 ?_
  refine clH 15 (fun K hK => ?_)
  go_simp
  go_at_call 77
  refine (seqSteps_nil _).mono ?_
  rintro ex wx ⟨rfl, hwx⟩
  subst hwx
  have hSx : (fun w' : World => w'.cell? ⟨xb, 1, none⟩ = some (.pointer (none)) ∧ w'.cell? ⟨xb, 2, none⟩ = some (.pointer (none)) ∧ w'.cell? ⟨xb, 3, none⟩ = some (.pointer (none)) ∧ w'.cell? ⟨xb, 4, none⟩ = some (.pointer (none)) ∧ w'.cell? ⟨xb, 5, none⟩ = some (.pointer (some ⟨sb, 0, none⟩)) ∧ w'.cell? ⟨xb, 6, none⟩ = some (.pointer (none))) _ := hHeld
  refine hK.out _ _ hSx (fun hHeld => ?_)
  clear hK K
  try first | simp only [pS, List.set] | simp only [pN]
  refine tkH 16 ?_
  refine clH 21 (fun K hK => ?_)
  go_simp
  go_at_call 78
  refine (ringSteps_nil _).mono ?_
  rintro ex wx ⟨rfl, hwx⟩
  subst hwx
  have hSx : (fun w' : World => w'.cell? ⟨xb, 1, none⟩ = some (.pointer (none)) ∧ w'.cell? ⟨xb, 2, none⟩ = some (.pointer (none)) ∧ w'.cell? ⟨xb, 3, none⟩ = some (.pointer (none)) ∧ w'.cell? ⟨xb, 4, none⟩ = some (.pointer (none)) ∧ w'.cell? ⟨xb, 5, none⟩ = some (.pointer (some ⟨sb, 0, none⟩)) ∧ w'.cell? ⟨xb, 6, none⟩ = some (.pointer (none))) _ := hHeld
  refine hK.out _ _ hSx (fun hHeld => ?_)
  clear hK K
  try first | simp only [pS, List.set] | simp only [pN]
  refine tkH 22 ?_
  refine clH 27 (fun K hK => ?_)
  go_simp
  go_at_call 79
  refine (HS.out).mono ?_
  rintro ex wx ⟨rfl, hwx⟩
  subst hwx
  have hSx : (fun w' : World => w'.cell? ⟨xb, 1, none⟩ = some (.pointer (none)) ∧ w'.cell? ⟨xb, 2, none⟩ = some (.pointer (none)) ∧ w'.cell? ⟨xb, 3, none⟩ = some (.pointer (none)) ∧ w'.cell? ⟨xb, 4, none⟩ = some (.pointer (none)) ∧ w'.cell? ⟨xb, 5, none⟩ = some (.pointer (some ⟨sb, 0, none⟩)) ∧ w'.cell? ⟨xb, 6, none⟩ = some (.pointer (none))) _ := hHeld
  refine hK.out _ _ hSx (fun hHeld => ?_)
  clear hK K
  try first | simp only [pS, List.set] | simp only [pN]
  refine tkH 28 ?_
  refine clH 33 (fun K hK => ?_)
  go_simp
  go_at_call 80
  refine (fifoSteps_nil _).mono ?_
  rintro ex wx ⟨rfl, hwx⟩
  subst hwx
  have hSx : (fun w' : World => w'.cell? ⟨xb, 1, none⟩ = some (.pointer (none)) ∧ w'.cell? ⟨xb, 2, none⟩ = some (.pointer (none)) ∧ w'.cell? ⟨xb, 3, none⟩ = some (.pointer (none)) ∧ w'.cell? ⟨xb, 4, none⟩ = some (.pointer (none)) ∧ w'.cell? ⟨xb, 5, none⟩ = some (.pointer (some ⟨sb, 0, none⟩)) ∧ w'.cell? ⟨xb, 6, none⟩ = some (.pointer (none))) _ := hHeld
  refine hK.out _ _ hSx (fun hHeld => ?_)
  clear hK K
  try first | simp only [pS, List.set] | simp only [pN]
  refine tkH 34 ?_
  refine tkH 35 ?_
  refine wpAnyH_done (by kernel_rfl) ?_ _
  clear hHeld
  go_wp2_with fail
  go_ret
  exact ⟨rfl, HB.out⟩
set_option maxRecDepth 100000 in
set_option maxHeartbeats 2000000 in
theorem osteps_fifo (w : World) (h : Oj w xb sb ty o c rv mp) (hk : c.kd = 6) (hst : c.steps ≤ 1000000) : Calls Tryz.prog 22 #[.pointer (some ⟨xb, 0, none⟩)] w fun e w' => e = .returned (.int .i64 (c.steps : Int)) ∧ Below w.heap.size w w' := by
  have hbd := (Below.refl w.heap.size w).drew
  have hJ := h.below hbd
  have HB := Lib.hid hbd
  have HS := Lib.hid (fifoSteps_is sb ty o c rv mp w.drew hJ.op)
  have h0 : (0 : Int) ≤ (c.steps : Int) := by omega
  have h1 : (c.steps : Int) ≤ 1000000 := by omega
  obtain ⟨N, hN⟩ : ∃ x : Int, (c.steps : Int) = x := ⟨_, rfl⟩
  rw [hN] at HS h0 h1 ⊢
  have e1 : IntKind.i64.wrap N = N := sh_wrap (by omega) (by omega)
  have e0 : IntKind.i64.wrap 0 = 0 := rfl
  have e2 : IntKind.i64.wrap (0 + N) = N := by rw [Int.zero_add]; exact e1
  have e3 : IntKind.i64.wrap (N + 0) = N := by rw [Int.add_zero]; exact e1
  clear h hN hst
  have c1 : w.drew.cell? ⟨xb, 1, none⟩ = some (.pointer (none)) := (hJ.row.cell 1).trans (by rw [hk]; rfl)
  have c2 : w.drew.cell? ⟨xb, 2, none⟩ = some (.pointer (none)) := (hJ.row.cell 2).trans (by rw [hk]; rfl)
  have c3 : w.drew.cell? ⟨xb, 3, none⟩ = some (.pointer (none)) := (hJ.row.cell 3).trans (by rw [hk]; rfl)
  have c4 : w.drew.cell? ⟨xb, 4, none⟩ = some (.pointer (none)) := (hJ.row.cell 4).trans (by rw [hk]; rfl)
  have c5 : w.drew.cell? ⟨xb, 5, none⟩ = some (.pointer (none)) := (hJ.row.cell 5).trans (by rw [hk]; rfl)
  have c6 : w.drew.cell? ⟨xb, 6, none⟩ = some (.pointer (some ⟨sb, 0, none⟩)) := (hJ.row.cell 6).trans (by rw [hk]; rfl)
  clear hJ hk hbd
  go_enter Tryz.func22, Tryz.ntmps22
  go_wp2_with fail
  have hSd : (fun w' : World => w'.cell? ⟨xb, 1, none⟩ = some (.pointer (none)) ∧ w'.cell? ⟨xb, 2, none⟩ = some (.pointer (none)) ∧ w'.cell? ⟨xb, 3, none⟩ = some (.pointer (none)) ∧ w'.cell? ⟨xb, 4, none⟩ = some (.pointer (none)) ∧ w'.cell? ⟨xb, 5, none⟩ = some (.pointer (none)) ∧ w'.cell? ⟨xb, 6, none⟩ = some (.pointer (some ⟨sb, 0, none⟩))) w.drew := ⟨c1, c2, c3, c4, c5, c6⟩
  refine wp_region_held_drew (S := (fun w' : World => w'.cell? ⟨xb, 1, none⟩ = some (.pointer (none)) ∧ w'.cell? ⟨xb, 2, none⟩ = some (.pointer (none)) ∧ w'.cell? ⟨xb, 3, none⟩ = some (.pointer (none)) ∧ w'.cell? ⟨xb, 4, none⟩ = some (.pointer (none)) ∧ w'.cell? ⟨xb, 5, none⟩ = some (.pointer (none)) ∧ w'.cell? ⟨xb, 6, none⟩ = some (.pointer (some ⟨sb, 0, none⟩)))) (by kernel_rfl) hSd (fun hHeld => ?_)
  clear hSd
  generalize w.drew = wd at hHeld HS HB ⊢
  have hHeld : (fun w' : World => w'.cell? ⟨xb, 1, none⟩ = some (.pointer (none)) ∧ w'.cell? ⟨xb, 2, none⟩ = some (.pointer (none)) ∧ w'.cell? ⟨xb, 3, none⟩ = some (.pointer (none)) ∧ w'.cell? ⟨xb, 4, none⟩ = some (.pointer (none)) ∧ w'.cell? ⟨xb, 5, none⟩ = some (.pointer (none)) ∧ w'.cell? ⟨xb, 6, none⟩ = some (.pointer (some ⟨sb, 0, none⟩))) wd := hHeld
  refine tkH 0 ?_
  refine tkH 1 ?_
  refine tkH 2 ?_
  refine tkH 3 ?_
  refine tkH 5 ?_
  refine tkH 6 ?_
  refine tkH 7 ?_
  refine tkH 8 ?_
  refine tkH 11 ?_
  refine tkH 12 ?_
  refine tkH 13 ?_
  refine tkH 14 ?_
  refine tkH 17 ?_
  refine tkH 18 ?_
  refine tkH 19 ?_
  refine tkH 20 ?_
  refine tkH 23 ?_
  refine tkH 24 ?_
  refine tkH 25 ?_
  refine tkH 26 ?_
  refine tkH 29 ?_
  refine tkH 30 ?_
  refine tkH 31 ?_
  refine tkH 32 ?_
  refine clH 4 (fun K hK => ?_)
  go_simp
  go_at_call 75
  refine (fourSteps_nil _).mono ?_
  rintro ex wx ⟨rfl, hwx⟩
  subst hwx
  have hSx : (fun w' : World => w'.cell? ⟨xb, 1, none⟩ = some (.pointer (none)) ∧ w'.cell? ⟨xb, 2, none⟩ = some (.pointer (none)) ∧ w'.cell? ⟨xb, 3, none⟩ = some (.pointer (none)) ∧ w'.cell? ⟨xb, 4, none⟩ = some (.pointer (none)) ∧ w'.cell? ⟨xb, 5, none⟩ = some (.pointer (none)) ∧ w'.cell? ⟨xb, 6, none⟩ = some (.pointer (some ⟨sb, 0, none⟩))) _ := hHeld
  refine hK.out _ _ hSx (fun hHeld => ?_)
  clear hK K
  try first | simp only [pS, List.set] | simp only [pN]
  refine clH 9 (fun K hK => ?_)
  go_simp
  go_at_call 76
  refine (chenSteps_nil _).mono ?_
  rintro ex wx ⟨rfl, hwx⟩
  subst hwx
  have hSx : (fun w' : World => w'.cell? ⟨xb, 1, none⟩ = some (.pointer (none)) ∧ w'.cell? ⟨xb, 2, none⟩ = some (.pointer (none)) ∧ w'.cell? ⟨xb, 3, none⟩ = some (.pointer (none)) ∧ w'.cell? ⟨xb, 4, none⟩ = some (.pointer (none)) ∧ w'.cell? ⟨xb, 5, none⟩ = some (.pointer (none)) ∧ w'.cell? ⟨xb, 6, none⟩ = some (.pointer (some ⟨sb, 0, none⟩))) _ := hHeld
  refine hK.out _ _ hSx (fun hHeld => ?_)
  clear hK K
  try first | simp only [pS, List.set] | simp only [pN]
  refine tkH 10 ?_
  refine clH 15 (fun K hK => ?_)
  go_simp
  go_at_call 77
  refine (seqSteps_nil _).mono ?_
  rintro ex wx ⟨rfl, hwx⟩
  subst hwx
  have hSx : (fun w' : World => w'.cell? ⟨xb, 1, none⟩ = some (.pointer (none)) ∧ w'.cell? ⟨xb, 2, none⟩ = some (.pointer (none)) ∧ w'.cell? ⟨xb, 3, none⟩ = some (.pointer (none)) ∧ w'.cell? ⟨xb, 4, none⟩ = some (.pointer (none)) ∧ w'.cell? ⟨xb, 5, none⟩ = some (.pointer (none)) ∧ w'.cell? ⟨xb, 6, none⟩ = some (.pointer (some ⟨sb, 0, none⟩))) _ := hHeld
  refine hK.out _ _ hSx (fun hHeld => ?_)
  clear hK K
  try first | simp only [pS, List.set] | simp only [pN]
  refine tkH 16 ?_
  refine clH 21 (fun K hK => ?_)
  go_simp
  go_at_call 78
  refine (ringSteps_nil _).mono ?_
  rintro ex wx ⟨rfl, hwx⟩
  subst hwx
  have hSx : (fun w' : World => w'.cell? ⟨xb, 1, none⟩ = some (.pointer (none)) ∧ w'.cell? ⟨xb, 2, none⟩ = some (.pointer (none)) ∧ w'.cell? ⟨xb, 3, none⟩ = some (.pointer (none)) ∧ w'.cell? ⟨xb, 4, none⟩ = some (.pointer (none)) ∧ w'.cell? ⟨xb, 5, none⟩ = some (.pointer (none)) ∧ w'.cell? ⟨xb, 6, none⟩ = some (.pointer (some ⟨sb, 0, none⟩))) _ := hHeld
  refine hK.out _ _ hSx (fun hHeld => ?_)
  clear hK K
  try first | simp only [pS, List.set] | simp only [pN]
  refine tkH 22 ?_
  refine clH 27 (fun K hK => ?_)
  go_simp
  go_at_call 79
  refine (cabSteps_nil _).mono ?_
  rintro ex wx ⟨rfl, hwx⟩
  subst hwx
  have hSx : (fun w' : World => w'.cell? ⟨xb, 1, none⟩ = some (.pointer (none)) ∧ w'.cell? ⟨xb, 2, none⟩ = some (.pointer (none)) ∧ w'.cell? ⟨xb, 3, none⟩ = some (.pointer (none)) ∧ w'.cell? ⟨xb, 4, none⟩ = some (.pointer (none)) ∧ w'.cell? ⟨xb, 5, none⟩ = some (.pointer (none)) ∧ w'.cell? ⟨xb, 6, none⟩ = some (.pointer (some ⟨sb, 0, none⟩))) _ := hHeld
  refine hK.out _ _ hSx (fun hHeld => ?_)
  clear hK K
  try first | simp only [pS, List.set] | simp only [pN]
  refine tkH 28 ?_
  refine clH 33 (fun K hK => ?_)
  go_simp
  go_at_call 80
  refine (HS.out).mono ?_
  rintro ex wx ⟨rfl, hwx⟩
  subst hwx
  have hSx : (fun w' : World => w'.cell? ⟨xb, 1, none⟩ = some (.pointer (none)) ∧ w'.cell? ⟨xb, 2, none⟩ = some (.pointer (none)) ∧ w'.cell? ⟨xb, 3, none⟩ = some (.pointer (none)) ∧ w'.cell? ⟨xb, 4, none⟩ = some (.pointer (none)) ∧ w'.cell? ⟨xb, 5, none⟩ = some (.pointer (none)) ∧ w'.cell? ⟨xb, 6, none⟩ = some (.pointer (some ⟨sb, 0, none⟩))) _ := hHeld
  refine hK.out _ _ hSx (fun hHeld => ?_)
  clear hK K
  try first | simp only [pS, List.set] | simp only [pN]
  refine tkH 34 ?_
  refine tkH 35 ?_
  refine wpAnyH_done (by kernel_rfl) ?_ _
  clear hHeld
  go_wp2_with fail
  go_ret
  exact ⟨rfl, HB.out⟩
theorem osteps_o (w : World) (h : Oj w xb sb ty o c rv mp) (hI : Kc.Inv c) : Calls Tryz.prog 22 #[.pointer (some ⟨xb, 0, none⟩)] w fun e w' => e = .returned (.int .i64 (c.steps : Int)) ∧ Below w.heap.size w w' := by
  have hst : c.steps ≤ 1000000 := by have := hI.st; omega
  rcases hI.sta.kd with q | q | q | q | q | q
  · exact osteps_four xb sb ty o c rv mp w h q hst
  · exact osteps_chen xb sb ty o c rv mp w h q hst
  · exact osteps_seq xb sb ty o c rv mp w h q hst
  · exact osteps_ring xb sb ty o c rv mp w h q hst
  · exact osteps_cab xb sb ty o c rv mp w h q hst
  · exact osteps_fifo xb sb ty o c rv mp w h q hst
set_option maxRecDepth 100000 in
set_option maxHeartbeats 1000000 in
theorem oanswer_four (w : World) (h : Oj w xb sb ty o c rv mp) (hk : c.kd = 1) (hl : c.rc.length ≤ 1000000) : Calls Tryz.prog 24 #[.pointer (some ⟨xb, 0, none⟩)] w (Says c w) := by
  have c0 : w.cell? ⟨xb, 0, none⟩ = some (.int .i64 1) := (h.row.cell 0).trans (by rw [hk]; rfl)
  have c1 : w.cell? ⟨xb, 1, none⟩ = some (.pointer (some ⟨sb, 0, none⟩)) := (h.row.cell 1).trans (by rw [hk]; rfl)
  have HS := Lib.hid (fourAnswer_is sb ty o c rv mp w h.op hl)
  clear h hk hl
  go_enter Tryz.func24, Tryz.ntmps24
  go_wp2_with fail
  refine HS.out.mono ?_
  rintro e w1 ⟨v, rfl, hv, hb⟩
  have HV := Lib.hid (And.intro hv hb)
  clear hv hb
  go_wp2_with fail
  go_ret2
  exact ⟨v, rfl, HV.out⟩
set_option maxRecDepth 100000 in
set_option maxHeartbeats 1000000 in
theorem oanswer_chen (w : World) (h : Oj w xb sb ty o c rv mp) (hk : c.kd = 2) (hl : c.rc.length ≤ 1000000) : Calls Tryz.prog 24 #[.pointer (some ⟨xb, 0, none⟩)] w (Says c w) := by
  have c0 : w.cell? ⟨xb, 0, none⟩ = some (.int .i64 2) := (h.row.cell 0).trans (by rw [hk]; rfl)
  have c2 : w.cell? ⟨xb, 2, none⟩ = some (.pointer (some ⟨sb, 0, none⟩)) := (h.row.cell 2).trans (by rw [hk]; rfl)
  have HS := Lib.hid (chenAnswer_is sb ty o c rv mp w h.op hl)
  clear h hk hl
  go_enter Tryz.func24, Tryz.ntmps24
  go_wp2_with fail
  refine HS.out.mono ?_
  rintro e w1 ⟨v, rfl, hv, hb⟩
  have HV := Lib.hid (And.intro hv hb)
  clear hv hb
  go_wp2_with fail
  go_ret2
  exact ⟨v, rfl, HV.out⟩
set_option maxRecDepth 100000 in
set_option maxHeartbeats 1000000 in
theorem oanswer_seq (w : World) (h : Oj w xb sb ty o c rv mp) (hk : c.kd = 3) (hl : c.rc.length ≤ 1000000) : Calls Tryz.prog 24 #[.pointer (some ⟨xb, 0, none⟩)] w (Says c w) := by
  have c0 : w.cell? ⟨xb, 0, none⟩ = some (.int .i64 3) := (h.row.cell 0).trans (by rw [hk]; rfl)
  have c3 : w.cell? ⟨xb, 3, none⟩ = some (.pointer (some ⟨sb, 0, none⟩)) := (h.row.cell 3).trans (by rw [hk]; rfl)
  have HS := Lib.hid (seqAnswer_is sb ty o c rv mp w h.op hl)
  clear h hk hl
  go_enter Tryz.func24, Tryz.ntmps24
  go_wp2_with fail
  refine HS.out.mono ?_
  rintro e w1 ⟨v, rfl, hv, hb⟩
  have HV := Lib.hid (And.intro hv hb)
  clear hv hb
  go_wp2_with fail
  go_ret2
  exact ⟨v, rfl, HV.out⟩
set_option maxRecDepth 100000 in
set_option maxHeartbeats 1000000 in
theorem oanswer_ring (w : World) (h : Oj w xb sb ty o c rv mp) (hk : c.kd = 4) (hl : c.rc.length ≤ 1000000) : Calls Tryz.prog 24 #[.pointer (some ⟨xb, 0, none⟩)] w (Says c w) := by
  have c0 : w.cell? ⟨xb, 0, none⟩ = some (.int .i64 4) := (h.row.cell 0).trans (by rw [hk]; rfl)
  have c4 : w.cell? ⟨xb, 4, none⟩ = some (.pointer (some ⟨sb, 0, none⟩)) := (h.row.cell 4).trans (by rw [hk]; rfl)
  have HS := Lib.hid (ringAnswer_is sb ty o c rv mp w h.op hl)
  clear h hk hl
  go_enter Tryz.func24, Tryz.ntmps24
  go_wp2_with fail
  refine HS.out.mono ?_
  rintro e w1 ⟨v, rfl, hv, hb⟩
  have HV := Lib.hid (And.intro hv hb)
  clear hv hb
  go_wp2_with fail
  go_ret2
  exact ⟨v, rfl, HV.out⟩
set_option maxRecDepth 100000 in
set_option maxHeartbeats 1000000 in
theorem oanswer_cab (w : World) (h : Oj w xb sb ty o c rv mp) (hk : c.kd = 5) (hl : c.rc.length ≤ 1000000) : Calls Tryz.prog 24 #[.pointer (some ⟨xb, 0, none⟩)] w (Says c w) := by
  have c0 : w.cell? ⟨xb, 0, none⟩ = some (.int .i64 5) := (h.row.cell 0).trans (by rw [hk]; rfl)
  have c5 : w.cell? ⟨xb, 5, none⟩ = some (.pointer (some ⟨sb, 0, none⟩)) := (h.row.cell 5).trans (by rw [hk]; rfl)
  have HS := Lib.hid (cabAnswer_is sb ty o c rv mp w h.op hl)
  clear h hk hl
  go_enter Tryz.func24, Tryz.ntmps24
  go_wp2_with fail
  refine HS.out.mono ?_
  rintro e w1 ⟨v, rfl, hv, hb⟩
  have HV := Lib.hid (And.intro hv hb)
  clear hv hb
  go_wp2_with fail
  go_ret2
  exact ⟨v, rfl, HV.out⟩
set_option maxRecDepth 100000 in
set_option maxHeartbeats 1000000 in
theorem oanswer_fifo (w : World) (h : Oj w xb sb ty o c rv mp) (hk : c.kd = 6) (hl : c.rc.length ≤ 1000000) : Calls Tryz.prog 24 #[.pointer (some ⟨xb, 0, none⟩)] w (Says c w) := by
  have c0 : w.cell? ⟨xb, 0, none⟩ = some (.int .i64 6) := (h.row.cell 0).trans (by rw [hk]; rfl)
  have c6 : w.cell? ⟨xb, 6, none⟩ = some (.pointer (some ⟨sb, 0, none⟩)) := (h.row.cell 6).trans (by rw [hk]; rfl)
  have HS := Lib.hid (fifoAnswer_is sb ty o c rv mp w h.op hl)
  clear h hk hl
  go_enter Tryz.func24, Tryz.ntmps24
  go_wp2_with fail
  refine HS.out.mono ?_
  rintro e w1 ⟨v, rfl, hv, hb⟩
  have HV := Lib.hid (And.intro hv hb)
  clear hv hb
  go_wp2_with fail
  go_ret2
  exact ⟨v, rfl, HV.out⟩
theorem oanswer_o (w : World) (h : Oj w xb sb ty o c rv mp) (hI : Kc.Inv c) : Calls Tryz.prog 24 #[.pointer (some ⟨xb, 0, none⟩)] w (Says c w) := by
  have hl : c.rc.length ≤ 1000000 := by have := hI.gen.rcl; have := hI.st; omega
  rcases hI.sta.kd with q | q | q | q | q | q
  · exact oanswer_four xb sb ty o c rv mp w h q hl
  · exact oanswer_chen xb sb ty o c rv mp w h q hl
  · exact oanswer_seq xb sb ty o c rv mp w h q hl
  · exact oanswer_ring xb sb ty o c rv mp w h q hl
  · exact oanswer_cab xb sb ty o c rv mp w h q hl
  · exact oanswer_fifo xb sb ty o c rv mp w h q hl
end
set_option maxRecDepth 100000 in
set_option maxHeartbeats 1000000 in
theorem onil_Over (w : World) : Calls Tryz.prog 20 #[.pointer none] w fun e w' => e = .returned (.bool true) ∧ w' = w := by
  go_enter Tryz.func20, Tryz.ntmps20
  go_wp2_with fail
  go_ret
  exact ⟨rfl, rfl⟩
set_option maxRecDepth 100000 in
set_option maxHeartbeats 1000000 in
theorem onil_Steps (w : World) : Calls Tryz.prog 22 #[.pointer none] w fun e w' => e = .returned (.int .i64 0) ∧ w' = w := by
  go_enter Tryz.func22, Tryz.ntmps22
  go_wp2_with fail
  go_ret
  exact ⟨rfl, rfl⟩
set_option maxRecDepth 100000 in
set_option maxHeartbeats 1000000 in
theorem onil_Answer (w : World) : Calls Tryz.prog 24 #[.pointer none] w fun e w' => e = .returned (.tuple #[.slice none 0 0, .int .i64 0]) ∧ w' = w := by
  go_enter Tryz.func24, Tryz.ntmps24
  go_wp2_with fail
  go_ret2
  exact ⟨rfl, rfl⟩
set_option maxRecDepth 100000 in
set_option maxHeartbeats 1000000 in
theorem onil_Step (w : World) : Calls Tryz.prog 17 #[.pointer none, .pointer none] w fun e w' => e = .returned (.bool false) ∧ w' = w := by
  go_enter Tryz.func17, Tryz.ntmps17
  go_wp2_with fail
  go_ret
  exact ⟨rfl, rfl⟩
set_option maxRecDepth 100000 in
set_option maxHeartbeats 1000000 in
theorem onil_Clone (w : World) : Calls Tryz.prog 25 #[.pointer none] w fun e w' => e = .returned (.pointer none) ∧ w' = w := by
  go_enter Tryz.func25, Tryz.ntmps25
  go_wp2_with fail
  go_ret
  exact ⟨rfl, rfl⟩

end Go.Proofs.YtgjcniokgdicpaaGreatDoor
