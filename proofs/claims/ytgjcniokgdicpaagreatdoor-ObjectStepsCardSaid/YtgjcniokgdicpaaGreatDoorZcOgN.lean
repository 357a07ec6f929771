/- A step of an operation of any kind; whether it is over; how many steps it made. -/
import Derived.Test.YtgjcniokgdicpaaGreatDoorZcOgM
import Derived.Test.YtgjcniokgdicpaaGreatDoorZcI
namespace Go.Proofs.YtgjcniokgdicpaaGreatDoor
open Go.RowKit
attribute [local go_sem] Oper.semAt_some
set_option maxHeartbeats 1000000
set_option maxRecDepth 100000
section
variable (sb mb lb : Nat) (ty : TypeId) (o : Ob) (c : Kc) (rv mp : Value) (l : List Int)
theorem can_sz {c : Kc} {l : List Int} (h : c.can l = true) : c.over = false ∧ c.base + c.size ≤ l.length := by
 unfold Kc.can at h
 rw [Bool.and_eq_true, decide_eq_true_eq] at h
 obtain ⟨h1, h2, h3⟩ := h
 refine ⟨by simpa using h1, by omega⟩
theorem fourStep_no (w : World) (h : OpS w sb ty o c rv mp) (hm : MemG w mb lb l) (hp : ∃ q, mp = .pointer q) (hI : Kc.Inv c) (hcan : c.can l = false) : Calls Tryz.prog 54 #[.pointer (some ⟨sb, 0, none⟩), .pointer (some ⟨mb, 0, none⟩)] w fun e w' => e = .returned (.bool false) ∧ Below w.heap.size w w' := by
 have HO := Lib.hid (open_no sb mb lb ty o c rv mp l w h hm hp (by have := hI.st; omega) hcan)
 clear h hm hp hI hcan
 go_enter Tryz.func54, Tryz.ntmps54
 go_wp2_with fail
 refine HO.out.mono ?_
 rintro e w1 ⟨rfl, hb⟩
 have HB := Lib.hid hb
 clear hb
 go_wp2_with fail
 go_ret
 exact ⟨rfl, HB.out⟩
theorem fourStep_yes (w : World) (h : OpS w sb ty o c rv mp) (hm : MemG w mb lb l) (hp : ∃ q, mp = .pointer q) (hI : Kc.Inv c) (hk : c.kd = 1) (hcan : c.can l = true) (s1 : sb ≠ mb) (s2 : sb ≠ lb) (s3 : rv.ownBlock ≠ some mb) (s4 : rv.ownBlock ≠ some lb) (hT : Tab64 w) (hn : ¬ fp sb mb lb rv 0) : Calls Tryz.prog 54 #[.pointer (some ⟨sb, 0, none⟩), .pointer (some ⟨mb, 0, none⟩)] w (Did sb mb lb ty o w rv (c.step l).1 (c.step l).2 (.bool true)) := by
 have e : c.step l = Kc.four { c with steps := c.steps + 1 } l := by simp [Kc.step, hk]
 obtain ⟨hov, hsz⟩ := can_sz hcan
 have hz := hI.sta.s1 hk
 rw [hz] at hsz
 have hst : c.steps + 1 ≤ 1000 := by have := hI.st; omega
 have hgu := hI.gen.up
 have hd := hI.d1 hk
 have HO := Lib.hid (open_yes sb mb lb ty o c rv mp l w h hm hp (by omega) hcan s1 s2 s3 s4)
 have HTT := Lib.hid (And.intro hT hn)
 have hop := hI.sta.op5 (by omega)
 rw [e]
 rcases hop with hop | hop
 ·have hop2 : (c.op == 2) = true := by rw [hop]; rfl
  have HW := Lib.hid fun W (h : St W sb mb lb ty o { c with steps := c.steps + 1 } rv l) => fourWrite_o sb mb lb ty o { c with steps := c.steps + 1 } rv l W h hop2 hgu hd hov hI.sta.wd1 hI.sta.wd8 hst  hsz
  obtain ⟨d, hd'⟩ : ∃ x, Kc.four { c with steps := c.steps + 1 } l = x := ⟨_, rfl⟩
  rw [hd'] at HW ⊢
  have HOP := Lib.hid hop
  clear h hm hp hI hcan hk e hov hsz hz hst hgu hd hd' hT hn hop hop2
  go_enter Tryz.func54, Tryz.ntmps54
  go_wp2_with fail
  refine HO.out.mono ?_
  rintro e w1 ⟨rfl, hs1, hm1⟩
  obtain ⟨u1, hu1, hr1⟩ := hs1.op.row
  have c8 := hr1.at 8 (.int .i64 2) (by show some (Value.int .i64 c.op) = _; rw [HOP.out])
  have HS1 := Lib.hid hs1
  have HM1 := Lib.hid hm1
  skip
  clear hs1 hm1 hr1 hu1
  go_wp2_with fail
  refine (HW.out _ HS1.out).mono ?_
  rintro e w2 ⟨rv2, rfl, hs2, hm2⟩
  have HS2 := Lib.hid hs2
  have HM2 := Lib.hid (HM1.out.trans hm2)
  clear hs2 hm2
  go_wp2_with fail
  go_ret
  exact ⟨rv2, rfl, HS2.out, HM2.out⟩
 ·have hop2 : (c.op == 2) = false := by rw [hop]; rfl
  have HW := Lib.hid fun W (h : St W sb mb lb ty o { c with steps := c.steps + 1 } rv l) => fourRead_o sb mb lb ty o { c with steps := c.steps + 1 } rv l W h hop2 hgu hd hov hI.sta.wd1 hI.sta.wd8 hst  hsz
  obtain ⟨d, hd'⟩ : ∃ x, Kc.four { c with steps := c.steps + 1 } l = x := ⟨_, rfl⟩
  rw [hd'] at HW ⊢
  have HOP := Lib.hid hop
  clear h hm hp hI hcan hk e hov hsz hz hst hgu hd hd' hT hn hop hop2
  go_enter Tryz.func54, Tryz.ntmps54
  go_wp2_with fail
  refine HO.out.mono ?_
  rintro e w1 ⟨rfl, hs1, hm1⟩
  obtain ⟨u1, hu1, hr1⟩ := hs1.op.row
  have c8 := hr1.at 8 (.int .i64 1) (by show some (Value.int .i64 c.op) = _; rw [HOP.out])
  have HS1 := Lib.hid hs1
  have HM1 := Lib.hid hm1
  skip
  clear hs1 hm1 hr1 hu1
  go_wp2_with fail
  refine (HW.out _ HS1.out).mono ?_
  rintro e w2 ⟨rv2, rfl, hs2, hm2⟩
  have HS2 := Lib.hid hs2
  have HM2 := Lib.hid (HM1.out.trans hm2)
  clear hs2 hm2
  go_wp2_with fail
  go_ret
  exact ⟨rv2, rfl, HS2.out, HM2.out⟩
theorem chenStep_no (w : World) (h : OpS w sb ty o c rv mp) (hm : MemG w mb lb l) (hp : ∃ q, mp = .pointer q) (hI : Kc.Inv c) (hcan : c.can l = false) : Calls Tryz.prog 55 #[.pointer (some ⟨sb, 0, none⟩), .pointer (some ⟨mb, 0, none⟩)] w fun e w' => e = .returned (.bool false) ∧ Below w.heap.size w w' := by
 have HO := Lib.hid (open_no sb mb lb ty o c rv mp l w h hm hp (by have := hI.st; omega) hcan)
 clear h hm hp hI hcan
 go_enter Tryz.func55, Tryz.ntmps55
 go_wp2_with fail
 refine HO.out.mono ?_
 rintro e w1 ⟨rfl, hb⟩
 have HB := Lib.hid hb
 clear hb
 go_wp2_with fail
 go_ret
 exact ⟨rfl, HB.out⟩
theorem chenStep_yes (w : World) (h : OpS w sb ty o c rv mp) (hm : MemG w mb lb l) (hp : ∃ q, mp = .pointer q) (hI : Kc.Inv c) (hk : c.kd = 2) (hcan : c.can l = true) (s1 : sb ≠ mb) (s2 : sb ≠ lb) (s3 : rv.ownBlock ≠ some mb) (s4 : rv.ownBlock ≠ some lb) (hT : Tab64 w) (hn : ¬ fp sb mb lb rv 0) : Calls Tryz.prog 55 #[.pointer (some ⟨sb, 0, none⟩), .pointer (some ⟨mb, 0, none⟩)] w (Did sb mb lb ty o w rv (c.step l).1 (c.step l).2 (.bool true)) := by
 have e : c.step l = Kc.chen { c with steps := c.steps + 1 } l := by simp [Kc.step, hk]
 obtain ⟨hov, hsz⟩ := can_sz hcan
 have hz := hI.sta.s2 hk
 rw [hz] at hsz
 have hst : c.steps + 1 ≤ 1000 := by have := hI.st; omega
 have hgu := hI.gen.up
 have hd := hI.d2 hk
 have HO := Lib.hid (open_yes sb mb lb ty o c rv mp l w h hm hp (by omega) hcan s1 s2 s3 s4)
 have HTT := Lib.hid (And.intro hT hn)
 have hop := hI.sta.op5 (by omega)
 rw [e]
 rcases hop with hop | hop
 ·have hop2 : (c.op == 2) = true := by rw [hop]; rfl
  have HW := Lib.hid fun W (h : St W sb mb lb ty o { c with steps := c.steps + 1 } rv l) (hT : Tab64 W) => chenWrite_o sb mb lb ty o { c with steps := c.steps + 1 } rv l W h hop2 hgu hd hov hI.sta.wd1 hI.sta.wd8 hst hI.sta.nr1 hI.sta.nr4 hI.sta.rd hsz hT hn
  obtain ⟨d, hd'⟩ : ∃ x, Kc.chen { c with steps := c.steps + 1 } l = x := ⟨_, rfl⟩
  rw [hd'] at HW ⊢
  have HOP := Lib.hid hop
  clear h hm hp hI hcan hk e hov hsz hz hst hgu hd hd' hT hn hop hop2
  go_enter Tryz.func55, Tryz.ntmps55
  go_wp2_with fail
  refine HO.out.mono ?_
  rintro e w1 ⟨rfl, hs1, hm1⟩
  obtain ⟨u1, hu1, hr1⟩ := hs1.op.row
  have c8 := hr1.at 8 (.int .i64 2) (by show some (Value.int .i64 c.op) = _; rw [HOP.out])
  have HS1 := Lib.hid hs1
  have HM1 := Lib.hid hm1
  have HTB := Lib.hid (HTT.out.1.mv hm1 HTT.out.2)
  clear hs1 hm1 hr1 hu1
  go_wp2_with fail
  refine (HW.out _ HS1.out HTB.out).mono ?_
  rintro e w2 ⟨rv2, rfl, hs2, hm2⟩
  have HS2 := Lib.hid hs2
  have HM2 := Lib.hid (HM1.out.trans hm2)
  clear hs2 hm2
  go_wp2_with fail
  go_ret
  exact ⟨rv2, rfl, HS2.out, HM2.out⟩
 ·have hop2 : (c.op == 2) = false := by rw [hop]; rfl
  have HW := Lib.hid fun W (h : St W sb mb lb ty o { c with steps := c.steps + 1 } rv l) => chenRead_o sb mb lb ty o { c with steps := c.steps + 1 } rv l W h hop2 hgu hd hov hI.sta.wd1 hI.sta.wd8 hst hI.sta.nr1 hI.sta.nr4 hI.sta.rd hsz
  obtain ⟨d, hd'⟩ : ∃ x, Kc.chen { c with steps := c.steps + 1 } l = x := ⟨_, rfl⟩
  rw [hd'] at HW ⊢
  have HOP := Lib.hid hop
  clear h hm hp hI hcan hk e hov hsz hz hst hgu hd hd' hT hn hop hop2
  go_enter Tryz.func55, Tryz.ntmps55
  go_wp2_with fail
  refine HO.out.mono ?_
  rintro e w1 ⟨rfl, hs1, hm1⟩
  obtain ⟨u1, hu1, hr1⟩ := hs1.op.row
  have c8 := hr1.at 8 (.int .i64 1) (by show some (Value.int .i64 c.op) = _; rw [HOP.out])
  have HS1 := Lib.hid hs1
  have HM1 := Lib.hid hm1
  skip
  clear hs1 hm1 hr1 hu1
  go_wp2_with fail
  refine (HW.out _ HS1.out).mono ?_
  rintro e w2 ⟨rv2, rfl, hs2, hm2⟩
  have HS2 := Lib.hid hs2
  have HM2 := Lib.hid (HM1.out.trans hm2)
  clear hs2 hm2
  go_wp2_with fail
  go_ret
  exact ⟨rv2, rfl, HS2.out, HM2.out⟩
theorem seqStep_no (w : World) (h : OpS w sb ty o c rv mp) (hm : MemG w mb lb l) (hp : ∃ q, mp = .pointer q) (hI : Kc.Inv c) (hcan : c.can l = false) : Calls Tryz.prog 56 #[.pointer (some ⟨sb, 0, none⟩), .pointer (some ⟨mb, 0, none⟩)] w fun e w' => e = .returned (.bool false) ∧ Below w.heap.size w w' := by
 have HO := Lib.hid (open_no sb mb lb ty o c rv mp l w h hm hp (by have := hI.st; omega) hcan)
 clear h hm hp hI hcan
 go_enter Tryz.func56, Tryz.ntmps56
 go_wp2_with fail
 refine HO.out.mono ?_
 rintro e w1 ⟨rfl, hb⟩
 have HB := Lib.hid hb
 clear hb
 go_wp2_with fail
 go_ret
 exact ⟨rfl, HB.out⟩
theorem seqStep_yes (w : World) (h : OpS w sb ty o c rv mp) (hm : MemG w mb lb l) (hp : ∃ q, mp = .pointer q) (hI : Kc.Inv c) (hk : c.kd = 3) (hcan : c.can l = true) (s1 : sb ≠ mb) (s2 : sb ≠ lb) (s3 : rv.ownBlock ≠ some mb) (s4 : rv.ownBlock ≠ some lb) (hT : Tab64 w) (hn : ¬ fp sb mb lb rv 0) : Calls Tryz.prog 56 #[.pointer (some ⟨sb, 0, none⟩), .pointer (some ⟨mb, 0, none⟩)] w (Did sb mb lb ty o w rv (c.step l).1 (c.step l).2 (.bool true)) := by
 have e : c.step l = Kc.seq { c with steps := c.steps + 1 } l := by simp [Kc.step, hk]
 obtain ⟨hov, hsz⟩ := can_sz hcan
 have hz := hI.sta.s3 hk
 rw [hz] at hsz
 have hst : c.steps + 1 ≤ 1000 := by have := hI.st; omega
 have hgu := hI.gen.up
 have hd := hI.d3 hk
 have HO := Lib.hid (open_yes sb mb lb ty o c rv mp l w h hm hp (by omega) hcan s1 s2 s3 s4)
 have HTT := Lib.hid (And.intro hT hn)
 have hop := hI.sta.op5 (by omega)
 rw [e]
 rcases hop with hop | hop
 ·have hop2 : (c.op == 2) = true := by rw [hop]; rfl
  have HW := Lib.hid fun W (h : St W sb mb lb ty o { c with steps := c.steps + 1 } rv l) => seqWrite_o sb mb lb ty o { c with steps := c.steps + 1 } rv l W h hop2 hgu hd hov hI.sta.wd1 hI.sta.wd8 hst  hsz
  obtain ⟨d, hd'⟩ : ∃ x, Kc.seq { c with steps := c.steps + 1 } l = x := ⟨_, rfl⟩
  rw [hd'] at HW ⊢
  have HOP := Lib.hid hop
  clear h hm hp hI hcan hk e hov hsz hz hst hgu hd hd' hT hn hop hop2
  go_enter Tryz.func56, Tryz.ntmps56
  go_wp2_with fail
  refine HO.out.mono ?_
  rintro e w1 ⟨rfl, hs1, hm1⟩
  obtain ⟨u1, hu1, hr1⟩ := hs1.op.row
  have c8 := hr1.at 8 (.int .i64 2) (by show some (Value.int .i64 c.op) = _; rw [HOP.out])
  have HS1 := Lib.hid hs1
  have HM1 := Lib.hid hm1
  skip
  clear hs1 hm1 hr1 hu1
  go_wp2_with fail
  refine (HW.out _ HS1.out).mono ?_
  rintro e w2 ⟨rv2, rfl, hs2, hm2⟩
  have HS2 := Lib.hid hs2
  have HM2 := Lib.hid (HM1.out.trans hm2)
  clear hs2 hm2
  go_wp2_with fail
  go_ret
  exact ⟨rv2, rfl, HS2.out, HM2.out⟩
 ·have hop2 : (c.op == 2) = false := by rw [hop]; rfl
  have HW := Lib.hid fun W (h : St W sb mb lb ty o { c with steps := c.steps + 1 } rv l) => seqRead_o sb mb lb ty o { c with steps := c.steps + 1 } rv l W h hop2 hgu hd hov hI.sta.wd1 hI.sta.wd8 hst  hsz
  obtain ⟨d, hd'⟩ : ∃ x, Kc.seq { c with steps := c.steps + 1 } l = x := ⟨_, rfl⟩
  rw [hd'] at HW ⊢
  have HOP := Lib.hid hop
  clear h hm hp hI hcan hk e hov hsz hz hst hgu hd hd' hT hn hop hop2
  go_enter Tryz.func56, Tryz.ntmps56
  go_wp2_with fail
  refine HO.out.mono ?_
  rintro e w1 ⟨rfl, hs1, hm1⟩
  obtain ⟨u1, hu1, hr1⟩ := hs1.op.row
  have c8 := hr1.at 8 (.int .i64 1) (by show some (Value.int .i64 c.op) = _; rw [HOP.out])
  have HS1 := Lib.hid hs1
  have HM1 := Lib.hid hm1
  skip
  clear hs1 hm1 hr1 hu1
  go_wp2_with fail
  refine (HW.out _ HS1.out).mono ?_
  rintro e w2 ⟨rv2, rfl, hs2, hm2⟩
  have HS2 := Lib.hid hs2
  have HM2 := Lib.hid (HM1.out.trans hm2)
  clear hs2 hm2
  go_wp2_with fail
  go_ret
  exact ⟨rv2, rfl, HS2.out, HM2.out⟩
theorem ringStep_no (w : World) (h : OpS w sb ty o c rv mp) (hm : MemG w mb lb l) (hp : ∃ q, mp = .pointer q) (hI : Kc.Inv c) (hcan : c.can l = false) : Calls Tryz.prog 57 #[.pointer (some ⟨sb, 0, none⟩), .pointer (some ⟨mb, 0, none⟩)] w fun e w' => e = .returned (.bool false) ∧ Below w.heap.size w w' := by
 have HO := Lib.hid (open_no sb mb lb ty o c rv mp l w h hm hp (by have := hI.st; omega) hcan)
 clear h hm hp hI hcan
 go_enter Tryz.func57, Tryz.ntmps57
 go_wp2_with fail
 refine HO.out.mono ?_
 rintro e w1 ⟨rfl, hb⟩
 have HB := Lib.hid hb
 clear hb
 go_wp2_with fail
 go_ret
 exact ⟨rfl, HB.out⟩
theorem ringStep_yes (w : World) (h : OpS w sb ty o c rv mp) (hm : MemG w mb lb l) (hp : ∃ q, mp = .pointer q) (hI : Kc.Inv c) (hk : c.kd = 4) (hcan : c.can l = true) (s1 : sb ≠ mb) (s2 : sb ≠ lb) (s3 : rv.ownBlock ≠ some mb) (s4 : rv.ownBlock ≠ some lb) (hT : Tab64 w) (hn : ¬ fp sb mb lb rv 0) : Calls Tryz.prog 57 #[.pointer (some ⟨sb, 0, none⟩), .pointer (some ⟨mb, 0, none⟩)] w (Did sb mb lb ty o w rv (c.step l).1 (c.step l).2 (.bool true)) := by
 have e : c.step l = Kc.ring { c with steps := c.steps + 1 } l := by simp [Kc.step, hk]
 obtain ⟨hov, hsz⟩ := can_sz hcan
 have hz := hI.sta.s4 hk
 rw [hz] at hsz
 have hst : c.steps + 1 ≤ 1000 := by have := hI.st; omega
 have hgu := hI.gen.up
 have hd := hI.d4 hk
 have HO := Lib.hid (open_yes sb mb lb ty o c rv mp l w h hm hp (by omega) hcan s1 s2 s3 s4)
 have HTT := Lib.hid (And.intro hT hn)
 have hop := hI.sta.op5 (by omega)
 rw [e]
 rcases hop with hop | hop
 ·have hop2 : (c.op == 2) = true := by rw [hop]; rfl
  have HW := Lib.hid fun W (h : St W sb mb lb ty o { c with steps := c.steps + 1 } rv l) => ringWrite_o sb mb lb ty o { c with steps := c.steps + 1 } rv l W h hop2 hgu hd hov hI.sta.wd1 hI.sta.wd8 hst (hI.sta.sl4 hk) hsz
  obtain ⟨d, hd'⟩ : ∃ x, Kc.ring { c with steps := c.steps + 1 } l = x := ⟨_, rfl⟩
  rw [hd'] at HW ⊢
  have HOP := Lib.hid hop
  clear h hm hp hI hcan hk e hov hsz hz hst hgu hd hd' hT hn hop hop2
  go_enter Tryz.func57, Tryz.ntmps57
  go_wp2_with fail
  refine HO.out.mono ?_
  rintro e w1 ⟨rfl, hs1, hm1⟩
  obtain ⟨u1, hu1, hr1⟩ := hs1.op.row
  have c8 := hr1.at 8 (.int .i64 2) (by show some (Value.int .i64 c.op) = _; rw [HOP.out])
  have HS1 := Lib.hid hs1
  have HM1 := Lib.hid hm1
  skip
  clear hs1 hm1 hr1 hu1
  go_wp2_with fail
  refine (HW.out _ HS1.out).mono ?_
  rintro e w2 ⟨rv2, rfl, hs2, hm2⟩
  have HS2 := Lib.hid hs2
  have HM2 := Lib.hid (HM1.out.trans hm2)
  clear hs2 hm2
  go_wp2_with fail
  go_ret
  exact ⟨rv2, rfl, HS2.out, HM2.out⟩
 ·have hop2 : (c.op == 2) = false := by rw [hop]; rfl
  have HW := Lib.hid fun W (h : St W sb mb lb ty o { c with steps := c.steps + 1 } rv l) => ringRead_o sb mb lb ty o { c with steps := c.steps + 1 } rv l W h hop2 hgu hd hov hI.sta.wd1 hI.sta.wd8 hst (hI.sta.sl4 hk) hsz
  obtain ⟨d, hd'⟩ : ∃ x, Kc.ring { c with steps := c.steps + 1 } l = x := ⟨_, rfl⟩
  rw [hd'] at HW ⊢
  have HOP := Lib.hid hop
  clear h hm hp hI hcan hk e hov hsz hz hst hgu hd hd' hT hn hop hop2
  go_enter Tryz.func57, Tryz.ntmps57
  go_wp2_with fail
  refine HO.out.mono ?_
  rintro e w1 ⟨rfl, hs1, hm1⟩
  obtain ⟨u1, hu1, hr1⟩ := hs1.op.row
  have c8 := hr1.at 8 (.int .i64 1) (by show some (Value.int .i64 c.op) = _; rw [HOP.out])
  have HS1 := Lib.hid hs1
  have HM1 := Lib.hid hm1
  skip
  clear hs1 hm1 hr1 hu1
  go_wp2_with fail
  refine (HW.out _ HS1.out).mono ?_
  rintro e w2 ⟨rv2, rfl, hs2, hm2⟩
  have HS2 := Lib.hid hs2
  have HM2 := Lib.hid (HM1.out.trans hm2)
  clear hs2 hm2
  go_wp2_with fail
  go_ret
  exact ⟨rv2, rfl, HS2.out, HM2.out⟩
theorem cabStep_no (w : World) (h : OpS w sb ty o c rv mp) (hm : MemG w mb lb l) (hp : ∃ q, mp = .pointer q) (hI : Kc.Inv c) (hcan : c.can l = false) : Calls Tryz.prog 58 #[.pointer (some ⟨sb, 0, none⟩), .pointer (some ⟨mb, 0, none⟩)] w fun e w' => e = .returned (.bool false) ∧ Below w.heap.size w w' := by
 have HO := Lib.hid (open_no sb mb lb ty o c rv mp l w h hm hp (by have := hI.st; omega) hcan)
 clear h hm hp hI hcan
 go_enter Tryz.func58, Tryz.ntmps58
 go_wp2_with fail
 refine HO.out.mono ?_
 rintro e w1 ⟨rfl, hb⟩
 have HB := Lib.hid hb
 clear hb
 go_wp2_with fail
 go_ret
 exact ⟨rfl, HB.out⟩
theorem cabStep_yes (w : World) (h : OpS w sb ty o c rv mp) (hm : MemG w mb lb l) (hp : ∃ q, mp = .pointer q) (hI : Kc.Inv c) (hk : c.kd = 5) (hcan : c.can l = true) (s1 : sb ≠ mb) (s2 : sb ≠ lb) (s3 : rv.ownBlock ≠ some mb) (s4 : rv.ownBlock ≠ some lb) (hT : Tab64 w) (hn : ¬ fp sb mb lb rv 0) : Calls Tryz.prog 58 #[.pointer (some ⟨sb, 0, none⟩), .pointer (some ⟨mb, 0, none⟩)] w (Did sb mb lb ty o w rv (c.step l).1 (c.step l).2 (.bool true)) := by
 have e : c.step l = Kc.cab { c with steps := c.steps + 1 } l := by simp [Kc.step, hk]
 obtain ⟨hov, hsz⟩ := can_sz hcan
 have hz := hI.sta.s5 hk
 rw [hz] at hsz
 have hst : c.steps + 1 ≤ 1000 := by have := hI.st; omega
 have hgu := hI.gen.up
 have hd := hI.d5 hk
 have HO := Lib.hid (open_yes sb mb lb ty o c rv mp l w h hm hp (by omega) hcan s1 s2 s3 s4)
 have HTT := Lib.hid (And.intro hT hn)
 have hop := hI.sta.op5 (by omega)
 rw [e]
 rcases hop with hop | hop
 ·have hop2 : (c.op == 2) = true := by rw [hop]; rfl
  have HW := Lib.hid fun W (h : St W sb mb lb ty o { c with steps := c.steps + 1 } rv l) (hT : Tab64 W) => cabWrite_o sb mb lb ty o { c with steps := c.steps + 1 } rv l W h hop2 hgu hd hov hI.sta.wd1 hI.sta.wd8 hst hI.sta.nr1 hI.sta.nr4 hI.sta.rd (hI.sta.sl5 hk) hI.sta.sl16 hsz hT hn
  obtain ⟨d, hd'⟩ : ∃ x, Kc.cab { c with steps := c.steps + 1 } l = x := ⟨_, rfl⟩
  rw [hd'] at HW ⊢
  have HOP := Lib.hid hop
  clear h hm hp hI hcan hk e hov hsz hz hst hgu hd hd' hT hn hop hop2
  go_enter Tryz.func58, Tryz.ntmps58
  go_wp2_with fail
  refine HO.out.mono ?_
  rintro e w1 ⟨rfl, hs1, hm1⟩
  obtain ⟨u1, hu1, hr1⟩ := hs1.op.row
  have c8 := hr1.at 8 (.int .i64 2) (by show some (Value.int .i64 c.op) = _; rw [HOP.out])
  have HS1 := Lib.hid hs1
  have HM1 := Lib.hid hm1
  have HTB := Lib.hid (HTT.out.1.mv hm1 HTT.out.2)
  clear hs1 hm1 hr1 hu1
  go_wp2_with fail
  refine (HW.out _ HS1.out HTB.out).mono ?_
  rintro e w2 ⟨rv2, rfl, hs2, hm2⟩
  have HS2 := Lib.hid hs2
  have HM2 := Lib.hid (HM1.out.trans hm2)
  clear hs2 hm2
  go_wp2_with fail
  go_ret
  exact ⟨rv2, rfl, HS2.out, HM2.out⟩
 ·have hop2 : (c.op == 2) = false := by rw [hop]; rfl
  have HW := Lib.hid fun W (h : St W sb mb lb ty o { c with steps := c.steps + 1 } rv l) => cabRead_o sb mb lb ty o { c with steps := c.steps + 1 } rv l W h hop2 hgu hd hov hI.sta.wd1 hI.sta.wd8 hst hI.sta.nr1 hI.sta.nr4 hI.sta.rd (hI.sta.sl5 hk) hI.sta.sl16 hsz
  obtain ⟨d, hd'⟩ : ∃ x, Kc.cab { c with steps := c.steps + 1 } l = x := ⟨_, rfl⟩
  rw [hd'] at HW ⊢
  have HOP := Lib.hid hop
  clear h hm hp hI hcan hk e hov hsz hz hst hgu hd hd' hT hn hop hop2
  go_enter Tryz.func58, Tryz.ntmps58
  go_wp2_with fail
  refine HO.out.mono ?_
  rintro e w1 ⟨rfl, hs1, hm1⟩
  obtain ⟨u1, hu1, hr1⟩ := hs1.op.row
  have c8 := hr1.at 8 (.int .i64 1) (by show some (Value.int .i64 c.op) = _; rw [HOP.out])
  have HS1 := Lib.hid hs1
  have HM1 := Lib.hid hm1
  skip
  clear hs1 hm1 hr1 hu1
  go_wp2_with fail
  refine (HW.out _ HS1.out).mono ?_
  rintro e w2 ⟨rv2, rfl, hs2, hm2⟩
  have HS2 := Lib.hid hs2
  have HM2 := Lib.hid (HM1.out.trans hm2)
  clear hs2 hm2
  go_wp2_with fail
  go_ret
  exact ⟨rv2, rfl, HS2.out, HM2.out⟩
theorem fifoStep_no (w : World) (h : OpS w sb ty o c rv mp) (hm : MemG w mb lb l) (hp : ∃ q, mp = .pointer q) (hI : Kc.Inv c) (hcan : c.can l = false) : Calls Tryz.prog 59 #[.pointer (some ⟨sb, 0, none⟩), .pointer (some ⟨mb, 0, none⟩)] w fun e w' => e = .returned (.bool false) ∧ Below w.heap.size w w' := by
 have HO := Lib.hid (open_no sb mb lb ty o c rv mp l w h hm hp (by have := hI.st; omega) hcan)
 clear h hm hp hI hcan
 go_enter Tryz.func59, Tryz.ntmps59
 go_wp2_with fail
 refine HO.out.mono ?_
 rintro e w1 ⟨rfl, hb⟩
 have HB := Lib.hid hb
 clear hb
 go_wp2_with fail
 go_ret
 exact ⟨rfl, HB.out⟩
theorem fifoStep_yes (w : World) (h : OpS w sb ty o c rv mp) (hm : MemG w mb lb l) (hp : ∃ q, mp = .pointer q) (hI : Kc.Inv c) (hk : c.kd = 6) (hcan : c.can l = true) (s1 : sb ≠ mb) (s2 : sb ≠ lb) (s3 : rv.ownBlock ≠ some mb) (s4 : rv.ownBlock ≠ some lb) (hT : Tab64 w) (hn : ¬ fp sb mb lb rv 0) : Calls Tryz.prog 59 #[.pointer (some ⟨sb, 0, none⟩), .pointer (some ⟨mb, 0, none⟩)] w (Did sb mb lb ty o w rv (c.step l).1 (c.step l).2 (.bool true)) := by
 have e : c.step l = Kc.fifo { c with steps := c.steps + 1 } l := by simp [Kc.step, hk]
 obtain ⟨hov, hsz⟩ := can_sz hcan
 have hz := hI.sta.s6 hk
 rw [hz] at hsz
 have hst : c.steps + 1 ≤ 1000 := by have := hI.st; omega
 have hgu := hI.gen.up
 have hd := hI.d6 hk
 have HO := Lib.hid (open_yes sb mb lb ty o c rv mp l w h hm hp (by omega) hcan s1 s2 s3 s4)
 have HTT := Lib.hid (And.intro hT hn)
 have hop := hI.sta.op6 (by omega)
 rw [e]
 rcases hop with hop | hop
 ·have hop2 : (c.op == 3) = true := by rw [hop]; rfl
  have HW := Lib.hid fun W (h : St W sb mb lb ty o { c with steps := c.steps + 1 } rv l) => fifoPut_o sb mb lb ty o { c with steps := c.steps + 1 } rv l W h hop2 hgu hd hov hI.sta.wd1 hI.sta.wd8 hst (hI.sta.sl6 hk) hsz
  obtain ⟨d, hd'⟩ : ∃ x, Kc.fifo { c with steps := c.steps + 1 } l = x := ⟨_, rfl⟩
  rw [hd'] at HW ⊢
  have HOP := Lib.hid hop
  clear h hm hp hI hcan hk e hov hsz hz hst hgu hd hd' hT hn hop hop2
  go_enter Tryz.func59, Tryz.ntmps59
  go_wp2_with fail
  refine HO.out.mono ?_
  rintro e w1 ⟨rfl, hs1, hm1⟩
  obtain ⟨u1, hu1, hr1⟩ := hs1.op.row
  have c8 := hr1.at 8 (.int .i64 3) (by show some (Value.int .i64 c.op) = _; rw [HOP.out])
  have HS1 := Lib.hid hs1
  have HM1 := Lib.hid hm1
  skip
  clear hs1 hm1 hr1 hu1
  go_wp2_with fail
  refine (HW.out _ HS1.out).mono ?_
  rintro e w2 ⟨rv2, rfl, hs2, hm2⟩
  have HS2 := Lib.hid hs2
  have HM2 := Lib.hid (HM1.out.trans hm2)
  clear hs2 hm2
  go_wp2_with fail
  go_ret
  exact ⟨rv2, rfl, HS2.out, HM2.out⟩
 ·have hop2 : (c.op == 3) = false := by rw [hop]; rfl
  have HW := Lib.hid fun W (h : St W sb mb lb ty o { c with steps := c.steps + 1 } rv l) => fifoTake_o sb mb lb ty o { c with steps := c.steps + 1 } rv l W h hop2 hgu hd hov hI.sta.wd1 hI.sta.wd8 hst (hI.sta.sl6 hk) hsz
  obtain ⟨d, hd'⟩ : ∃ x, Kc.fifo { c with steps := c.steps + 1 } l = x := ⟨_, rfl⟩
  rw [hd'] at HW ⊢
  have HOP := Lib.hid hop
  clear h hm hp hI hcan hk e hov hsz hz hst hgu hd hd' hT hn hop hop2
  go_enter Tryz.func59, Tryz.ntmps59
  go_wp2_with fail
  refine HO.out.mono ?_
  rintro e w1 ⟨rfl, hs1, hm1⟩
  obtain ⟨u1, hu1, hr1⟩ := hs1.op.row
  have c8 := hr1.at 8 (.int .i64 4) (by show some (Value.int .i64 c.op) = _; rw [HOP.out])
  have HS1 := Lib.hid hs1
  have HM1 := Lib.hid hm1
  skip
  clear hs1 hm1 hr1 hu1
  go_wp2_with fail
  refine (HW.out _ HS1.out).mono ?_
  rintro e w2 ⟨rv2, rfl, hs2, hm2⟩
  have HS2 := Lib.hid hs2
  have HM2 := Lib.hid (HM1.out.trans hm2)
  clear hs2 hm2
  go_wp2_with fail
  go_ret
  exact ⟨rv2, rfl, HS2.out, HM2.out⟩
end
end Go.Proofs.YtgjcniokgdicpaaGreatDoor
