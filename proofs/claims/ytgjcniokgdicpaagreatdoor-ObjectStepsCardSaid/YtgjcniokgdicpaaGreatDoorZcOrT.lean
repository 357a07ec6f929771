/- The statement ObjectSteps: where both stand when they have begun. -/
import Derived.Test.YtgjcniokgdicpaaGreatDoorZcA
import Derived.Deep.QuietTactic
import Derived.BigQuiet
import Derived.Test.YtgjcniokgdicpaaGreatDoorZcOgT
import Derived.Test.YtgjcniokgdicpaaGreatDoorZcOrL
import Derived.Test.YtgjcniokgdicpaaGreatDoorZcOrP
import Derived.Test.YtgjcniokgdicpaaGreatDoorZcOrS
namespace Go.Proofs.YtgjcniokgdicpaaGreatDoor
open Go.RowKit
set_option maxHeartbeats 400000
theorem pwords_any (A A' : Option Addr) (c c' : Nat) (l m : List Int) (w : World) (hn : l.length ≤ 9223372036854775807) (_hm : m.length ≤ 9223372036854775807) (hl : Ws w w.heap.size A l) (hm' : Ws w w.heap.size A' m) :
  Calls Tryz.prog 27 #[.slice A l.length c, .slice A' m.length c'] w fun e w' => e = .returned (.bool (decide (l = m))) ∧ Below w.heap.size w w' := by
 by_cases hlen : l.length = m.length
 ·have x0 : ((l.length : Int) != (m.length : Int)) = false := by simp [hlen]
  have hlen' := Lib.hid hlen
  clear hlen
  go_enter Tryz.func27, Tryz.ntmps27
  go_wp2
  go_loopw [5, 13] (fun i j wr => ∃ k : Nat, k ≤ l.length ∧ j = .int .i64 k ∧ l.take k = m.take k ∧ Below w.heap.size w wr) (fun _ j _ => l.length - (intOf j).toNat)
  case atStart => exact ⟨0, Nat.zero_le _, rfl, rfl, Below.refl _ _⟩
  case round =>
   obtain ⟨k, hk, rfl, heq, hb⟩ := hrel
   by_cases hlt : k < l.length
   ·obtain ⟨x, hx⟩ := get_some hlt
    obtain ⟨y, hy⟩ := get_some (show k < m.length by have := hlen'.out; omega)
    obtain ⟨⟨_, _, _⟩, b, off, rfl, hlb, h0⟩ := (hl.below hb (Nat.le_refl _)).get hx
    obtain ⟨⟨_, _, _⟩, b2, off2, rfl, hlb2, h1⟩ := (hm'.below hb (Nat.le_refl _)).get hy
    have hmk : (k : Int) < m.length := by have := hlen'.out; omega
    have heq' := Lib.hid heq
    have hx' := Lib.hid hx
    have hy' := Lib.hid hy
    clear heq hx hy
    by_cases hxy : x = y
    ·have x1 : (x != y) = false := by simp [hxy]
     have hxy' := Lib.hid hxy
     clear hxy
     go_wp2
     go_quiet (fail)
     go_wp2
     go_roundw
     case rel => exact ⟨k + 1, by omega, by go_num, by rw [take_snoc hx'.out, take_snoc hy'.out, heq'.out, hxy'.out], drewN_below hb _⟩
     case measure => simp [intOf]; omega
    ·have x1 : (x != y) = true := by simp [hxy]
     go_wp2
     go_quiet (fail)
     go_wp2
     go_ret
     refine ⟨ret_bool ?_, drewN_below hb _⟩
     symm
     rw [decide_eq_false_iff_not]
     intro e
     have := hx'.out
     rw [e, hy'.out] at this
     exact hxy (by injection this with h; exact h.symm)
   ·have h1 := take_all hlt
    have h2 : m.take k = m := take_all (by have := hlen'.out; omega)
    have h3 := Lib.hid (show l = m by rw [← h1, heq, h2])
    clear h1 h2 heq
    go_wp2
    go_ret
    exact ⟨ret_bool (by simpa using h3.out), hb⟩
 ·have x0 : ((l.length : Int) != (m.length : Int)) = true := by simp; omega
  go_enter Tryz.func27, Tryz.ntmps27
  go_wp2
  go_ret
  exact ⟨ret_bool (by symm; rw [decide_eq_false_iff_not]; intro e; exact hlen (by rw [e])), Below.refl _ _⟩
end Go.Proofs.YtgjcniokgdicpaaGreatDoor

namespace Go.Proofs.YtgjcniokgdicpaaGreatDoor
open Go.RowKit
attribute [local go_sem] Oper.semAt_some
set_option maxHeartbeats 8000000
set_option maxRecDepth 100000
theorem stps_N (c : Cs) (r l : List Int) (ps : List Pk) (W : World) (h : CsOk c r l ps W) (hlight : decide (lightB c) = false) : Calls Tryz.prog 5 #[.agg (csA c)] W fun e w' => e = .returned (.bool true) ∧ Below W.heap.size W w' := by
 have hb0 := (Below.refl W.heap.size W).alloc (Nat.le_refl _) (.cells (csA c) 39)
 have hn0 := RowB.new W (csA c) 39
 have hli := light_g c
 rw [hlight] at hli
 have HLI := Lib.hid hli
 have HX := Lib.hid h
 obtain ⟨n, hn⟩ : ∃ n, W.heap.size = n := ⟨_, rfl⟩
 rw [hn] at hn0
 have HB0 := Lib.hid hb0
 have HN0 := Lib.hid hn0
 have HNN := Lib.hid hn
 clear hli hlight h hb0 hn0
 unfold csA at HLI HB0 HN0
 unfold csA
 go_enter Tryz.func5, Tryz.ntmps5
 go_wp2_with fail
 refine (HLI.out _).mono ?_
 rintro e w1 ⟨rfl, hb1⟩
 have hn1 := HN0.out.kept hb1
 have HB1 := Lib.hid (HB0.out.trans (hb1.mono HB0.out.size))
 have HN1 := Lib.hid (show RowB w1 n (csA c) 39 from hn1)
 clear hb1 hn1
 go_wp2_with fail
 refine (awake_g _ (tab_low HX.out.tab HB1.out) (by have := HB1.out.size; have := HX.out.g; omega)).mono ?_
 rintro e wz ⟨rfl, hbz⟩
 have HBZ := Lib.hid (HB1.out.trans (hbz.mono HB1.out.size))
 clear hbz
 go_wp2_with fail
 go_ret
 exact ⟨rfl, by first | exact HBZ.out | (rw [← HNN.out]; exact HBZ.out)⟩
theorem stps_E (c : Cs) (r l : List Int) (ps : List Pk) (W : World) (h : CsOk c r l ps W) (hob : c.o.Ok) (hrl : r.length ≤ 1000000) (hlight : decide (lightB c) = true) (hcode : begE c.o c.a c.op c.rd r.length ≠ 0) : Calls Tryz.prog 5 #[.agg (csA c)] W fun e w' => e = .returned (.bool true) ∧ Below W.heap.size W w' := by
 have hb0 := (Below.refl W.heap.size W).alloc (Nat.le_refl _) (.cells (csA c) 39)
 have hn0 := RowB.new W (csA c) 39
 have hli := light_g c
 rw [hlight] at hli
 have HLI := Lib.hid hli
 have HX := Lib.hid h
 obtain ⟨n, hn⟩ : ∃ n, W.heap.size = n := ⟨_, rfl⟩
 rw [hn] at hn0
 have HB0 := Lib.hid hb0
 have HN0 := Lib.hid hn0
 have HNN := Lib.hid hn
 clear hli hlight h hb0 hn0
 unfold csA at HLI HB0 HN0
 unfold csA
 go_enter Tryz.func5, Tryz.ntmps5
 go_wp2_with fail
 refine (HLI.out _).mono ?_
 rintro e w1 ⟨rfl, hb1⟩
 have hn1 := HN0.out.kept hb1
 have HB1 := Lib.hid (HB0.out.trans (hb1.mono HB0.out.size))
 have HN1 := Lib.hid (show RowB w1 n (csA c) 39 from hn1)
 clear hb1 hn1
 have c0 := HN1.out.at 0 (.int .i64 c.o.k)
 have c1 := HN1.out.at 1 (.int .i64 c.o.wd)
 have c2 := HN1.out.at 2 (.int .i64 c.o.s)
 have c3 := HN1.out.at 3 (.int .i64 c.o.c)
 have c4 := HN1.out.at 4 (.int .u32 c.o.st)
 have c5 := HN1.out.at 5 (.slice c.o.I c.o.ni c.o.ci)
 have c6 := HN1.out.at 6 (.int .i64 c.o.wr)
 have c7 := HN1.out.at 7 (.slice c.o.R c.o.nr c.o.cr)
 have c8 := HN1.out.at 8 (.int .i64 c.a)
 have c9 := HN1.out.at 9 (.int .i64 c.op)
 have c10 := HN1.out.at 10 (.int .i64 c.rd)
 have c11 := HN1.out.at 11 (.slice c.RA c.rn c.rc)
 have hbg := obegin_o c.o c.a c.op c.rd c.RA c.rc r hob w1 (by have := HX.out.rn; have := hrl; omega) (HX.out.r.below HB1.out HB1.out.size) HX.out.a1
 rw [← HX.out.rn] at hbg
 obtain ⟨code, hc0⟩ : ∃ x, begE c.o c.a c.op c.rd r.length = x := ⟨_, rfl⟩
 have HC0 := Lib.hid hc0
 have hc1 : begE c.o c.a c.op c.rd c.rn = code := by rw [HX.out.rn]; exact hc0
 rw [hc1] at hbg
 have HBG := Lib.hid hbg
 rw [hc0] at hcode
 have d0 : (code != 0) = true := by simpa using hcode
 have d00 : (code == 0) = false := by simpa using hcode
 have HC := Lib.hid hcode
 clear hbg hc0 hc1 hcode
 unfold obA at HBG
 go_wp2_with fail
 refine HBG.out.mono ?_
 rintro e w2 ⟨x, rfl, hbe⟩
 obtain ⟨hb2, hno, hyes⟩ := hbe
 have HN2 := Lib.hid (HN1.out.kept hb2)
 have HB2 := Lib.hid (HB1.out.trans (hb2.mono HB1.out.size))
 obtain rfl := hno (by rw [HC0.out]; exact HC.out)
 clear hb2 hno hyes
 clear c0 c1 c2 c3 c4 c5 c6 c7 c8 c9 c10 c11
 have c0 := HN2.out.at 0 (.int .i64 c.o.k)
 have c1 := HN2.out.at 1 (.int .i64 c.o.wd)
 have c2 := HN2.out.at 2 (.int .i64 c.o.s)
 have c3 := HN2.out.at 3 (.int .i64 c.o.c)
 have c4 := HN2.out.at 4 (.int .u32 c.o.st)
 have c5 := HN2.out.at 5 (.slice c.o.I c.o.ni c.o.ci)
 have c6 := HN2.out.at 6 (.int .i64 c.o.wr)
 have c7 := HN2.out.at 7 (.slice c.o.R c.o.nr c.o.cr)
 have c8 := HN2.out.at 8 (.int .i64 c.a)
 have c9 := HN2.out.at 9 (.int .i64 c.op)
 have c10 := HN2.out.at 10 (.int .i64 c.rd)
 have c11 := HN2.out.at 11 (.slice c.RA c.rn c.rc)
 have hbr := rbegin_o c.o c.a c.op c.rd c.RA c.rc r hob w2 (by have := HX.out.rn; have := hrl; omega) (HX.out.r.below HB2.out HB2.out.size)
 rw [← HX.out.rn] at hbr
 rw [show begE c.o c.a c.op c.rd c.rn = code by rw [HX.out.rn]; exact HC0.out] at hbr
 have HBR := Lib.hid hbr
 clear hbr
 unfold obA at HBR
 go_wp2_with fail
 refine HBR.out.mono ?_
 rintro e w3 ⟨y, rfl, hbe⟩
 obtain ⟨hb3, hno, hyes⟩ := hbe
 have HN3 := Lib.hid (HN2.out.kept hb3)
 have HB3 := Lib.hid (HB2.out.trans (hb3.mono HB2.out.size))
 obtain rfl := hno (by rw [HC0.out]; exact HC.out)
 clear hb3 hno hyes
 clear c0 c1 c2 c3 c4 c5 c6 c7 c8 c9 c10 c11
 have hcc : (code != code) = false := by simp
 go_wp2_with fail
 refine (onil_Answer _).mono ?_
 rintro e wq ⟨rfl, hwq⟩
 rw [hwq]
 clear hwq
 go_wp2_with fail
 refine (onil_Over _).mono ?_
 rintro e wq ⟨rfl, hwq⟩
 rw [hwq]
 clear hwq
 go_wp2_with fail
 refine (onil_Steps _).mono ?_
 rintro e wq ⟨rfl, hwq⟩
 rw [hwq]
 clear hwq
 go_wp2_with fail
 refine (onil_Clone _).mono ?_
 rintro e wq ⟨rfl, hwq⟩
 rw [hwq]
 clear hwq
 go_wp2_with fail
 refine (onil_Step _).mono ?_
 rintro e wq ⟨rfl, hwq⟩
 rw [hwq]
 clear hwq
 go_wp2_with fail
 refine (awake_g _ (tab_low HX.out.tab HB3.out) (by have := HB3.out.size; have := HX.out.g; omega)).mono ?_
 rintro e wz ⟨rfl, hbz⟩
 have HBZ := Lib.hid (HB3.out.trans (hbz.mono HB3.out.size))
 clear hbz
 go_wp2_with fail
 go_ret
 exact ⟨rfl, by first | exact HBZ.out | (rw [← HNN.out]; exact HBZ.out)⟩
end Go.Proofs.YtgjcniokgdicpaaGreatDoor

namespace Go.Proofs.YtgjcniokgdicpaaGreatDoor
open Go.RowKit
def Far (v : Value) (b : Nat) : Prop := v.ownBlock ≠ some b
structure Two (W : World) (c : Cs) (xb yb mb lb l2 cap : Nat) (sb : Nat) (ty : TypeId) (cx d : Kc) (rv mp ry : Value) (lm : List Int) (wr : World) : Prop where
 oj : Oj wr xb sb ty c.o cx rv mp
 inv : Kc.Inv cx
 bo : Bo wr mb lb l2 cap lm lm
 sr : SR wr yb l2 cap c.o d ry lm
 rel : Kc.Rel cx d
 size : sizeZ c.o = (cx.size : Int)
 low : W.heap.size < xb ∧ W.heap.size < sb ∧ W.heap.size < mb ∧ W.heap.size < lb ∧ W.heap.size < l2 ∧ W.heap.size < yb
 lowr : ∀ b, rv.ownBlock = some b → W.heap.size < b
 lowy : ∀ b, ry.ownBlock = some b → W.heap.size < b
 x1 : xb ≠ mb ∧ xb ≠ lb ∧ xb ≠ l2 ∧ xb ≠ yb
 s1 : sb ≠ mb ∧ sb ≠ lb ∧ sb ≠ l2 ∧ sb ≠ yb
 y1 : yb ≠ mb ∧ yb ≠ lb
 r1 : Far rv mb ∧ Far rv lb ∧ Far rv l2 ∧ Far rv yb
 z1 : Far ry mb ∧ Far ry lb ∧ Far ry xb ∧ Far ry sb
 rz : ∀ b, rv.ownBlock = some b → ry.ownBlock ≠ some b
 row : RowB wr W.heap.size (csA c) 39
 bel : Below W.heap.size W wr
section
variable {W : World} {c : Cs} {xb yb mb lb l2 cap sb : Nat} {ty : TypeId} {cx d : Kc} {rv mp ry : Value} {lm : List Int} {wr w1 w2 : World}
theorem Two.belo (h : Two W c xb yb mb lb l2 cap sb ty cx d rv mp ry lm wr) (hb : Below wr.heap.size wr w1) : Two W c xb yb mb lb l2 cap sb ty cx d rv mp ry lm w1 :=
 ⟨h.oj.below hb, h.inv, h.bo.belo hb, h.sr.below hb, h.rel, h.size, h.low, h.lowr, h.lowy, h.x1, h.s1, h.y1, h.r1, h.z1, h.rz, h.row.kept hb, h.bel.trans (hb.mono h.bel.size)⟩
theorem SR.words {w w' : World} {yb lb cap : Nat} {o : Ob} {c : Kc} {rv : Value} {l l' : List Int} {T : Nat → Prop} (h : SR w yb lb cap o c rv l) (hk : Tch T w w') (h1 : ¬ T yb) (h2 : ∀ b, rv.ownBlock = some b → ¬ T b) (ho : Own (ints .u32) 32 0 w' (.slice (some ⟨lb, 0, none⟩) l'.length cap) l') (hw : W32 l') (hl : l'.length ≤ 1000000) : SR w' yb lb cap o c rv l' :=
 ⟨h.row.tch hk h1, own_tch h.rc hk h2, h.w32r, h.fits, ho, hw, hl, h.s1, h.s2, h.s3, h.opk⟩
theorem Two.poked {lm' : List Int} (h : Two W c xb yb mb lb l2 cap sb ty cx d rv mp ry lm wr) (hbo : Bo w1 mb lb l2 cap lm' lm') (hl : lm'.length = lm.length) (ht : Tch (Tb mb lb l2) wr w1) : Two W c xb yb mb lb l2 cap sb ty cx d rv mp ry lm' w1 := by
 have hlo := h.low
 have hx := h.x1
 have hs := h.s1
 have hy := h.y1
 have hl2 : yb ≠ l2 := h.sr.s1
 have hr := h.r1
 have hz := h.z1
 have h3 := h.sr.s3
 refine ⟨h.oj.tch ht ?_ ?_ (fun b hb q => ?_), h.inv, hbo, h.sr.words ht ?_ (fun b hb q => ?_) hbo.own hbo.mem.w32 (by rw [hl]; exact h.sr.len), h.rel, h.size, h.low, h.lowr, h.lowy, h.x1, h.s1, h.y1, h.r1, h.z1, h.rz, h.row.tch ht ?_, h.bel.trans (ht.below h.bel.size (fun k hk q => ?_))⟩
 ·rintro (q | q | q) <;> omega
 ·rintro (q | q | q) <;> omega
 ·rcases q with rfl | rfl | rfl
  ·exact hr.1 hb
  ·exact hr.2.1 hb
  ·exact hr.2.2.1 hb
 ·rintro (q | q | q) <;> omega
 ·rcases q with rfl | rfl | rfl
  ·exact hz.1 hb
  ·exact hz.2.1 hb
  ·exact h3 hb
 ·rintro (q | q | q) <;> omega
 ·rcases q with q | q | q <;> omega
theorem Two.mid {rv1 : Value} (h : Two W c xb yb mb lb l2 cap sb ty cx d rv mp ry lm wr) (hm : Mv sb mb lb wr w1 rv rv1) : SR w1 yb l2 cap c.o d ry lm ∧ RowB w1 W.heap.size (csA c) 39 ∧ Below W.heap.size W w1 := by
 have hlo := h.low
 have hs := h.s1
 have hy := h.y1
 have hr := h.r1
 have hz := h.z1
 refine ⟨h.sr.tch hm.tch ?_ (fun b hb q => ?_) ?_, h.row.tch hm.tch ?_, h.bel.trans (hm.tch.below h.bel.size (fun k _ q => ?_))⟩
 ·rintro (q | q | q | q)
  ·omega
  ·omega
  ·omega
  ·exact hr.2.2.2 q
 ·rcases q with rfl | rfl | rfl | q
  ·exact hz.2.2.2 hb
  ·exact hz.1 hb
  ·exact hz.2.1 hb
  ·exact h.rz b q hb
 ·rintro (q | q | q | q)
  ·omega
  ·exact h.bo.n1 q
  ·exact h.bo.n2 q
  ·exact hr.2.2.1 q
 ·rintro (q | q | q | q)
  ·omega
  ·omega
  ·omega
  ·have := h.lowr _ q; omega
 ·rcases q with q | q | q | q
  ·omega
  ·omega
  ·omega
  ·exact Nat.le_of_lt (h.lowr _ q)
theorem Two.both {rv1 mp1 ry1 : Value} {cx1 d1 : Kc} {lm1 : List Int} (h : Two W c xb yb mb lb l2 cap sb ty cx d rv mp ry lm wr) (hoj : Oj w1 xb sb ty c.o cx1 rv1 mp1) (hmem : MemG w1 mb lb lm1) (hrv : rv1.ownBlock ≠ some mb ∧ rv1.ownBlock ≠ some lb) (hm : Mv sb mb lb wr w1 rv rv1)
  (hsr : SR w2 yb l2 cap c.o d1 ry1 lm1) (hm2 : Mv yb l2 l2 w1 w2 ry ry1) (hI : Kc.Inv cx1) (hrel : Kc.Rel cx1 d1) (hsz : cx1.size = cx.size) : Two W c xb yb mb lb l2 cap sb ty cx1 d1 rv1 mp1 ry1 lm1 w2 := by
 obtain ⟨hmid, hrow, hbel⟩ := h.mid hm
 have hlo := h.low
 have hx := h.x1
 have hs := h.s1
 have hy := h.y1
 have hr := h.r1
 have hz := h.z1
 have hws := hm.tch.size
 have hW := h.bel.size
 have hylt : yb < wr.heap.size := h.sr.row.lt
 have hxlt : xb < wr.heap.size := h.oj.row.lt
 have hslt : sb < wr.heap.size := by
  obtain ⟨u, _, q⟩ := h.oj.op.row
  exact q.lt
 have hl2lt : l2 < wr.heap.size := by
  obtain ⟨cur, q⟩ := own_row h.sr.mem
  exact q.lt
 have hmlt : mb < wr.heap.size ∧ lb < wr.heap.size := by
  obtain ⟨kk, cc, q, o', _⟩ := h.bo.mem
  obtain ⟨cur, q2⟩ := own_row o'
  exact ⟨q.lt, q2.lt⟩
 have hrvlt : ∀ b, rv1.ownBlock = some b → b < w1.heap.size := fun b hb => (World.ownsRow.lt hoj.op.rc b hb).2
 have hrylt : ∀ b, ry.ownBlock = some b → b < wr.heap.size := fun b hb => (World.ownsRow.lt h.sr.rc b hb).2
 have hr1 : ∀ b, rv1.ownBlock = some b → W.heap.size < b ∧ b ≠ l2 ∧ b ≠ yb ∧ ry.ownBlock ≠ some b := fun b hb => by
  rcases hm.rv b hb with q | q
  ·exact ⟨h.lowr b q, fun e => hr.2.2.1 (e ▸ q), fun e => hr.2.2.2 (e ▸ q), h.rz b q⟩
  ·exact ⟨by omega, by omega, by omega, fun e => by have := hrylt b e; omega⟩
 have hy1 : ∀ b, ry1.ownBlock = some b → (ry.ownBlock = some b ∨ w1.heap.size ≤ b) := hm2.rv
 refine ⟨hoj.tch hm2.tch ?_ ?_ (fun b hb q => ?_), hI, ⟨hmem.tch hm2.tch ?_ ?_, hsr.mem, rfl, h.bo.n1, h.bo.n2⟩, hsr, hrel, by rw [hsz]; exact h.size, h.low, fun b hb => (hr1 b hb).1, fun b hb => ?_, h.x1, h.s1, h.y1, ⟨hrv.1, hrv.2, fun e => (hr1 l2 e).2.1 rfl, fun e => (hr1 yb e).2.2.1 rfl⟩, ⟨?_, ?_, ?_, ?_⟩, fun b hb e => ?_, hrow.tch hm2.tch ?_, hbel.trans (hm2.tch.below (by omega) (fun k _ q => ?_))⟩
 ·rintro (q | q | q | q)
  ·omega
  ·omega
  ·omega
  ·exact hz.2.2.1 q
 ·rintro (q | q | q | q)
  ·omega
  ·omega
  ·omega
  ·exact hz.2.2.2 q
 ·have := hr1 b hb
  rcases q with q | q | q | q
  ·omega
  ·omega
  ·omega
  ·exact this.2.2.2 q
 ·rintro (q | q | q | q)
  ·omega
  ·exact h.bo.n1 q.symm
  ·exact h.bo.n1 q.symm
  ·exact hz.1 q
 ·rintro (q | q | q | q)
  ·omega
  ·exact h.bo.n2 q.symm
  ·exact h.bo.n2 q.symm
  ·exact hz.2.1 q
 ·rcases hy1 b hb with q | q
  ·exact h.lowy b q
  ·omega
 ·intro e
  rcases hy1 _ e with q | q
  ·exact hz.1 q
  ·omega
 ·intro e
  rcases hy1 _ e with q | q
  ·exact hz.2.1 q
  ·omega
 ·intro e
  rcases hy1 _ e with q | q
  ·exact hz.2.2.1 q
  ·omega
 ·intro e
  rcases hy1 _ e with q | q
  ·exact hz.2.2.2 q
  ·omega
 ·rcases hy1 b e with q | q
  ·exact (hr1 b hb).2.2.2 q
  ·have := hrvlt b hb; omega
 ·rintro (q | q | q | q)
  ·omega
  ·omega
  ·omega
  ·have := h.lowy _ q; omega
 ·rcases q with q | q | q | q
  ·omega
  ·omega
  ·omega
  ·exact Nat.le_of_lt (h.lowy _ q)
def Tw (sb mb lb yb l2 : Nat) (rv ry : Value) (b : Nat) : Prop := fp sb mb lb rv b ∨ fp yb l2 l2 ry b
theorem Two.old (h : Two W c xb yb mb lb l2 cap sb ty cx d rv mp ry lm wr) {b : Nat} (hb : Tw sb mb lb yb l2 rv ry b) : b < wr.heap.size := by
 have hylt : yb < wr.heap.size := h.sr.row.lt
 have hslt : sb < wr.heap.size := by
  obtain ⟨u, _, q⟩ := h.oj.op.row
  exact q.lt
 have hl2lt : l2 < wr.heap.size := by
  obtain ⟨cur, q⟩ := own_row h.sr.mem
  exact q.lt
 have hmlt : mb < wr.heap.size ∧ lb < wr.heap.size := by
  obtain ⟨kk, cc, q, o', _⟩ := h.bo.mem
  obtain ⟨cur, q2⟩ := own_row o'
  exact ⟨q.lt, q2.lt⟩
 rcases hb with (q | q | q | q) | (q | q | q | q)
 ·omega
 ·omega
 ·omega
 ·exact (World.ownsRow.lt h.oj.op.rc b q).2
 ·omega
 ·omega
 ·omega
 ·exact (World.ownsRow.lt h.sr.rc b q).2
theorem Two.clone {o : Ob} {cz : Kc} {zx zs : Nat} {zt : TypeId} {zr zm : Value} (h : Two W c xb yb mb lb l2 cap sb ty cx d rv mp ry lm wr) (hz : Oj w1 zx zs zt o cz zr zm) (f1 : wr.heap.size ≤ zx) (f2 : wr.heap.size ≤ zs) (f3 : ∀ b, zr.ownBlock = some b → wr.heap.size ≤ b) (ht : Tch (Tw sb mb lb yb l2 rv ry) w1 w2) : Oj w2 zx zs zt o cz zr zm :=
 hz.tch ht (fun q => by have := h.old q; omega) (fun q => by have := h.old q; omega) (fun b hb q => by have := h.old q; have := f3 b hb; omega)
end
end Go.Proofs.YtgjcniokgdicpaaGreatDoor

namespace Go.Proofs.YtgjcniokgdicpaaGreatDoor
open Go.RowKit
theorem rel_keeps {c d : Kc} (h : Kc.Rel c d) : d.base = c.base ∧ d.size = c.size ∧ d.kd = c.kd ∧ d.op = c.op := by
 unfold Kc.Rel at h
 split at h
 ·obtain ⟨v, rfl, _⟩ := h; exact ⟨rfl, rfl, rfl, rfl⟩
 ·split at h
  ·obtain ⟨v, rfl, _⟩ := h; exact ⟨rfl, rfl, rfl, rfl⟩
  ·split at h
   ·obtain ⟨rfl, _⟩ := h
    obtain ⟨p, b, he, _⟩ := cabRow_eq c
    rw [he]
    exact ⟨rfl, rfl, rfl, rfl⟩
   ·obtain ⟨rfl, _⟩ := h; exact ⟨rfl, rfl, rfl, rfl⟩
section
variable (yb lb cap : Nat) (o : Ob) (c d : Kc) (rv : Value) (l : List Int)
theorem rstep_no (w : World) (h : SR w yb lb cap o d rv l) (ho : o.Ok) (hr : Kc.Rel c d) (hsz : sizeZ o = (c.size : Int)) (hcan : c.can l = false) :
  Calls Tryz.prog 26 #[.pointer (some ⟨yb, 0, none⟩), .slice (some ⟨lb, 0, none⟩) l.length cap] w (fun e w' => e = .returned (.bool false) ∧ SR w' yb lb cap o d rv l ∧ Mv yb lb lb w w' rv rv) := by
 obtain ⟨e1, e2, _, _⟩ := rel_keeps hr
 have e3 := (Kc.rel_says hr).1
 cases hov : d.over
 ·have hco : c.over = false := e3.symm.trans hov
  unfold Kc.can at hcan
  rw [hco] at hcan
  have hn : ¬ (c.base ≤ l.length ∧ c.size ≤ l.length - c.base) := by simpa using hcan
  by_cases hb : c.base ≤ l.length
  ·exact r_step_size yb lb cap o d rv l w h ho hov (by rw [e1]; exact hb) (by rw [hsz, e1]; have : ¬ c.size ≤ l.length - c.base := fun q => hn ⟨hb, q⟩; omega)
  ·exact r_step_at yb lb cap o d rv l w h ho hov (by rw [e1]; omega)
 ·exact r_step_over yb lb cap o d rv l w h ho hov
end
theorem can_yes {c : Kc} {l : List Int} (h : c.can l = true) : c.over = false ∧ c.base ≤ l.length ∧ c.size ≤ l.length - c.base := by
 unfold Kc.can at h
 rw [Bool.and_eq_true] at h
 exact ⟨by simpa using h.1, of_decide_eq_true h.2⟩
theorem fit_of {c : Kc} (h : Kc.Sta c) : Kc.Fit c := ⟨h.kd, h.nr1, h.nr4, fun q => by
  rcases q with q | q | q
  ·have := h.sl4 q; omega
  ·have := h.sl5 q; have := h.nr1; omega
  ·have := h.sl6 q; omega, fun q => ⟨h.sl5 q, h.sl16⟩⟩
section
variable {W : World} {c : Cs} {xb yb mb lb l2 cap sb : Nat} {ty : TypeId} {cx d : Kc} {rv mp ry : Value} {lm : List Int} {wr : World}
theorem Two.ystep (h : Two W c xb yb mb lb l2 cap sb ty cx d rv mp ry lm wr) (ho : c.o.Ok) (hcan : cx.can lm = true) (hcp : lm.length ≤ cap) {e : Ending} {w1 : World} (hw : Went xb sb mb lb ty c.o wr rv (cx.step lm).1 (cx.step lm).2 e w1) :
  e = .returned (.bool true) ∧ Calls Tryz.prog 26 #[.pointer (some ⟨yb, 0, none⟩), .slice (some ⟨l2, 0, none⟩) lm.length cap] w1 fun e2 w2 => e2 = .returned (.bool true) ∧ ∃ rv1 mp1 ry1 d1, Two W c xb yb mb lb l2 cap sb ty (cx.step lm).1 d1 rv1 mp1 ry1 (cx.step lm).2 w2 ∧ Tch (Tw sb mb lb yb l2 rv ry) wr w2 := by
 obtain ⟨rv1, he, hoj, hm, hrv, hmv⟩ := hw
 refine ⟨he, ?_⟩
 obtain ⟨hmid, _, _⟩ := h.mid hmv
 obtain ⟨hov, hb, hs⟩ := can_yes hcan
 have hlf := Kc.left_step (l := lm) hov h.inv.sta.wd1 h.inv.sta.nr1 h.inv.sta.cap1
 have hsame := hlf.2
 obtain ⟨d1, hd1, hrel1⟩ := Kc.rel_step (l := lm) (fit_of h.inv.sta) h.rel
 refine (rstep_o yb l2 cap c.o cx d ry lm w1 hmid ho h.inv h.rel hov h.size ⟨hb, hs⟩ hcp).mono fun e2 w2 q => ?_
 obtain ⟨ry1, q1, q2, q3⟩ := q
 rw [hd1] at q2
 exact ⟨q1, rv1, _, ry1, d1, h.both hoj hm hrv hmv q2 q3 (h.inv.step hov h.bo.mem.w32) hrel1 hsame.2.2.2.2.2.2.2.2.1, (hmv.tch.mono fun _ _ q => .inl q).trans (q3.tch.mono fun _ _ q => .inr q)⟩
end
end Go.Proofs.YtgjcniokgdicpaaGreatDoor

namespace Go.Proofs.YtgjcniokgdicpaaGreatDoor
open Go.RowKit
theorem opk_start {o : Ob} {at' op rd : Int} {r : List Int} (h : begE o at' op rd r.length = 0) : ((kc0 o at' op rd r).op == if o.k = 6 then 3 else 2) = (kc0 o at' op rd r).wr := by
 obtain ⟨hS, _, _, _, _⟩ := kc0_sta h
 have e1 : (kc0 o at' op rd r).op = op := rfl
 have e2 : (kc0 o at' op rd r).kd = o.k := rfl
 have h5 := hS.op5
 have h6 := hS.op6
 rw [e1, e2] at h5 h6
 unfold Kc.wr
 rw [e1]
 by_cases hk : o.k = 6
 ·rw [if_pos hk]
  rcases h6 hk with q | q <;> rw [q] <;> rfl
 ·rw [if_neg hk]
  rcases h5 hk with q | q <;> rw [q] <;> rfl
theorem two_start {W w : World} {c : Cs} {r l : List Int} {xb yb mb lb l2 cap sb : Nat} {ty : TypeId} {rv ry : Value} (hcode : begE c.o c.a c.op c.rd r.length = 0) (hoj : Oj w xb sb ty c.o (kc0 c.o c.a c.op c.rd r) rv (.pointer none)) (hI : Kc.Inv (kc0 c.o c.a c.op c.rd r)) (hm : MemG w mb lb l)
  (hown : Own (ints .u32) 32 0 w (.slice (some ⟨l2, 0, none⟩) l.length cap) l) (hrow : RowB w yb (opR c.o (kc0 c.o c.a c.op c.rd r) ry) 61) (hrc : Own (ints .u32) 32 0 w ry r) (hb : Below W.heap.size W w) (hcs : RowB w W.heap.size (csA c) 39)
  {n1 n2 n3 n5 : Nat} (h1 : W.heap.size < n1) (h12 : n1 ≤ n2) (h23 : n2 ≤ n3) (_h35 : n3 ≤ n5) (hx : n1 ≤ xb ∧ xb < n2) (hs : n1 ≤ sb ∧ sb < n2) (hr : ∀ b, rv.ownBlock = some b → n1 ≤ b ∧ b < n2) (hy : n2 ≤ yb ∧ yb < n3) (hry : ∀ b, ry.ownBlock = some b → n2 ≤ b ∧ b < n3 ∧ b ≠ yb) (hmb : n3 ≤ mb ∧ mb < n5) (hlb : n3 ≤ lb ∧ lb < n5) (hl2 : n5 ≤ l2) :
  Two W c xb yb mb lb l2 cap sb ty (kc0 c.o c.a c.op c.rd r) (kc0 c.o c.a c.op c.rd r) rv (.pointer none) ry l w := by
 obtain ⟨hS, _, _, _, _⟩ := kc0_sta hcode
 have hz := size_bd c.o
 have far1 : ∀ b, (b < n1 ∨ n2 ≤ b) → Far rv b := fun b q e => by have := hr b e; omega
 have far2 : ∀ b, (b < n2 ∨ n3 ≤ b) → Far ry b := fun b q e => by have := hry b e; omega
 refine ⟨hoj, hI, ⟨hm, hown, rfl, by omega, by omega⟩, ⟨hrow, hrc, hI.gen.w32, hoj.op.fits, hown, hm.w32, hm.len, by omega, fun e => (hry yb e).2.2 rfl, far2 l2 (.inr (by omega)), opk_start hcode⟩, ?_, ?_, ⟨by omega, by omega, by omega, by omega, by omega, by omega⟩, fun b q => by have := hr b q; omega, fun b q => by have := hry b q; omega, ⟨by omega, by omega, by omega, by omega⟩, ⟨by omega, by omega, by omega, by omega⟩, ⟨by omega, by omega⟩, ⟨far1 _ (.inr (by omega)), far1 _ (.inr (by omega)), far1 _ (.inr (by omega)), far1 _ (.inr (by omega))⟩, ⟨far2 _ (.inr (by omega)), far2 _ (.inr (by omega)), far2 _ (.inl (by omega)), far2 _ (.inl (by omega))⟩, fun b q e => by have := hr b q; have := hry b e; omega, hcs, hb⟩
 ·refine Kc.rel_start fun q => ?_
  have e2 : (kc0 c.o c.a c.op c.rd r).kd = c.o.k := rfl
  have e3 : (kc0 c.o c.a c.op c.rd r).sl = c.o.s.toNat := rfl
  rcases q with q | q
  ·have := hS.sl4 (e2.trans q); rw [e3] at this; omega
  ·have := hS.sl6 (e2.trans q); rw [e3] at this; omega
 ·show sizeZ c.o = (((sizeZ c.o).toNat : Nat) : Int)
  omega
end Go.Proofs.YtgjcniokgdicpaaGreatDoor
