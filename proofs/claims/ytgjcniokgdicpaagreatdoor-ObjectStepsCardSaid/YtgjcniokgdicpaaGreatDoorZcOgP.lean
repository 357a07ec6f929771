/- An operation on an object, of whatever kind: its step, whether it is over, its steps, its answer. -/
import Derived.Test.YtgjcniokgdicpaaGreatDoorZcOgN
namespace Go.Proofs.YtgjcniokgdicpaaGreatDoor
open Go.RowKit
attribute [local go_sem] Oper.semAt_some
set_option maxHeartbeats 1000000
set_option maxRecDepth 100000
abbrev QOgO0 (a0 : Nat) (a1 : Option Addr) (a2 : Kc) (a3 : Nat) (w' : World) : Prop := w'.cell? ⟨a0, 16, none⟩ = some (.slice a1 a2.rc.length a3) ∧ w'.cell? ⟨a0, 20, none⟩ = some (.int .i64 a2.code)
theorem clone_w (A : Option Addr) (c : Nat) (l : List Int) (w : World) (hn : l.length ≤ 1000000) (hl : Ws w w.heap.size A l) :
  Calls Tryz.prog 154 #[.slice A l.length c] w fun e w' => ∃ v, e = .returned v ∧ OwnW w.heap.size w' v l ∧ Below w.heap.size w w' := by
 obtain ⟨i0, z, hi, hz, h1, h2, h3, h4⟩ := u32Ty.hi
 cases A with
 | none =>
  have h0 : l = [] := by
   cases l with
   | nil => rfl
   | cons x l => obtain ⟨_, _, h, _⟩ := hl.1 0 x rfl; cases h
  subst h0
  have hn := fun W => Lib.run_eql_slice_nil (P := Tryz.prog) W 33 32 none 0 c 0 0 Tryz.underlying33
  clear hl
  simp only [List.length_nil]
  go_enter Tryz.func154, Tryz.ntmps154
  go_wp2_with fail
  go_ret
  exact ⟨_, rfl, ⟨Own.nil _ _, by simp⟩, Below.refl _ _⟩
 | some a =>
  have hc : ∀ (j : Nat) u, ((ints .u32).all l)[j]? = some u → w.cell? (a.add j) = some u := by
   intro j u hu
   have hall : (ints .u32).all l = l.map (Value.int .u32) := of1_all _ _ l
   rw [hall, List.getElem?_map] at hu
   obtain ⟨z, hz, rfl⟩ := Option.map_eq_some_iff.1 hu
   obtain ⟨_, b', off', hA, _, hcell⟩ := hl.get hz
   injection hA with hA
   subst hA
   rw [Addr.add_lit]
   exact hcell
  have hlw := Lib.hid hl.2
  clear hl
  have hnew := World.ownsRow_lit (base := w.heap.size) (e := 32) (size := 1) w #[] 0 (Nat.le_refl _) (by simp [maxLen]) rfl
  have hlt : ∀ (j : Nat) u, ((ints .u32).all l)[j]? = some u → (w.alloc (.cells #[] 32)).cell? (a.add j) = some u := fun j u hu => by
   have h := hc j u hu
   rw [World.cell?_alloc_lt w _ _ (cell_lt h)]
   exact h
  have hlt' := Lib.hid hlt
  have hnew' := Lib.hid hnew
  have hE := fun w => Lib.run_eql_slice_nil (P := Tryz.prog) w 33 32 (some a) l.length c 0 0 Tryz.underlying33
  clear hc hlt hnew
  go_enter Tryz.func154, Tryz.ntmps154
  go_wp2_with (first
   | (at_builtin; refine wpList_append_own_at _ rfl _ _ 33 rfl w.heap.size 32 i0 z 1 4 Tryz.underlying33 hi hz h1 h2 h3 h4 _ 0 [] rfl hnew'.out a l.length c ((ints .u32).all l) rfl (by rw [Enc.all_len]; rfl) hlt'.out ((ints .u32).all_one l) (by unfold maxLen; omega) (by omega) (by simp) ?_; intro v' w1 hown1 hgrow1 _ _)
   | go_in)
  go_ret
  refine ⟨_, rfl, ⟨by simpa [Own, ints, Enc.of1] using hown1, hlw.out⟩, ((Below.refl _ w).alloc (Nat.le_refl _) _).trans (grown_below hnew'.out hgrow1 (Nat.le_refl _) (by simp))⟩
theorem own_ws {w : World} {B n c : Nat} {A : Option Addr} {l : List Int} (h : Own (ints .u32) 32 B w (.slice A n c) l) (hw : W32 l) : n = l.length ∧ Ws w w.heap.size A l := by
 obtain ⟨A', c', hv, _, _, hsl⟩ := h.sl
 injection hv with h1 h2 h3
 subst h1 h2 h3
 exact ⟨rfl, hsl, hw.wf⟩
section
variable (sb : Nat) (ty : TypeId) (o : Ob) (c : Kc) (rv mp : Value)
def Kc.sc (c : Kc) : Int := if c.over then c.code else 0
def Kc.sr (c : Kc) : List Int := if c.over then c.rc else []
def Says (c : Kc) (w : World) (e : Ending) (w' : World) : Prop := ∃ v, e = .returned (.tuple #[v, .int .i64 c.sc]) ∧ OwnW w.heap.size w' v c.sr ∧ Below w.heap.size w w'
theorem told_o (w : World) (h : OpS w sb ty o c rv mp) (hl : c.rc.length ≤ 1000000) : Calls Tryz.prog 144 #[.pointer (some ⟨sb, 0, none⟩)] w (Says c w) := by
 obtain ⟨u, hu, hr⟩ := h.row
 have c22 := hr.at 22 (.bool c.over)
 have hbd := (Below.refl w.heap.size w).drew
 have hd := h.belo hbd
 obtain ⟨u1, hu1, hr1⟩ := hd.row
 cases ho : c.over
 ·rw [ho] at c22
  clear hr hr1 hu hu1 h hd hbd
  go_enter Tryz.func144, Tryz.ntmps144
  go_wp2_with fail
  go_ret2
  exact ⟨.slice none 0 0, (by unfold Kc.sc; rw [ho]; rfl), (by unfold Kc.sr; rw [ho]; exact ⟨Own.nil _ _, by simp⟩), Below.refl _ _⟩
 ·rw [ho] at c22
  obtain ⟨A, M, cc, hv⟩ : ∃ A M cc, rv = .slice A M cc := own_slice h.rc
  have c16 := hr1.at 16 (.slice A M cc) (by rw [← hv]; rfl)
  have c20 := hr1.at 20 (.int .i64 c.code)
  have hrc := hd.rc
  rw [hv] at hrc
  obtain ⟨hM, hws⟩ := own_ws hrc hd.w32
  subst hM
  have HCL := Lib.hid (clone_w A cc c.rc w.drew hl hws)
  have HB := Lib.hid hbd
  have HOV := Lib.hid ho
  clear hr hr1 hu hu1 h hd hbd hrc hws hl ho hv
  go_enter Tryz.func144, Tryz.ntmps144
  go_wp2_with fail
  have hSd : (QOgO0 sb A c cc) w.drew := ⟨c16, c20⟩
  refine wp_region_held_drew (S := (QOgO0 sb A c cc)) (by kernel_rfl) hSd (fun hHeld => ?_)
  clear hSd
  generalize w.drew = wd at hHeld HCL HB ⊢
  have hHeld : (QOgO0 sb A c cc) wd := hHeld
  refine tk4 0 1 2 3 ?_
  refine tk4 5 6 7 8 ?_
  refine clH 4 (fun K hK => ?_)
  go_simp
  go_at_call 154
  refine HCL.out.mono ?_
  rintro ex wx ⟨v, rfl, hov, hbx⟩
  have hSx : (QOgO0 sb A c cc) wx := ⟨(hbx.cell (p := ⟨sb, 16, none⟩) (cell_lt hHeld.1)).trans hHeld.1, (hbx.cell (p := ⟨sb, 20, none⟩) (cell_lt hHeld.2)).trans hHeld.2⟩
  have HV := Lib.hid hov
  have HBX := Lib.hid (HB.out.trans (hbx.mono HB.out.size))
  refine kH hK hSx fun hHeld => ?_
  clear hK K
  refine tk2 9 10 ?_
  refine wpAnyH_done (by kernel_rfl) ?_ _
  clear hHeld hSx hov hbx
  go_wp2_with fail
  go_ret2
  exact ⟨v, (by unfold Kc.sc; rw [HOV.out]; rfl), (by unfold Kc.sr; rw [HOV.out, if_pos rfl]; exact ⟨HV.out.1.mono HB.out.size, HV.out.2⟩), HBX.out⟩
theorem ended_o (w : World) (h : OpS w sb ty o c rv mp) : Calls Tryz.prog 141 #[.pointer (some ⟨sb, 0, none⟩)] w fun e w' => e = .returned (.bool c.over) ∧ w' = w := by
 obtain ⟨u, hu, hr⟩ := h.row
 have c22 := hr.at 22 (.bool c.over)
 clear hr hu h
 go_enter Tryz.func141, Tryz.ntmps141
 go_wp2_with fail
 go_ret
 exact ⟨rfl, rfl⟩
theorem made_o (w : World) (h : OpS w sb ty o c rv mp) : Calls Tryz.prog 143 #[.pointer (some ⟨sb, 0, none⟩)] w fun e w' => e = .returned (.int .i64 (c.steps : Int)) ∧ w' = w := by
 obtain ⟨u, hu, hr⟩ := h.row
 have c21 := hr.at 21 (.int .i64 (c.steps : Int))
 clear hr hu h
 go_enter Tryz.func143, Tryz.ntmps143
 go_wp2_with fail
 go_ret
 exact ⟨rfl, rfl⟩
theorem fourOver_is (w : World) (h : OpS w sb ty o c rv mp) : Calls Tryz.prog 68 #[.pointer (some ⟨sb, 0, none⟩)] w fun e w' => e = .returned (.bool c.over) ∧ w' = w := by
 have HE := Lib.hid (ended_o sb ty o c rv mp w h)
 clear h
 go_enter Tryz.func68, Tryz.ntmps68
 go_wp2_with fail
 refine HE.out.mono ?_
 rintro e w1 ⟨rfl, rfl⟩
 go_wp2_with fail
 go_ret
 exact ⟨rfl, rfl⟩
theorem fourOver_nil (w : World) : Calls Tryz.prog 68 #[.pointer none] w fun e w' => e = .returned (.bool true) ∧ w' = w := by
 go_enter Tryz.func68, Tryz.ntmps68
 go_wp2_with fail
 go_ret
 exact ⟨rfl, rfl⟩
theorem fourSteps_is (w : World) (h : OpS w sb ty o c rv mp) : Calls Tryz.prog 75 #[.pointer (some ⟨sb, 0, none⟩)] w fun e w' => e = .returned (.int .i64 (c.steps : Int)) ∧ w' = w := by
 have HE := Lib.hid (made_o sb ty o c rv mp w h)
 clear h
 go_enter Tryz.func75, Tryz.ntmps75
 go_wp2_with fail
 refine HE.out.mono ?_
 rintro e w1 ⟨rfl, rfl⟩
 go_wp2_with fail
 go_ret
 exact ⟨rfl, rfl⟩
theorem fourSteps_nil (w : World) : Calls Tryz.prog 75 #[.pointer none] w fun e w' => e = .returned (.int .i64 0) ∧ w' = w := by
 go_enter Tryz.func75, Tryz.ntmps75
 go_wp2_with fail
 go_ret
 exact ⟨rfl, rfl⟩
theorem fourAnswer_is (w : World) (h : OpS w sb ty o c rv mp) (hl : c.rc.length ≤ 1000000) : Calls Tryz.prog 81 #[.pointer (some ⟨sb, 0, none⟩)] w (Says c w) := by
 have HE := Lib.hid (told_o sb ty o c rv mp w h hl)
 clear h hl
 go_enter Tryz.func81, Tryz.ntmps81
 go_wp2_with fail
 refine HE.out.mono ?_
 rintro e w1 ⟨v, rfl, hv, hb⟩
 have HV := Lib.hid (And.intro hv hb)
 clear hv hb
 go_wp2_with fail
 go_ret2
 exact ⟨v, rfl, HV.out⟩
theorem chenOver_is (w : World) (h : OpS w sb ty o c rv mp) : Calls Tryz.prog 69 #[.pointer (some ⟨sb, 0, none⟩)] w fun e w' => e = .returned (.bool c.over) ∧ w' = w := by
 have HE := Lib.hid (ended_o sb ty o c rv mp w h)
 clear h
 go_enter Tryz.func69, Tryz.ntmps69
 go_wp2_with fail
 refine HE.out.mono ?_
 rintro e w1 ⟨rfl, rfl⟩
 go_wp2_with fail
 go_ret
 exact ⟨rfl, rfl⟩
theorem chenOver_nil (w : World) : Calls Tryz.prog 69 #[.pointer none] w fun e w' => e = .returned (.bool true) ∧ w' = w := by
 go_enter Tryz.func69, Tryz.ntmps69
 go_wp2_with fail
 go_ret
 exact ⟨rfl, rfl⟩
theorem chenSteps_is (w : World) (h : OpS w sb ty o c rv mp) : Calls Tryz.prog 76 #[.pointer (some ⟨sb, 0, none⟩)] w fun e w' => e = .returned (.int .i64 (c.steps : Int)) ∧ w' = w := by
 have HE := Lib.hid (made_o sb ty o c rv mp w h)
 clear h
 go_enter Tryz.func76, Tryz.ntmps76
 go_wp2_with fail
 refine HE.out.mono ?_
 rintro e w1 ⟨rfl, rfl⟩
 go_wp2_with fail
 go_ret
 exact ⟨rfl, rfl⟩
theorem chenSteps_nil (w : World) : Calls Tryz.prog 76 #[.pointer none] w fun e w' => e = .returned (.int .i64 0) ∧ w' = w := by
 go_enter Tryz.func76, Tryz.ntmps76
 go_wp2_with fail
 go_ret
 exact ⟨rfl, rfl⟩
theorem chenAnswer_is (w : World) (h : OpS w sb ty o c rv mp) (hl : c.rc.length ≤ 1000000) : Calls Tryz.prog 82 #[.pointer (some ⟨sb, 0, none⟩)] w (Says c w) := by
 have HE := Lib.hid (told_o sb ty o c rv mp w h hl)
 clear h hl
 go_enter Tryz.func82, Tryz.ntmps82
 go_wp2_with fail
 refine HE.out.mono ?_
 rintro e w1 ⟨v, rfl, hv, hb⟩
 have HV := Lib.hid (And.intro hv hb)
 clear hv hb
 go_wp2_with fail
 go_ret2
 exact ⟨v, rfl, HV.out⟩
theorem seqOver_is (w : World) (h : OpS w sb ty o c rv mp) : Calls Tryz.prog 70 #[.pointer (some ⟨sb, 0, none⟩)] w fun e w' => e = .returned (.bool c.over) ∧ w' = w := by
 have HE := Lib.hid (ended_o sb ty o c rv mp w h)
 clear h
 go_enter Tryz.func70, Tryz.ntmps70
 go_wp2_with fail
 refine HE.out.mono ?_
 rintro e w1 ⟨rfl, rfl⟩
 go_wp2_with fail
 go_ret
 exact ⟨rfl, rfl⟩
theorem seqOver_nil (w : World) : Calls Tryz.prog 70 #[.pointer none] w fun e w' => e = .returned (.bool true) ∧ w' = w := by
 go_enter Tryz.func70, Tryz.ntmps70
 go_wp2_with fail
 go_ret
 exact ⟨rfl, rfl⟩
theorem seqSteps_is (w : World) (h : OpS w sb ty o c rv mp) : Calls Tryz.prog 77 #[.pointer (some ⟨sb, 0, none⟩)] w fun e w' => e = .returned (.int .i64 (c.steps : Int)) ∧ w' = w := by
 have HE := Lib.hid (made_o sb ty o c rv mp w h)
 clear h
 go_enter Tryz.func77, Tryz.ntmps77
 go_wp2_with fail
 refine HE.out.mono ?_
 rintro e w1 ⟨rfl, rfl⟩
 go_wp2_with fail
 go_ret
 exact ⟨rfl, rfl⟩
theorem seqSteps_nil (w : World) : Calls Tryz.prog 77 #[.pointer none] w fun e w' => e = .returned (.int .i64 0) ∧ w' = w := by
 go_enter Tryz.func77, Tryz.ntmps77
 go_wp2_with fail
 go_ret
 exact ⟨rfl, rfl⟩
theorem seqAnswer_is (w : World) (h : OpS w sb ty o c rv mp) (hl : c.rc.length ≤ 1000000) : Calls Tryz.prog 83 #[.pointer (some ⟨sb, 0, none⟩)] w (Says c w) := by
 have HE := Lib.hid (told_o sb ty o c rv mp w h hl)
 clear h hl
 go_enter Tryz.func83, Tryz.ntmps83
 go_wp2_with fail
 refine HE.out.mono ?_
 rintro e w1 ⟨v, rfl, hv, hb⟩
 have HV := Lib.hid (And.intro hv hb)
 clear hv hb
 go_wp2_with fail
 go_ret2
 exact ⟨v, rfl, HV.out⟩
theorem ringOver_is (w : World) (h : OpS w sb ty o c rv mp) : Calls Tryz.prog 71 #[.pointer (some ⟨sb, 0, none⟩)] w fun e w' => e = .returned (.bool c.over) ∧ w' = w := by
 have HE := Lib.hid (ended_o sb ty o c rv mp w h)
 clear h
 go_enter Tryz.func71, Tryz.ntmps71
 go_wp2_with fail
 refine HE.out.mono ?_
 rintro e w1 ⟨rfl, rfl⟩
 go_wp2_with fail
 go_ret
 exact ⟨rfl, rfl⟩
theorem ringOver_nil (w : World) : Calls Tryz.prog 71 #[.pointer none] w fun e w' => e = .returned (.bool true) ∧ w' = w := by
 go_enter Tryz.func71, Tryz.ntmps71
 go_wp2_with fail
 go_ret
 exact ⟨rfl, rfl⟩
theorem ringSteps_is (w : World) (h : OpS w sb ty o c rv mp) : Calls Tryz.prog 78 #[.pointer (some ⟨sb, 0, none⟩)] w fun e w' => e = .returned (.int .i64 (c.steps : Int)) ∧ w' = w := by
 have HE := Lib.hid (made_o sb ty o c rv mp w h)
 clear h
 go_enter Tryz.func78, Tryz.ntmps78
 go_wp2_with fail
 refine HE.out.mono ?_
 rintro e w1 ⟨rfl, rfl⟩
 go_wp2_with fail
 go_ret
 exact ⟨rfl, rfl⟩
theorem ringSteps_nil (w : World) : Calls Tryz.prog 78 #[.pointer none] w fun e w' => e = .returned (.int .i64 0) ∧ w' = w := by
 go_enter Tryz.func78, Tryz.ntmps78
 go_wp2_with fail
 go_ret
 exact ⟨rfl, rfl⟩
theorem ringAnswer_is (w : World) (h : OpS w sb ty o c rv mp) (hl : c.rc.length ≤ 1000000) : Calls Tryz.prog 84 #[.pointer (some ⟨sb, 0, none⟩)] w (Says c w) := by
 have HE := Lib.hid (told_o sb ty o c rv mp w h hl)
 clear h hl
 go_enter Tryz.func84, Tryz.ntmps84
 go_wp2_with fail
 refine HE.out.mono ?_
 rintro e w1 ⟨v, rfl, hv, hb⟩
 have HV := Lib.hid (And.intro hv hb)
 clear hv hb
 go_wp2_with fail
 go_ret2
 exact ⟨v, rfl, HV.out⟩
theorem cabOver_is (w : World) (h : OpS w sb ty o c rv mp) : Calls Tryz.prog 72 #[.pointer (some ⟨sb, 0, none⟩)] w fun e w' => e = .returned (.bool c.over) ∧ w' = w := by
 have HE := Lib.hid (ended_o sb ty o c rv mp w h)
 clear h
 go_enter Tryz.func72, Tryz.ntmps72
 go_wp2_with fail
 refine HE.out.mono ?_
 rintro e w1 ⟨rfl, rfl⟩
 go_wp2_with fail
 go_ret
 exact ⟨rfl, rfl⟩
theorem cabOver_nil (w : World) : Calls Tryz.prog 72 #[.pointer none] w fun e w' => e = .returned (.bool true) ∧ w' = w := by
 go_enter Tryz.func72, Tryz.ntmps72
 go_wp2_with fail
 go_ret
 exact ⟨rfl, rfl⟩
theorem cabSteps_is (w : World) (h : OpS w sb ty o c rv mp) : Calls Tryz.prog 79 #[.pointer (some ⟨sb, 0, none⟩)] w fun e w' => e = .returned (.int .i64 (c.steps : Int)) ∧ w' = w := by
 have HE := Lib.hid (made_o sb ty o c rv mp w h)
 clear h
 go_enter Tryz.func79, Tryz.ntmps79
 go_wp2_with fail
 refine HE.out.mono ?_
 rintro e w1 ⟨rfl, rfl⟩
 go_wp2_with fail
 go_ret
 exact ⟨rfl, rfl⟩
theorem cabSteps_nil (w : World) : Calls Tryz.prog 79 #[.pointer none] w fun e w' => e = .returned (.int .i64 0) ∧ w' = w := by
 go_enter Tryz.func79, Tryz.ntmps79
 go_wp2_with fail
 go_ret
 exact ⟨rfl, rfl⟩
theorem cabAnswer_is (w : World) (h : OpS w sb ty o c rv mp) (hl : c.rc.length ≤ 1000000) : Calls Tryz.prog 85 #[.pointer (some ⟨sb, 0, none⟩)] w (Says c w) := by
 have HE := Lib.hid (told_o sb ty o c rv mp w h hl)
 clear h hl
 go_enter Tryz.func85, Tryz.ntmps85
 go_wp2_with fail
 refine HE.out.mono ?_
 rintro e w1 ⟨v, rfl, hv, hb⟩
 have HV := Lib.hid (And.intro hv hb)
 clear hv hb
 go_wp2_with fail
 go_ret2
 exact ⟨v, rfl, HV.out⟩
theorem fifoOver_is (w : World) (h : OpS w sb ty o c rv mp) : Calls Tryz.prog 73 #[.pointer (some ⟨sb, 0, none⟩)] w fun e w' => e = .returned (.bool c.over) ∧ w' = w := by
 have HE := Lib.hid (ended_o sb ty o c rv mp w h)
 clear h
 go_enter Tryz.func73, Tryz.ntmps73
 go_wp2_with fail
 refine HE.out.mono ?_
 rintro e w1 ⟨rfl, rfl⟩
 go_wp2_with fail
 go_ret
 exact ⟨rfl, rfl⟩
theorem fifoOver_nil (w : World) : Calls Tryz.prog 73 #[.pointer none] w fun e w' => e = .returned (.bool true) ∧ w' = w := by
 go_enter Tryz.func73, Tryz.ntmps73
 go_wp2_with fail
 go_ret
 exact ⟨rfl, rfl⟩
theorem fifoSteps_is (w : World) (h : OpS w sb ty o c rv mp) : Calls Tryz.prog 80 #[.pointer (some ⟨sb, 0, none⟩)] w fun e w' => e = .returned (.int .i64 (c.steps : Int)) ∧ w' = w := by
 have HE := Lib.hid (made_o sb ty o c rv mp w h)
 clear h
 go_enter Tryz.func80, Tryz.ntmps80
 go_wp2_with fail
 refine HE.out.mono ?_
 rintro e w1 ⟨rfl, rfl⟩
 go_wp2_with fail
 go_ret
 exact ⟨rfl, rfl⟩
theorem fifoSteps_nil (w : World) : Calls Tryz.prog 80 #[.pointer none] w fun e w' => e = .returned (.int .i64 0) ∧ w' = w := by
 go_enter Tryz.func80, Tryz.ntmps80
 go_wp2_with fail
 go_ret
 exact ⟨rfl, rfl⟩
theorem fifoAnswer_is (w : World) (h : OpS w sb ty o c rv mp) (hl : c.rc.length ≤ 1000000) : Calls Tryz.prog 86 #[.pointer (some ⟨sb, 0, none⟩)] w (Says c w) := by
 have HE := Lib.hid (told_o sb ty o c rv mp w h hl)
 clear h hl
 go_enter Tryz.func86, Tryz.ntmps86
 go_wp2_with fail
 refine HE.out.mono ?_
 rintro e w1 ⟨v, rfl, hv, hb⟩
 have HV := Lib.hid (And.intro hv hb)
 clear hv hb
 go_wp2_with fail
 go_ret2
 exact ⟨v, rfl, HV.out⟩
end
end Go.Proofs.YtgjcniokgdicpaaGreatDoor

namespace Go.Proofs.YtgjcniokgdicpaaGreatDoor
open Go.RowKit
attribute [local go_sem] Oper.semAt_some
set_option maxHeartbeats 2000000
set_option maxRecDepth 100000
def pAt (k j : Int) (sb : Nat) : Value := .pointer (if k = j then some ⟨sb, 0, none⟩ else none)
def opRow (k : Int) (sb : Nat) : Array Value := #[.int .i64 k, pAt k 1 sb, pAt k 2 sb, pAt k 3 sb, pAt k 4 sb, pAt k 5 sb, pAt k 6 sb]
structure Oj (w : World) (xb sb : Nat) (ty : TypeId) (o : Ob) (c : Kc) (rv mp : Value) : Prop where
 row : RowB w xb (opRow c.kd sb) 78
 op : OpS w sb ty o c rv mp
 ne : xb ≠ sb
 rx : rv.ownBlock ≠ some xb
 mpp : ∃ q, mp = .pointer q
theorem Oj.tch {w w' : World} {xb sb : Nat} {ty : TypeId} {o : Ob} {c : Kc} {rv mp : Value} {T : Nat → Prop} (h : Oj w xb sb ty o c rv mp) (hk : Tch T w w') (h0 : ¬ T xb) (h1 : ¬ T sb) (h2 : ∀ b, rv.ownBlock = some b → ¬ T b) : Oj w' xb sb ty o c rv mp :=
 ⟨h.row.tch hk h0, h.op.tch hk h1 h2, h.ne, h.rx, h.mpp⟩
theorem Oj.below {w w' : World} {xb sb : Nat} {ty : TypeId} {o : Ob} {c : Kc} {rv mp : Value} (h : Oj w xb sb ty o c rv mp) (hb : Below w.heap.size w w') : Oj w' xb sb ty o c rv mp :=
 h.tch (T := fun _ => False) (Tch.of_below _ hb) (fun h => h) (fun h => h) (fun _ _ h => h)
def Went (xb sb mb lb : Nat) (ty : TypeId) (o : Ob) (w : World) (rv : Value) (c' : Kc) (l' : List Int) (e : Ending) (w' : World) : Prop :=
 ∃ rv', e = .returned (.bool true) ∧ Oj w' xb sb ty o c' rv' (.pointer (some ⟨mb, 0, none⟩)) ∧ MemG w' mb lb l' ∧ (rv'.ownBlock ≠ some mb ∧ rv'.ownBlock ≠ some lb) ∧ Mv sb mb lb w w' rv rv'
theorem Went.of {xb sb mb lb : Nat} {ty : TypeId} {o : Ob} {w w' : World} {rv rv' : Value} {c c' : Kc} {l' : List Int} {mp : Value} (h : Oj w xb sb ty o c rv mp) (hm : xb ≠ mb) (hl : xb ≠ lb) (hk : c'.kd = c.kd) (hs : St w' sb mb lb ty o c' rv' l') (hv : Mv sb mb lb w w' rv rv') : Went xb sb mb lb ty o w rv c' l' (.returned (.bool true)) w' := by
 have hx : ¬ fp sb mb lb rv xb := by
  rintro (q | q | q | q)
  ·exact h.ne q
  ·exact hm q
  ·exact hl q
  ·exact h.rx q
 refine ⟨rv', rfl, ⟨by rw [hk]; exact h.row.tch hv.tch hx, hs.op, h.ne, fun q => ?_, ⟨_, rfl⟩⟩, hs.mem, ⟨hs.s3, hs.s4⟩, hv⟩
 rcases hv.rv xb q with e | e
 ·exact h.rx e
 ·have := h.row.lt
  omega
section
variable (xb sb mb lb : Nat) (ty : TypeId) (o : Ob) (c : Kc) (rv mp : Value) (l : List Int)
theorem pAt_ex (k j : Int) (sb : Nat) {Q : Option Addr → Prop} (h1 : k = j → Q (some ⟨sb, 0, none⟩)) (h0 : k ≠ j → Q none) : ∃ p, pAt k j sb = .pointer p ∧ Q p := by
 unfold pAt
 by_cases q : k = j
 ·rw [if_pos q]; exact ⟨_, rfl, h1 q⟩
 ·rw [if_neg q]; exact ⟨_, rfl, h0 q⟩
def osF (k : Int) : Nat := match k.toNat with
 | 1 => 54
 | 2 => 55
 | 3 => 56
 | 4 => 57
 | 5 => 58
 | _ => 59
def oaF (k : Int) : Nat := match k.toNat with
 | 1 => 81
 | 2 => 82
 | 3 => 83
 | 4 => 84
 | 5 => 85
 | _ => 86
theorem ostep_fw (w : World) (h : Oj w xb sb ty o c rv mp) (hI : Kc.Inv c) (P : Bool → World → Prop) (HS : Calls Tryz.prog (osF c.kd) #[.pointer (some ⟨sb, 0, none⟩), .pointer (some ⟨mb, 0, none⟩)] w fun e w' => ∃ b, e = .returned (.bool b) ∧ P b w') : Calls Tryz.prog 17 #[.pointer (some ⟨xb, 0, none⟩), .pointer (some ⟨mb, 0, none⟩)] w fun e w' => ∃ b, e = .returned (.bool b) ∧ P b w' := by
 rcases hI.sta.kd with q | q | q | q | q | q
 all_goals
  have c0 := h.row.at 0 (.int .i64 c.kd)
  have c1 := h.row.at 1 (pAt c.kd 1 sb)
  have c2 := h.row.at 2 (pAt c.kd 2 sb)
  have c3 := h.row.at 3 (pAt c.kd 3 sb)
  have c4 := h.row.at 4 (pAt c.kd 4 sb)
  have c5 := h.row.at 5 (pAt c.kd 5 sb)
  have c6 := h.row.at 6 (pAt c.kd 6 sb)
  rw [q] at c0 HS
  simp [pAt, q] at c1 c2 c3 c4 c5 c6
  have HS := Lib.hid HS
  clear h hI q
  go_enter Tryz.func17, Tryz.ntmps17
  go_wp2_with fail
  refine HS.out.mono ?_
  rintro e w1 ⟨b, rfl, hp⟩
  have HP := Lib.hid hp
  clear hp
  go_wp2_with fail
  go_ret
  exact ⟨b, rfl, HP.out⟩
theorem oanswer_fw (w : World) (h : Oj w xb sb ty o c rv mp) (hI : Kc.Inv c) (P : Value → Int → World → Prop) (HS : Calls Tryz.prog (oaF c.kd) #[.pointer (some ⟨sb, 0, none⟩)] w fun e w' => ∃ v n, e = .returned (.tuple #[v, .int .i64 n]) ∧ P v n w') : Calls Tryz.prog 24 #[.pointer (some ⟨xb, 0, none⟩)] w fun e w' => ∃ v n, e = .returned (.tuple #[v, .int .i64 n]) ∧ P v n w' := by
 rcases hI.sta.kd with q | q | q | q | q | q
 all_goals
  have c0 := h.row.at 0 (.int .i64 c.kd)
  have c1 := h.row.at 1 (pAt c.kd 1 sb)
  have c2 := h.row.at 2 (pAt c.kd 2 sb)
  have c3 := h.row.at 3 (pAt c.kd 3 sb)
  have c4 := h.row.at 4 (pAt c.kd 4 sb)
  have c5 := h.row.at 5 (pAt c.kd 5 sb)
  have c6 := h.row.at 6 (pAt c.kd 6 sb)
  rw [q] at c0 HS
  simp [pAt, q] at c1 c2 c3 c4 c5 c6
  have HS := Lib.hid HS
  clear h hI q
  go_enter Tryz.func24, Tryz.ntmps24
  go_wp2_with fail
  refine HS.out.mono ?_
  rintro e w1 ⟨v, n, rfl, hp⟩
  have HP := Lib.hid hp
  clear hp
  go_wp2_with fail
  go_ret2
  exact ⟨v, n, rfl, HP.out⟩
theorem ostep_yes (w : World) (h : Oj w xb sb ty o c rv mp) (hm : MemG w mb lb l) (hI : Kc.Inv c) (hcan : c.can l = true) (s1 : sb ≠ mb) (s2 : sb ≠ lb) (s3 : rv.ownBlock ≠ some mb) (s4 : rv.ownBlock ≠ some lb) (s5 : xb ≠ mb) (s6 : xb ≠ lb) (hT : Tab64 w) (hn : ¬ fp sb mb lb rv 0) : Calls Tryz.prog 17 #[.pointer (some ⟨xb, 0, none⟩), .pointer (some ⟨mb, 0, none⟩)] w (Went xb sb mb lb ty o w rv (c.step l).1 (c.step l).2) := by
 have hov := (can_sz hcan).1
 have hkd : (c.step l).1.kd = c.kd := (Kc.left_step (l := l) hov hI.sta.wd1 hI.sta.nr1 hI.sta.cap1).2.1
 have fw := ostep_fw xb sb mb ty o c rv mp w h hI (fun b w1 => b = true ∧ ∃ rv', St w1 sb mb lb ty o (c.step l).1 rv' (c.step l).2 ∧ Mv sb mb lb w w1 rv rv')
 refine (fw ?_).mono fun e w1 q => ?_
 ·rcases hI.sta.kd with q | q | q | q | q | q <;> rw [q]
  ·exact (fourStep_yes sb mb lb ty o c rv mp l w h.op hm h.mpp hI q hcan s1 s2 s3 s4 hT hn).mono fun _ _ ⟨rv1, e, hs, hv⟩ => ⟨_, e, rfl, rv1, hs, hv⟩
  ·exact (chenStep_yes sb mb lb ty o c rv mp l w h.op hm h.mpp hI q hcan s1 s2 s3 s4 hT hn).mono fun _ _ ⟨rv1, e, hs, hv⟩ => ⟨_, e, rfl, rv1, hs, hv⟩
  ·exact (seqStep_yes sb mb lb ty o c rv mp l w h.op hm h.mpp hI q hcan s1 s2 s3 s4 hT hn).mono fun _ _ ⟨rv1, e, hs, hv⟩ => ⟨_, e, rfl, rv1, hs, hv⟩
  ·exact (ringStep_yes sb mb lb ty o c rv mp l w h.op hm h.mpp hI q hcan s1 s2 s3 s4 hT hn).mono fun _ _ ⟨rv1, e, hs, hv⟩ => ⟨_, e, rfl, rv1, hs, hv⟩
  ·exact (cabStep_yes sb mb lb ty o c rv mp l w h.op hm h.mpp hI q hcan s1 s2 s3 s4 hT hn).mono fun _ _ ⟨rv1, e, hs, hv⟩ => ⟨_, e, rfl, rv1, hs, hv⟩
  ·exact (fifoStep_yes sb mb lb ty o c rv mp l w h.op hm h.mpp hI q hcan s1 s2 s3 s4 hT hn).mono fun _ _ ⟨rv1, e, hs, hv⟩ => ⟨_, e, rfl, rv1, hs, hv⟩
 ·obtain ⟨b, rfl, rfl, rv1, hs, hv⟩ := q
  exact Went.of h s5 s6 hkd hs hv
theorem ostep_no (w : World) (h : Oj w xb sb ty o c rv mp) (hm : MemG w mb lb l) (hI : Kc.Inv c) (hcan : c.can l = false) : Calls Tryz.prog 17 #[.pointer (some ⟨xb, 0, none⟩), .pointer (some ⟨mb, 0, none⟩)] w fun e w' => e = .returned (.bool false) ∧ Below w.heap.size w w' := by
 have fw := ostep_fw xb sb mb ty o c rv mp w h hI (fun b w1 => b = false ∧ Below w.heap.size w w1)
 refine (fw ?_).mono fun e w1 q => ?_
 ·rcases hI.sta.kd with q | q | q | q | q | q <;> rw [q]
  ·exact (fourStep_no sb mb lb ty o c rv mp l w h.op hm h.mpp hI hcan).mono fun _ _ ⟨e, hb⟩ => ⟨_, e, rfl, hb⟩
  ·exact (chenStep_no sb mb lb ty o c rv mp l w h.op hm h.mpp hI hcan).mono fun _ _ ⟨e, hb⟩ => ⟨_, e, rfl, hb⟩
  ·exact (seqStep_no sb mb lb ty o c rv mp l w h.op hm h.mpp hI hcan).mono fun _ _ ⟨e, hb⟩ => ⟨_, e, rfl, hb⟩
  ·exact (ringStep_no sb mb lb ty o c rv mp l w h.op hm h.mpp hI hcan).mono fun _ _ ⟨e, hb⟩ => ⟨_, e, rfl, hb⟩
  ·exact (cabStep_no sb mb lb ty o c rv mp l w h.op hm h.mpp hI hcan).mono fun _ _ ⟨e, hb⟩ => ⟨_, e, rfl, hb⟩
  ·exact (fifoStep_no sb mb lb ty o c rv mp l w h.op hm h.mpp hI hcan).mono fun _ _ ⟨e, hb⟩ => ⟨_, e, rfl, hb⟩
 ·obtain ⟨b, rfl, rfl, hb⟩ := q
  exact ⟨rfl, hb⟩
theorem oanswer_o (w : World) (h : Oj w xb sb ty o c rv mp) (hI : Kc.Inv c) : Calls Tryz.prog 24 #[.pointer (some ⟨xb, 0, none⟩)] w (Says c w) := by
 have hl : c.rc.length ≤ 1000000 := by have := hI.gen.rcl; have := hI.st; omega
 have fw := oanswer_fw xb sb ty o c rv mp w h hI (fun v n w1 => n = c.sc ∧ OwnW w.heap.size w1 v c.sr ∧ Below w.heap.size w w1)
 refine (fw ?_).mono fun e w1 q => ?_
 ·rcases hI.sta.kd with q | q | q | q | q | q <;> rw [q]
  ·exact (fourAnswer_is sb ty o c rv mp w h.op hl).mono fun _ _ ⟨v, e, hv, hb⟩ => ⟨v, _, e, rfl, hv, hb⟩
  ·exact (chenAnswer_is sb ty o c rv mp w h.op hl).mono fun _ _ ⟨v, e, hv, hb⟩ => ⟨v, _, e, rfl, hv, hb⟩
  ·exact (seqAnswer_is sb ty o c rv mp w h.op hl).mono fun _ _ ⟨v, e, hv, hb⟩ => ⟨v, _, e, rfl, hv, hb⟩
  ·exact (ringAnswer_is sb ty o c rv mp w h.op hl).mono fun _ _ ⟨v, e, hv, hb⟩ => ⟨v, _, e, rfl, hv, hb⟩
  ·exact (cabAnswer_is sb ty o c rv mp w h.op hl).mono fun _ _ ⟨v, e, hv, hb⟩ => ⟨v, _, e, rfl, hv, hb⟩
  ·exact (fifoAnswer_is sb ty o c rv mp w h.op hl).mono fun _ _ ⟨v, e, hv, hb⟩ => ⟨v, _, e, rfl, hv, hb⟩
 ·obtain ⟨v, n, rfl, rfl, hv, hb⟩ := q
  exact ⟨v, rfl, hv, hb⟩
theorem oover_o (w : World) (h : Oj w xb sb ty o c rv mp) (hI : Kc.Inv c) : Calls Tryz.prog 20 #[.pointer (some ⟨xb, 0, none⟩)] w fun e w' => e = .returned (.bool c.over) ∧ w' = w := by
 obtain ⟨p1, e1, b1, h1, x1, y1⟩ : ∃ p, pAt c.kd 1 sb = .pointer p ∧ ∃ b, Calls Tryz.prog 68 #[.pointer p] w (fun e w' => e = .returned (.bool b) ∧ w' = w) ∧ (c.kd = 1 → b = c.over) ∧ (b = false → c.over = false) := pAt_ex _ _ _ (fun _ => ⟨_, fourOver_is sb ty o c rv mp w h.op, fun _ => rfl, fun e => e⟩) (fun q => ⟨_, fourOver_nil _, fun z => absurd z q, fun z => by cases z⟩)
 have c1 : w.cell? ⟨xb, 1, none⟩ = some (.pointer p1) := (h.row.cell 1).trans (congrArg some e1)
 have H1 := Lib.hid h1
 have X1 := Lib.hid (And.intro x1 y1)
 clear e1 h1 x1 y1
 obtain ⟨p2, e2, b2, h2, x2, y2⟩ : ∃ p, pAt c.kd 2 sb = .pointer p ∧ ∃ b, Calls Tryz.prog 69 #[.pointer p] w (fun e w' => e = .returned (.bool b) ∧ w' = w) ∧ (c.kd = 2 → b = c.over) ∧ (b = false → c.over = false) := pAt_ex _ _ _ (fun _ => ⟨_, chenOver_is sb ty o c rv mp w h.op, fun _ => rfl, fun e => e⟩) (fun q => ⟨_, chenOver_nil _, fun z => absurd z q, fun z => by cases z⟩)
 have c2 : w.cell? ⟨xb, 2, none⟩ = some (.pointer p2) := (h.row.cell 2).trans (congrArg some e2)
 have H2 := Lib.hid h2
 have X2 := Lib.hid (And.intro x2 y2)
 clear e2 h2 x2 y2
 obtain ⟨p3, e3, b3, h3, x3, y3⟩ : ∃ p, pAt c.kd 3 sb = .pointer p ∧ ∃ b, Calls Tryz.prog 70 #[.pointer p] w (fun e w' => e = .returned (.bool b) ∧ w' = w) ∧ (c.kd = 3 → b = c.over) ∧ (b = false → c.over = false) := pAt_ex _ _ _ (fun _ => ⟨_, seqOver_is sb ty o c rv mp w h.op, fun _ => rfl, fun e => e⟩) (fun q => ⟨_, seqOver_nil _, fun z => absurd z q, fun z => by cases z⟩)
 have c3 : w.cell? ⟨xb, 3, none⟩ = some (.pointer p3) := (h.row.cell 3).trans (congrArg some e3)
 have H3 := Lib.hid h3
 have X3 := Lib.hid (And.intro x3 y3)
 clear e3 h3 x3 y3
 obtain ⟨p4, e4, b4, h4, x4, y4⟩ : ∃ p, pAt c.kd 4 sb = .pointer p ∧ ∃ b, Calls Tryz.prog 71 #[.pointer p] w (fun e w' => e = .returned (.bool b) ∧ w' = w) ∧ (c.kd = 4 → b = c.over) ∧ (b = false → c.over = false) := pAt_ex _ _ _ (fun _ => ⟨_, ringOver_is sb ty o c rv mp w h.op, fun _ => rfl, fun e => e⟩) (fun q => ⟨_, ringOver_nil _, fun z => absurd z q, fun z => by cases z⟩)
 have c4 : w.cell? ⟨xb, 4, none⟩ = some (.pointer p4) := (h.row.cell 4).trans (congrArg some e4)
 have H4 := Lib.hid h4
 have X4 := Lib.hid (And.intro x4 y4)
 clear e4 h4 x4 y4
 obtain ⟨p5, e5, b5, h5, x5, y5⟩ : ∃ p, pAt c.kd 5 sb = .pointer p ∧ ∃ b, Calls Tryz.prog 72 #[.pointer p] w (fun e w' => e = .returned (.bool b) ∧ w' = w) ∧ (c.kd = 5 → b = c.over) ∧ (b = false → c.over = false) := pAt_ex _ _ _ (fun _ => ⟨_, cabOver_is sb ty o c rv mp w h.op, fun _ => rfl, fun e => e⟩) (fun q => ⟨_, cabOver_nil _, fun z => absurd z q, fun z => by cases z⟩)
 have c5 : w.cell? ⟨xb, 5, none⟩ = some (.pointer p5) := (h.row.cell 5).trans (congrArg some e5)
 have H5 := Lib.hid h5
 have X5 := Lib.hid (And.intro x5 y5)
 clear e5 h5 x5 y5
 obtain ⟨p6, e6, b6, h6, x6, y6⟩ : ∃ p, pAt c.kd 6 sb = .pointer p ∧ ∃ b, Calls Tryz.prog 73 #[.pointer p] w (fun e w' => e = .returned (.bool b) ∧ w' = w) ∧ (c.kd = 6 → b = c.over) ∧ (b = false → c.over = false) := pAt_ex _ _ _ (fun _ => ⟨_, fifoOver_is sb ty o c rv mp w h.op, fun _ => rfl, fun e => e⟩) (fun q => ⟨_, fifoOver_nil _, fun z => absurd z q, fun z => by cases z⟩)
 have c6 : w.cell? ⟨xb, 6, none⟩ = some (.pointer p6) := (h.row.cell 6).trans (congrArg some e6)
 have H6 := Lib.hid h6
 have X6 := Lib.hid (And.intro x6 y6)
 clear e6 h6 x6 y6
 have HKD := Lib.hid hI.sta.kd
 clear h hI
 go_enter Tryz.func20, Tryz.ntmps20
 go_wp2_with fail
 refine H1.out.mono ?_
 rintro e w' ⟨rfl, hw⟩
 subst hw
 cases b1
 ·go_wp2_with fail
  go_ret
  rw [X1.out.2 (by trivial)]
  exact ⟨rfl, rfl⟩
 go_wp2_with fail
 refine H2.out.mono ?_
 rintro e w' ⟨rfl, hw⟩
 subst hw
 cases b2
 ·go_wp2_with fail
  go_ret
  rw [X2.out.2 (by trivial)]
  exact ⟨rfl, rfl⟩
 go_wp2_with fail
 refine H3.out.mono ?_
 rintro e w' ⟨rfl, hw⟩
 subst hw
 cases b3
 ·go_wp2_with fail
  go_ret
  rw [X3.out.2 (by trivial)]
  exact ⟨rfl, rfl⟩
 go_wp2_with fail
 refine H4.out.mono ?_
 rintro e w' ⟨rfl, hw⟩
 subst hw
 cases b4
 ·go_wp2_with fail
  go_ret
  rw [X4.out.2 (by trivial)]
  exact ⟨rfl, rfl⟩
 go_wp2_with fail
 refine H5.out.mono ?_
 rintro e w' ⟨rfl, hw⟩
 subst hw
 cases b5
 ·go_wp2_with fail
  go_ret
  rw [X5.out.2 (by trivial)]
  exact ⟨rfl, rfl⟩
 go_wp2_with fail
 refine H6.out.mono ?_
 rintro e w' ⟨rfl, hw⟩
 subst hw
 cases b6
 ·go_wp2_with fail
  go_ret
  rw [X6.out.2 (by trivial)]
  exact ⟨rfl, rfl⟩
 go_wp2_with fail
 go_ret
 rcases HKD.out with q | q | q | q | q | q
 ·rw [← X1.out.1 q]; exact ⟨rfl, rfl⟩
 ·rw [← X2.out.1 q]; exact ⟨rfl, rfl⟩
 ·rw [← X3.out.1 q]; exact ⟨rfl, rfl⟩
 ·rw [← X4.out.1 q]; exact ⟨rfl, rfl⟩
 ·rw [← X5.out.1 q]; exact ⟨rfl, rfl⟩
 ·rw [← X6.out.1 q]; exact ⟨rfl, rfl⟩
theorem osteps_o (w : World) (h : Oj w xb sb ty o c rv mp) (hI : Kc.Inv c) : Calls Tryz.prog 22 #[.pointer (some ⟨xb, 0, none⟩)] w fun e w' => e = .returned (.int .i64 (c.steps : Int)) ∧ Below w.heap.size w w' := by
 have hst : c.steps ≤ 1000000 := by have := hI.st; omega
 have hbd := (Below.refl w.heap.size w).drew
 have hJ := h.below hbd
 have HB := Lib.hid hbd
 obtain ⟨p1, e1, s1, h1, x1⟩ : ∃ p, pAt c.kd 1 sb = .pointer p ∧ ∃ s : Int, Calls Tryz.prog 75 #[.pointer p] w.drew (fun e w' => e = .returned (.int .i64 s) ∧ w' = w.drew) ∧ ((c.kd = 1 ∧ s = c.steps) ∨ (c.kd ≠ 1 ∧ s = 0)) := pAt_ex _ _ _ (fun q => ⟨_, fourSteps_is sb ty o c rv mp _ hJ.op, .inl ⟨q, rfl⟩⟩) (fun q => ⟨_, fourSteps_nil _, .inr ⟨q, rfl⟩⟩)
 have c1 : w.drew.cell? ⟨xb, 1, none⟩ = some (.pointer p1) := (hJ.row.cell 1).trans (congrArg some e1)
 have H1 := Lib.hid h1
 clear e1 h1
 obtain ⟨p2, e2, s2, h2, x2⟩ : ∃ p, pAt c.kd 2 sb = .pointer p ∧ ∃ s : Int, Calls Tryz.prog 76 #[.pointer p] w.drew (fun e w' => e = .returned (.int .i64 s) ∧ w' = w.drew) ∧ ((c.kd = 2 ∧ s = c.steps) ∨ (c.kd ≠ 2 ∧ s = 0)) := pAt_ex _ _ _ (fun q => ⟨_, chenSteps_is sb ty o c rv mp _ hJ.op, .inl ⟨q, rfl⟩⟩) (fun q => ⟨_, chenSteps_nil _, .inr ⟨q, rfl⟩⟩)
 have c2 : w.drew.cell? ⟨xb, 2, none⟩ = some (.pointer p2) := (hJ.row.cell 2).trans (congrArg some e2)
 have H2 := Lib.hid h2
 clear e2 h2
 obtain ⟨p3, e3, s3, h3, x3⟩ : ∃ p, pAt c.kd 3 sb = .pointer p ∧ ∃ s : Int, Calls Tryz.prog 77 #[.pointer p] w.drew (fun e w' => e = .returned (.int .i64 s) ∧ w' = w.drew) ∧ ((c.kd = 3 ∧ s = c.steps) ∨ (c.kd ≠ 3 ∧ s = 0)) := pAt_ex _ _ _ (fun q => ⟨_, seqSteps_is sb ty o c rv mp _ hJ.op, .inl ⟨q, rfl⟩⟩) (fun q => ⟨_, seqSteps_nil _, .inr ⟨q, rfl⟩⟩)
 have c3 : w.drew.cell? ⟨xb, 3, none⟩ = some (.pointer p3) := (hJ.row.cell 3).trans (congrArg some e3)
 have H3 := Lib.hid h3
 clear e3 h3
 obtain ⟨p4, e4, s4, h4, x4⟩ : ∃ p, pAt c.kd 4 sb = .pointer p ∧ ∃ s : Int, Calls Tryz.prog 78 #[.pointer p] w.drew (fun e w' => e = .returned (.int .i64 s) ∧ w' = w.drew) ∧ ((c.kd = 4 ∧ s = c.steps) ∨ (c.kd ≠ 4 ∧ s = 0)) := pAt_ex _ _ _ (fun q => ⟨_, ringSteps_is sb ty o c rv mp _ hJ.op, .inl ⟨q, rfl⟩⟩) (fun q => ⟨_, ringSteps_nil _, .inr ⟨q, rfl⟩⟩)
 have c4 : w.drew.cell? ⟨xb, 4, none⟩ = some (.pointer p4) := (hJ.row.cell 4).trans (congrArg some e4)
 have H4 := Lib.hid h4
 clear e4 h4
 obtain ⟨p5, e5, s5, h5, x5⟩ : ∃ p, pAt c.kd 5 sb = .pointer p ∧ ∃ s : Int, Calls Tryz.prog 79 #[.pointer p] w.drew (fun e w' => e = .returned (.int .i64 s) ∧ w' = w.drew) ∧ ((c.kd = 5 ∧ s = c.steps) ∨ (c.kd ≠ 5 ∧ s = 0)) := pAt_ex _ _ _ (fun q => ⟨_, cabSteps_is sb ty o c rv mp _ hJ.op, .inl ⟨q, rfl⟩⟩) (fun q => ⟨_, cabSteps_nil _, .inr ⟨q, rfl⟩⟩)
 have c5 : w.drew.cell? ⟨xb, 5, none⟩ = some (.pointer p5) := (hJ.row.cell 5).trans (congrArg some e5)
 have H5 := Lib.hid h5
 clear e5 h5
 obtain ⟨p6, e6, s6, h6, x6⟩ : ∃ p, pAt c.kd 6 sb = .pointer p ∧ ∃ s : Int, Calls Tryz.prog 80 #[.pointer p] w.drew (fun e w' => e = .returned (.int .i64 s) ∧ w' = w.drew) ∧ ((c.kd = 6 ∧ s = c.steps) ∨ (c.kd ≠ 6 ∧ s = 0)) := pAt_ex _ _ _ (fun q => ⟨_, fifoSteps_is sb ty o c rv mp _ hJ.op, .inl ⟨q, rfl⟩⟩) (fun q => ⟨_, fifoSteps_nil _, .inr ⟨q, rfl⟩⟩)
 have c6 : w.drew.cell? ⟨xb, 6, none⟩ = some (.pointer p6) := (hJ.row.cell 6).trans (congrArg some e6)
 have H6 := Lib.hid h6
 clear e6 h6
 have hkd := hI.sta.kd
 have w2 : IntKind.i64.wrap (s1 + s2) = s1 + s2 := sh_wrap (by omega) (by omega)
 have w3 : IntKind.i64.wrap (s1 + s2 + s3) = s1 + s2 + s3 := sh_wrap (by omega) (by omega)
 have w4 : IntKind.i64.wrap (s1 + s2 + s3 + s4) = s1 + s2 + s3 + s4 := sh_wrap (by omega) (by omega)
 have w5 : IntKind.i64.wrap (s1 + s2 + s3 + s4 + s5) = s1 + s2 + s3 + s4 + s5 := sh_wrap (by omega) (by omega)
 have w6 : IntKind.i64.wrap (s1 + s2 + s3 + s4 + s5 + s6) = s1 + s2 + s3 + s4 + s5 + s6 := sh_wrap (by omega) (by omega)
 have hsum : s1 + s2 + s3 + s4 + s5 + s6 = (c.steps : Int) := by omega
 have HSUM := Lib.hid hsum
 clear hsum x1 x2 x3 x4 x5 x6 hkd hst h hJ hbd hI
 go_enter Tryz.func22, Tryz.ntmps22
 go_wp2_with fail
 have hSd : (fun w' : World => w'.cell? ⟨xb, 1, none⟩ = some (.pointer p1) ∧ w'.cell? ⟨xb, 2, none⟩ = some (.pointer p2) ∧ w'.cell? ⟨xb, 3, none⟩ = some (.pointer p3) ∧ w'.cell? ⟨xb, 4, none⟩ = some (.pointer p4) ∧ w'.cell? ⟨xb, 5, none⟩ = some (.pointer p5) ∧ w'.cell? ⟨xb, 6, none⟩ = some (.pointer p6)) w.drew := ⟨c1, c2, c3, c4, c5, c6⟩
 refine wp_region_held_drew (S := (fun w' : World => w'.cell? ⟨xb, 1, none⟩ = some (.pointer p1) ∧ w'.cell? ⟨xb, 2, none⟩ = some (.pointer p2) ∧ w'.cell? ⟨xb, 3, none⟩ = some (.pointer p3) ∧ w'.cell? ⟨xb, 4, none⟩ = some (.pointer p4) ∧ w'.cell? ⟨xb, 5, none⟩ = some (.pointer p5) ∧ w'.cell? ⟨xb, 6, none⟩ = some (.pointer p6))) (by kernel_rfl) hSd (fun hHeld => ?_)
 clear hSd
 generalize w.drew = wd at hHeld H1 H2 H3 H4 H5 H6 HB ⊢
 have hHeld : (fun w' : World => w'.cell? ⟨xb, 1, none⟩ = some (.pointer p1) ∧ w'.cell? ⟨xb, 2, none⟩ = some (.pointer p2) ∧ w'.cell? ⟨xb, 3, none⟩ = some (.pointer p3) ∧ w'.cell? ⟨xb, 4, none⟩ = some (.pointer p4) ∧ w'.cell? ⟨xb, 5, none⟩ = some (.pointer p5) ∧ w'.cell? ⟨xb, 6, none⟩ = some (.pointer p6)) wd := hHeld
 refine tk4 0 1 2 3 ?_
 refine tk4 5 6 7 8 ?_
 refine tk4 11 12 13 14 ?_
 refine tk4 17 18 19 20 ?_
 refine tk4 23 24 25 26 ?_
 refine tk4 29 30 31 32 ?_
 refine clH 4 (fun K hK => ?_)
 go_simp
 go_at_call 75
 refine H1.out.mono ?_
 rintro ex wx ⟨rfl, hwx⟩
 subst hwx
 have hSx : (fun w' : World => w'.cell? ⟨xb, 1, none⟩ = some (.pointer p1) ∧ w'.cell? ⟨xb, 2, none⟩ = some (.pointer p2) ∧ w'.cell? ⟨xb, 3, none⟩ = some (.pointer p3) ∧ w'.cell? ⟨xb, 4, none⟩ = some (.pointer p4) ∧ w'.cell? ⟨xb, 5, none⟩ = some (.pointer p5) ∧ w'.cell? ⟨xb, 6, none⟩ = some (.pointer p6)) _ := hHeld
 refine kH hK hSx fun hHeld => ?_
 clear hK K
 refine clH 9 (fun K hK => ?_)
 go_simp
 go_at_call 76
 refine H2.out.mono ?_
 rintro ex wx ⟨rfl, hwx⟩
 subst hwx
 have hSx : (fun w' : World => w'.cell? ⟨xb, 1, none⟩ = some (.pointer p1) ∧ w'.cell? ⟨xb, 2, none⟩ = some (.pointer p2) ∧ w'.cell? ⟨xb, 3, none⟩ = some (.pointer p3) ∧ w'.cell? ⟨xb, 4, none⟩ = some (.pointer p4) ∧ w'.cell? ⟨xb, 5, none⟩ = some (.pointer p5) ∧ w'.cell? ⟨xb, 6, none⟩ = some (.pointer p6)) _ := hHeld
 refine kH hK hSx fun hHeld => ?_
 clear hK K
 refine tkH 10 ?_
 refine clH 15 (fun K hK => ?_)
 go_simp
 go_at_call 77
 refine H3.out.mono ?_
 rintro ex wx ⟨rfl, hwx⟩
 subst hwx
 have hSx : (fun w' : World => w'.cell? ⟨xb, 1, none⟩ = some (.pointer p1) ∧ w'.cell? ⟨xb, 2, none⟩ = some (.pointer p2) ∧ w'.cell? ⟨xb, 3, none⟩ = some (.pointer p3) ∧ w'.cell? ⟨xb, 4, none⟩ = some (.pointer p4) ∧ w'.cell? ⟨xb, 5, none⟩ = some (.pointer p5) ∧ w'.cell? ⟨xb, 6, none⟩ = some (.pointer p6)) _ := hHeld
 refine kH hK hSx fun hHeld => ?_
 clear hK K
 refine tkH 16 ?_
 refine clH 21 (fun K hK => ?_)
 go_simp
 go_at_call 78
 refine H4.out.mono ?_
 rintro ex wx ⟨rfl, hwx⟩
 subst hwx
 have hSx : (fun w' : World => w'.cell? ⟨xb, 1, none⟩ = some (.pointer p1) ∧ w'.cell? ⟨xb, 2, none⟩ = some (.pointer p2) ∧ w'.cell? ⟨xb, 3, none⟩ = some (.pointer p3) ∧ w'.cell? ⟨xb, 4, none⟩ = some (.pointer p4) ∧ w'.cell? ⟨xb, 5, none⟩ = some (.pointer p5) ∧ w'.cell? ⟨xb, 6, none⟩ = some (.pointer p6)) _ := hHeld
 refine kH hK hSx fun hHeld => ?_
 clear hK K
 refine tkH 22 ?_
 refine clH 27 (fun K hK => ?_)
 go_simp
 go_at_call 79
 refine H5.out.mono ?_
 rintro ex wx ⟨rfl, hwx⟩
 subst hwx
 have hSx : (fun w' : World => w'.cell? ⟨xb, 1, none⟩ = some (.pointer p1) ∧ w'.cell? ⟨xb, 2, none⟩ = some (.pointer p2) ∧ w'.cell? ⟨xb, 3, none⟩ = some (.pointer p3) ∧ w'.cell? ⟨xb, 4, none⟩ = some (.pointer p4) ∧ w'.cell? ⟨xb, 5, none⟩ = some (.pointer p5) ∧ w'.cell? ⟨xb, 6, none⟩ = some (.pointer p6)) _ := hHeld
 refine kH hK hSx fun hHeld => ?_
 clear hK K
 refine tkH 28 ?_
 refine clH 33 (fun K hK => ?_)
 go_simp
 go_at_call 80
 refine H6.out.mono ?_
 rintro ex wx ⟨rfl, hwx⟩
 subst hwx
 have hSx : (fun w' : World => w'.cell? ⟨xb, 1, none⟩ = some (.pointer p1) ∧ w'.cell? ⟨xb, 2, none⟩ = some (.pointer p2) ∧ w'.cell? ⟨xb, 3, none⟩ = some (.pointer p3) ∧ w'.cell? ⟨xb, 4, none⟩ = some (.pointer p4) ∧ w'.cell? ⟨xb, 5, none⟩ = some (.pointer p5) ∧ w'.cell? ⟨xb, 6, none⟩ = some (.pointer p6)) _ := hHeld
 refine kH hK hSx fun hHeld => ?_
 clear hK K
 refine tk2 34 35 ?_
 refine wpAnyH_done (by kernel_rfl) ?_ _
 clear hHeld
 go_wp2_with fail
 go_ret
 rw [← HSUM.out]
 exact ⟨rfl, HB.out⟩
end
theorem onil_Over (w : World) : Calls Tryz.prog 20 #[.pointer none] w fun e w' => e = .returned (.bool true) ∧ w' = w := by
 go_enter Tryz.func20, Tryz.ntmps20
 go_wp2_with fail
 go_ret
 exact ⟨rfl, rfl⟩
theorem onil_Steps (w : World) : Calls Tryz.prog 22 #[.pointer none] w fun e w' => e = .returned (.int .i64 0) ∧ w' = w := by
 go_enter Tryz.func22, Tryz.ntmps22
 go_wp2_with fail
 go_ret
 exact ⟨rfl, rfl⟩
theorem onil_Answer (w : World) : Calls Tryz.prog 24 #[.pointer none] w fun e w' => e = .returned (.tuple #[.slice none 0 0, .int .i64 0]) ∧ w' = w := by
 go_enter Tryz.func24, Tryz.ntmps24
 go_wp2_with fail
 go_ret2
 exact ⟨rfl, rfl⟩
theorem onil_Step (w : World) : Calls Tryz.prog 17 #[.pointer none, .pointer none] w fun e w' => e = .returned (.bool false) ∧ w' = w := by
 go_enter Tryz.func17, Tryz.ntmps17
 go_wp2_with fail
 go_ret
 exact ⟨rfl, rfl⟩
theorem onil_Clone (w : World) : Calls Tryz.prog 25 #[.pointer none] w fun e w' => e = .returned (.pointer none) ∧ w' = w := by
 go_enter Tryz.func25, Tryz.ntmps25
 go_wp2_with fail
 go_ret
 exact ⟨rfl, rfl⟩
end Go.Proofs.YtgjcniokgdicpaaGreatDoor
