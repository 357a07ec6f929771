/- An operation of any kind: what it tells. -/
import Derived.Test.YtgjcniokgdicpaaGreatDoorOgN
namespace Go.Proofs.YtgjcniokgdicpaaGreatDoor
open Go.RowKit
attribute [local go_sem] Oper.semAt_some

set_option maxRecDepth 100000 in
set_option maxHeartbeats 400000 in
theorem clone_w (A : Option Addr) (c : Nat) (l : List Int) (w : World) (hn : l.length ≤ 1000000) (hl : Ws w w.heap.size A l) :
    Calls Tryz.prog 154 #[.slice A l.length c] w fun e w' => ∃ v, e = .returned v ∧ OwnW w.heap.size w' v l ∧ Below w.heap.size w w' := by
  obtain ⟨i0, z, hi, hz, h1, h2, h3, h4⟩ := u32Ty.hi
  cases A with
  | none =>
    have h0 : l = [] := by
      cases l with
      | nil => rfl
      | cons x l => obtain ⟨_, _, h, _⟩ := hl.1 0 x rfl; cases h
    subst h0
    have hn := fun W => Lib.run_eql_slice_nil (P := Tryz.prog) W 33 32 none 0 c 0 0 Tryz.underlying33
    clear hl
    simp only [List.length_nil]
    go_enter Tryz.func154, Tryz.ntmps154
    go_wp2_with fail
    go_ret
    exact ⟨_, rfl, ⟨Own.nil _ _, by simp⟩, Below.refl _ _⟩
  | some a =>
    have hc : ∀ (j : Nat) u, ((ints .u32).all l)[j]? = some u → w.cell? (a.add j) = some u := by
      intro j u hu
      have hall : (ints .u32).all l = l.map (Value.int .u32) := of1_all _ _ l
      rw [hall, List.getElem?_map] at hu
      obtain ⟨z, hz, rfl⟩ := Option.map_eq_some_iff.1 hu
      obtain ⟨_, b', off', hA, _, hcell⟩ := hl.get hz
      injection hA with hA
      subst hA
      rw [Addr.add_lit]
      exact hcell
    have hlw := Lib.hid hl.2
    clear hl
    have hnew := World.ownsRow_lit (base := w.heap.size) (e := 32) (size := 1) w #[] 0 (Nat.le_refl _) (by simp [maxLen]) rfl
    have hlt : ∀ (j : Nat) u, ((ints .u32).all l)[j]? = some u → (w.alloc (.cells #[] 32)).cell? (a.add j) = some u := fun j u hu => by
      have h := hc j u hu
      rw [World.cell?_alloc_lt w _ _ (cell_lt h)]
      exact h
    have hlt' := Lib.hid hlt
    have hnew' := Lib.hid hnew
    have hE := fun w => Lib.run_eql_slice_nil (P := Tryz.prog) w 33 32 (some a) l.length c 0 0 Tryz.underlying33
    clear hc hlt hnew
    go_enter Tryz.func154, Tryz.ntmps154
    go_wp2_with (first
      | (at_builtin; refine wpList_append_own_at _ rfl _ _ 33 rfl w.heap.size 32 i0 z 1 4 Tryz.underlying33 hi hz h1 h2 h3 h4 _ 0 [] rfl hnew'.out a l.length c ((ints .u32).all l) rfl (by rw [Enc.all_len]; rfl) hlt'.out ((ints .u32).all_one l) (by unfold maxLen; omega) (by omega) (by simp) ?_; intro v' w1 hown1 hgrow1 _ _)
      | go_in)
    go_ret
    refine ⟨_, rfl, ⟨by simpa [Own, ints, Enc.of1] using hown1, hlw.out⟩, ((Below.refl _ w).alloc (Nat.le_refl _) _).trans (grown_below hnew'.out hgrow1 (Nat.le_refl _) (by simp))⟩


theorem own_ws {w : World} {B n c : Nat} {A : Option Addr} {l : List Int} (h : Own (ints .u32) 32 B w (.slice A n c) l) (hw : W32 l) : n = l.length ∧ Ws w w.heap.size A l := by
  obtain ⟨A', c', hv, _, _, hsl⟩ := h.sl
  injection hv with h1 h2 h3
  subst h1 h2 h3
  exact ⟨rfl, hsl, hw.wf⟩
section
variable (sb : Nat) (ty : TypeId) (o : Ob) (c : Kc) (rv mp : Value)
def Kc.sc (c : Kc) : Int := if c.over then c.code else 0
def Kc.sr (c : Kc) : List Int := if c.over then c.rc else []
def Says (c : Kc) (w : World) (e : Ending) (w' : World) : Prop := ∃ v, e = .returned (.tuple #[v, .int .i64 c.sc]) ∧ OwnW w.heap.size w' v c.sr ∧ Below w.heap.size w w'
set_option maxRecDepth 100000 in
set_option maxHeartbeats 1000000 in
theorem told_o (w : World) (h : OpS w sb ty o c rv mp) (hl : c.rc.length ≤ 1000000) : Calls Tryz.prog 144 #[.pointer (some ⟨sb, 0, none⟩)] w (Says c w) := by
  obtain ⟨u, hu, hr⟩ := h.row
  have c22 : w.cell? ⟨sb, 22, none⟩ = some (.bool c.over) := (hr.cell 22).trans rfl
  have hbd := (Below.refl w.heap.size w).drew
  have hd := h.belo hbd
  obtain ⟨u1, hu1, hr1⟩ := hd.row
  cases ho : c.over
  · rw [ho] at c22
    clear hr hr1 hu hu1 h hd hbd
    go_enter Tryz.func144, Tryz.ntmps144
    go_wp2_with fail
    go_ret2
    exact ⟨.slice none 0 0, (by unfold Kc.sc; rw [ho]; rfl), (by unfold Kc.sr; rw [ho]; exact ⟨Own.nil _ _, by simp⟩), Below.refl _ _⟩
  · rw [ho] at c22
    obtain ⟨A, M, cc, hv⟩ : ∃ A M cc, rv = .slice A M cc := own_slice h.rc
    have c16 : w.drew.cell? ⟨sb, 16, none⟩ = some (.slice A M cc) := (hr1.cell 16).trans (by rw [← hv]; rfl)
    have c20 : w.drew.cell? ⟨sb, 20, none⟩ = some (.int .i64 c.code) := (hr1.cell 20).trans rfl
    have hrc := hd.rc
    rw [hv] at hrc
    obtain ⟨hM, hws⟩ := own_ws hrc hd.w32
    subst hM
    have HCL := Lib.hid (clone_w A cc c.rc w.drew hl hws)
    have HB := Lib.hid hbd
    have HOV := Lib.hid ho
    clear hr hr1 hu hu1 h hd hbd hrc hws hl ho hv
    go_enter Tryz.func144, Tryz.ntmps144
    go_wp2_with fail
    have hSd : (fun w' : World => w'.cell? ⟨sb, 16, none⟩ = some (.slice A c.rc.length cc) ∧ w'.cell? ⟨sb, 20, none⟩ = some (.int .i64 c.code)) w.drew := ⟨c16, c20⟩
    refine wp_region_held_drew (S := (fun w' : World => w'.cell? ⟨sb, 16, none⟩ = some (.slice A c.rc.length cc) ∧ w'.cell? ⟨sb, 20, none⟩ = some (.int .i64 c.code))) (by kernel_rfl) hSd (fun hHeld => ?_)
    clear hSd
    generalize w.drew = wd at hHeld HCL HB ⊢
    have hHeld : (fun w' : World => w'.cell? ⟨sb, 16, none⟩ = some (.slice A c.rc.length cc) ∧ w'.cell? ⟨sb, 20, none⟩ = some (.int .i64 c.code)) wd := hHeld
    refine tkH 0 ?_
    refine tkH 1 ?_
    refine tkH 2 ?_
    refine tkH 3 ?_
    refine tkH 5 ?_
    refine tkH 6 ?_
    refine tkH 7 ?_
    refine tkH 8 ?_
    refine clH 4 (fun K hK => ?_)
    go_simp
    go_at_call 154
    refine HCL.out.mono ?_
    rintro ex wx ⟨v, rfl, hov, hbx⟩
    have hSx : (fun w' : World => w'.cell? ⟨sb, 16, none⟩ = some (.slice A c.rc.length cc) ∧ w'.cell? ⟨sb, 20, none⟩ = some (.int .i64 c.code)) wx := ⟨(hbx.cell (p := ⟨sb, 16, none⟩) (cell_lt hHeld.1)).trans hHeld.1, (hbx.cell (p := ⟨sb, 20, none⟩) (cell_lt hHeld.2)).trans hHeld.2⟩
    have HV := Lib.hid hov
    have HBX := Lib.hid (HB.out.trans (hbx.mono HB.out.size))
    refine hK.out _ _ hSx (fun hHeld => ?_)
    clear hK K
    try first | simp only [pS, List.set] | simp only [pN]
    refine tkH 9 ?_
    refine tkH 10 ?_
    refine wpAnyH_done (by kernel_rfl) ?_ _
    clear hHeld hSx hov hbx
    go_wp2_with fail
    go_ret2
    exact ⟨v, (by unfold Kc.sc; rw [HOV.out]; rfl), (by unfold Kc.sr; rw [HOV.out, if_pos rfl]; exact ⟨HV.out.1.mono HB.out.size, HV.out.2⟩), HBX.out⟩
set_option maxRecDepth 100000 in
set_option maxHeartbeats 1000000 in
theorem ended_o (w : World) (h : OpS w sb ty o c rv mp) : Calls Tryz.prog 141 #[.pointer (some ⟨sb, 0, none⟩)] w fun e w' => e = .returned (.bool c.over) ∧ w' = w := by
  obtain ⟨u, hu, hr⟩ := h.row
  have c22 : w.cell? ⟨sb, 22, none⟩ = some (.bool c.over) := (hr.cell 22).trans rfl
  clear hr hu h
  go_enter Tryz.func141, Tryz.ntmps141
  go_wp2_with fail
  go_ret
  exact ⟨rfl, rfl⟩
set_option maxRecDepth 100000 in
set_option maxHeartbeats 1000000 in
theorem made_o (w : World) (h : OpS w sb ty o c rv mp) : Calls Tryz.prog 143 #[.pointer (some ⟨sb, 0, none⟩)] w fun e w' => e = .returned (.int .i64 (c.steps : Int)) ∧ w' = w := by
  obtain ⟨u, hu, hr⟩ := h.row
  have c21 : w.cell? ⟨sb, 21, none⟩ = some (.int .i64 (c.steps : Int)) := (hr.cell 21).trans rfl
  clear hr hu h
  go_enter Tryz.func143, Tryz.ntmps143
  go_wp2_with fail
  go_ret
  exact ⟨rfl, rfl⟩
set_option maxRecDepth 100000 in
set_option maxHeartbeats 1000000 in
theorem fourOver_is (w : World) (h : OpS w sb ty o c rv mp) : Calls Tryz.prog 68 #[.pointer (some ⟨sb, 0, none⟩)] w fun e w' => e = .returned (.bool c.over) ∧ w' = w := by
  have HE := Lib.hid (ended_o sb ty o c rv mp w h)
  clear h
  go_enter Tryz.func68, Tryz.ntmps68
  go_wp2_with fail
  refine HE.out.mono ?_
  rintro e w1 ⟨rfl, rfl⟩
  go_wp2_with fail
  go_ret
  exact ⟨rfl, rfl⟩
theorem fourOver_nil (w : World) : Calls Tryz.prog 68 #[.pointer none] w fun e w' => e = .returned (.bool true) ∧ w' = w := by
  go_enter Tryz.func68, Tryz.ntmps68
  go_wp2_with fail
  go_ret
  exact ⟨rfl, rfl⟩
set_option maxRecDepth 100000 in
set_option maxHeartbeats 1000000 in
theorem fourSteps_is (w : World) (h : OpS w sb ty o c rv mp) : Calls Tryz.prog 75 #[.pointer (some ⟨sb, 0, none⟩)] w fun e w' => e = .returned (.int .i64 (c.steps : Int)) ∧ w' = w := by
  have HE := Lib.hid (made_o sb ty o c rv mp w h)
  clear h
  go_enter Tryz.func75, Tryz.ntmps75
  go_wp2_with fail
  refine HE.out.mono ?_
  rintro e w1 ⟨rfl, rfl⟩
  go_wp2_with fail
  go_ret
  exact ⟨rfl, rfl⟩
theorem fourSteps_nil (w : World) : Calls Tryz.prog 75 #[.pointer none] w fun e w' => e = .returned (.int .i64 0) ∧ w' = w := by
  go_enter Tryz.func75, Tryz.ntmps75
  go_wp2_with fail
  go_ret
  exact ⟨rfl, rfl⟩
set_option maxRecDepth 100000 in
set_option maxHeartbeats 1000000 in
theorem fourAnswer_is (w : World) (h : OpS w sb ty o c rv mp) (hl : c.rc.length ≤ 1000000) : Calls Tryz.prog 81 #[.pointer (some ⟨sb, 0, none⟩)] w (Says c w) := by
  have HE := Lib.hid (told_o sb ty o c rv mp w h hl)
  clear h hl
  go_enter Tryz.func81, Tryz.ntmps81
  go_wp2_with fail
  refine HE.out.mono ?_
  rintro e w1 ⟨v, rfl, hv, hb⟩
  have HV := Lib.hid (And.intro hv hb)
  clear hv hb
  go_wp2_with fail
  go_ret2
  exact ⟨v, rfl, HV.out⟩
set_option maxRecDepth 100000 in
set_option maxHeartbeats 1000000 in
theorem chenOver_is (w : World) (h : OpS w sb ty o c rv mp) : Calls Tryz.prog 69 #[.pointer (some ⟨sb, 0, none⟩)] w fun e w' => e = .returned (.bool c.over) ∧ w' = w := by
  have HE := Lib.hid (ended_o sb ty o c rv mp w h)
  clear h
  go_enter Tryz.func69, Tryz.ntmps69
  go_wp2_with fail
  refine HE.out.mono ?_
  rintro e w1 ⟨rfl, rfl⟩
  go_wp2_with fail
  go_ret
  exact ⟨rfl, rfl⟩
theorem chenOver_nil (w : World) : Calls Tryz.prog 69 #[.pointer none] w fun e w' => e = .returned (.bool true) ∧ w' = w := by
  go_enter Tryz.func69, Tryz.ntmps69
  go_wp2_with fail
  go_ret
  exact ⟨rfl, rfl⟩
set_option maxRecDepth 100000 in
set_option maxHeartbeats 1000000 in
theorem chenSteps_is (w : World) (h : OpS w sb ty o c rv mp) : Calls Tryz.prog 76 #[.pointer (some ⟨sb, 0, none⟩)] w fun e w' => e = .returned (.int .i64 (c.steps : Int)) ∧ w' = w := by
  have HE := Lib.hid (made_o sb ty o c rv mp w h)
  clear h
  go_enter Tryz.func76, Tryz.ntmps76
  go_wp2_with fail
  refine HE.out.mono ?_
  rintro e w1 ⟨rfl, rfl⟩
  go_wp2_with fail
  go_ret
  exact ⟨rfl, rfl⟩
theorem chenSteps_nil (w : World) : Calls Tryz.prog 76 #[.pointer none] w fun e w' => e = .returned (.int .i64 0) ∧ w' = w := by
  go_enter Tryz.func76, Tryz.ntmps76
  go_wp2_with fail
  go_ret
  exact ⟨rfl, rfl⟩
set_option maxRecDepth 100000 in
set_option maxHeartbeats 1000000 in
theorem chenAnswer_is (w : World) (h : OpS w sb ty o c rv mp) (hl : c.rc.length ≤ 1000000) : Calls Tryz.prog 82 #[.pointer (some ⟨sb, 0, none⟩)] w (Says c w) := by
  have HE := Lib.hid (told_o sb ty o c rv mp w h hl)
  clear h hl
  go_enter Tryz.func82, Tryz.ntmps82
  go_wp2_with fail
  refine HE.out.mono ?_
  rintro e w1 ⟨v, rfl, hv, hb⟩
  have HV := Lib.hid (And.intro hv hb)
  clear hv hb
  go_wp2_with fail
  go_ret2
  exact ⟨v, rfl, HV.out⟩
set_option maxRecDepth 100000 in
set_option maxHeartbeats 1000000 in
theorem seqOver_is (w : World) (h : OpS w sb ty o c rv mp) : Calls Tryz.prog 70 #[.pointer (some ⟨sb, 0, none⟩)] w fun e w' => e = .returned (.bool c.over) ∧ w' = w := by
  have HE := Lib.hid (ended_o sb ty o c rv mp w h)
  clear h
  go_enter Tryz.func70, Tryz.ntmps70
  go_wp2_with fail
  refine HE.out.mono ?_
  rintro e w1 ⟨rfl, rfl⟩
  go_wp2_with fail
  go_ret
  exact ⟨rfl, rfl⟩
theorem seqOver_nil (w : World) : Calls Tryz.prog 70 #[.pointer none] w fun e w' => e = .returned (.bool true) ∧ w' = w := by
  go_enter Tryz.func70, Tryz.ntmps70
  go_wp2_with fail
  go_ret
  exact ⟨rfl, rfl⟩
set_option maxRecDepth 100000 in
set_option maxHeartbeats 1000000 in
theorem seqSteps_is (w : World) (h : OpS w sb ty o c rv mp) : Calls Tryz.prog 77 #[.pointer (some ⟨sb, 0, none⟩)] w fun e w' => e = .returned (.int .i64 (c.steps : Int)) ∧ w' = w := by
  have HE := Lib.hid (made_o sb ty o c rv mp w h)
  clear h
  go_enter Tryz.func77, Tryz.ntmps77
  go_wp2_with fail
  refine HE.out.mono ?_
  rintro e w1 ⟨rfl, rfl⟩
  go_wp2_with fail
  go_ret
  exact ⟨rfl, rfl⟩
theorem seqSteps_nil (w : World) : Calls Tryz.prog 77 #[.pointer none] w fun e w' => e = .returned (.int .i64 0) ∧ w' = w := by
  go_enter Tryz.func77, Tryz.ntmps77
  go_wp2_with fail
  go_ret
  exact ⟨rfl, rfl⟩
set_option maxRecDepth 100000 in
set_option maxHeartbeats 1000000 in
theorem seqAnswer_is (w : World) (h : OpS w sb ty o c rv mp) (hl : c.rc.length ≤ 1000000) : Calls Tryz.prog 83 #[.pointer (some ⟨sb, 0, none⟩)] w (Says c w) := by
  have HE := Lib.hid (told_o sb ty o c rv mp w h hl)
  clear h hl
  go_enter Tryz.func83, Tryz.ntmps83
  go_wp2_with fail
  refine HE.out.mono ?_
  rintro e w1 ⟨v, rfl, hv, hb⟩
  have HV := Lib.hid (And.intro hv hb)
  clear hv hb
  go_wp2_with fail
  go_ret2
  exact ⟨v, rfl, HV.out⟩
set_option maxRecDepth 100000 in
set_option maxHeartbeats 1000000 in
theorem ringOver_is (w : World) (h : OpS w sb ty o c rv mp) : Calls Tryz.prog 71 #[.pointer (some ⟨sb, 0, none⟩)] w fun e w' => e = .returned (.bool c.over) ∧ w' = w := by
  have HE := Lib.hid (ended_o sb ty o c rv mp w h)
  clear h
  go_enter Tryz.func71, Tryz.ntmps71
  go_wp2_with fail
  refine HE.out.mono ?_
  rintro e w1 ⟨rfl, rfl⟩
  go_wp2_with fail
  go_ret
  exact ⟨rfl, rfl⟩
theorem ringOver_nil (w : World) : Calls Tryz.prog 71 #[.pointer none] w fun e w' => e = .returned (.bool true) ∧ w' = w := by
  go_enter Tryz.func71, Tryz.ntmps71
  go_wp2_with fail
  go_ret
  exact ⟨rfl, rfl⟩
set_option maxRecDepth 100000 in
set_option maxHeartbeats 1000000 in
theorem ringSteps_is (w : World) (h : OpS w sb ty o c rv mp) : Calls Tryz.prog 78 #[.pointer (some ⟨sb, 0, none⟩)] w fun e w' => e = .returned (.int .i64 (c.steps : Int)) ∧ w' = w := by
  have HE := Lib.hid (made_o sb ty o c rv mp w h)
  clear h
  go_enter Tryz.func78, Tryz.ntmps78
  go_wp2_with fail
  refine HE.out.mono ?_
  rintro e w1 ⟨rfl, rfl⟩
  go_wp2_with fail
  go_ret
  exact ⟨rfl, rfl⟩
theorem ringSteps_nil (w : World) : Calls Tryz.prog 78 #[.pointer none] w fun e w' => e = .returned (.int .i64 0) ∧ w' = w := by
  go_enter Tryz.func78, Tryz.ntmps78
  go_wp2_with fail
  go_ret
  exact ⟨rfl, rfl⟩
set_option maxRecDepth 100000 in
set_option maxHeartbeats 1000000 in
theorem ringAnswer_is (w : World) (h : OpS w sb ty o c rv mp) (hl : c.rc.length ≤ 1000000) : Calls Tryz.prog 84 #[.pointer (some ⟨sb, 0, none⟩)] w (Says c w) := by
  have HE := Lib.hid (told_o sb ty o c rv mp w h hl)
  clear h hl
  go_enter Tryz.func84, Tryz.ntmps84
  go_wp2_with fail
  refine HE.out.mono ?_
  rintro e w1 ⟨v, rfl, hv, hb⟩
  have HV := Lib.hid (And.intro hv hb)
  clear hv hb
  go_wp2_with fail
  go_ret2
  exact ⟨v, rfl, HV.out⟩
set_option maxRecDepth 100000 in
set_option maxHeartbeats 1000000 in
theorem cabOver_is (w : World) (h : OpS w sb ty o c rv mp) : Calls Tryz.prog 72 #[.pointer (some ⟨sb, 0, none⟩)] w fun e w' => e = .returned (.bool c.over) ∧ w' = w := by
  have HE := Lib.hid (ended_o sb ty o c rv mp w h)
  clear h
  go_enter Tryz.func72, Tryz.ntmps72
  go_wp2_with fail
  refine HE.out.mono ?_
  rintro e w1 ⟨rfl, rfl⟩
  go_wp2_with fail
  go_ret
  exact ⟨rfl, rfl⟩
theorem cabOver_nil (w : World) : Calls Tryz.prog 72 #[.pointer none] w fun e w' => e = .returned (.bool true) ∧ w' = w := by
  go_enter Tryz.func72, Tryz.ntmps72
  go_wp2_with fail
  go_ret
  exact ⟨rfl, rfl⟩
set_option maxRecDepth 100000 in
set_option maxHeartbeats 1000000 in
theorem cabSteps_is (w : World) (h : OpS w sb ty o c rv mp) : Calls Tryz.prog 79 #[.pointer (some ⟨sb, 0, none⟩)] w fun e w' => e = .returned (.int .i64 (c.steps : Int)) ∧ w' = w := by
  have HE := Lib.hid (made_o sb ty o c rv mp w h)
  clear h
  go_enter Tryz.func79, Tryz.ntmps79
  go_wp2_with fail
  refine HE.out.mono ?_
  rintro e w1 ⟨rfl, rfl⟩
  go_wp2_with fail
  go_ret
  exact ⟨rfl, rfl⟩
theorem cabSteps_nil (w : World) : Calls Tryz.prog 79 #[.pointer none] w fun e w' => e = .returned (.int .i64 0) ∧ w' = w := by
  go_enter Tryz.func79, Tryz.ntmps79
  go_wp2_with fail
  go_ret
  exact ⟨rfl, rfl⟩
set_option maxRecDepth 100000 in
set_option maxHeartbeats 1000000 in
theorem cabAnswer_is (w : World) (h : OpS w sb ty o c rv mp) (hl : c.rc.length ≤ 1000000) : Calls Tryz.prog 85 #[.pointer (some ⟨sb, 0, none⟩)] w (Says c w) := by
  have HE := Lib.hid (told_o sb ty o c rv mp w h hl)
  clear h hl
  go_enter Tryz.func85, Tryz.ntmps85
  go_wp2_with fail
  refine HE.out.mono ?_
  rintro e w1 ⟨v, rfl, hv, hb⟩
  have HV := Lib.hid (And.intro hv hb)
  clear hv hb
  go_wp2_with fail
  go_ret2
  exact ⟨v, rfl, HV.out⟩
set_option maxRecDepth 100000 in
set_option maxHeartbeats 1000000 in
theorem fifoOver_is (w : World) (h : OpS w sb ty o c rv mp) : Calls Tryz.prog 73 #[.pointer (some ⟨sb, 0, none⟩)] w fun e w' => e = .returned (.bool c.over) ∧ w' = w := by
  have HE := Lib.hid (ended_o sb ty o c rv mp w h)
  clear h
  go_enter Tryz.func73, Tryz.ntmps73
  go_wp2_with fail
  refine HE.out.mono ?_
  rintro e w1 ⟨rfl, rfl⟩
  go_wp2_with fail
  go_ret
  exact ⟨rfl, rfl⟩
theorem fifoOver_nil (w : World) : Calls Tryz.prog 73 #[.pointer none] w fun e w' => e = .returned (.bool true) ∧ w' = w := by
  go_enter Tryz.func73, Tryz.ntmps73
  go_wp2_with fail
  go_ret
  exact ⟨rfl, rfl⟩
set_option maxRecDepth 100000 in
set_option maxHeartbeats 1000000 in
theorem fifoSteps_is (w : World) (h : OpS w sb ty o c rv mp) : Calls Tryz.prog 80 #[.pointer (some ⟨sb, 0, none⟩)] w fun e w' => e = .returned (.int .i64 (c.steps : Int)) ∧ w' = w := by
  have HE := Lib.hid (made_o sb ty o c rv mp w h)
  clear h
  go_enter Tryz.func80, Tryz.ntmps80
  go_wp2_with fail
  refine HE.out.mono ?_
  rintro e w1 ⟨rfl, rfl⟩
  go_wp2_with fail
  go_ret
  exact ⟨rfl, rfl⟩
theorem fifoSteps_nil (w : World) : Calls Tryz.prog 80 #[.pointer none] w fun e w' => e = .returned (.int .i64 0) ∧ w' = w := by
  go_enter Tryz.func80, Tryz.ntmps80
  go_wp2_with fail
  go_ret
  exact ⟨rfl, rfl⟩
set_option maxRecDepth 100000 in
set_option maxHeartbeats 1000000 in
theorem fifoAnswer_is (w : World) (h : OpS w sb ty o c rv mp) (hl : c.rc.length ≤ 1000000) : Calls Tryz.prog 86 #[.pointer (some ⟨sb, 0, none⟩)] w (Says c w) := by
  have HE := Lib.hid (told_o sb ty o c rv mp w h hl)
  clear h hl
  go_enter Tryz.func86, Tryz.ntmps86
  go_wp2_with fail
  refine HE.out.mono ?_
  rintro e w1 ⟨v, rfl, hv, hb⟩
  have HV := Lib.hid (And.intro hv hb)
  clear hv hb
  go_wp2_with fail
  go_ret2
  exact ⟨v, rfl, HV.out⟩
end

end Go.Proofs.YtgjcniokgdicpaaGreatDoor
