/- LinfifoFollows: what is taken follows what was put. -/
import Derived.Test.YtgmmblknaeepbaaZlY
namespace Go.Proofs.Ytgmmblknaeepbaa
open Go.RowKit
attribute [local go_sem] Oper.semAt_some

/-! ### what was taken, as a beginning -/
theorem pre_at {T : List Cl} {I : List (List Int)} (h : takenI T <+: I) {k : Nat} {x : Cl} (hx : T[k]? = some x) (hg : gdc x = true) : I[(takenI (T.take k)).length]? = some x.r := by
  have h1 := taken_yes hx hg
  have h2 : takenI (T.take (k + 1)) <+: takenI T := by
    unfold takenI
    exact ((List.take_prefix _ _).filter _).map _
  rw [h1] at h2
  obtain ⟨t, ht⟩ := h2.trans h
  rw [← ht]
  simp
theorem pre_no {T : List Cl} {I : List (List Int)} {k : Nat} {x : Cl} (hx : T[k]? = some x) (hg : gdc x = true) (h : I[(takenI (T.take k)).length]? ≠ some x.r) : (takenI T).isPrefixOf I = false := by
  cases e : (takenI T).isPrefixOf I with
  | false => rfl
  | true => exact absurd (pre_at (List.isPrefixOf_iff_prefix.1 e) hx hg) h
theorem pre_yes {T : List Cl} {I : List (List Int)} (h : takenI T = I.take (takenI T).length) : (takenI T).isPrefixOf I = true := by
  rw [List.isPrefixOf_iff_prefix, h]
  exact List.take_prefix _ _
def FolR (l : List Cl) (w : World) (e : Ending) (w' : World) : Prop := ∃ b, e = .returned (.bool b) ∧ (fitsB l = false → b = false) ∧ (fitsB l = true → ∃ S, SortOf S l ∧ b = (takenI (takesOf S)).isPrefixOf (putI (putsOf S))) ∧ Below w.heap.size w w'
theorem ItSl.at {W : World} {N : Nat} {A : Option Addr} {l : List (List Int)} (h : ItSl W N A l) {k : Nat} {r : List Int} (hk : l[k]? = some r) : ∃ b off Ar c, A = some ⟨b, off, none⟩ ∧ b < N ∧ W.cell? ⟨b, off + k, none⟩ = some (.slice Ar r.length c) ∧ Ws W N Ar r ∧ r.length ≤ c ∧ c ≤ maxLen := h k r hk

set_option maxRecDepth 100000 in
set_option maxHeartbeats 8000000 in
theorem follows_any (A : Option Addr) (c : Nat) (l : List Cl) (w : World) (hn : l.length ≤ 40) (hc : l.length ≤ c) (hr : ∀ x ∈ l, x.r.length ≤ 100) (hl : ClSl w w.heap.size A l) :
    Calls Try.prog 14 #[.slice A l.length c] w (FolR l w) := by
  have hfit := lFits_any A c l w (by omega) hc hl
  cases hf : fitsB l with
  | false =>
    rw [hf] at hfit
    have HF := Lib.hid hfit
    have HFF := Lib.hid hf
    clear hfit hf hl
    go_enter Try.func14, Try.ntmps14
    go_wp2_with fail
    refine HF.out.mono ?_
    rintro e w1 ⟨rfl, hb1⟩
    go_wp2_with fail
    go_ret
    exact ⟨false, rfl, fun _ => rfl, fun h => (by rw [HFF.out] at h; cases h), hb1⟩
  | true =>
    rw [hf] at hfit
    have HF := Lib.hid hfit
    have HFF := Lib.hid hf
    have HLL := Lib.hid hl
    clear hfit hf hl
    go_enter Try.func14, Try.ntmps14
    go_wp2_with fail
    refine HF.out.mono ?_
    rintro e w1 ⟨rfl, hb1⟩
    have hsp := split_any A c l w1 (by omega) hr (HLL.out.below hb1 hb1.size)
    have HSP := Lib.hid hsp
    have HB1 := Lib.hid hb1
    clear hsp hb1
    go_wp2_with fail
    refine HSP.out.mono ?_
    rintro e w2 ⟨S, A1, c1, A2, c2, rfl, hS, ⟨hP, hcP⟩, ⟨hT, hcT⟩, hb2⟩
    have hSl : S.length = l.length := hS.perm.length_eq
    have hpl : (putsOf S).length ≤ S.length := List.length_filter_le _ _
    have htl : (takesOf S).length ≤ S.length := List.length_filter_le _ _
    have HSO := Lib.hid hS
    have HEND := Lib.hid (fun b (w' : World) (h1 : b = (takenI (takesOf S)).isPrefixOf (putI (putsOf S))) (h2 : Below w.heap.size w w') => (⟨b, rfl, fun h => (by rw [HFF.out] at h; cases h), fun _ => ⟨S, HSO.out, h1⟩, h2⟩ : FolR l w (.returned (.bool b)) w'))
    obtain ⟨P, hPe⟩ : ∃ x, putsOf S = x := ⟨_, rfl⟩
    obtain ⟨T, hTe⟩ : ∃ x, takesOf S = x := ⟨_, rfl⟩
    rw [hPe] at hP hcP hpl HEND
    rw [hTe] at hT hcT htl HEND
    rw [hPe, hTe]
    have hB2 := HB1.out.trans (hb2.mono HB1.out.size)
    have hput := putI_any A1 c1 P w2 (by omega) hP
    have HPUT := Lib.hid hput
    have HB2 := Lib.hid hB2
    have HT := Lib.hid hT
    have hT40 : T.length ≤ 40 := by omega
    have hI40 : (putI P).length ≤ 40 := by unfold putI; rw [List.length_map]; exact Nat.le_trans (List.length_filter_le _ _) (by omega)
    clear hb2 hP hS hput hB2 hT hPe hTe hSl hpl htl
    go_wp2_with fail
    refine HPUT.out.mono ?_
    rintro e w3 ⟨AI, cI, rfl, hI, _, hb3⟩
    have hB3 := HB2.out.trans (hb3.mono HB2.out.size)
    have HB3 := Lib.hid hB3
    have HT3 := Lib.hid (HT.out.below hb3 hb3.size)
    obtain ⟨I, hIe⟩ : ∃ x, putI P = x := ⟨_, rfl⟩
    rw [hIe] at hI hI40 HEND ⊢
    have HI := Lib.hid hI
    clear hI hb3 hB3 hIe
    go_wp2_with fail
    go_loopw [6, 21] (fun a j wr => ∃ (k m : Nat), k ≤ T.length ∧ j = .int .i64 k ∧ a = .int .i64 m ∧ m = (takenI (T.take k)).length ∧ takenI (T.take k) = I.take m ∧ m ≤ I.length ∧ Below w3.heap.size w3 wr) (fun _ j _ => T.length - (intOf j).toNat)
    case atStart => exact ⟨0, 0, Nat.zero_le _, rfl, rfl, rfl, by simp [takenI], Nat.zero_le _, Below.refl _ _⟩
    case round =>
      obtain ⟨k, m, hk, rfl, rfl, hm, hpre, hmI, hb⟩ := hrel
      by_cases hlt : k < T.length
      · obtain ⟨x, hx⟩ := get_some hlt
        obtain ⟨b', off, Ax, cx, rfl, hlb, ⟨h0, h1, h2, h3, h4, h5, h6⟩, hws, hc1, hc2⟩ := (HT3.out.below hb (Nat.le_refl _)) k x hx
        obtain ⟨W1, hW1⟩ : ∃ W1, wr.alloc (.cells #[.int .i64 x.p, .int .i64 x.o, .int .i64 x.q, .slice Ax x.r.length cx, .int .i64 x.c, .int .i64 x.b, .int .i64 x.e] 32) = W1 := ⟨_, rfl⟩
        have hbw := (Below.refl wr.heap.size wr).alloc (Nat.le_refl _) (.cells #[.int .i64 x.p, .int .i64 x.o, .int .i64 x.q, .slice Ax x.r.length cx, .int .i64 x.c, .int .i64 x.b, .int .i64 x.e] 32)
        have hbx := ClBox.new wr x Ax cx
        rw [hW1] at hbw hbx
        have hB := hb.trans (hbw.mono hb.size)
        have hwsW := hws.below (hbw.mono hb.size) (Nat.le_trans hb.size hbw.size)
        obtain ⟨y0, y1, y2, y3, y4, y5, y6⟩ := hbx.cells
        have hm40 : m ≤ 40 := by omega
        have HB := Lib.hid hB
        have HX := Lib.hid hx
        have HM := Lib.hid hm
        have HPRE := Lib.hid hpre
        have HBX := Lib.hid hbx
        have HWS := Lib.hid hwsW
        cases hg : gdc x with
        | false =>
          have HNO := Lib.hid (taken_no hx hg)
          have hcase : x.e < 0 ∨ (¬ x.e < 0 ∧ (x.c != 0) = true) := by
            by_cases he : x.e < 0
            · exact .inl he
            · refine .inr ⟨he, ?_⟩
              unfold gdc opn at hg
              simpa [he] using hg
          clear hx hm hpre hbx hws hwsW hb hbw hB hg
          rcases hcase with he | ⟨he, hcc⟩
          all_goals
            go_wp2_with fail
            go_roundw
            case rel => exact ⟨k + 1, m, by omega, by go_num, rfl, by rw [HNO.out]; exact HM.out, by rw [HNO.out]; exact HPRE.out, hmI, HB.out⟩
            case measure => simp [intOf]; omega
        | true =>
          have HYES := Lib.hid (taken_yes hx hg)
          have HG := Lib.hid hg
          have he : ¬ x.e < 0 := by
            intro h
            unfold gdc opn at hg
            simp [h] at hg
          have hcc : (x.c != 0) = false := by
            unfold gdc opn at hg
            simp [he] at hg
            simpa using hg
          obtain ⟨nb, hnb⟩ : ∃ y, wr.heap.size = y := ⟨_, rfl⟩
          rw [hnb] at y0 y1 y2 y3 y4 y5 y6
          clear hx hm hpre hbx hws hwsW hb hbw hB hg
          by_cases hmI2 : m = I.length
          · have g0 : ((m : Int) == (I.length : Int)) = true := by simp [hmI2]
            have HNO := Lib.hid (pre_no (I := I) HX.out HG.out (by rw [← HM.out, List.getElem?_eq_none (by omega)]; simp))
            clear hmI2
            go_wp2_with fail
            have hSd : (fun w' => Below W1.heap.size W1 w' ∧ True) W1.drew := ⟨(Below.refl _ W1).drew, trivial⟩
            refine wp_region_held_drew (S := (fun w' => Below W1.heap.size W1 w' ∧ True)) (by kernel_rfl) hSd (fun hHeld => ?_)
            generalize W1.drew = wd at hHeld ⊢
            have hHeld : (fun w' => Below W1.heap.size W1 w' ∧ True) wd := hHeld
            refine tkH 0 ?_
            try first | simp only [pS, List.set] | simp only [pN]
            refine tkH 1 ?_
            try first | simp only [pS, List.set] | simp only [pN]
            refine tkH 2 ?_
            try first | simp only [pS, List.set] | simp only [pN]
            refine tkH 3 ?_
            try first | simp only [pS, List.set] | simp only [pN]
            refine tkH 4 ?_
            try first | simp only [pS, List.set] | simp only [pN]
            refine wpAnyH_take (i := 5) (oi := ?_) (v := undef) ?_ (by kernel_rfl) (by kernel_rfl) (by kernel_rfl) ?_ (Or.inr ⟨?_, rfl⟩) (by assumption) ?_
            rotate_left 1
            · (simp only [List.getElem?_toArray, List.getElem?_cons_succ, List.getElem?_cons_zero]; rfl)
            · first | exact fun _ _ _ h => h | exact fun _ _ _ h => by cases h.1
            · rfl
            try first | simp only [pS, List.set] | simp only [pN]
            refine wpAnyH_take (i := 6) (oi := ?_) (v := undef) ?_ (by kernel_rfl) (by kernel_rfl) (by kernel_rfl) ?_ (Or.inr ⟨?_, rfl⟩) (by assumption) ?_
            rotate_left 1
            · (simp only [List.getElem?_toArray, List.getElem?_cons_succ, List.getElem?_cons_zero]; rfl)
            · first | exact fun _ _ _ h => h | exact fun _ _ _ h => by cases h.1
            · rfl
            try first | simp only [pS, List.set] | simp only [pN]
            refine wpAnyH_take (i := 7) (oi := ?_) (v := undef) ?_ (by kernel_rfl) (by kernel_rfl) (by kernel_rfl) ?_ (Or.inr ⟨?_, rfl⟩) (by assumption) ?_
            rotate_left 1
            · (simp only [List.getElem?_toArray, List.getElem?_cons_succ, List.getElem?_cons_zero]; rfl)
            · first | exact fun _ _ _ h => h | exact fun _ _ _ h => by cases h.1
            · rfl
            try first | simp only [pS, List.set] | simp only [pN]
            refine wpAnyH_take (i := 8) (oi := ?_) (v := undef) ?_ (by kernel_rfl) (by kernel_rfl) (by kernel_rfl) ?_ (Or.inr ⟨?_, rfl⟩) (by assumption) ?_
            rotate_left 1
            · (simp only [List.getElem?_toArray, List.getElem?_cons_succ, List.getElem?_cons_zero]; rfl)
            · first | exact fun _ _ _ h => h | exact fun _ _ _ h => by cases h.1
            · rfl
            try first | simp only [pS, List.set] | simp only [pN]
            refine wpAnyH_take (i := 9) (oi := ?_) (v := undef) ?_ (by kernel_rfl) (by kernel_rfl) (by kernel_rfl) ?_ (Or.inr ⟨?_, rfl⟩) (by assumption) ?_
            rotate_left 1
            · (simp only [List.getElem?_toArray, List.getElem?_cons_succ, List.getElem?_cons_zero]; rfl)
            · first | exact fun _ _ _ h => h | exact fun _ _ _ h => by cases h.1
            · rfl
            try first | simp only [pS, List.set] | simp only [pN]
            refine wpAnyH_take (i := 10) (oi := ?_) (v := undef) ?_ (by kernel_rfl) (by kernel_rfl) (by kernel_rfl) ?_ (Or.inr ⟨?_, rfl⟩) (by assumption) ?_
            rotate_left 1
            · (simp only [List.getElem?_toArray, List.getElem?_cons_succ, List.getElem?_cons_zero]; rfl)
            · first | exact fun _ _ _ h => h | exact fun _ _ _ h => by cases h.1
            · rfl
            try first | simp only [pS, List.set] | simp only [pN]
            refine wpAnyH_take (i := 11) (oi := ?_) (v := undef) ?_ (by kernel_rfl) (by kernel_rfl) (by kernel_rfl) ?_ (Or.inr ⟨?_, rfl⟩) (by assumption) ?_
            rotate_left 1
            · (simp only [List.getElem?_toArray, List.getElem?_cons_succ, List.getElem?_cons_zero]; rfl)
            · first | exact fun _ _ _ h => h | exact fun _ _ _ h => by cases h.1
            · rfl
            try first | simp only [pS, List.set] | simp only [pN]
            refine wpAnyH_take (i := 12) (oi := ?_) (v := undef) ?_ (by kernel_rfl) (by kernel_rfl) (by kernel_rfl) ?_ (Or.inr ⟨?_, rfl⟩) (by assumption) ?_
            rotate_left 1
            · (simp only [List.getElem?_toArray, List.getElem?_cons_succ, List.getElem?_cons_zero]; rfl)
            · first | exact fun _ _ _ h => h | exact fun _ _ _ h => by cases h.1
            · rfl
            try first | simp only [pS, List.set] | simp only [pN]
            refine tkH 13 ?_
            try first | simp only [pS, List.set] | simp only [pN]
            refine wpAnyH_done (by kernel_rfl) ?_ _
            have hBd := HB.out.trans (hHeld.1.mono HB.out.size)
            have HBD := Lib.hid hBd
            clear hSd hHeld hBd
            go_wp2_with fail
            go_ret
            exact HEND.out false _ HNO.out.symm (HB3.out.trans (HBD.out.mono HB3.out.size))
          · have hmlt : m < I.length := by omega
            have g0 : ((m : Int) == (I.length : Int)) = false := by simp; omega
            have hmi : (m : Int) < (I.length : Int) := by omega
            obtain ⟨r0, hr0⟩ := get_some hmlt
            have hIW := HI.out.below HB.out (Nat.le_refl _)
            obtain ⟨ib, io, Ai, ci, rfl, hib, hic, hiw, hil, him⟩ := hIW m r0 hr0
            have hsame := fun (W' : World) (hb : Below W1.heap.size W1 W') => same_any Ai Ax ci cx r0 x.r W' (by unfold maxLen at him; omega) (by unfold maxLen at hc2; omega) (hiw.below (hb.mono HB.out.size) (Nat.le_trans HB.out.size hb.size)) (HWS.out.below hb hb.size)
            obtain ⟨v, hv⟩ : ∃ v, decide (r0 = x.r) = v := ⟨_, rfl⟩
            rw [hv] at hsame
            have HV := Lib.hid hv
            have HR0 := Lib.hid hr0
            have HSAME := Lib.hid hsame
            clear hsame hiw hr0 hmI2 hIW hv
            cases v with
            | false =>
              go_wp2_with fail
              have hSd : (fun w' => Below W1.heap.size W1 w' ∧ w'.cell? ⟨nb, 3, none⟩ = some (.slice Ax x.r.length cx) ∧ w'.cell? ⟨ib, io + m, none⟩ = some (.slice Ai r0.length ci)) W1.drew := ⟨(Below.refl _ W1).drew, y3, hic⟩
              refine wp_region_held_drew (S := (fun w' => Below W1.heap.size W1 w' ∧ w'.cell? ⟨nb, 3, none⟩ = some (.slice Ax x.r.length cx) ∧ w'.cell? ⟨ib, io + m, none⟩ = some (.slice Ai r0.length ci))) (by kernel_rfl) hSd (fun hHeld => ?_)
              generalize W1.drew = wd at hHeld ⊢
              have hHeld : (fun w' => Below W1.heap.size W1 w' ∧ w'.cell? ⟨nb, 3, none⟩ = some (.slice Ax x.r.length cx) ∧ w'.cell? ⟨ib, io + m, none⟩ = some (.slice Ai r0.length ci)) wd := hHeld
              refine tkH 0 ?_
              try first | simp only [pS, List.set] | simp only [pN]
              refine tkH 1 ?_
              try first | simp only [pS, List.set] | simp only [pN]
              refine tkH 2 ?_
              try first | simp only [pS, List.set] | simp only [pN]
              refine tkH 3 ?_
              try first | simp only [pS, List.set] | simp only [pN]
              refine tkH 4 ?_
              try first | simp only [pS, List.set] | simp only [pN]
              refine tkH 5 ?_
              try first | simp only [pS, List.set] | simp only [pN]
              refine tkH 6 ?_
              try first | simp only [pS, List.set] | simp only [pN]
              refine tkH 7 ?_
              try first | simp only [pS, List.set] | simp only [pN]
              refine tkH 8 ?_
              try first | simp only [pS, List.set] | simp only [pN]
              refine tkH 9 ?_
              try first | simp only [pS, List.set] | simp only [pN]
              refine tkH 10 ?_
              try first | simp only [pS, List.set] | simp only [pN]
              refine wpAnyH_ready (rs := [11]) (by kernel_rfl) (by simp) ?_
              refine AllReadyH.cons (o := ?_) ?_ (fun K hK => ?_) AllReadyH.nil
              rotate_left
              · (simp only [List.getElem?_toArray, List.getElem?_cons_succ, List.getElem?_cons_zero]; rfl)
              go_simp
              go_at_call 25
              refine (HSAME.out _ hHeld.1).mono ?_
              rintro e wx ⟨rfl, hbx⟩
              have hSx : (fun w' => Below W1.heap.size W1 w' ∧ w'.cell? ⟨nb, 3, none⟩ = some (.slice Ax x.r.length cx) ∧ w'.cell? ⟨ib, io + m, none⟩ = some (.slice Ai r0.length ci)) wx := ⟨hHeld.1.trans (hbx.mono hHeld.1.size), cell_below hHeld.2.1 hbx, cell_below hHeld.2.2 hbx⟩
              refine hK.out _ _ hSx (fun hHeld => ?_)
              clear hK K
              try first | simp only [pS, List.set] | simp only [pN]
              refine tkH 12 ?_
              try first | simp only [pS, List.set] | simp only [pN]
              refine tkH 13 ?_
              try first | simp only [pS, List.set] | simp only [pN]
              refine wpAnyH_done (by kernel_rfl) ?_ _
              have hBd := HB.out.trans (hHeld.1.mono HB.out.size)
              have HBD := Lib.hid hBd
              clear hSd hHeld hSx hBd
              have HNO := Lib.hid (pre_no (I := I) HX.out HG.out (by
                rw [← HM.out, HR0.out]
                intro e
                injection e with e
                exact absurd e (of_decide_eq_false HV.out)))
              go_wp2_with fail
              go_ret
              exact HEND.out false _ HNO.out.symm (HB3.out.trans (HBD.out.mono HB3.out.size))
            | true =>
              go_wp2_with fail
              have hSd : (fun w' => Below W1.heap.size W1 w' ∧ w'.cell? ⟨nb, 3, none⟩ = some (.slice Ax x.r.length cx) ∧ w'.cell? ⟨ib, io + m, none⟩ = some (.slice Ai r0.length ci)) W1.drew := ⟨(Below.refl _ W1).drew, y3, hic⟩
              refine wp_region_held_drew (S := (fun w' => Below W1.heap.size W1 w' ∧ w'.cell? ⟨nb, 3, none⟩ = some (.slice Ax x.r.length cx) ∧ w'.cell? ⟨ib, io + m, none⟩ = some (.slice Ai r0.length ci))) (by kernel_rfl) hSd (fun hHeld => ?_)
              generalize W1.drew = wd at hHeld ⊢
              have hHeld : (fun w' => Below W1.heap.size W1 w' ∧ w'.cell? ⟨nb, 3, none⟩ = some (.slice Ax x.r.length cx) ∧ w'.cell? ⟨ib, io + m, none⟩ = some (.slice Ai r0.length ci)) wd := hHeld
              refine tkH 0 ?_
              try first | simp only [pS, List.set] | simp only [pN]
              refine tkH 1 ?_
              try first | simp only [pS, List.set] | simp only [pN]
              refine tkH 2 ?_
              try first | simp only [pS, List.set] | simp only [pN]
              refine tkH 3 ?_
              try first | simp only [pS, List.set] | simp only [pN]
              refine tkH 4 ?_
              try first | simp only [pS, List.set] | simp only [pN]
              refine tkH 5 ?_
              try first | simp only [pS, List.set] | simp only [pN]
              refine tkH 6 ?_
              try first | simp only [pS, List.set] | simp only [pN]
              refine tkH 7 ?_
              try first | simp only [pS, List.set] | simp only [pN]
              refine tkH 8 ?_
              try first | simp only [pS, List.set] | simp only [pN]
              refine tkH 9 ?_
              try first | simp only [pS, List.set] | simp only [pN]
              refine tkH 10 ?_
              try first | simp only [pS, List.set] | simp only [pN]
              refine wpAnyH_ready (rs := [11]) (by kernel_rfl) (by simp) ?_
              refine AllReadyH.cons (o := ?_) ?_ (fun K hK => ?_) AllReadyH.nil
              rotate_left
              · (simp only [List.getElem?_toArray, List.getElem?_cons_succ, List.getElem?_cons_zero]; rfl)
              go_simp
              go_at_call 25
              refine (HSAME.out _ hHeld.1).mono ?_
              rintro e wx ⟨rfl, hbx⟩
              have hSx : (fun w' => Below W1.heap.size W1 w' ∧ w'.cell? ⟨nb, 3, none⟩ = some (.slice Ax x.r.length cx) ∧ w'.cell? ⟨ib, io + m, none⟩ = some (.slice Ai r0.length ci)) wx := ⟨hHeld.1.trans (hbx.mono hHeld.1.size), cell_below hHeld.2.1 hbx, cell_below hHeld.2.2 hbx⟩
              refine hK.out _ _ hSx (fun hHeld => ?_)
              clear hK K
              try first | simp only [pS, List.set] | simp only [pN]
              refine tkH 12 ?_
              try first | simp only [pS, List.set] | simp only [pN]
              refine tkH 13 ?_
              try first | simp only [pS, List.set] | simp only [pN]
              refine wpAnyH_done (by kernel_rfl) ?_ _
              have hBd := HB.out.trans (hHeld.1.mono HB.out.size)
              have HBD := Lib.hid hBd
              clear hSd hHeld hSx hBd
              go_wp2_with fail
              go_roundw
              case rel =>
                refine ⟨k + 1, m + 1, by omega, by go_num, by go_num, by rw [HYES.out, List.length_append, ← HM.out]; rfl, ?_, by omega, HBD.out⟩
                rw [HYES.out, HPRE.out, take_snoc HR0.out, of_decide_eq_true HV.out]
              case measure => simp [intOf]; omega
      · have ht := take_all hlt
        rw [ht] at hm hpre
        have HYES := Lib.hid (pre_yes (T := T) (I := I) (by rw [hpre, List.length_take, Nat.min_eq_left hmI]))
        have HBD := Lib.hid hb
        clear hm hpre ht hb
        go_wp2_with fail
        go_ret
        exact HEND.out true _ HYES.out.symm (HB3.out.trans (HBD.out.mono HB3.out.size))

end Go.Proofs.Ytgmmblknaeepbaa
