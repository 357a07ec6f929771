/- A queue's calls: whether they fit (linfifo.Fits). -/
import Derived.Test.YtgmmblknaeepbaaZlA
import Derived.Test.YtgmmblknaeepbaaZa
import Derived.Maps.OwnSet
namespace Go.Proofs.Ytgmmblknaeepbaa
open Go.RowKit Go.Maps

abbrev D0 := DataW Unit
def PM (D : D0) (f : Int → Option Int) : Prop :=
  ∀ q : Int, Maps.has D (.int .i64 q) = (f q).isSome ∧ ∀ x, f q = some x → D.atKey (.int .i64 q) (.lit (.int .i64 0)) = .lit (.int .i64 x)
theorem PM.empty : PM (.map []) fun _ => none := fun q => ⟨rfl, fun x h => by cases h⟩
theorem PM.put {D : D0} {f : Int → Option Int} (h : PM D f) (hD : IsMap D) (key x : Int) : PM (D.put (.int .i64 key) (.lit (.int .i64 x))) fun q => if q = key then some x else f q := by
  intro q
  by_cases e : q = key
  · subst e
    refine ⟨by rw [has_put_same hD (show WideAt.IsKeyLit (Lit.int _ _) from True.intro)]; simp, fun y hy => ?_⟩
    rw [atKey_put_same hD (show WideAt.IsKeyLit (Lit.int _ _) from True.intro)]
    simp at hy
    rw [hy]
  · have hne : (Lit.int .i64 q) ≠ Lit.int .i64 key := fun h => e (by injection h)
    rw [has_put_other hne, atKey_put_other hne]
    simp only [if_neg e]
    exact h q
theorem PM.val {D : D0} {f : Int → Option Int} {q c : Int} (h : PM D f) (hat : D.atKey (.int .i64 q) (.lit (.int .i64 0)) = .lit (.int .i64 c)) : ∀ x, f q = some x → c = x := fun x hx => by
  have := (h q).2 x hx
  rw [this] at hat
  injection hat with h
  injection h with _ h
  exact h.symm

/-- Which process does what, of the first k calls. -/
structure FitJ (l : List Cl) (k : Nat) (f : Int → Option Int) : Prop where
  all : ∀ x ∈ l.take k, lfB x = true ∧ f x.q = some x.p
  of : ∀ q p, f q = some p → ∃ y ∈ l.take k, y.q = q ∧ y.p = p
theorem FitJ.zero (l : List Cl) : FitJ l 0 fun _ => none := ⟨fun x h => by simp at h, fun q p h => by cases h⟩
theorem FitJ.succ {l : List Cl} {k : Nat} {f : Int → Option Int} (h : FitJ l k f) {x : Cl} (hx : l[k]? = some x) (hlf : lfB x = true) (hp : ∀ p, f x.q = some p → p = x.p) : FitJ l (k + 1) fun q => if q = x.q then some x.p else f q := by
  have ht := take_snoc hx
  refine ⟨fun y hy => ?_, fun q p hq => ?_⟩
  · rw [ht] at hy
    rcases List.mem_append.1 hy with hy | hy
    · obtain ⟨h1, h2⟩ := h.all y hy
      refine ⟨h1, ?_⟩
      by_cases e : y.q = x.q
      · simp only [e, if_true]
        rw [e] at h2
        rw [hp _ h2]
      · simp only [e, if_false]
        exact h2
    · rw [List.mem_singleton.1 hy]
      exact ⟨hlf, by simp⟩
  · rw [ht]
    by_cases e : q = x.q
    · simp only [e, if_true] at hq
      injection hq with hq
      exact ⟨x, by simp, e.symm, hq⟩
    · simp only [e, if_false] at hq
      obtain ⟨y, hy, h1, h2⟩ := h.of q p hq
      exact ⟨y, List.mem_append_left _ hy, h1, h2⟩
theorem FitJ.yes {l : List Cl} {f : Int → Option Int} (h : FitJ l l.length f) (hr : rightH l = true) : fitsB l = true := by
  have ha := h.all
  rw [List.take_length] at ha
  unfold fitsB
  rw [hr]
  simp only [Bool.true_and, Bool.and_eq_true, List.all_eq_true, Bool.or_eq_true, Bool.not_eq_true', beq_iff_eq, beq_eq_false_iff_ne, ne_eq]
  refine ⟨fun x hx => (ha x hx).1, fun x hx y hy => ?_⟩
  by_cases e : x.q = y.q
  · refine Or.inr ?_
    have h1 := (ha x hx).2
    rw [e, (ha y hy).2] at h1
    injection h1 with h1
    exact h1.symm
  · exact Or.inl e
theorem fits_no1 {l : List Cl} {k : Nat} {x : Cl} (hx : l[k]? = some x) (h : lfB x = false) : fitsB l = false := by
  cases e : fitsB l with
  | false => rfl
  | true =>
    have := fits_lf e x (List.mem_of_getElem? hx)
    rw [h] at this
    cases this
theorem fits_no2 {l : List Cl} {k : Nat} {f : Int → Option Int} (h : FitJ l k f) {x : Cl} (hx : l[k]? = some x) {p : Int} (hf : f x.q = some p) (hp : p ≠ x.p) : fitsB l = false := by
  cases e : fitsB l with
  | false => rfl
  | true =>
    obtain ⟨y, hy, h1, h2⟩ := h.of _ _ hf
    have := fits_proc e y (List.mem_of_mem_take hy) x (List.mem_of_getElem? hx) h1
    exact absurd (h2.symm.trans this) hp
theorem fits_no0 {l : List Cl} (h : rightH l = false) : fitsB l = false := by
  unfold fitsB
  rw [h]
  rfl

theorem lawI : Keyed Try.prog 3 := int_keyed Try.underlying3
theorem zeroI (w : World) : (zeroValue 3).run Try.prog w = .ok (.int .i64 0) w := by kernel_rfl

set_option maxRecDepth 100000 in
set_option maxHeartbeats 4000000 in
theorem lFits_any (A : Option Addr) (c : Nat) (l : List Cl) (w : World) (hn : l.length ≤ 1000) (hc : l.length ≤ c) (hl : ClSl w w.heap.size A l) :
    Calls Try.prog 10 #[.slice A l.length c] w fun e w' => e = .returned (.bool (fitsB l)) ∧ Below w.heap.size w w' := by
  have hrt := histRight_any A c l w hn hc hl
  cases hr : rightH l with
  | false =>
    rw [hr] at hrt
    rw [fits_no0 hr]
    have HRT := Lib.hid hrt
    clear hrt hr hl
    go_enter Try.func10, Try.ntmps10
    go_wp2_with fail
    refine HRT.out.mono ?_
    rintro e w1 ⟨rfl, hb1⟩
    go_wp2_with fail
    go_ret
    exact ⟨rfl, hb1⟩
  | true =>
    have hcl := (right_pw hr).1
    rw [hr] at hrt
    have HRT := Lib.hid hrt
    have HR := Lib.hid hr
    have HCL := Lib.hid hcl
    have hmm := @run_makeMap Try.prog
    obtain ⟨R, hR⟩ : ∃ R, fitsB l = R := ⟨_, rfl⟩
    have HRR := Lib.hid hR
    rw [hR]
    clear hrt hr hcl hR
    go_enter Try.func10, Try.ntmps10
    go_wp2_with fail
    refine HRT.out.mono ?_
    rintro e w1 ⟨rfl, hb1⟩
    have hbm := (Below.refl w1.heap.size w1).alloc (Nat.le_refl _) (.map #[] 0)
    have HB1 := Lib.hid (hb1.trans (hbm.mono hb1.size))
    have HOM := Lib.hid (World.ownsMap_made w1 Try.prog 3 (plainElem (H := Unit) Try.prog 3))
    have hsz1 := hb1.size
    clear hb1 hbm
    obtain ⟨mb, hmb⟩ : ∃ x, w1.heap.size = x := ⟨_, rfl⟩
    rw [hmb] at HOM hsz1
    go_wp2_with fail
    clear hmm
    go_loopw [6, 7, 14] (fun _ _ j wr => ∃ (k : Nat) (D : D0) (f : Int → Option Int), k ≤ l.length ∧ j = .int .i64 k ∧ wr.ownsMap Try.prog 3 (plainElem Try.prog 3) mb k D ∧ PM D f ∧ FitJ l k f ∧ Below w.heap.size w wr) (fun _ _ j _ => l.length - (intOf j).toNat)
    case atStart => exact ⟨0, .map [], fun _ => none, Nat.zero_le _, rfl, HOM.out, PM.empty, FitJ.zero l, HB1.out⟩
    case round =>
      obtain ⟨k, D, f, hk, rfl, hown, hpm, hj, hb⟩ := hrel
      by_cases hlt : k < l.length
      · obtain ⟨x, hx⟩ := get_some hlt
        obtain ⟨b', off, Ax, cx, rfl, hlb, ⟨h0, h1, h2, h3, h4, h5, h6⟩, _, hc1, hc2⟩ := (hl.below hb (Nat.le_refl _)) k x hx
        have hcx := HCL.out x (List.mem_of_getElem? hx)
        obtain ⟨W1, hW1⟩ : ∃ W1, wr.alloc (.cells #[.int .i64 x.p, .int .i64 x.o, .int .i64 x.q, .slice Ax x.r.length cx, .int .i64 x.c, .int .i64 x.b, .int .i64 x.e] 32) = W1 := ⟨_, rfl⟩
        have hbw := (Below.refl wr.heap.size wr).alloc (Nat.le_refl _) (.cells #[.int .i64 x.p, .int .i64 x.o, .int .i64 x.q, .slice Ax x.r.length cx, .int .i64 x.c, .int .i64 x.b, .int .i64 x.e] 32)
        have hbx := ClBox.new wr x Ax cx
        have hownW := hown.alloc (.cells #[.int .i64 x.p, .int .i64 x.o, .int .i64 x.q, .slice Ax x.r.length cx, .int .i64 x.c, .int .i64 x.b, .int .i64 x.e] 32)
        rw [hW1] at hbw hbx hownW
        have hB := hb.trans (hbw.mono hb.size)
        have hf := lfits_any x Ax cx W1
        unfold clV at hf
        obtain ⟨c0, c1, c2, c3, c4, c5, c6⟩ := hbx.cells
        have HB := Lib.hid hB
        have HX := Lib.hid hx
        have HJ := Lib.hid hj
        have HPM := Lib.hid hpm
        have HBX := Lib.hid hbx
        cases hlf : lfB x with
        | false =>
          rw [hlf] at hf
          have HF := Lib.hid hf
          have HNO := Lib.hid (fits_no1 hx hlf)
          have hbs := hB.size
          clear hf hlf hx hj hpm hB hbw hbx hownW hown hb hcx
          go_wp2_with fail
          refine HF.out.mono ?_
          rintro e w2 ⟨rfl, hb2⟩
          go_wp2_with fail
          go_ret
          exact ⟨ret_bool (by rw [← HRR.out, HNO.out]), HB.out.trans (hb2.mono hbs)⟩
        | true =>
          rw [hlf] at hf
          have HF := Lib.hid hf
          have HLF := Lib.hid hlf
          have hqq : x.q = 3 ∨ x.q = 4 := by
            unfold lfB at hlf
            simp only [Bool.or_eq_true, Bool.and_eq_true, beq_iff_eq] at hlf
            omega
          have hwq : (Lit.int .i64 x.q).wf = true := by rcases hqq with e | e <;> rw [e] <;> decide
          have hwp : (Lit.int .i64 x.p).wf = true := by
            unfold clB inT at hcx
            simp only [Bool.and_eq_true, decide_eq_true_eq] at hcx
            exact WalkArith.wf_i64 (by omega)
          have hkey : keyOf Try.prog 3 (.int .i64 x.q) = some (.int .i64 x.q) := keyOf_int_mk Try.underlying3 hwq
          have HKEY := Lib.hid hkey
          have HWP := Lib.hid hwp
          have HOW := Lib.hid hownW
          have hbs := hB.size
          have hmlt : mb < wr.heap.size := hown.lt
          clear hf hlf hx hj hpm hB hbw hbx hownW hown hb hcx hqq hwq hwp hkey
          go_wp2_with fail
          refine HF.out.mono ?_
          rintro e w2 ⟨rfl, hb2⟩
          have hown2 := HOW.out.kept (row := none) ⟨hb2.os, hb2.tape, hb2.output, hb2.size, fun i hi _ => hb2.block i hi⟩ (by simp)
          have HO2 := Lib.hid hown2
          have hbx2 := HBX.out.kept hb2
          have HB2 := Lib.hid (HB.out.trans (hb2.mono hbs))
          have hbs2 := HB2.out.size
          clear c0 c1 c2 c3 c4 c5 c6
          obtain ⟨c0, c1, c2, c3, c4, c5, c6⟩ := hbx2.cells
          clear hown2 hb2 HOW HB HBX hbx2
          cases hfq : f x.q with
          | none =>
            have hhas : Maps.has D (.int .i64 x.q) = false := by rw [(HPM.out x.q).1, hfq]; rfl
            have HFQ := Lib.hid hfq
            clear hfq
            go_wp2_with (first
              | (at_lookup; refine wpList_lookup_own_ok_int _ rfl _ _ 35 rfl 3 3 .i64 lawI Try.underlying35 Try.underlying3 (zeroI _) mb k D rfl HO2.out _ _ rfl HKEY.out ?_; intro cv hat hwc; rw [hhas])
              | (at_mapUpdate; refine wpList_mapUpdate_own _ rfl _ _ _ 35 rfl 3 3 lawI Try.underlying35 _ mb k _ rfl HO2.out (by unfold maxLen; omega) _ _ _ rfl rfl HKEY.out _ [] (plainElem_int Try.underlying3 HWP.out) ?_; intro w3 hown3 hgrow3)
              | fail)
            go_roundw
            case rel => exact ⟨k + 1, _, _, by omega, by go_num, hown3, HPM.out.put HO2.out.isMap _ _, HJ.out.succ HX.out HLF.out (fun p hp => by rw [HFQ.out] at hp; cases hp), HB2.out.grown hgrow3 (by omega) (fun j hj => by cases hj; omega)⟩
            case measure => simp [intOf]; omega
          | some p =>
            have hhas : Maps.has D (.int .i64 x.q) = true := by rw [(HPM.out x.q).1, hfq]; rfl
            have HFQ := Lib.hid hfq
            clear hfq
            by_cases hpx : p = x.p
            · have hne : (p != x.p) = false := by simp [hpx]
              have HPX := Lib.hid hpx
              clear hpx
              go_wp2_with (first
                | (at_lookup; refine wpList_lookup_own_ok_int _ rfl _ _ 35 rfl 3 3 .i64 lawI Try.underlying35 Try.underlying3 (zeroI _) mb k D rfl HO2.out _ _ rfl HKEY.out ?_; intro cv hat hwc; rw [hhas]; obtain rfl : p = cv := ((HPM.out.val hat) p HFQ.out).symm)
                | (at_mapUpdate; refine wpList_mapUpdate_own _ rfl _ _ _ 35 rfl 3 3 lawI Try.underlying35 _ mb k _ rfl HO2.out (by unfold maxLen; omega) _ _ _ rfl rfl HKEY.out _ [] (plainElem_int Try.underlying3 HWP.out) ?_; intro w3 hown3 hgrow3)
                | fail)
              go_roundw
              case rel => exact ⟨k + 1, _, _, by omega, by go_num, hown3, HPM.out.put HO2.out.isMap _ _, HJ.out.succ HX.out HLF.out (fun q hq => by rw [HFQ.out] at hq; injection hq with hq; exact hq.symm.trans HPX.out), HB2.out.grown hgrow3 (by omega) (fun j hj => by cases hj; omega)⟩
              case measure => simp [intOf]; omega
            · have hne : (p != x.p) = true := by simpa using hpx
              have HNO := Lib.hid (fits_no2 HJ.out HX.out HFQ.out hpx)
              clear hpx
              go_wp2_with (first
                | (at_lookup; refine wpList_lookup_own_ok_int _ rfl _ _ 35 rfl 3 3 .i64 lawI Try.underlying35 Try.underlying3 (zeroI _) mb k D rfl HO2.out _ _ rfl HKEY.out ?_; intro cv hat hwc; rw [hhas]; obtain rfl : p = cv := ((HPM.out.val hat) p HFQ.out).symm)
                | fail)
              go_ret
              exact ⟨ret_bool (by rw [← HRR.out, HNO.out]), HB2.out⟩
      · obtain rfl : k = l.length := by omega
        have HY := Lib.hid (hj.yes HR.out)
        clear hj hpm
        go_wp2_with fail
        go_ret
        exact ⟨ret_bool (by rw [← HRR.out, HY.out]), hb⟩

end Go.Proofs.Ytgmmblknaeepbaa
