/- How long a queue may be at last (linfifo.Lengths), and whether its calls linearize (linfifo.Check). -/
import Derived.Test.YtgmmblknaeepbaaZlG
namespace Go.Proofs.Ytgmmblknaeepbaa
open Go.RowKit Go.Maps

theorem callsN_mono : ∀ {a b : Nat}, a ≤ b → callsN a ≤ callsN b
  | 0, _, _ => Nat.zero_le _
  | a + 1, b + 1, h => by
    have := callsN_mono (a := a) (b := b) (by omega)
    simp only [callsN]
    omega
theorem callsN_41 : callsN 41 ≤ 8796093022208 := by decide
/-- The ends of a queue's calls in order. -/
def endsOf (n : Int) (S : List Cl) : List Int := (dfs n (putsOf S) (takesOf S) (S.length + 1) ⟨0, 0, 0, 0⟩ ([], [])).2
def lensOf (n : Int) (S : List Cl) : List Int := Lib.compact ((endsOf n S).mergeSort fun x y => decide (x ≤ y))
def LenR (n : Int) (l : List Cl) (w : World) (e : Ending) (w' : World) : Prop := ∃ v Z, e = .returned v ∧ Own (ints .i64) 3 w.heap.size w' v Z ∧ (fitsB l = false → Z = []) ∧ (fitsB l = true → ∃ S, SortOf S l ∧ Z = lensOf n S) ∧ Below w.heap.size w w'
theorem kept_set {W : World} {fb bm : Nat} {w0 : World} {mid : Nat} (h : Kept2 mid fb bm w0 W) (j : Nat) (v : Value) : Kept2 mid fb bm w0 (W.setCell ⟨fb, j, none⟩ v) := ⟨by rw [lsize_set]; exact h.1, fun b h1 h2 h3 => (lheap_set W fb j v b h2).trans (h.2 b h1 h2 h3)⟩
theorem kept_refl (mid fb bm : Nat) (W : World) (h : mid ≤ W.heap.size) : Kept2 mid fb bm W W := ⟨h, fun _ _ _ _ => rfl⟩
theorem kept_go {W W' : World} {fb bm : Nat} {w0 : World} {mid : Nat} (h : Kept2 mid fb bm w0 W) (hb : Below W.heap.size W W') : Kept2 mid fb bm w0 W' := ⟨Nat.le_trans h.1 hb.size, fun b h1 h2 h3 => (hb.block b (by have := h.1; omega)).trans (h.2 b h1 h2 h3)⟩

set_option maxRecDepth 100000 in
set_option maxHeartbeats 8000000 in
theorem lengths_any (n : Int) (A : Option Addr) (c : Nat) (l : List Cl) (w : World) (hn : l.length ≤ 40) (hc : l.length ≤ c) (hr : ∀ x ∈ l, x.r.length ≤ 100) (hl : ClSl w w.heap.size A l) :
    Calls Try.prog 12 #[.int .i64 n, .slice A l.length c] w (LenR n l w) := by
  have hfit := lFits_any A c l w (by omega) hc hl
  cases hf : fitsB l with
  | false =>
    rw [hf] at hfit
    have HF := Lib.hid hfit
    have HFF := Lib.hid hf
    clear hfit hf hl
    go_enter Try.func12, Try.ntmps12
    go_wp2_with fail
    refine HF.out.mono ?_
    rintro e w1 ⟨rfl, hb1⟩
    go_wp2_with fail
    go_ret
    exact ⟨_, [], rfl, Own.nil _ _, fun _ => rfl, fun h => (by rw [HFF.out] at h; cases h), hb1⟩
  | true =>
    rw [hf] at hfit
    have HF := Lib.hid hfit
    have HFF := Lib.hid hf
    have HLL := Lib.hid hl
    have hmm := @run_makeMap Try.prog
    clear hfit hf hl
    go_enter Try.func12, Try.ntmps12
    go_wp2_with fail
    refine HF.out.mono ?_
    rintro e w1 ⟨rfl, hb1⟩
    -- the finder is made
    obtain ⟨bm, hbm⟩ : ∃ x, w1.heap.size = x := ⟨_, rfl⟩
    have hba := (Below.refl w1.heap.size w1).alloc (Nat.le_refl _) (.map #[] 0)
    have hbb := hba.alloc hba.size (.cells #[.int .i64 n, .slice none 0 0, .slice none 0 0, .slice none 0 0, .map (some bm), .slice none 0 0] 42)
    have hm1 := heap_alloc_new w1 (.map #[] 0)
    have hm2 := row_kept hm1 ((Below.refl _ (w1.alloc (.map #[] 0))).alloc (Nat.le_refl _) (.cells #[.int .i64 n, .slice none 0 0, .slice none 0 0, .slice none 0 0, .map (some bm), .slice none 0 0] 42))
    have hf2 := heap_alloc_new (w1.alloc (.map #[] 0)) (.cells #[.int .i64 n, .slice none 0 0, .slice none 0 0, .slice none 0 0, .map (some bm), .slice none 0 0] 42)
    rw [World.size_alloc] at hf2
    have hbw := hb1.trans (hbb.mono hb1.size)
    have hwbm : w.heap.size ≤ bm := by rw [← hbm]; exact hb1.size
    obtain ⟨W2, hW2⟩ : ∃ x, (w1.alloc (.map #[] 0)).alloc (.cells #[.int .i64 n, .slice none 0 0, .slice none 0 0, .slice none 0 0, .map (some bm), .slice none 0 0] 42) = x := ⟨_, rfl⟩
    rw [hbm] at hm1 hm2 hf2
    rw [hW2] at hm2 hf2 hbw
    have hsp := Lib.hid (split_any A c l W2 (by omega) hr (HLL.out.below hbw hbw.size))
    have HM2 := Lib.hid hm2
    have HF2 := Lib.hid hf2
    have HBW := Lib.hid hbw
    clear hb1 hba hbb hm1 hm2 hf2 hbw
    go_wp2_with fail
    refine hsp.out.mono ?_
    rintro e w3 ⟨S, A1, c1, A2, c2, rfl, hS, ⟨hP, hcP⟩, ⟨hT, hcT⟩, hb3⟩
    have hperm := hS.perm
    have hSl : S.length = l.length := hperm.length_eq
    have hlf := fits_lf HFF.out
    have hf3 : FBox w3 (bm + 1) n none 0 0 none 0 0 none 0 0 bm (.slice none 0 0) := row_kept HF2.out hb3
    have hm3 := row_kept HM2.out hb3
    have hB3 := HBW.out.trans (hb3.mono HBW.out.size)
    have hlt3 := row_lt hf3
    have hpl : (putsOf S).length ≤ S.length := List.length_filter_le _ _
    have htl : (takesOf S).length ≤ S.length := List.length_filter_le _ _
    have hputs : ∀ x ∈ putsOf S, lfB x = true ∧ x.q = 3 := fun x hx => ⟨hlf x (hperm.subset ((mem_puts.1 hx).1)), (mem_puts.1 hx).2⟩
    have hleft : left (putsOf S) (takesOf S) ⟨0, 0, 0, 0⟩ < S.length + 1 := by
      have h1 := (split_perm S).length_eq
      rw [List.length_append] at h1
      unfold left
      simp only
      omega
    obtain ⟨P, hPe⟩ : ∃ x, putsOf S = x := ⟨_, rfl⟩
    obtain ⟨T, hTe⟩ : ∃ x, takesOf S = x := ⟨_, rfl⟩
    rw [hPe] at hP hcP hpl hputs hleft
    rw [hTe] at hT hcT htl hleft
    rw [hPe, hTe]
    have hends : endsOf n S = (dfs n P T (S.length + 1) ⟨0, 0, 0, 0⟩ ([], [])).2 := by rw [← hPe, ← hTe]; rfl
    have HENDS := Lib.hid hends
    have HSO := Lib.hid hS
    have hS40 : S.length ≤ 40 := by omega
    obtain ⟨fb, hfb⟩ : ∃ x, bm + 1 = x := ⟨_, rfl⟩
    rw [hfb] at hf3 hlt3
    have hfbm : bm ≠ fb := by omega
    have hbmf : bm < fb := by omega
    -- the puts and takes are stored
    have hf4 : FBox ((w3.setCell ⟨fb, 1, none⟩ (.slice A1 P.length c1)).setCell ⟨fb, 2, none⟩ (.slice A2 T.length c2)) fb n A1 P.length c1 A2 T.length c2 none 0 0 bm (.slice none 0 0) := by
      have h1 := lrow_set w3 fb _ _ 1 (.slice A1 P.length c1) hf3
      have h2 := lrow_set _ fb _ _ 2 (.slice A2 T.length c2) h1
      simpa [FBox] using h2
    have hk4 : Kept2 w3.heap.size fb bm w3 ((w3.setCell ⟨fb, 1, none⟩ (.slice A1 P.length c1)).setCell ⟨fb, 2, none⟩ (.slice A2 T.length c2)) := kept_set (kept_set (kept_refl _ _ _ _ (Nat.le_refl _)) 1 _) 2 _
    have hm4 := row_other (row_other hm3 fb 1 (.slice A1 P.length c1) hfbm) fb 2 (.slice A2 T.length c2) hfbm
    have hB4 := (hB3.setCell (p := ⟨fb, 1, none⟩) (by show w.heap.size ≤ fb; omega) (.slice A1 P.length c1)).setCell (p := ⟨fb, 2, none⟩) (by show w.heap.size ≤ fb; omega) (.slice A2 T.length c2)
    have e1 := FBox.cells hf3
    have r1 := row_frozen hf3 1
    have r2 := row_frozen hf3 2
    obtain ⟨q0, q1, q2, q3, q4, q5⟩ := e1
    obtain ⟨W4, hW4⟩ : ∃ x, (w3.setCell ⟨fb, 1, none⟩ (.slice A1 P.length c1)).setCell ⟨fb, 2, none⟩ (.slice A2 T.length c2) = x := ⟨_, rfl⟩
    rw [hW4] at hf4 hk4 hm4 hB4
    have hput := putI_any A1 c1 P W4 (by omega) (clsl_kp hf3 hm3 hk4 hP)
    have q41 := (FBox.cells hf4).2.1
    have HPUT := Lib.hid hput
    have HF4 := Lib.hid hf4
    have HK4 := Lib.hid hk4
    have HM4 := Lib.hid hm4
    have HB4 := Lib.hid hB4
    have HF3 := Lib.hid hf3
    have HM3 := Lib.hid hm3
    have HP := Lib.hid hP
    have HT := Lib.hid hT
    have HPUTS := Lib.hid hputs
    have HSL := Lib.hid hSl
    have HPE := Lib.hid hPe
    have HTE := Lib.hid hTe
    have hs34 := hk4.1
    clear hput hf4 hk4 hm4 hB4 hf3 hm3 hP hT hputs hS hb3 hB3 hperm hlf HF2 HM2 HBW hsp hends hSl hPe hTe
    go_wp2_with fail
    refine HPUT.out.mono ?_
    rintro e w5 ⟨AI, cI, rfl, hI, hIb, hb5⟩
    have hf5 := row_kept HF4.out hb5
    have hm5 := row_kept HM4.out hb5
    have hB5 := HB4.out.trans (hb5.mono HB4.out.size)
    have hfl4 := row_lt HF4.out
    have hf6 : FBox (w5.setCell ⟨fb, 3, none⟩ (.slice AI (putI P).length cI)) fb n A1 P.length c1 A2 T.length c2 AI (putI P).length cI bm (.slice none 0 0) := by
      simpa [FBox] using lrow_set w5 fb _ _ 3 (.slice AI (putI P).length cI) hf5
    have hk6 : Kept2 w3.heap.size fb bm w3 (w5.setCell ⟨fb, 3, none⟩ (.slice AI (putI P).length cI)) := kept_set (kept_go HK4.out hb5) 3 _
    have hk56 : Kept2 w5.heap.size fb bm w5 (w5.setCell ⟨fb, 3, none⟩ (.slice AI (putI P).length cI)) := kept_set (kept_refl _ _ _ _ (Nat.le_refl _)) 3 _
    have hm6 := row_other hm5 fb 3 (.slice AI (putI P).length cI) hfbm
    have hB6 := hB5.setCell (p := ⟨fb, 3, none⟩) (by show w.heap.size ≤ fb; omega) (.slice AI (putI P).length cI)
    have hI6 := itsl_kp hf5 hm5 hk56 (fun b off e => by have := hIb b off e; omega) hI
    have k0 := row_cell hf5 3
    simp at k0
    have r3 := row_frozen hf5 3
    obtain ⟨W6, hW6⟩ : ∃ x, w5.setCell ⟨fb, 3, none⟩ (.slice AI (putI P).length cI) = x := ⟨_, rfl⟩
    rw [hW6] at hf6 hk6 hm6 hB6 hI6
    have hlt6 := row_lt hf6
    have hlm6 := row_lt hm6
    have hx : FixF W6 w.heap.size W6.heap.size fb bm n P T A1 c1 A2 c2 AI cI := ⟨hf6, ⟨_, _, hm6⟩, ⟨hlt6, hlm6, fun e => hfbm e.symm, by omega, hwbm, hB6.size⟩, ⟨by omega, by omega, hcP, hcT⟩, clsl_kp HF3.out HM3.out hk6 HP.out, clsl_kp HF3.out HM3.out hk6 HT.out, hI6, fun b off e => by have := hIb b off e; omega, HPUTS.out⟩
    have hom : W6.ownsMap Try.prog 48 (plainElem (H := Unit) Try.prog 3) bm 0 (.map []) := by
      obtain ⟨es, clock, h1, h2⟩ := World.ownsMap_made w1 Try.prog 48 (plainElem (H := Unit) Try.prog 3)
      have h3 := heap_alloc_new w1 (.map #[] 0)
      rw [h1] at h3
      injection h3 with h3
      rw [← h3] at hm6
      exact ⟨es, clock, hm6, h2⟩
    have hfs : FS W6 w.heap.size W6.heap.size fb bm n P T A1 c1 A2 c2 AI cI 0 ([], []) W6 := ⟨⟨_, hf6, Own.nil _ _⟩, ⟨_, _, hom, SeenD.zero⟩, Nat.le_refl _, Below.refl _ _, kept_refl _ _ _ _ (Nat.le_refl _)⟩
    have hcN : callsN (S.length + 1) ≤ 8796093022208 := Nat.le_trans (callsN_mono (by omega)) callsN_41
    have hfr : Calls Try.prog 22 #[.pointer (some ⟨fb, 0, none⟩), .agg #[.int .i64 0, .int .i64 0, .int .i64 0, .int .i64 0]] W6 _ := from_any hx (S.length + 1) ⟨0, 0, 0, 0⟩ ([], []) 0 W6 (Inv.zero n P T) hleft (by omega) hfs
    have HFR := Lib.hid hfr
    have HX := Lib.hid hx
    have HB6 := Lib.hid hB6
    have HCN := Lib.hid hcN
    clear hf5 hm5 hB5 hf6 hk6 hk56 hm6 hI6 hI hIb hx hfs hfr hom hcN hb5 q0 q1 q2 q3 q4 q5 r1 r2 q41
    go_wp2_with fail
    refine HFR.out.mono ?_
    rintro e w7 ⟨rfl, hfs7, _⟩
    obtain ⟨vE, hF7, hO7⟩ := hfs7.own
    have hl7 := hfs7.len
    have hB7 := HB6.out.trans hfs7.below
    have hm7 := hfs7.kept.1
    have hso7 := sortI_any hO7 (by have := HCN.out; omega) hm7
    obtain ⟨j0, j1, j2, j3, j4, j5⟩ := FBox.cells hF7
    have HSO7 := Lib.hid hso7
    have HF7 := Lib.hid hF7
    have HB7 := Lib.hid hB7
    have HL7 := Lib.hid hl7
    clear hfs7 hF7 hO7 hl7 hB7 hso7 k0 r3
    go_wp2_with fail
    refine HSO7.out.mono ?_
    rintro e w8 ⟨rfl, hO8, hb8⟩
    have hF8 := (hb8.block fb hlt6).trans HF7.out
    obtain ⟨i0, i1, i2, i3, i4, i5⟩ := FBox.cells hF8
    have hco8 := compI_any hO8 (by rw [List.length_mergeSort]; have := HCN.out; have := HL7.out; omega)
    have HCO := Lib.hid hco8
    have HB8 := Lib.hid (HB7.out.trans (hb8.mono HB6.out.size))
    clear hco8 hF8 hb8 hO8 j0 j1 j2 j3 j4 j5
    go_wp2_with fail
    refine HCO.out.mono ?_
    rintro e w9 ⟨v', rfl, hO9, hb9⟩
    have HR := Lib.hid (show LenR n l w (.returned v') w9 from ⟨v', _, rfl, hO9.mono HB6.out.size, fun h => (by rw [HFF.out] at h; cases h), fun _ => ⟨S, HSO.out, by unfold lensOf; rw [HENDS.out]⟩, HB8.out.trans (hb9.mono HB6.out.size)⟩)
    clear hO9 hb9 i0 i1 i2 i3 i4 i5
    go_wp2_with fail
    go_ret
    exact HR.out

def CheckR (n : Int) (l : List Cl) (w : World) (e : Ending) (w' : World) : Prop := ∃ Z : List Int, e = .returned (.bool (decide (0 < Z.length))) ∧ (fitsB l = false → Z = []) ∧ (fitsB l = true → ∃ S, SortOf S l ∧ Z = lensOf n S) ∧ Below w.heap.size w w'
set_option maxRecDepth 100000 in
theorem check_any (n : Int) (A : Option Addr) (c : Nat) (l : List Cl) (w : World) (hn : l.length ≤ 40) (hc : l.length ≤ c) (hr : ∀ x ∈ l, x.r.length ≤ 100) (hl : ClSl w w.heap.size A l) :
    Calls Try.prog 13 #[.int .i64 n, .slice A l.length c] w (CheckR n l w) := by
  have h := Lib.hid (lengths_any n A c l w hn hc hr hl)
  clear hl hr
  go_enter Try.func13, Try.ntmps13
  go_wp2_with fail
  refine h.out.mono ?_
  rintro e w1 ⟨v, Z, rfl, hO, h1, h2, hb⟩
  obtain ⟨A1, c1, rfl, _, _, _⟩ := hO.sl
  have HR := Lib.hid (show CheckR n l w (.returned (.bool (decide (0 < Z.length)))) w1 from ⟨Z, rfl, h1, h2, hb⟩)
  clear hO h1 h2 hb h
  obtain ⟨m, hm⟩ : ∃ x, Z.length = x := ⟨_, rfl⟩
  have HM := Lib.hid hm
  rw [hm]
  clear hm
  go_wp2_with fail
  go_ret
  have := HR.out
  rw [HM.out] at this
  simpa using this

end Go.Proofs.Ytgmmblknaeepbaa
