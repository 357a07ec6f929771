/- record.Read: a text as a record. -/
import Derived.Test.YtkcdmonmgnmojaaDoorNumber
import Derived.Test.YtkcdmonmgnmojaaDoorSeqBox
import Derived.Test.YtkcdmonmgnmojaaDoorWs
namespace Go.Proofs.YtkcdmonmgnmojaaDoor
open Go.RowKit Go.Shelf
attribute [local go_sem] Oper.semAt_some

def readB (most : Int) (l : List UInt8) : Bool := if l = [] then decide (0 ≤ most) else (pcs 32 l).all numB && decide (((pcs 32 l).length : Int) ≤ most)
def readL (l : List UInt8) : List Int := if l = [] then [] else (pcs 32 l).map fun p => (dv p : Int)

theorem read_all {most : Int} {l : List UInt8} (hl : l ≠ []) : readB most l = ((pcs 32 l).all numB && decide (((pcs 32 l).length : Int) ≤ most)) := by unfold readB; rw [if_neg hl]
theorem read_bad1 {most : Int} {l : List UInt8} (hl : l ≠ []) {pre : List (List UInt8)} {x : List UInt8} (hok : pre ++ [x] <+: pcs 32 l) (hx : numB x = false) : readB most l = false := by
  rw [read_all hl]
  have : (pcs 32 l).all numB = false := by
    rw [List.all_eq_false]
    refine ⟨x, hok.subset (by simp), ?_⟩
    rw [hx]
    simp
  rw [this]
  rfl
theorem read_bad2 {most : Int} {l : List UInt8} (hl : l ≠ []) {pre : List (List UInt8)} {x : List UInt8} (hok : pre ++ [x] <+: pcs 32 l) (hx : most ≤ (pre.length : Int)) : readB most l = false := by
  rw [read_all hl]
  have h2 := hok.length_le
  rw [List.length_append, List.length_singleton] at h2
  have : decide (((pcs 32 l).length : Int) ≤ most) = false := by rw [decide_eq_false_iff_not]; omega
  rw [this, Bool.and_false]
def wordsV (l : List (List UInt8)) : List Value := l.map fun p => Value.int .u32 (dv p : Int)

theorem res_read (tmps : Array Value) (w : World) {a b : Addr} {A : Option Addr} {n c : Nat} {x : Bool} (ha : tmps[4]?.getD undef = .pointer (some a)) (hb : tmps[5]?.getD undef = .pointer (some b)) (hv : w.cell? a = some (.slice A n c)) (hx : w.cell? b = some (.bool x)) :
    (results Tryd.f68 tmps).run Tryd.prog w = .ok (.tuple #[.slice A n c, .bool x]) w := by
  simp [results, ha, hb, hv, hx, go_sem]

set_option maxRecDepth 100000 in
set_option maxHeartbeats 2000000 in
theorem read_any (s : ByteArray) (most : Int) (w : World) (hs : s.size ≤ 1000000) (hm1 : -9223372036854775808 ≤ most) (hm2 : most ≤ 9223372036854775807) :
    Calls Tryd.prog 68 #[.string s, .int .i64 most] w fun e w' => ∃ v, e = .returned (.tuple #[v, .bool (readB most s.data.toList)]) ∧ (readB most s.data.toList = true → OwnW w.heap.size w' v (readL s.data.toList)) ∧ (readB most s.data.toList = false → v = .slice none 0 0) ∧ Below w.heap.size w w' := by
  by_cases z : s.size = 0
  · have hl0 : s.data.toList = [] := by
      have : s.data.toList.length = s.size := Array.length_toList
      exact List.eq_nil_of_length_eq_zero (by omega)
    have hne : s.toList.isEmpty = true := by rw [ByteArray.toList_eq, hl0]; rfl
    have hrb : readB most s.data.toList = decide (0 ≤ most) := by unfold readB; rw [if_pos hl0]
    have hrl : readL s.data.toList = [] := by unfold readL; rw [if_pos hl0]
    rw [hrb, hrl]
    clear hrb hrl hl0 z
    go_enter Tryd.func68, Tryd.ntmps68
    go_wp2_with fail
    go_region
    all_goals go_wp2_with fail
    all_goals
      refine bodyPost_ret (res_read (A := none) (n := 0) (c := 0) (x := decide (0 ≤ most)) _ _ rfl rfl (by simp [go_sem]) (by simp [go_sem])) rfl ?_
      refine ⟨_, rfl, fun _ => ⟨Own.nil _ _, (fun z h => by cases h)⟩, (fun _ => rfl), ?_⟩
      exact ((((Below.refl _ w).alloc (Nat.le_refl _) _).alloc (by simp) _).alloc (by simp; omega) _).drew
  · have hne : s.toList.isEmpty = false := by
      rw [ByteArray.toList_eq]
      rcases hh : s.data.toList with _ | ⟨a, r⟩
      · exfalso
        have : s.data.toList.length = s.size := Array.length_toList
        rw [hh] at this
        exact z this.symm
      · rfl
    refine (callsIn_wide (n := 6)).1 ?_
    refine callsIn_of_wp_marks Tryd.func68 rfl trivial ?_ rfl
    simp only [Tryd.ntmps68, List.size_toArray, List.length_cons, List.length_nil, Nat.reduceAdd, Nat.reduceSub, Array.replicate_succ, Array.replicate_zero, List.push_toArray, List.append_toArray, List.nil_append, List.cons_append]
    gi_wp2_with fail
    refine ⟨trivial, ?_⟩
    refine (callsIn_wide.2 (splitSeq_any 32 s _)).mono ?_
    rintro e W0 ⟨B, hB, rfl, hW0⟩
    gi_wp2_with fail
    clear hB
    obtain ⟨w1, hw1⟩ : ∃ x, w.alloc (.cells #[.int .i64 most] 3) = x := ⟨_, rfl⟩
    rw [hw1] at hW0
    have x1 := box_new hw1 rfl
    obtain ⟨w2, hw2⟩ : ∃ x, w1.alloc (.cells #[.slice none 0 0] 43) = x := ⟨_, rfl⟩
    rw [hw2] at hW0
    have x2 := box_new hw2 x1.2
    obtain ⟨w3, hw3⟩ : ∃ x, w2.alloc (.cells #[.bool false] 4) = x := ⟨_, rfl⟩
    rw [hw3] at hW0
    have x3 := box_new hw3 x2.2
    obtain ⟨w4, hw4⟩ : ∃ x, w3.alloc (.cells #[.slice none 0 0] 43) = x := ⟨_, rfl⟩
    rw [hw4] at hW0
    have x4 := box_new hw4 x3.2
    obtain ⟨w5, hw5⟩ : ∃ x, w4.alloc (.cells #[.string s] 9) = x := ⟨_, rfl⟩
    rw [hw5] at hW0
    have x5 := box_new hw5 x4.2
    obtain ⟨w6, hw6⟩ : ∃ x, w5.alloc (.cells #[.string ⟨#[32]⟩] 9) = x := ⟨_, rfl⟩
    rw [hw6] at hW0
    have x6 := box_new hw6 x5.2
    have hw7 := hW0
    have x7 := box_new hw7 x6.2
    have y1 := (box_al (box_al (box_al (box_al (box_al (box_al x1.1 hw2) hw3) hw4) hw5) hw6) hw7)
    have y2 := (box_al (box_al (box_al (box_al (box_al x2.1 hw3) hw4) hw5) hw6) hw7)
    have y3 := (box_al (box_al (box_al (box_al x3.1 hw4) hw5) hw6) hw7)
    have y4 := (box_al (box_al (box_al x4.1 hw5) hw6) hw7)
    have y5 := (box_al (box_al x5.1 hw6) hw7)
    have y6 := (box_al x6.1 hw7)
    have y7 := x7.1
    have hb0 : Below w.heap.size w W0 := below_al (below_al (below_al (below_al (below_al (below_al (below_al (Below.refl w.heap.size w) (Nat.le_refl _) hw1) (by rw [x1.2]; omega) hw2) (by rw [x2.2]; omega) hw3) (by rw [x3.2]; omega) hw4) (by rw [x4.2]; omega) hw5) (by rw [x5.2]; omega) hw6) (by rw [x6.2]; omega) hw7
    have hsz := x7.2
    clear x1 x2 x3 x4 x5 x6 x7 hw1 hw2 hw3 hw4 hw5 hw6 hw7 hW0
    obtain ⟨N, hN⟩ : ∃ N, N = w.heap.size + 1 + 1 + 1 + 1 + 1 + 1 + 1 := ⟨_, rfl⟩
    have hpl : (pcs 32 s.data.toList).length ≤ s.size + 1 := by
      have := pcs_len 32 s.data.toList
      have h2 : s.data.toList.length = s.size := Array.length_toList
      omega
    have hl0 : s.data.toList ≠ [] := fun e => by
      have : s.data.toList.length = s.size := Array.length_toList
      rw [e] at this
      exact z this.symm
    refine wpIn_rangeFunc_st rfl (by omega) (gf := 149) (lb := #[.pointer (some ⟨w.heap.size + 1 + 1 + 1 + 1 + 1, 0, none⟩), .pointer (some ⟨w.heap.size + 1 + 1 + 1 + 1, 0, none⟩), .pointer (some ⟨w.heap.size + 1 + 1 + 1 + 1 + 1 + 1, 0, none⟩)]) rfl trivial (enters_of Tryd.func149 (by kernel_rfl) rfl)
      (split_st (6 - 1) (by omega) (w.heap.size + 1 + 1 + 1 + 1) 32 s (by omega) W0 y5 y6 y7) (by omega) (fun h k j h1 h2 => (k j h1 h2).trans (h j h1 h2)) (fun W l o o' hl _ _ j h1 h2 => World.putObj_heap_other (by omega)) (Below.refl _ _)
      (fun pre W => (Boxed W w.heap.size 3 (.int .i64 most) ∧ Boxed W (w.heap.size + 1) 43 (.slice none 0 0) ∧ Boxed W (w.heap.size + 1 + 1) 4 (.bool false)) ∧
        (∃ v, Boxed W (w.heap.size + 1 + 1 + 1) 43 v ∧ W.ownsRow N 22 1 v pre.length (wordsV pre)) ∧ (Below w.heap.size w W ∧ N ≤ W.heap.size) ∧ (pre.all numB = true ∧ (pre = [] ∨ (pre.length : Int) ≤ most)))
      (fun c pre W => (Boxed W (w.heap.size + 1) 43 (.slice none 0 0) ∧ Boxed W (w.heap.size + 1 + 1) 4 (.bool false)) ∧ Below w.heap.size w W ∧ (c = .ret ∧ readB most s.data.toList = false))
      ?_ ?_ ?_ ?_ ⟨⟨y1, y2, y3⟩, ⟨_, y4, World.ownsRow_nil _ _ _ _⟩, ⟨hb0, by omega⟩, rfl, .inl rfl⟩
      (fun x => { tmps := #[.string s, .int .i64 most, undef, .pointer (some ⟨w.heap.size, 0, none⟩), .pointer (some ⟨w.heap.size + 1, 0, none⟩), .pointer (some ⟨w.heap.size + 1 + 1, 0, none⟩), .pointer (some ⟨w.heap.size + 1 + 1 + 1, 0, none⟩), .string ⟨x.toArray⟩, undef, undef, .string s, .bool false, undef, undef, .string s,
        .func (.func 149) #[] #[.pointer (some ⟨w.heap.size + 1 + 1 + 1 + 1 + 1, 0, none⟩), .pointer (some ⟨w.heap.size + 1 + 1 + 1 + 1, 0, none⟩), .pointer (some ⟨w.heap.size + 1 + 1 + 1 + 1 + 1 + 1, 0, none⟩)], .string ⟨x.toArray⟩, undef, undef, undef, undef, undef, undef, undef, undef, undef, undef, undef, undef, undef, undef, undef, undef, undef, undef], defers := [] })
      ?assign ?body ?done ?stop
    · exact fun pre => ((Calm.boxed (by omega) _ _).and ((Calm.boxed (by omega) _ _).and (Calm.boxed (by omega) _ _))).and ((Calm.ex fun v => (Calm.boxed (by omega) _ _).and (Calm.owns (by omega) _ _ _ _ _)).and (((Calm.below (by omega) (Nat.le_refl _)).and (Calm.size _ _)).and (Calm.const _ _)))
    · exact fun c pre => ((Calm.boxed (by omega) _ _).and (Calm.boxed (by omega) _ _)).and ((Calm.below (by omega) (Nat.le_refl _)).and (Calm.const _ _))
    · rintro pre W l o o' ⟨⟨r0, r1, r2⟩, ⟨v, r3, hown⟩, ⟨hbw, hNW⟩, hr⟩ hl ho hc
      have hbp := below_putO (H := w.heap.size) o' (by omega) ho
      exact ⟨⟨box_putO o' r0 ho hc, box_putO o' r1 ho hc, box_putO o' r2 ho hc⟩, ⟨v, box_putO o' r3 ho hc, ownsRow_putObj hown o' ho hc⟩, ⟨hbw.trans hbp, Nat.le_trans hNW hbp.size⟩, hr⟩
    · rintro c pre W l o o' ⟨⟨r1, r2⟩, hbw, hr⟩ hl ho hc
      have hbp := below_putO (H := w.heap.size) o' (by omega) ho
      exact ⟨⟨box_putO o' r1 ho hc, box_putO o' r2 ho hc⟩, hbw.trans hbp, hr⟩
    case assign =>
      intro l x W K hK
      gi_wp2
      exact hK
    case body =>
      rintro l pre x W ⟨⟨r0, r1, r2⟩, ⟨v, r3, hown⟩, ⟨hbw, hNW⟩, hall, hle⟩ hok
      gi_wp2_with fail
      refine ⟨trivial, ?_⟩
      refine (CallsIn.inRound l (callsIn_wide.2 (number_any _ _))).mono ?_
      rintro e3 W3 ⟨⟨z, rfl, hz⟩, hb3⟩
      have hxx : (⟨x.toArray⟩ : ByteArray).data.toList = x := rfl
      rw [hxx] at hz ⊢
      replace r0 : Boxed W3 _ _ _ := (hb3.block _ r0.lt).trans r0
      replace r1 : Boxed W3 _ _ _ := (hb3.block _ r1.lt).trans r1
      replace r2 : Boxed W3 _ _ _ := (hb3.block _ r2.lt).trans r2
      replace r3 : Boxed W3 _ _ _ := (hb3.block _ r3.lt).trans r3
      replace hown := owns_below hown hb3 (Nat.le_refl _)
      have hb3' := hbw.trans (hb3.mono hbw.size)
      have hs3 := hb3.size
      obtain ⟨A, c, rfl⟩ := owns_slice hown
      have g0 := r0.cell
      have g1 := r1.cell
      have g2 := r2.cell
      have g3 := r3.cell
      have f1 := r1.frozen
      have f2 := r2.frozen
      rcases hnb : numB x with _ | _
      · have hrd := Lib.hid (read_bad1 (most := most) hl0 hok hnb)
        gi_wp2_with fail
        refine ⟨(keeps_below hb3).trans (((KeepsOthers.setCell _ _ _).trans (KeepsOthers.setCell _ _ _)).from _), ⟨(r1.set _).other (by omega) _, (r2.other (by omega) _).set _⟩, (hb3'.setCell (p := ⟨w.heap.size + 1, 0, none⟩) (by simp) _).setCell (p := ⟨w.heap.size + 1 + 1, 0, none⟩) (by simp; omega) _, rfl, hrd.out⟩
      · replace hz := hz hnb
        subst hz
        by_cases hlt : (pre.length : Int) < most
        · have t1 : decide (most ≤ (pre.length : Int)) = false := by rw [decide_eq_false_iff_not]; omega
          have hpl2 := hok.length_le
          rw [List.length_append, List.length_singleton] at hpl2
          have hall' := Lib.hid hall
          have hnb' := Lib.hid hnb
          have hok' := Lib.hid hok
          have hown' := Lib.hid hown
          clear hall hok hnb hown
          obtain ⟨ht, i0, zz, hi, hz0, hsize, hby, hzs, hszz⟩ := u32Ty
          gi_wp2_with (gi_at_builtin; refine wpListIn_append_own _ rfl _ _ 43 rfl N 22 i0 zz 1 4 ht hi hz0 hsize hby hzs hszz _ _ _ rfl (hown'.out.alloc _) ⟨W3.heap.size, 0, none⟩ 1 1 [.int .u32 (dv x : Int)] rfl rfl (cells_new' _ _ _ _ rfl) (by simp [Value.oneCell']) (by unfold maxLen; omega) (by omega) (by simp; omega) ?_
                       intro v' w1 hown1 hgrow1 _
                       obtain ⟨A', c', rfl⟩ := owns_slice hown1
                       obtain ⟨q1, q2, q3, q4, q5, q6⟩ := app_box r3 hown'.out (by omega) (by omega) hown1 hgrow1
                       have q1c := q1.cell
                       have q1f := q1.frozen)
          refine ⟨(keeps_below hb3).trans (q4.from _), fun j h1 h2 => (q5 j (by omega) (by omega)).trans (hb3.block j (by omega)), ⟨(q5 _ (by omega) (by omega)).trans r0, (q5 _ (by omega) (by omega)).trans r1, (q5 _ (by omega) (by omega)).trans r2⟩, ⟨_, q2, ?_⟩,
            ⟨hb3'.trans (q6 _ (by omega)), Nat.le_trans (Nat.le_trans hNW hs3) (q6 w.heap.size (by omega)).size⟩, ?_, .inr (by rw [List.length_append, List.length_singleton]; omega)⟩
          · rw [List.length_append, List.length_singleton]
            unfold wordsV
            rw [List.map_append]
            exact q3
          · rw [List.all_append, hall'.out]
            simp [hnb'.out]
        · have t1 : decide (most ≤ (pre.length : Int)) = true := by rw [decide_eq_true_iff]; omega
          have hrd := Lib.hid (read_bad2 (most := most) hl0 hok (by omega))
          gi_wp2_with fail
          refine ⟨(keeps_below hb3).trans (((KeepsOthers.setCell _ _ _).trans (KeepsOthers.setCell _ _ _)).from _), ⟨(r1.set _).other (by omega) _, (r2.other (by omega) _).set _⟩, (hb3'.setCell (p := ⟨w.heap.size + 1, 0, none⟩) (by simp) _).setCell (p := ⟨w.heap.size + 1 + 1, 0, none⟩) (by simp; omega) _, rfl, hrd.out⟩
    case done =>
      rintro D ys W hD rfl ⟨⟨r0, r1, r2⟩, ⟨v, r3, hown⟩, ⟨hbw, hNW⟩, hall, hle⟩ hK
      obtain ⟨A, c, rfl⟩ := owns_slice hown
      have g1 := r1.cell
      have g2 := r2.cell
      have g3 := r3.cell
      have f1 := r1.frozen
      have f2 := r2.frozen
      have hrd : readB most s.data.toList = true := by rw [read_all hl0, hall, decide_eq_true (hle.resolve_left (pcs_ne 32 s.data.toList))]; rfl
      have hrd' := Lib.hid hrd
      have hall' := Lib.hid hall
      clear hrd hall hle
      gi_wp2_with fail
      have r1' := (r1.set (.slice A (pcs 32 s.data.toList).length c)).other (B' := w.heap.size + 1 + 1) (by omega) (.bool true)
      have r2' := (r2.other (B' := w.heap.size + 1) (by omega) (.slice A (pcs 32 s.data.toList).length c)).set (.bool true)
      have hK' := (Calm.at (B := w.heap.size + 1 + 1) (l := D) (by omega) _).set _ (.bool true) ((Calm.at (B := w.heap.size + 1) (l := D) (by omega) _).set _ (.slice A (pcs 32 s.data.toList).length c) hK)
      have hown' := ownsRow_putObj ((Calm.owns (B := w.heap.size + 1 + 1) (base := N) (by omega) _ _ _ _ _).set _ (.bool true) ((Calm.owns (B := w.heap.size + 1) (base := N) (by omega) _ _ _ _ _).set _ (.slice A (pcs 32 s.data.toList).length c) hown)) (.deferred none) hK' rfl
      have hbp := below_putO (H := w.heap.size) (.deferred none) (by omega) hK'
      refine ⟨by simp, .inl ⟨_, _, rfl, run_takeDeferred hK', ?_⟩⟩
      refine ⟨_, res_read _ _ rfl rfl (box_putO (.deferred none) r1' hK' rfl).cell (box_putO (.deferred none) r2' hK' rfl).cell, .slice A (pcs 32 s.data.toList).length c, (by rw [hrd'.out]), (fun _ => ?_), (fun h => by rw [hrd'.out] at h; cases h), ((hbw.setCell (p := ⟨w.heap.size + 1, 0, none⟩) (by simp) _).setCell (p := ⟨w.heap.size + 1 + 1, 0, none⟩) (by simp; omega) _).trans hbp⟩
      have hrl : readL s.data.toList = (pcs 32 s.data.toList).map fun p => (dv p : Int) := by unfold readL; rw [if_neg hl0]
      rw [hrl]
      refine ⟨Own.mono ?_ (show w.heap.size ≤ N by omega), fun z hz => ?_⟩
      · unfold Own
        rw [List.length_map, show (ints .u32).all ((pcs 32 s.data.toList).map fun p => (dv p : Int)) = wordsV (pcs 32 s.data.toList) from by unfold wordsV; rw [show (ints .u32).all _ = _ from of1_all _ _ _, List.map_map]; rfl]
        exact hown'
      · obtain ⟨p, hp, rfl⟩ := List.mem_map.1 hz
        have := List.all_eq_true.1 hall'.out p hp
        simp [numB] at this
        simp [Lit.wf, IntKind.min, IntKind.max, IntKind.signed, IntKind.bits]
        omega
    case stop =>
      rintro D c pre W hD _ ⟨⟨r1, r2⟩, hbw, rfl, hf⟩ hK
      have g1 := r1.cell
      have g2 := r2.cell
      have hf' := Lib.hid hf
      clear hf
      have hbp := below_putO (H := w.heap.size) (.deferred none) (by omega) hK
      gi_wp2_with fail
      refine ⟨by simp, .inl ⟨_, _, rfl, run_takeDeferred hK, ?_⟩⟩
      exact ⟨_, res_read _ _ rfl rfl (box_putO (.deferred none) r1 hK rfl).cell (box_putO (.deferred none) r2 hK rfl).cell, .slice none 0 0, (by rw [hf'.out]), (fun h => by rw [hf'.out] at h; cases h), (fun _ => rfl), hbw.trans hbp⟩

end Go.Proofs.YtkcdmonmgnmojaaDoor
