/- observe.done, best, Worst, Least: an iterator over a task's response times, and the best of them. -/
import Derived.Test.YtjfgmallhjclgaaObsLib
import Derived.RangeFuncNested
import Derived.RangeFuncBound
import Derived.RangeFuncCalls
import Derived.RangeFuncLeaves
import Derived.RangeFuncBox
import Derived.Shelf.Abstract
import Derived.Shelf.RegionOpen
import Derived.OwnWalkIn
import Derived.TacticsInMore
import Derived.LoopNIn
import Derived.LoopIn
import Derived.Deep.QuietTactic
import Derived.BigQuiet
namespace Go.Proofs.Ytjfgmallhjclgaa
open Go.RowKit Go.Shelf
attribute [local go_sem] Oper.semAt_some

/-- The response times of a task. -/
def doneN (i : Int) (l : List Ev) : List Int := (l.filter fun e => e.k == 7 && e.p == i).map Ev.b
theorem doneN_snoc (i : Int) {l : List Ev} {k : Nat} {e : Ev} (h : l[k]? = some e) : doneN i (l.take (k + 1)) = doneN i (l.take k) ++ if (e.k == 7 && e.p == i) = true then [e.b] else [] := by
  rw [take_snoc h]
  unfold doneN
  rw [List.filter_append, List.map_append]
  split <;> rename_i hh <;> simp [List.filter_cons, hh]
theorem doneN_le (i : Int) (l : List Ev) : (doneN i l).length ≤ l.length := by
  unfold doneN
  rw [List.length_map]
  exact List.length_filter_le _ _

theorem doneN_lt (i : Int) {l : List Ev} {k : Nat} {e : Ev} (h : l[k]? = some e) (hh : (e.k == 7 && e.p == i) = true) : (doneN i (l.take k)).length < (doneN i l).length := by
  have h2 : doneN i l = doneN i (l.take (k + 1)) ++ doneN i (l.drop (k + 1)) := by
    unfold doneN
    rw [← List.map_append, ← List.filter_append, List.take_append_drop]
  rw [h2, doneN_snoc i h, if_pos hh]
  simp
theorem doneN_pre (i : Int) (l : List Ev) (k : Nat) : doneN i (l.take k) <+: doneN i l := by
  refine ⟨doneN i (l.drop k), ?_⟩
  unfold doneN
  rw [← List.map_append, ← List.filter_append, List.take_append_drop]

set_option maxRecDepth 100000 in
set_option maxHeartbeats 2000000 in
theorem done1_in (n : Nat) (hn : 1 ≤ n) (lb Bs Bi n₀ c : Nat) (A : Option Addr) (l : List Ev) (i : Int) (hlen : l.length ≤ 300) (J Jx : List Int → World → Prop)
    (W : World) (hn₀ : n₀ ≤ W.heap.size) (hJ : AbidesFrom W.heap.size J)
    (hY : ∀ pre x W, J pre W → pre.length < (doneN i l).length → YieldAt Fence.wide (n - 1) Try.prog lb #[.int .i64 x] W fun e W' =>
      (e = .returned (.bool true) ∧ J (pre ++ [x]) W' ∧ Below n₀ W W') ∨ (e = .returned (.bool false) ∧ Jx (pre ++ [x]) W'))
    (hBs : W.cell? ⟨Bs, 0, none⟩ = some (.slice A l.length c)) (hBi : W.cell? ⟨Bi, 0, none⟩ = some (.int .i64 i)) (hs : Bs < n₀) (hi : Bi < n₀) (hl : EvSl W n₀ A l) (h0 : J [] W) :
    CallsIn Fence.wide n Try.prog 15 #[.func (.yield lb) #[] #[], .pointer (some ⟨Bs, 0, none⟩), .pointer (some ⟨Bi, 0, none⟩)] W fun e W' => (∃ v, e = .returned v) ∧
      ((∃ ys, ys = doneN i l ∧ J ys W') ∨ (∃ pre, pre <+: doneN i l ∧ Jx pre W')) := by
  refine callsIn_of_wp Try.func15 rfl trivial ?_ rfl
  simp only [Try.ntmps15, List.size_toArray, List.length_cons, List.length_nil, Nat.reduceAdd, Nat.reduceSub, Array.replicate_succ, Array.replicate_zero, List.push_toArray, List.append_toArray, List.nil_append, List.cons_append]
  gi_wp2
  gi_loopw [8] (fun j wr => ∃ k : Nat, k ≤ l.length ∧ j = .int .i64 k ∧ J (doneN i (l.take k)) wr ∧ Below n₀ W wr)
    (fun j _ => l.length - (intOf j).toNat)
  case atStart => exact ⟨0, Nat.zero_le _, rfl, h0, Below.refl _ _⟩
  case round =>
    obtain ⟨k, hk, rfl, hJs, hnx⟩ := hrel
    have hBi' := (hnx.cell (p := ⟨Bi, 0, none⟩) hi).trans hBi
    have hsz := hnx.size
    by_cases hlt : k < l.length
    · obtain ⟨e, he⟩ := get_some hlt
      obtain ⟨_, b, off, rfl, hlb, h0, h1, h2, h3, h4⟩ := (hl.below hnx (Nat.le_refl _)).get he
      have hlw : Bi < wr.heap.size := by omega
      by_cases hh : (e.k == 7 && e.p == i) = true
      · have hs' := Lib.hid (doneN_snoc i he)
        have hlt' := doneN_lt i he hh
        simp only [Bool.and_eq_true] at hh
        obtain ⟨hk7, hpi⟩ := hh
        have hW2 : J (doneN i (l.take k)) (wr.alloc (.cells #[.int .i64 e.t, .int .i64 e.k, .int .i64 e.p, .int .i64 e.a, .int .i64 e.b] 25)) := hJ _ _ _ none hJs (World.grownBy_alloc _ _ none) (by simp)
        obtain ⟨fn, tmps, assign, body, hy, hR⟩ := hY _ e.b _ hW2 hlt'
        gi_wp2
        refine hR.mono ?_
        rintro e3 W3 (⟨rfl, hJ3, hk3⟩ | ⟨rfl, hJx3⟩)
        · gi_wp2
          go_roundw
          case rel => exact ⟨k + 1, by omega, by go_num, by rw [hs'.out]; simpa [hk7, hpi] using hJ3, hnx.trans (((Below.refl n₀ wr).alloc (by omega) _).trans hk3)⟩
          case measure => simp [intOf]; omega
        · gi_wp2
          refine bodyPost_ret (results_none rfl _ _ _) rfl ?_
          refine ⟨⟨_, rfl⟩, .inr ⟨doneN i (l.take (k + 1)), doneN_pre i l _, ?_⟩⟩
          rw [hs'.out]
          simpa [hk7, hpi] using hJx3
      · have hs' := Lib.hid (doneN_snoc i he)
        have hh' := Lib.hid hh
        have hW2 : J (doneN i (l.take k)) (wr.alloc (.cells #[.int .i64 e.t, .int .i64 e.k, .int .i64 e.p, .int .i64 e.a, .int .i64 e.b] 25)) := hJ _ _ _ none hJs (World.grownBy_alloc _ _ none) (by simp)
        have hW2' := Lib.hid hW2
        clear hW2 he
        have x : (e.k == 7) = true ∧ (e.p == i) = false ∨ (e.k == 7) = false := by
          rcases hx : (e.k == 7) with _ | _ <;> rcases hy : (e.p == i) with _ | _ <;> simp [hx, hy] at hh ⊢
        clear hh
        rcases x with ⟨x1, x2⟩ | x1
        all_goals
          gi_wp2
          refine ⟨fun _ h => (by cases h), ?_⟩
          gi_wp2
          go_roundw
          case rel => exact ⟨k + 1, by omega, by go_num, by rw [hs'.out, if_neg hh'.out, List.append_nil]; exact hW2'.out, hnx.alloc (by omega) _⟩
          case measure => simp [intOf]; omega
    · have ht := take_all hlt
      rw [ht] at hJs
      gi_wp2
      go_end0
      exact ⟨⟨_, rfl⟩, .inl ⟨_, rfl, hJs⟩⟩

theorem done_stops (n : Nat) (hn : 1 ≤ n) (Bs Bi n₀ c : Nat) (A : Option Addr) (l : List Ev) (i : Int) (hlen : l.length ≤ 300) (w : World) (hn₀ : n₀ ≤ w.heap.size)
    (hBs : w.cell? ⟨Bs, 0, none⟩ = some (.slice A l.length c)) (hBi : w.cell? ⟨Bi, 0, none⟩ = some (.int .i64 i)) (hs : Bs < n₀) (hi : Bi < n₀) (hl : EvSl w n₀ A l) :
    SeqStopsK Fence.wide n Try.prog 15 #[.pointer (some ⟨Bs, 0, none⟩), .pointer (some ⟨Bi, 0, none⟩)] (fun x : Int => #[Value.int .i64 x]) (Below n₀) (fun ys => ys = doneN i l) (fun pre => pre <+: doneN i l) (doneN i l).length w :=
  fun lb J Jx W hW hJ _ hY h0 => by
    have hW' := hW.mono hn₀
    refine done1_in n hn lb Bs Bi n₀ c A l i hlen J Jx W (Nat.le_trans hn₀ hW.size) hJ hY ((hW'.cell (p := ⟨Bs, 0, none⟩) hs).trans hBs) ((hW'.cell (p := ⟨Bi, 0, none⟩) hi).trans hBi) hs hi (hl.below hW' (Nat.le_refl _)) h0

theorem done_any (A : Option Addr) (n c : Nat) (i : Int) (w : World) :
    Calls Try.prog 12 #[.slice A n c, .int .i64 i] w fun e w' => e = .returned (.func (.func 15) #[] #[.pointer (some ⟨w.heap.size, 0, none⟩), .pointer (some ⟨w.heap.size + 1, 0, none⟩)]) ∧
      (w.alloc (.cells #[.slice A n c] 22)).alloc (.cells #[.int .i64 i] 3) = w' := by
  go_enter Try.func12, Try.ntmps12
  go_wp2
  go_ret
  exact ⟨rfl, rfl⟩

theorem max_any (a b : Int) (w : World) : Calls Try.prog 13 #[.int .i64 a, .int .i64 b] w fun e w' => e = .returned (.int .i64 (max a b)) ∧ w = w' := by
  go_enter Try.func13, Try.ntmps13
  go_wp2
  all_goals
    go_ret
    exact ⟨ret_int (by omega), rfl⟩
theorem min_any (a b : Int) (w : World) : Calls Try.prog 14 #[.int .i64 a, .int .i64 b] w fun e w' => e = .returned (.int .i64 (min a b)) ∧ w = w' := by
  go_enter Try.func14, Try.ntmps14
  go_wp2
  all_goals
    go_ret
    exact ⟨ret_int (by omega), rfl⟩

def bestF (g : Int → Int → Int) (s : Int × Bool) (n : Int) : Int × Bool := (if s.2 then g s.1 n else n, true)
def bestN (g : Int → Int → Int) (l : List Int) : Int × Bool := l.foldl (bestF g) (0, false)
theorem bestN_snoc (g : Int → Int → Int) (l : List Int) (n : Int) : bestN g (l ++ [n]) = bestF g (bestN g l) n := by simp [bestN]

set_option maxRecDepth 100000 in
set_option maxHeartbeats 2000000 in
theorem best_any (gf : Nat) (g : Int → Int → Int) (eg : ∀ args w, (callFunc gf args).run Try.prog w = .ok (.enter gf args) w) (hg : ∀ a b W, Calls Try.prog gf #[.int .i64 a, .int .i64 b] W fun e w' => e = .returned (.int .i64 (g a b)) ∧ W = w')
    (Bs Bi c : Nat) (A : Option Addr) (l : List Ev) (i : Int) (hlen : l.length ≤ 300) (w : World)
    (hBs : w.cell? ⟨Bs, 0, none⟩ = some (.slice A l.length c)) (hBi : w.cell? ⟨Bi, 0, none⟩ = some (.int .i64 i)) (hs : Bs < w.heap.size) (hi : Bi < w.heap.size) (hl : EvSl w w.heap.size A l) :
    Calls Try.prog 11 #[.func (.func 15) #[] #[.pointer (some ⟨Bs, 0, none⟩), .pointer (some ⟨Bi, 0, none⟩)], .func (.func gf) #[] #[]] w fun e w' =>
      e = .returned (.tuple #[.int .i64 (bestN g (doneN i l)).1, .bool (bestN g (doneN i l)).2]) ∧ Below w.heap.size w w' := by
  refine (callsIn_wide (n := 6)).1 ?_
  refine callsIn_of_wp_marks Try.func11 rfl trivial ?_ rfl
  simp only [Try.ntmps11, List.size_toArray, List.length_cons, List.length_nil, Nat.reduceAdd, Nat.reduceSub, Array.replicate_succ, Array.replicate_zero, List.push_toArray, List.append_toArray, List.nil_append, List.cons_append]
  gi_wp2
  have b3 := Boxed.new w 35 (.func (.func gf) #[] #[])
  have b6 := Boxed.new (w.alloc (.cells #[.func (.func gf) #[] #[]] 35)) 3 (.int .i64 0)
  have b7 := Boxed.new ((w.alloc (.cells #[.func (.func gf) #[] #[]] 35)).alloc (.cells #[.int .i64 0] 3)) 4 (.bool false)
  simp only [World.size_alloc] at b6 b7
  have b3' := (b3.alloc (.cells #[.int .i64 0] 3)).alloc (.cells #[.bool false] 4)
  have b6' := b6.alloc (.cells #[.bool false] 4)
  have hB0 : Below w.heap.size w (((w.alloc (.cells #[.func (.func gf) #[] #[]] 35)).alloc (.cells #[.int .i64 0] 3)).alloc (.cells #[.bool false] 4)) := (((Below.refl _ w).alloc (Nat.le_refl _) _).alloc (by simp) _).alloc (by simp; omega) _
  obtain ⟨W0, hW0⟩ : ∃ W0, (((w.alloc (.cells #[.func (.func gf) #[] #[]] 35)).alloc (.cells #[.int .i64 0] 3)).alloc (.cells #[.bool false] 4)) = W0 := ⟨_, rfl⟩
  have q0 : W0.heap.size = w.heap.size + 3 := by rw [← hW0]; simp
  rw [hW0] at b3' b6' b7 hB0 ⊢
  have p0 : w.heap.size ≤ W0.heap.size := by omega
  refine wpIn_rangeFunc_ownG rfl (by omega) (gf := 15) (lb := #[.pointer (some ⟨Bs, 0, none⟩), .pointer (some ⟨Bi, 0, none⟩)]) rfl trivial (enters_of Try.func15 (by kernel_rfl) rfl)
    (done_stops (6 - 1) (by omega) Bs Bi w.heap.size c A l i hlen W0 p0 ((hB0.cell (p := ⟨Bs, 0, none⟩) hs).trans hBs) ((hB0.cell (p := ⟨Bi, 0, none⟩) hi).trans hBi) hs hi (hl.below hB0 (Nat.le_refl _))) belowK_t (belowK_b (by omega)) (Below.refl _ _) (fun _ => rfl)
    (fun pre W => (Boxed W w.heap.size 35 (.func (.func gf) #[] #[]) ∧ Boxed W (w.heap.size + 1) 3 (.int .i64 (bestN g pre).1) ∧ Boxed W (w.heap.size + 1 + 1) 4 (.bool (bestN g pre).2)) ∧ Below w.heap.size w W)
    (fun _ _ _ => False)
    (OwnFrom.and (_root_.Go.Own.from (fun s X Y row hs hg hr => ⟨boxed_own _ _ (fun _ => .func (.func gf) #[] #[]) s X Y row hs.1 hg hr, boxed_own _ _ (fun s => .int .i64 (bestN g s).1) s X Y row hs.2.1 hg hr, boxed_own _ _ (fun s => .bool (bestN g s).2) s X Y row hs.2.2 hg hr⟩) _) (ownFrom_below (Nat.le_refl _) p0))
    (fun _ _ _ _ _ hs _ _ => hs)
    ⟨⟨b3', b6', b7⟩, hB0⟩
    (fun x => { tmps := #[.func (.func 15) #[] #[.pointer (some ⟨Bs, 0, none⟩), .pointer (some ⟨Bi, 0, none⟩)], .func (.func gf) #[] #[], undef, .pointer (some ⟨w.heap.size, 0, none⟩), .int .i64 0, .bool false, .pointer (some ⟨w.heap.size + 1, 0, none⟩), .pointer (some ⟨w.heap.size + 1 + 1, 0, none⟩), .int .i64 x, .func (.func 15) #[] #[.pointer (some ⟨Bs, 0, none⟩), .pointer (some ⟨Bi, 0, none⟩)], .int .i64 x, undef, undef, undef, undef, undef, undef, undef, undef], defers := [] }) ?assign ?body ?done ?stop
  case assign =>
    intro l x W K hK
    gi_wp2
    exact hK
  case body =>
    rintro l pre x W ⟨⟨r3, r6, r7⟩, hB⟩ _
    have c3 := r3.cell
    have c6 := r6.cell
    have c7 := r7.cell
    have f6 := r6.frozen
    have f7 := r7.frozen
    rcases hb : (bestN g pre).2 with _ | _
    · gi_wp2
      refine ⟨((KeepsOthers.setCell _ _ _).trans (KeepsOthers.setCell _ _ _)).from _, ((Below.refl w.heap.size W).setCell (p := ⟨w.heap.size + 1, 0, none⟩) (by simp) _).setCell (p := ⟨w.heap.size + 1 + 1, 0, none⟩) (by simp; omega) _, ⟨(r3.other (by omega) _).other (by omega) _, ?_, ?_⟩, (hB.setCell (p := ⟨w.heap.size + 1, 0, none⟩) (by simp) _).setCell (p := ⟨w.heap.size + 1 + 1, 0, none⟩) (by simp; omega) _⟩
      · rw [bestN_snoc]; simp only [bestF, hb]; exact (r6.set _).other (by omega) _
      · rw [bestN_snoc]; simp only [bestF]; exact (r7.other (by omega) _).set _
    · gi_wp2_with fail
      refine ⟨trivial, ?_⟩
      refine (CallsIn.inRound l (callsIn_wide.2 (hg _ _ _))).mono ?_
      rintro e3 w3 ⟨rfl, rfl⟩
      gi_wp2
      refine ⟨((KeepsOthers.setCell _ _ _).trans (KeepsOthers.setCell _ _ _)).from _, ((Below.refl w.heap.size W).setCell (p := ⟨w.heap.size + 1, 0, none⟩) (by simp) _).setCell (p := ⟨w.heap.size + 1 + 1, 0, none⟩) (by simp; omega) _, ⟨(r3.other (by omega) _).other (by omega) _, ?_, ?_⟩, (hB.setCell (p := ⟨w.heap.size + 1, 0, none⟩) (by simp) _).setCell (p := ⟨w.heap.size + 1 + 1, 0, none⟩) (by simp; omega) _⟩
      · rw [bestN_snoc]; simp only [bestF, hb]; exact (r6.set _).other (by omega) _
      · rw [bestN_snoc]; simp only [bestF]; exact (r7.other (by omega) _).set _
  case done =>
    rintro D ys W hD rfl ⟨⟨r3, r6, r7⟩, hB⟩ hK
    have c6 := r6.cell
    have c7 := r7.cell
    gi_wp2
    gi_region
    all_goals
      gi_wp2
      refine ⟨by simp, .inl ⟨_, _, rfl, run_takeDeferred hK, ?_⟩⟩
      exact ⟨_, results_tmp2 rfl _ _ _, rfl, hB.drew.trans (belowK_b (w := w) (Nat.le_refl _) W.drew D (.deferred (some [])) _ (by omega) hK rfl rfl)⟩
  case stop =>
    rintro D c pre W _ _ h _
    exact h.elim

set_option maxHeartbeats 400000 in
theorem worst_any (A : Option Addr) (c : Nat) (l : List Ev) (i : Int) (w : World) (hn : l.length ≤ 300) (hl : EvSl w w.heap.size A l) :
    Calls Try.prog 5 #[.slice A l.length c, .int .i64 i] w fun e w' => e = .returned (.tuple #[.int .i64 (bestN max (doneN i l)).1, .bool (bestN max (doneN i l)).2]) ∧ Below w.heap.size w w' := by
  go_enter Try.func5, Try.ntmps5
  go_wp2_with fail
  refine (done_any _ _ _ _ _).mono ?_
  rintro e w' ⟨rfl, rfl⟩
  go_wp2_with fail
  have hB0 : Below w.heap.size w ((w.alloc (.cells #[.slice A l.length c] 22)).alloc (.cells #[.int .i64 i] 3)) := ((Below.refl _ w).alloc (Nat.le_refl _) _).alloc (by simp) _
  have b1 := (Boxed.new w 22 (.slice A l.length c)).alloc (.cells #[.int .i64 i] 3)
  have b2 := Boxed.new (w.alloc (.cells #[.slice A l.length c] 22)) 3 (.int .i64 i)
  rw [World.size_alloc] at b2
  refine (best_any 13 max (enters_of Try.func13 (by kernel_rfl) rfl) max_any _ _ c A l i hn _ b1.cell b2.cell b1.lt b2.lt (hl.below hB0 hB0.size)).mono ?_
  rintro e w' ⟨rfl, hb⟩
  go_wp2_with fail
  go_ret2
  exact ⟨rfl, hB0.trans (hb.mono hB0.size)⟩

set_option maxHeartbeats 400000 in
theorem least_any (A : Option Addr) (c : Nat) (l : List Ev) (i : Int) (w : World) (hn : l.length ≤ 300) (hl : EvSl w w.heap.size A l) :
    Calls Try.prog 6 #[.slice A l.length c, .int .i64 i] w fun e w' => e = .returned (.tuple #[.int .i64 (bestN min (doneN i l)).1, .bool (bestN min (doneN i l)).2]) ∧ Below w.heap.size w w' := by
  go_enter Try.func6, Try.ntmps6
  go_wp2_with fail
  refine (done_any _ _ _ _ _).mono ?_
  rintro e w' ⟨rfl, rfl⟩
  go_wp2_with fail
  have hB0 : Below w.heap.size w ((w.alloc (.cells #[.slice A l.length c] 22)).alloc (.cells #[.int .i64 i] 3)) := ((Below.refl _ w).alloc (Nat.le_refl _) _).alloc (by simp) _
  have b1 := (Boxed.new w 22 (.slice A l.length c)).alloc (.cells #[.int .i64 i] 3)
  have b2 := Boxed.new (w.alloc (.cells #[.slice A l.length c] 22)) 3 (.int .i64 i)
  rw [World.size_alloc] at b2
  refine (best_any 14 min (enters_of Try.func14 (by kernel_rfl) rfl) min_any _ _ c A l i hn _ b1.cell b2.cell b1.lt b2.lt (hl.below hB0 hB0.size)).mono ?_
  rintro e w' ⟨rfl, hb⟩
  go_wp2_with fail
  go_ret2
  exact ⟨rfl, hB0.trans (hb.mono hB0.size)⟩

end Go.Proofs.Ytjfgmallhjclgaa
