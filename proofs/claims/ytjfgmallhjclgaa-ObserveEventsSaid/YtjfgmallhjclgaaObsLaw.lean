/- coxswainlaw46.ObserveEvents: the walk of the law. -/
import Derived.Test.YtjfgmallhjclgaaObsSeq
import Derived.Test.YtjfgmallhjclgaaObsMap
import Derived.Test.YtjfgmallhjclgaaObsRef
namespace Go.Proofs.Ytjfgmallhjclgaa
open Go.RowKit

theorem best_any2 (l : List Int) : (bestN min l).2 = (bestN max l).2 := by
  have : ∀ (l : List Int) (s t : Int × Bool), s.2 = t.2 → (l.foldl (bestF min) s).2 = (l.foldl (bestF max) t).2 := by
    intro l; induction l with
    | nil => intro s t h; exact h
    | cons x l ih => intro s t h; exact ih _ _ rfl
  exact this l _ _ rfl

theorem ahN_snoc (i a : Int) (st : List Ev) (e : Ev) : (ahN i a (st ++ [e])).2 = if e.k = 5 ∧ e.p = i ∧ e.a = a then (st.length : Int) else (ahN i a st).2 := by
  have h := ahN_fst i a st
  simp only [ahN] at h ⊢
  rw [List.foldl_append]
  simp [ahF, h]

structure PreRef (i : Int) (s : PSt) (r : RSt) : Prop where
  n : s.n = r.n
  len : s.at_ = r.steps.length
  some_ : ∀ a x, s.last a = some x → 1 ≤ x ∧ (ahN i a r.steps).2 = (x : Int) - 1
  none_ : ∀ a, s.last a = none → (ahN i a r.steps).2 = -1

theorem PreRef.step {i : Int} {s : PSt} {r : RSt} (h : PreRef i s r) (e : Ev) : PreRef i (preF i s e) (refF i r e) := by
  obtain ⟨hn, hl, hs, h0⟩ := h
  unfold preF refF
  by_cases c1 : e.k = 5 ∨ e.k = 6
  · rw [if_pos c1, if_pos c1]
    by_cases c2 : e.k = 5 ∧ e.p = i
    · rw [if_pos c2]
      have hh : (match s.last e.a with | some x => if x = s.at_ then s.n else s.n + 1 | none => s.n) = (if e.k = 5 ∧ e.p = i ∧ 0 ≤ (ahN i e.a r.steps).2 ∧ (ahN i e.a r.steps).2 ≠ (r.steps.length : Int) - 1 then r.n + 1 else r.n) := by
        cases hx : s.last e.a with
        | none =>
          have := h0 _ hx
          rw [if_neg (by omega)]
          exact hn
        | some x =>
          obtain ⟨h1, h2⟩ := hs _ _ hx
          dsimp only
          by_cases hq : x = s.at_
          · rw [if_pos hq, if_neg (by omega)]; exact hn
          · rw [if_neg hq, if_pos ⟨c2.1, c2.2, by omega, by omega⟩]; omega
      refine ⟨hh, by simp [hl], fun a x hx => ?_, fun a hx => ?_⟩
      · dsimp only at hx ⊢
        rw [ahN_snoc]
        by_cases ha : a = e.a
        · rw [if_pos ha] at hx
          cases hx
          rw [if_pos ⟨c2.1, c2.2, ha.symm⟩]
          omega
        · rw [if_neg ha] at hx
          rw [if_neg (fun hq => ha hq.2.2.symm)]
          exact hs a x hx
      · dsimp only at hx ⊢
        rw [ahN_snoc]
        by_cases ha : a = e.a
        · rw [if_pos ha] at hx; cases hx
        · rw [if_neg ha] at hx
          rw [if_neg (fun hq => ha hq.2.2.symm)]
          exact h0 a hx
    · rw [if_neg c2]
      refine ⟨by dsimp only; rw [if_neg (fun hq => c2 ⟨hq.1, hq.2.1⟩)]; exact hn, by simp [hl], fun a x hx => ?_, fun a hx => ?_⟩
      · dsimp only at hx ⊢
        rw [ahN_snoc, if_neg (fun hq => c2 ⟨hq.1, hq.2.1⟩)]
        exact hs a x hx
      · dsimp only at hx ⊢
        rw [ahN_snoc, if_neg (fun hq => c2 ⟨hq.1, hq.2.1⟩)]
        exact h0 a hx
  · rw [if_neg c1, if_neg c1]
    exact ⟨hn, hl, hs, h0⟩

/-- Both count the same. -/
theorem pre_ref (i : Int) (l : List Ev) : (preN i l).n = (refN i l).n := by
  have : ∀ (l : List Ev) (s : PSt) (r : RSt), PreRef i s r → PreRef i (l.foldl (preF i) s) (l.foldl (refF i) r) := by
    intro l; induction l with
    | nil => intro s r h; exact h
    | cons e l ih => intro s r h; exact ih _ _ (h.step e)
  exact (this l _ _ ⟨rfl, rfl, fun a x h => (by cases h), fun a _ => rfl⟩).n

def awL : List Ev := [⟨0, 5, 0, 0, 0⟩, ⟨0, 5, 1, 0, 0⟩, ⟨0, 5, 0, 0, 0⟩, ⟨0, 7, 0, 0, 3⟩, ⟨0, 6, -1, 0, 0⟩]
theorem awL_ok : ∀ e ∈ awL, e.ok := by
  intro e he
  simp only [awL, List.mem_cons, List.not_mem_nil, or_false] at he
  rcases he with rfl | rfl | rfl | rfl | rfl <;> exact ⟨by decide, by decide, by decide, by decide, by decide⟩

theorem aw_worst : bestN max (doneN 0 awL) = (3, true) := by decide
theorem aw_pre : (preN 0 awL).n = 1 := by decide
theorem aw_busy : busyN 0 awL = 2 := by decide
theorem aw_idle : idleN awL = 1 := by decide

set_option maxHeartbeats 400000 in
theorem awake_any (w : World) : Calls Try.prog 4 #[] w fun e w' => e = .returned (.bool true) ∧ Below w.heap.size w w' := by
  go_enter Try.func4, Try.ntmps4
  go_wp2_with fail
  obtain ⟨W0, hW0⟩ : ∃ W0, w.alloc (.cells (evE.all awL).toArray 25) = W0 := ⟨_, rfl⟩
  have hsl : EvSl W0 W0.heap.size (some ⟨w.heap.size, 0, none⟩) awL := by
    rw [← hW0]
    exact ⟨by have := SlOf.new (E := evE) w (evE.all awL).toArray 25 awL (by simp); simpa using this, awL_ok⟩
  have hB0 : Below w.heap.size w W0 := by rw [← hW0]; exact (Below.refl _ w).alloc (Nat.le_refl _) _
  change Calls _ _ _ (w.alloc (.cells (evE.all awL).toArray 25)) _
  rw [hW0]
  refine (worst_any (some ⟨w.heap.size, 0, none⟩) 5 awL 0 _ (by decide) hsl).mono ?_
  rintro e w' ⟨rfl, hb⟩
  rw [aw_worst]
  replace hsl := hsl.below hb hb.size
  replace hB0 := hB0.trans (hb.mono hB0.size)
  clear hb hW0 W0
  go_wp2_with fail
  refine (preempts_any (some ⟨w.heap.size, 0, none⟩) 5 awL 0 _ (by decide) hsl).mono ?_
  rintro e w1 ⟨rfl, hb⟩
  rw [aw_pre]
  replace hsl := hsl.below hb hb.size
  replace hB0 := hB0.trans (hb.mono hB0.size)
  clear hb w'
  go_wp2_with fail
  refine (busy_any (some ⟨w.heap.size, 0, none⟩) 5 awL 0 _ (by decide) hsl).mono ?_
  rintro e w' ⟨rfl, hb⟩
  rw [aw_busy]
  replace hsl := hsl.below hb hb.size
  replace hB0 := hB0.trans (hb.mono hB0.size)
  clear hb w1
  go_wp2_with fail
  refine (idle_any (some ⟨w.heap.size, 0, none⟩) 5 awL _ (by decide) hsl).mono ?_
  rintro e w1 ⟨rfl, hb⟩
  rw [aw_idle]
  replace hB0 := hB0.trans (hb.mono hB0.size)
  clear hb hsl w'
  go_wp2_with fail
  go_ret
  exact ⟨rfl, hB0⟩

theorem doneN_hit {i : Int} {l : List Ev} {k : Nat} {e : Ev} (h : l[k]? = some e) (h7 : e.k = 7) (hp : e.p = i) : doneN i (l.take (k + 1)) = doneN i (l.take k) ++ [e.b] := by
  rw [doneN_snoc i h, if_pos (by simp [h7, hp])]
theorem doneN_mis {i : Int} {l : List Ev} {k : Nat} {e : Ev} (h : l[k]? = some e) (hq : ¬ (e.k = 7 ∧ e.p = i)) : doneN i (l.take (k + 1)) = doneN i (l.take k) := by
  rw [doneN_snoc i h, if_neg (by simpa using hq), List.append_nil]

section
variable {i : Int} {n : Nat} {e : Ev}
theorem busy_y (h : e.k = 5) (h2 : (e.p == i) = true) : Value.int .i64 ((n : Int) + 1) = .int .i64 (busyF i n e : Nat) := by
  have := eq_of_beq h2
  rw [busyF, if_pos ⟨h, this⟩]; rfl
theorem busy_n1 (h : ¬ e.k = 5) : Value.int .i64 (n : Int) = .int .i64 (busyF i n e : Nat) := by rw [busyF, if_neg (fun hq => h hq.1)]
theorem busy_n2 (h : e.k = 7) : Value.int .i64 (n : Int) = .int .i64 (busyF i n e : Nat) := busy_n1 (by omega)
theorem busy_n3 (h : (e.p == i) = false) : Value.int .i64 (n : Int) = .int .i64 (busyF i n e : Nat) := by
  have : ¬ e.p = i := by simpa using h
  rw [busyF, if_neg (fun hq => this hq.2)]
theorem idle_y (h : (e.k == 6) = true) : Value.int .i64 ((n : Int) + 1) = .int .i64 (idleF n e : Nat) := by
  have := eq_of_beq h
  rw [idleF, if_pos this]; rfl
theorem idle_n0 (h : ¬ e.k = 6) : Value.int .i64 (n : Int) = .int .i64 (idleF n e : Nat) := by rw [idleF, if_neg h]
theorem idle_n1 (h : (e.k == 6) = false) : Value.int .i64 (n : Int) = .int .i64 (idleF n e : Nat) := idle_n0 (by simpa using h)
theorem idle_n2 (h : e.k = 5) : Value.int .i64 (n : Int) = .int .i64 (idleF n e : Nat) := idle_n0 (by omega)
theorem idle_n3 (h : e.k = 7) : Value.int .i64 (n : Int) = .int .i64 (idleF n e : Nat) := idle_n0 (by omega)
end

set_option maxHeartbeats 2000000 in
theorem law_small (A : Option Addr) (c : Nat) (l : List Ev) (i : Int) (w : World) (hn : l.length ≤ 300) (hl : EvSl w w.heap.size A l) :
    Calls Try.prog 3 #[.slice A l.length c, .int .i64 i] w fun e w' => e = .returned (.bool true) ∧ Below w.heap.size w w' := by
  go_enter Try.func3, Try.ntmps3
  go_wp2
  go_loopw [5, 6, 7, 8, 9, 22] (fun wo le an bu id j wr => ∃ k : Nat, k ≤ l.length ∧ j = .int .i64 k ∧ wo = .int .i64 (bestN max (doneN i (l.take k))).1 ∧ le = .int .i64 (bestN min (doneN i (l.take k))).1 ∧
      an = .bool (bestN max (doneN i (l.take k))).2 ∧ bu = .int .i64 (busyN i (l.take k)) ∧ id = .int .i64 (idleN (l.take k)) ∧ Below w.heap.size w wr) (fun _ _ _ _ _ j _ => l.length - (intOf j).toNat)
  case atStart => exact ⟨0, Nat.zero_le _, rfl, rfl, rfl, rfl, rfl, rfl, Below.refl _ _⟩
  case round =>
    obtain ⟨k, hk, rfl, rfl, rfl, rfl, rfl, rfl, hb⟩ := hrel
    by_cases hlt : k < l.length
    · obtain ⟨e, he⟩ := get_some hlt
      obtain ⟨_, b, off, rfl, hlb, h0, h1, h2, h3, h4⟩ := (hl.below hb (Nat.le_refl _)).get he
      have hb1 := Lib.hid (show busyN i (l.take (k + 1)) = busyF i (busyN i (l.take k)) e from foldl_snoc _ _ he)
      have hi1 := Lib.hid (show idleN (l.take (k + 1)) = idleF (idleN (l.take k)) e from foldl_snoc _ _ he)
      have hd1 := Lib.hid (show e.k = 7 → e.p = i → doneN i (l.take (k + 1)) = doneN i (l.take k) ++ [e.b] from doneN_hit he)
      have hd2 := Lib.hid (show ¬ (e.k = 7 ∧ e.p = i) → doneN i (l.take (k + 1)) = doneN i (l.take k) from doneN_mis he)
      have hle1 : busyN i (l.take k) ≤ 300 := by have := busyN_le i (l.take k); simp at this; omega
      have hle2 : idleN (l.take k) ≤ 300 := by have := idleN_le (l.take k); simp at this; omega
      have h2' := best_any2 (doneN i (l.take k))
      have hm1 := Lib.hid (bestN_snoc max (doneN i (l.take k)) e.b)
      have hm2 := Lib.hid (bestN_snoc min (doneN i (l.take k)) e.b)
      clear he
      generalize doneN i (l.take k) = D at *
      generalize busyN i (l.take k) = bn at *
      generalize idleN (l.take k) = idn at *
      generalize hs1' : bestN max D = s1 at *
      generalize hs2' : bestN min D = s2 at *
      obtain ⟨wm, an⟩ := s1
      obtain ⟨lm, an2⟩ := s2
      dsimp only at h2'
      subst h2'
      have hs1 := Lib.hid hs1'
      have hs2 := Lib.hid hs2'
      clear hs1' hs2'
      go_wp2
      all_goals
        go_roundw
        case rel =>
          refine ⟨k + 1, by omega, by go_num, ?_, ?_, ?_, ?_, ?_, hb.alloc hb.size _⟩
          · first
              | (rw [hd1.out ‹_› (eq_of_beq ‹_›), hm1.out]; exact val_int (by first | (simp only [bestF, ‹an2 = true›, if_true]; omega) | simp [bestF, ‹¬ an2 = true›]))
              | (rw [hd2.out (fun hq => absurd hq.1 ‹_›)]; exact val_int (by rw [hs1.out]))
              | (rw [hd2.out (fun hq => by have := ‹(e.p == i) = false›; simp at this; exact this hq.2)]; exact val_int (by rw [hs1.out]))
          · first
              | (rw [hd1.out ‹_› (eq_of_beq ‹_›), hm2.out]; exact val_int (by first | (simp only [bestF, ‹an2 = true›, if_true]; omega) | simp [bestF, ‹¬ an2 = true›]))
              | (rw [hd2.out (fun hq => absurd hq.1 ‹_›)]; exact val_int (by rw [hs2.out]))
              | (rw [hd2.out (fun hq => by have := ‹(e.p == i) = false›; simp at this; exact this hq.2)]; exact val_int (by rw [hs2.out]))
          · first
              | (rw [hd1.out ‹_› (eq_of_beq ‹_›), hm1.out]; simp [bestF])
              | (rw [hd2.out (fun hq => absurd hq.1 ‹_›)]; rw [hs1.out])
              | (rw [hd2.out (fun hq => by have := ‹(e.p == i) = false›; simp at this; exact this hq.2)]; rw [hs1.out])
          · rw [hb1.out]
            first | exact busy_y ‹_› ‹_› | exact busy_n1 ‹_› | exact busy_n2 ‹_› | exact busy_n3 ‹_›
          · rw [hi1.out]
            first | exact idle_y ‹_› | exact idle_n1 ‹_› | exact idle_n2 ‹_› | exact idle_n3 ‹_›
        case measure => simp [intOf]; omega
    · have ht := take_all hlt
      rw [ht]
      have hle1 := busyN_le i l
      have hle2 := idleN_le l
      go_wp2_with fail
      replace hl := hl.below hb hb.size
      refine (worst_any A c l i _ hn hl).mono ?_
      rintro e wx ⟨rfl, hq⟩
      replace hl := hl.below hq hq.size
      replace hb := hb.trans (hq.mono hb.size)
      clear hq wr
      go_wp2_with fail
      refine (least_any A c l i _ hn hl).mono ?_
      rintro e wy ⟨rfl, hq⟩
      rw [best_any2]
      replace hl := hl.below hq hq.size
      replace hb := hb.trans (hq.mono hb.size)
      clear hq wx
      go_wp2_with fail
      refine (busy_any A c l i _ hn hl).mono ?_
      rintro e wx ⟨rfl, hq⟩
      replace hl := hl.below hq hq.size
      replace hb := hb.trans (hq.mono hb.size)
      clear hq wy
      go_wp2_with fail
      refine (idle_any A c l _ hn hl).mono ?_
      rintro e wy ⟨rfl, hq⟩
      replace hl := hl.below hq hq.size
      replace hb := hb.trans (hq.mono hb.size)
      clear hq wx
      go_wp2_with fail
      refine (preempts_any A c l i _ hn hl).mono ?_
      rintro e wx ⟨rfl, hq⟩
      rw [pre_ref]
      replace hl := hl.below hq hq.size
      replace hb := hb.trans (hq.mono hb.size)
      clear hq wy
      go_wp2_with fail
      refine (refPreempts_any A c l i _ hn hl).mono ?_
      rintro e wy ⟨rfl, hq⟩
      replace hl := hl.below hq hq.size
      replace hb := hb.trans (hq.mono hb.size)
      clear hq wx
      go_wp2_with fail
      refine (awake_any _).mono ?_
      rintro e wz ⟨rfl, hq⟩
      replace hb := hb.trans (hq.mono hb.size)
      go_wp2_with fail
      go_ret
      exact ⟨rfl, hb⟩

theorem law_big (A : Option Addr) (n c : Nat) (i : Int) (w : World) (hn : 300 < n) :
    Calls Try.prog 3 #[.slice A n c, .int .i64 i] w fun e w' => e = .returned (.bool true) ∧ Below w.heap.size w w' := by
  go_enter Try.func3, Try.ntmps3
  go_wp2_with fail
  refine (awake_any _).mono ?_
  rintro e wz ⟨rfl, hq⟩
  go_wp2_with fail
  go_ret
  exact ⟨rfl, hq⟩

end Go.Proofs.Ytjfgmallhjclgaa
