/- coxswainref46.Preempts: the steps so far, kept in a slice. -/
import Derived.Test.YtjfgmallhjclgaaObsLib
namespace Go.Proofs.Ytjfgmallhjclgaa
open Go.RowKit

def ahF (i a : Int) (s : Nat × Int) (d : Ev) : Nat × Int := (s.1 + 1, if d.k = 5 ∧ d.p = i ∧ d.a = a then (s.1 : Int) else s.2)
def ahN (i a : Int) (l : List Ev) : Nat × Int := l.foldl (ahF i a) (0, -1)
theorem ahN_fst (i a : Int) (l : List Ev) : (ahN i a l).1 = l.length := by
  have : ∀ (l : List Ev) (s : Nat × Int), (l.foldl (ahF i a) s).1 = s.1 + l.length := by
    intro l; induction l with
    | nil => simp
    | cons e l ih => intro s; rw [List.foldl_cons, ih]; simp [ahF]; omega
  have := this l (0, -1)
  simp only [ahN]; omega
theorem ahN_bd (i a : Int) (l : List Ev) : -1 ≤ (ahN i a l).2 ∧ (ahN i a l).2 < l.length + 1 := by
  have : ∀ (l : List Ev) (s : Nat × Int), -1 ≤ s.2 → s.2 ≤ s.1 → -1 ≤ (l.foldl (ahF i a) s).2 ∧ (l.foldl (ahF i a) s).2 ≤ s.1 + l.length := by
    intro l; induction l with
    | nil => intro s h1 h2; simp; omega
    | cons e l ih =>
      intro s h1 h2
      have := ih (ahF i a s e) (by unfold ahF; dsimp only; split <;> omega) (by unfold ahF; dsimp only; split <;> omega)
      rw [List.foldl_cons, List.length_cons]
      have h3 : (ahF i a s e).1 = s.1 + 1 := rfl
      omega
  have := this l (0, -1) (by omega) (by simp)
  simp only [ahN]; omega

theorem ah_hit {i a : Int} {s : Nat × Int} {d : Ev} {m : Nat} (hm : s.1 = m) (h1 : d.k = 5) (h2 : d.p = i) (h3 : d.a = a) : (ahF i a s d).2 = m := by simp [ahF, h1, h2, h3, hm]
theorem ah_m1 {i a : Int} {s : Nat × Int} {d : Ev} (h : ¬ d.k = 5) : (ahF i a s d).2 = s.2 := by simp [ahF, h]
theorem ah_m2 {i a : Int} {s : Nat × Int} {d : Ev} (h : ¬ d.p = i) : (ahF i a s d).2 = s.2 := by simp [ahF, h]
theorem ah_hit' {i a : Int} {s : Nat × Int} {d : Ev} {m : Nat} (hm : s.1 = m) (h1 : d.k = 5) (h2 : d.p = i) (h3 : (d.a == a) = true) : (ahF i a s d).2 = m := ah_hit hm h1 h2 (by simpa using h3)
theorem ah_m3' {i a : Int} {s : Nat × Int} {d : Ev} (h : (d.a == a) = false) : (ahF i a s d).2 = s.2 := by
  have h' : ¬ d.a = a := by simpa using h
  simp [ahF, h']
theorem ah_m3 {i a : Int} {s : Nat × Int} {d : Ev} (h : ¬ d.a = a) : (ahF i a s d).2 = s.2 := by simp [ahF, h]

structure RSt where
  steps : List Ev
  n : Nat
def refF (i : Int) (s : RSt) (e : Ev) : RSt :=
  if e.k = 5 ∨ e.k = 6 then
    { steps := s.steps ++ [e], n := if e.k = 5 ∧ e.p = i ∧ 0 ≤ (ahN i e.a s.steps).2 ∧ (ahN i e.a s.steps).2 ≠ (s.steps.length : Int) - 1 then s.n + 1 else s.n }
  else s
def refN (i : Int) (l : List Ev) : RSt := l.foldl (refF i) ⟨[], 0⟩
theorem refN_le (i : Int) (l : List Ev) : (refN i l).n ≤ l.length ∧ (refN i l).steps.length ≤ l.length ∧ ∀ x ∈ (refN i l).steps, x ∈ l := by
  have : ∀ (l : List Ev) (s : RSt), (l.foldl (refF i) s).n ≤ s.n + l.length ∧ (l.foldl (refF i) s).steps.length ≤ s.steps.length + l.length ∧ ∀ x ∈ (l.foldl (refF i) s).steps, x ∈ s.steps ∨ x ∈ l := by
    intro l; induction l with
    | nil => simp
    | cons e l ih =>
      intro s
      obtain ⟨h1, h2, h3⟩ := ih (refF i s e)
      have h4 : (refF i s e).n ≤ s.n + 1 := by unfold refF; split; (dsimp only; split <;> omega); omega
      have h5 : (refF i s e).steps.length ≤ s.steps.length + 1 := by unfold refF; split; simp; omega
      have h6 : ∀ x ∈ (refF i s e).steps, x ∈ s.steps ∨ x = e := by unfold refF; split; simp; (intro x hx; exact .inl hx)
      rw [List.foldl_cons]
      refine ⟨by simp only [List.length_cons]; omega, by simp only [List.length_cons]; omega, fun x hx => ?_⟩
      rcases h3 x hx with h | h
      · rcases h6 x h with h | h
        · exact .inl h
        · exact .inr (by simp [h])
      · exact .inr (by simp [h])
  have := this l ⟨[], 0⟩
  simp only [refN]
  simpa using this

theorem evTy : ElemTy Try.prog 22 25 5 40 :=
  ElemTy.of (z := .agg #[.int .i64 0, .int .i64 0, .int .i64 0, .int .i64 0, .int .i64 0]) Try.underlying22 (by kernel_rfl) rfl (by omega)

set_option maxHeartbeats 2000000 in
theorem refPreempts_any (A : Option Addr) (c : Nat) (l : List Ev) (i : Int) (w : World) (hn : l.length ≤ 300) (hl : EvSl w w.heap.size A l) :
    Calls Try.prog 10 #[.slice A l.length c, .int .i64 i] w fun e w' => e = .returned (.int .i64 (refN i l).n) ∧ Below w.heap.size w w' := by
  go_enter Try.func10, Try.ntmps10
  go_wp2
  go_loopw [5, 6, 14] (fun v n j wr => ∃ (k : Nat), k ≤ l.length ∧ j = .int .i64 k ∧ n = .int .i64 (refN i (l.take k)).n ∧
      Own evE 25 w.heap.size wr v (refN i (l.take k)).steps ∧ Below w.heap.size w wr) (fun _ _ j _ => l.length - (intOf j).toNat)
  case atStart => exact ⟨0, Nat.zero_le _, rfl, rfl, Own.nil _ _, Below.refl _ _⟩
  case round =>
    obtain ⟨k, hk, rfl, rfl, hown, hb⟩ := hrel
    obtain ⟨wo, rfl⟩ : ∃ wo : World, wo = wr := ⟨_, rfl⟩
    by_cases hlt : k < l.length
    · obtain ⟨e, he⟩ := get_some hlt
      obtain ⟨_, b, off, rfl, hlb, h0, h1, h2, h3, h4⟩ := (hl.below hb (Nat.le_refl _)).get he
      have hs : Hid (refN i (l.take (k + 1)) = refF i (refN i (l.take k)) e) := foldl_snoc _ _ he
      obtain ⟨hle1, hle2, hmem⟩ := refN_le i (l.take k)
      have hok : ∀ x ∈ (refN i (l.take k)).steps, x.ok := fun x hx => hl.2 x (List.mem_of_mem_take (hmem x hx))
      simp only [List.length_take] at hle1 hle2
      clear hmem
      generalize refN i (l.take k) = s at *
      obtain ⟨st, n⟩ := s
      dsimp only at hle1 hle2 hok hown
      obtain ⟨A', c', rfl, _, _, hsl⟩ := hown.sl
      have hn1 : n ≤ 300 := by omega
      have hn2 : st.length ≤ 300 := by omega
      clear he hle1 hle2
      have x5 : (e.k != 5) = !(e.k == 5) := rfl
      have x6 : (e.k != 6) = !(e.k == 6) := rfl
      by_cases c5 : (e.k == 5 || e.k == 6) = true
      · have cc := Lib.hid (show e.k = 5 ∨ e.k = 6 by simpa using c5)
        have x7 : (e.k == 5) = true ∨ ((e.k == 5) = false ∧ (e.k == 6) = true) := by
          rcases cc.out with h | h <;> simp [h]
        clear c5
        rcases x7 with x7 | ⟨x7, x8⟩
        all_goals
          simp only [x7, Bool.not_true, Bool.not_false] at x5
          try simp only [x8, Bool.not_true, Bool.not_false] at x6
          go_wp2
          obtain ⟨W0, hW0⟩ : ∃ W0, wo.alloc (.cells #[.int .i64 e.t, .int .i64 e.k, .int .i64 e.p, .int .i64 e.a, .int .i64 e.b] 25) = W0 := ⟨_, rfl⟩
          have q0 : W0.heap.size = wo.heap.size + 1 := by rw [← hW0]; simp
          have q1 := cells_new' wo e.cells #[.int .i64 e.t, .int .i64 e.k, .int .i64 e.p, .int .i64 e.a, .int .i64 e.b] 25 rfl
          have r0 := q1 0 _ rfl
          have r1 := q1 1 _ rfl
          have r2 := q1 2 _ rfl
          have r3 := q1 3 _ rfl
          have r4 := q1 4 _ rfl
          simp only [Addr.add_lit, Nat.zero_add] at r0 r1 r2 r3 r4
          have hown0 := hown.alloc (.cells #[.int .i64 e.t, .int .i64 e.k, .int .i64 e.p, .int .i64 e.a, .int .i64 e.b] 25)
          have hb0 : Below w.heap.size w W0 := by rw [← hW0]; exact hb.alloc hb.size _
          have hsl0 : EvSl W0 W0.heap.size A' st := ⟨by rw [← hW0]; exact hsl.below ((Below.refl wo.heap.size wo).alloc (Nat.le_refl _) _) (by simp), hok⟩
          rw [hW0] at r0 r1 r2 r3 r4 hown0 ⊢
          clear q1 h0 h1 h2 h3 h4 hsl hl
          go_loopw [9, 28] (fun ah j wi => ∃ m : Nat, m ≤ st.length ∧ j = .int .i64 m ∧ ah = .int .i64 (ahN i e.a (st.take m)).2 ∧ Below W0.heap.size W0 wi) (fun _ j _ => st.length - (intOf j).toNat)
          case atStart => exact ⟨0, Nat.zero_le _, rfl, rfl, Below.refl _ _⟩
          case round =>
            obtain ⟨m, hm, rfl, rfl, hbi⟩ := hrel
            have hwr : wo.heap.size < W0.heap.size := by omega
            have hwr2 : wo.heap.size < wr.heap.size := by have := hbi.size; omega
            have r3' := (hbi.cell (p := ⟨wo.heap.size, 3, none⟩) hwr).trans r3
            by_cases hlm : m < st.length
            · obtain ⟨d, hd⟩ := get_some hlm
              obtain ⟨_, b2, off2, rfl, hlb2, g0, g1, g2, g3, g4⟩ := (hsl0.below hbi (Nat.le_refl _)).get hd
              have hs2 : Hid (ahN i e.a (st.take (m + 1)) = ahF i e.a (ahN i e.a (st.take m)) d) := foldl_snoc _ _ hd
              have hf2 : Hid ((ahN i e.a (st.take m)).1 = m) := by have := ahN_fst i e.a (st.take m); simp at this; exact this.trans (by omega)
              clear hd r0 r1 r2 r3 r4
              go_wp2
              all_goals
                go_roundw
                case rel => exact ⟨m + 1, by omega, by go_num, by rw [hs2.out]; first | (rw [ah_hit' hf2.out ‹_› ‹_› ‹_›]) | (rw [ah_m3' ‹_›]) | (rw [ah_m2 ‹_›]) | (rw [ah_m1 ‹_›]), hbi.alloc hbi.size _⟩
                case measure => simp [intOf]; omega
            · have ht := take_all hlm
              rw [ht]
              have ha := ahN_bd i e.a st
              have hst : Hid (refF i ⟨st, n⟩ e = ⟨st ++ [e], if e.k = 5 ∧ e.p = i ∧ 0 ≤ (ahN i e.a st).2 ∧ (ahN i e.a st).2 ≠ (st.length : Int) - 1 then n + 1 else n⟩) := by simp only [Hid, refF, if_pos cc.out]
              have t0 := (hbi.cell (p := ⟨wo.heap.size, 0, none⟩) hwr).trans r0
              have t1 := (hbi.cell (p := ⟨wo.heap.size, 1, none⟩) hwr).trans r1
              have t2 := (hbi.cell (p := ⟨wo.heap.size, 2, none⟩) hwr).trans r2
              have t4 := (hbi.cell (p := ⟨wo.heap.size, 4, none⟩) hwr).trans r4
              have hown1 := hown0.below hbi (Nat.le_refl _)
              have hsz := hbi.size
              have hbw : Below w.heap.size w wr := hb0.trans (hbi.mono hb0.size)
              have hbs := hbw.size
              clear r0 r1 r2 r3 r4
              generalize (ahN i e.a st).2 = ah at *
              have hn3 : n + 1 ≤ 301 := by omega
              go_wp2_with (first
                | (at_builtin; go_must (refine wpList_app1 rfl _ _ 22 rfl evTy w.heap.size hown1 rfl rfl rfl rfl (by unfold maxLen; omega) (by omega) (by omega) ?_); intro v' w1 hown2 hbel2 _)
                | go_in)
              all_goals
                go_roundw
                case rel => exact ⟨k + 1, by omega, by go_num, by rw [hs.out, hst.out]; first | (rw [if_pos ⟨by simpa using x7, ‹_›, ‹_›, by simpa using ‹(ah != (st.length : Int) - 1) = true›⟩]; go_num) | (rw [if_neg]; intro hh; first | (have := ‹¬ e.p = i›; exact this hh.2.1) | (have := ‹ah < 0›; exact absurd hh.2.2.1 (by omega)) | (have := ‹(ah != (st.length : Int) - 1) = false›; simp at this; exact hh.2.2.2 this) | (exact absurd hh.2.2.1 ‹_›) | (exact absurd hh.1 (by simpa using x7))), by rw [hs.out, hst.out]; exact Own.app hown2 (by first | rfl | simp [evE, Ev.cells, ‹e.p = i›]), hbw.trans hbel2⟩
                case measure => simp [intOf]; omega
      · have x7 : (e.k == 5) = false := by simp at c5; simp [c5]
        have x8 : (e.k == 6) = false := by simp at c5; simp [c5]
        simp only [x7, x8, Bool.not_false] at x5 x6
        have c1 : ¬ (e.k = 5 ∨ e.k = 6) := by simpa using c5
        have c1' := Lib.hid c1
        clear c1 c5
        go_wp2
        go_roundw
        case rel => exact ⟨k + 1, by omega, by go_num, by rw [hs.out]; simp [refF, c1'.out], by rw [hs.out]; simpa [refF, c1'.out] using hown.alloc _, hb.alloc hb.size _⟩
        case measure => simp [intOf]; omega
    · have ht := take_all hlt
      rw [ht]
      go_wp2
      go_ret
      exact ⟨rfl, hb⟩

end Go.Proofs.Ytjfgmallhjclgaa
