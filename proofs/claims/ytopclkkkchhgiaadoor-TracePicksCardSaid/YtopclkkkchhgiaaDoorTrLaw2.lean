/- The law TracePicks, walked. -/
import Derived.Test.YtopclkkkchhgiaaDoorTrAwake
namespace Go.Proofs.YtopclkkkchhgiaaDoor
open Go.RowKit

theorem wpList_app2 {P : Program} {w0 : World} {cs : Array Value} {ops : Array Oper} {rest : List Oper} {o : Oper} {a : Act} {Q : Exit → Act → World → Prop} (hgd : o.guard = none) (s x : Operand) (t : TypeId)
    (ho : o.op = .call { callee := .builtin .append, args := #[s, x], argTypes := #[t, t] }) {e : TypeId} {size bytes : Nat} (hT : ElemTy P t e size bytes) (base : Nat)
    {v : Value} {n : Nat} {xs : List Value} (hown : w0.ownsRow base e size v n xs) (hs : a.eval s = v) (hx : a.eval x = .slice (some ⟨w0.heap.size, 0, none⟩) 1 1) (hl : cs.size = size) (h1 : cs.toList.all (fun u => u.oneCell') = true)
    (h63 : n + 1 ≤ maxLen) (hbytes : (n + 1) * bytes ≤ 140737488355328) (hbase : base ≤ w0.heap.size)
    (h : ∀ v' w', w'.ownsRow base e size v' (n + 1) (xs ++ cs.toList) → Below base w0 w' → (∀ B, B < w0.heap.size → v.ownBlock ≠ some B → w'.heap[B]? = w0.heap[B]?) → wpList P ops Q rest (a.put o.dst v') w') : wpList P ops Q (o :: rest) a (w0.alloc (.cells cs e)) := by
  obtain ⟨ht, i, z, hi, hz, hsize, hby, hzs, hsz⟩ := hT
  refine wpList_append_own_at _ hgd s x t ho base e i z size bytes ht hi hz hsize hby hzs hsz v n xs hs (hown.alloc _) ⟨w0.heap.size, 0, none⟩ 1 1 cs.toList hx (by simpa using hl) (cells_new' _ _ _ _ rfl) (fun u hu => List.all_eq_true.1 h1 u hu) h63 hbytes (by simp; omega) ?_
  intro v' w' h2 h3 h4 _
  refine h v' w' h2 (((Below.refl base w0).alloc hbase _).trans (grown_below (hown.alloc _) h3 (Nat.le_refl _) (by simp; omega))) (fun B hB hne => ?_)
  rw [h3.block B (by rw [World.size_alloc]; omega) (fun e => hne e.symm)]
  exact ((Below.refl w0.heap.size w0).alloc (Nat.le_refl _) (.cells cs e)).block B hB

theorem picks_big (A : Option Addr) (n c : Nat) (kind task : Int) (w : World) (hn : 200 < n) (hT : Tab w) (hM : Mx w) :
    Calls Tryd.prog 4 #[.slice A n c, .int .i64 kind, .int .i64 task] w fun e w' => e = .returned (.bool true) ∧ Below w.heap.size w w' := by
  have t1 : decide ((200 : Int) < (n : Int)) = true := by rw [decide_eq_true_iff]; omega
  go_enter Tryd.func4, Tryd.ntmps4
  go_wp2_with (go_at_call 9; refine (awake_any _ hT hM).mono ?_; rintro e w1 ⟨rfl, hb⟩)
  go_ret
  exact ⟨rfl, hb⟩
theorem OwnE.drewN {base : Nat} {w : World} {v : Value} {l : List Ev} (h : OwnE base w v l) (n : Nat) : OwnE base (w.drewN n) v l := h
theorem ownBlock_lt {w : World} {base size n : Nat} {e : TypeId} {v : Value} {xs : List Value} (h : w.ownsRow base e size v n xs) : v.ownBlock ≠ some w.heap.size := by
  rcases h.2 with ⟨rfl, _⟩ | ⟨g, cap, cur, rfl, _, hgb, _⟩
  · simp [Value.ownBlock]
  · intro e'
    have : g = w.heap.size := by simpa [Value.ownBlock] using e'
    have := (Array.getElem?_eq_some_iff.1 hgb).1
    omega

set_option maxRecDepth 100000 in
set_option maxHeartbeats 8000000 in
theorem picks_small (A : Option Addr) (c : Nat) (l : List Ev) (kind task : Int) (w : World) (hn : l.length ≤ 200) (hl : EvSl w w.heap.size A l) (hT : Tab w) (hM : Mx w) :
    Calls Tryd.prog 4 #[.slice A l.length c, .int .i64 kind, .int .i64 task] w fun e w' => e = .returned (.bool true) ∧ Below w.heap.size w w' := by
  have t0 : decide ((200 : Int) < (l.length : Int)) = false := by rw [decide_eq_false_iff_not]; omega
  go_enter Tryd.func4, Tryd.ntmps4
  go_wp2_with fail
  go_loopw [7, 8, 17] (fun v q j wr => ∃ k : Nat, k ≤ l.length ∧ j = .int .i64 k ∧ q = .bool (upTo l (k - 1)) ∧ OwnE w.heap.size wr v (picks kind task (l.take k)) ∧ Below w.heap.size w wr) (fun _ _ j _ => l.length - (intOf j).toNat)
  case atStart => exact ⟨0, Nat.zero_le _, rfl, rfl, OwnE.nil _ _, Below.refl _ _⟩
  case round =>
    obtain ⟨k, hk, rfl, rfl, hown, hb⟩ := hrel
    have hsz := hb.size
    by_cases hlt : k < l.length
    · obtain ⟨e, he⟩ := get_some hlt
      obtain ⟨hok, b, off, rfl, hlb, h0, h1, h2, h3, h4⟩ := (hl.below hb (Nat.le_refl _)).get he
      have hpl := picks_len kind task (l.take k)
      rw [List.length_take] at hpl
      have hsn := Lib.hid (picks_snoc kind task he)
      have hok' := Lib.hid hok
      have hnb := ownBlock_lt hown.1
      have hown' := Lib.hid (hown.1.alloc (.cells #[.int .i64 e.t, .int .i64 e.k, .int .i64 e.p, .int .i64 e.a, .int .i64 e.b] 23))
      have hbx := Lib.hid (EvBox.new wr e)
      have hNB := Lib.hid hnb
      have hownE := Lib.hid hown
      have he' := Lib.hid he
      clear he hok hown hnb
      have hpb : pickB kind task e = ((kind == 0 || e.k == kind) && (task == -2 || e.p == task)) := rfl
      have c1 : (kind == e.k) = (e.k == kind) := Bool.beq_comm
      have c2 : (task == e.p) = (e.p == task) := Bool.beq_comm
      have hP : (pickB kind task e = true ∧ (((kind == 0) = true ∧ (task == -2) = true) ∨ ((kind == 0) = true ∧ (task == -2) = false ∧ (task == e.p) = true) ∨ ((kind == 0) = false ∧ (kind == e.k) = true ∧ (task == -2) = true) ∨ ((kind == 0) = false ∧ (kind == e.k) = true ∧ (task == -2) = false ∧ (task == e.p) = true)))
          ∨ (pickB kind task e = false ∧ (((kind == 0) = false ∧ (kind == e.k) = false) ∨ ((kind == 0) = true ∧ (task == -2) = false ∧ (task == e.p) = false) ∨ ((kind == 0) = false ∧ (kind == e.k) = true ∧ (task == -2) = false ∧ (task == e.p) = false))) := by
        rw [hpb, c1, c2]
        cases (kind == 0) <;> cases (e.k == kind) <;> cases (task == -2) <;> cases (e.p == task) <;> simp
      clear hpb c1 c2
      -- what the second test says
      have hU : ∃ q1 : Bool, upTo l (k + 1 - 1) = q1 ∧ ((k = 0 ∧ upTo l (k - 1) = true ∧ q1 = true) ∨ (0 < k ∧ upTo l (k - 1) = false ∧ q1 = false) ∨ (0 < k ∧ upTo l (k - 1) = true ∧ ∃ j y, k = j + 1 ∧ l[j]? = some y ∧ q1 = decide (y.t ≤ e.t))) := by
        refine ⟨_, rfl, ?_⟩
        rcases Nat.eq_zero_or_pos k with rfl | hp
        · exact .inl ⟨rfl, rfl, rfl⟩
        · obtain ⟨j, rfl⟩ : ∃ j, k = j + 1 := ⟨k - 1, by omega⟩
          rw [Nat.add_sub_cancel, Nat.add_sub_cancel, upTo_succ]
          obtain ⟨y, hy⟩ := get_some (show j < l.length by omega)
          rw [pairUp_eq hy he'.out]
          rcases hq : upTo l j with _ | _
          · exact .inr (.inl ⟨hp, rfl, rfl⟩)
          · exact .inr (.inr ⟨hp, rfl, j, y, rfl, hy, rfl⟩)
      obtain ⟨q1, hq1, hU⟩ := hU
      have hq1' := Lib.hid hq1
      clear hq1
      have hsz1 : w.heap.size ≤ (wr.alloc (.cells #[.int .i64 e.t, .int .i64 e.k, .int .i64 e.p, .int .i64 e.a, .int .i64 e.b] 23)).heap.size := by rw [World.size_alloc]; omega
      rcases hU with ⟨hk0, hu, rfl⟩ | ⟨hk0, hu, rfl⟩ | ⟨hk0, hu, j, y, hkj, hy, rfl⟩
      · have tk : ((k : Int) == 0) = true := by rw [hk0]; rfl
        rw [hu]
        have hk0' := Lib.hid hk0
        clear hu hk0
        rcases hP with ⟨hp, hP⟩ | ⟨hp, hP⟩
        · have hp' := Lib.hid hp
          clear hp
          rcases hP with ⟨a1, a2⟩ | ⟨a1, a2, a3⟩ | ⟨a1, a2, a3⟩ | ⟨a1, a2, a3, a4⟩
          all_goals
            go_wp2_with (first
              | (at_builtin; refine wpList_app2 rfl _ _ 32 rfl evTy w.heap.size hown'.out rfl (by rw [World.size_alloc]; rfl) rfl rfl (by unfold maxLen; omega) (by omega) (by simp; omega) ?_; intro v' w1 hown2 hbel2 hgr
                 have hbx1 : EvBox w1 wr.heap.size e := (hgr wr.heap.size (by simp) hNB.out).trans hbx.out
                 obtain ⟨f0, f1, f2, f3, f4⟩ := hbx1.cells
                 have hB1 := (hb.alloc hb.size (.cells #[.int .i64 e.t, .int .i64 e.k, .int .i64 e.p, .int .i64 e.a, .int .i64 e.b] 23)).trans hbel2
                 clear hgr hbx1)
              | fail)
            go_quiet (fail)
            go_wp2_with fail
            go_roundw
            case measure => simp [intOf]; omega
            case rel => exact ⟨k + 1, by omega, by go_num, by rw [hq1'.out], by rw [hsn.out, if_pos hp'.out]; exact (OwnE.snoc hownE.out hok'.out hown2).drewN _, drewN_below hB1 _⟩
        · have hp' := Lib.hid hp
          clear hp
          rcases hP with ⟨a1, a2⟩ | ⟨a1, a2, a3⟩ | ⟨a1, a2, a3, a4⟩
          all_goals
            go_wp2_with fail
            go_quiet (fail)
            go_wp2_with fail
            go_roundw
            case measure => simp [intOf]; omega
            case rel => exact ⟨k + 1, by omega, by go_num, by rw [hq1'.out], by rw [hsn.out, if_neg (by rw [hp'.out]; decide)]; exact (hownE.out.below ((Below.refl _ _).alloc (Nat.le_refl _) _) (Nat.le_refl _)).drewN _, drewN_below (hb.alloc hb.size _) _⟩
      · rw [hu]
        clear hu
        rcases hP with ⟨hp, hP⟩ | ⟨hp, hP⟩
        · have hp' := Lib.hid hp
          clear hp
          rcases hP with ⟨a1, a2⟩ | ⟨a1, a2, a3⟩ | ⟨a1, a2, a3⟩ | ⟨a1, a2, a3, a4⟩
          all_goals
            go_wp2_with (first
              | (at_builtin; refine wpList_app2 rfl _ _ 32 rfl evTy w.heap.size hown'.out rfl (by rw [World.size_alloc]; rfl) rfl rfl (by unfold maxLen; omega) (by omega) (by simp; omega) ?_; intro v' w1 hown2 hbel2 hgr
                 have hbx1 : EvBox w1 wr.heap.size e := (hgr wr.heap.size (by simp) hNB.out).trans hbx.out
                 obtain ⟨f0, f1, f2, f3, f4⟩ := hbx1.cells
                 have hB1 := (hb.alloc hb.size (.cells #[.int .i64 e.t, .int .i64 e.k, .int .i64 e.p, .int .i64 e.a, .int .i64 e.b] 23)).trans hbel2
                 clear hgr hbx1)
              | fail)
            go_quiet (fail)
            go_wp2_with fail
            go_roundw
            case measure => simp [intOf]; omega
            case rel => exact ⟨k + 1, by omega, by go_num, by rw [hq1'.out], by rw [hsn.out, if_pos hp'.out]; exact (OwnE.snoc hownE.out hok'.out hown2).drewN _, drewN_below hB1 _⟩
        · have hp' := Lib.hid hp
          clear hp
          rcases hP with ⟨a1, a2⟩ | ⟨a1, a2, a3⟩ | ⟨a1, a2, a3, a4⟩
          all_goals
            go_wp2_with fail
            go_quiet (fail)
            go_wp2_with fail
            go_roundw
            case measure => simp [intOf]; omega
            case rel => exact ⟨k + 1, by omega, by go_num, by rw [hq1'.out], by rw [hsn.out, if_neg (by rw [hp'.out]; decide)]; exact (hownE.out.below ((Below.refl _ _).alloc (Nat.le_refl _) _) (Nat.le_refl _)).drewN _, drewN_below (hb.alloc hb.size _) _⟩
      · have tk : ((k : Int) == 0) = false := by rw [beq_eq_false_iff_ne]; omega
        have e1 : IntKind.i64.wrap ((k : Int) - 1) = (j : Int) := by rw [hkj]; simp [IntKind.wrap, IntKind.signed, IntKind.bits]; omega
        have b1 : (0 : Int) ≤ (j : Int) := by omega
        have b2 : (j : Int) < (l.length : Int) := by omega
        have hprev := fun (W : World) (hW : Below w.heap.size w W) => (show W.cell? ⟨b, off + j * 5, none⟩ = some (.int .i64 y.t) from by
          obtain ⟨_, b', off', hA, _, g0, _⟩ := (hl.below hW (Nat.le_refl _)).get hy
          injection hA with hA
          injection hA with hA1 hA2
          subst hA1 hA2
          exact g0)
        have hprev' := Lib.hid hprev
        have hkj' := Lib.hid hkj
        rw [hu]
        clear hu hprev hkj hy
        rcases hP with ⟨hp, hP⟩ | ⟨hp, hP⟩
        · have hp' := Lib.hid hp
          clear hp
          rcases hP with ⟨a1, a2⟩ | ⟨a1, a2, a3⟩ | ⟨a1, a2, a3⟩ | ⟨a1, a2, a3, a4⟩
          all_goals
            go_wp2_with (first
              | (at_builtin; refine wpList_app2 rfl _ _ 32 rfl evTy w.heap.size hown'.out rfl (by rw [World.size_alloc]; rfl) rfl rfl (by unfold maxLen; omega) (by omega) (by simp; omega) ?_; intro v' w1 hown2 hbel2 hgr
                 have hbx1 : EvBox w1 wr.heap.size e := (hgr wr.heap.size (by simp) hNB.out).trans hbx.out
                 obtain ⟨f0, f1, f2, f3, f4⟩ := hbx1.cells
                 have hB1 := (hb.alloc hb.size (.cells #[.int .i64 e.t, .int .i64 e.k, .int .i64 e.p, .int .i64 e.a, .int .i64 e.b] 23)).trans hbel2
                 clear hgr hbx1)
              | fail)
            have hpc := hprev'.out w1 hB1
            go_quiet (fail)
            go_wp2_with fail
            go_roundw
            case measure => simp [intOf]; omega
            case rel => exact ⟨k + 1, by omega, by go_num, by rw [hq1'.out], by rw [hsn.out, if_pos hp'.out]; exact (OwnE.snoc hownE.out hok'.out hown2).drewN _, drewN_below hB1 _⟩
        · have hp' := Lib.hid hp
          clear hp
          rcases hP with ⟨a1, a2⟩ | ⟨a1, a2, a3⟩ | ⟨a1, a2, a3, a4⟩
          all_goals
            go_wp2_with fail
            have hpc := hprev'.out _ (hb.alloc hb.size (.cells #[.int .i64 e.t, .int .i64 e.k, .int .i64 e.p, .int .i64 e.a, .int .i64 e.b] 23))
            go_quiet (fail)
            go_wp2_with fail
            go_roundw
            case measure => simp [intOf]; omega
            case rel => exact ⟨k + 1, by omega, by go_num, by rw [hq1'.out], by rw [hsn.out, if_neg (by rw [hp'.out]; decide)]; exact (hownE.out.below ((Below.refl _ _).alloc (Nat.le_refl _) _) (Nat.le_refl _)).drewN _, drewN_below (hb.alloc hb.size _) _⟩
    · have hkl : k = l.length := by omega
      subst hkl
      rw [List.take_length] at hown
      obtain ⟨A1, c1, rfl, hc1, hs1⟩ := hown.sl
      have hpl := picks_len kind task l
      go_wp2_with fail
      refine (of_any A c l kind task wr (by omega) (hl.below hb hb.size)).mono ?_
      rintro e w2 ⟨v2, rfl, hown2, hb2⟩
      obtain ⟨A2, c2, rfl, hc2, hs2⟩ := hown2.sl
      have hB2 := hb.trans (hb2.mono hsz)
      have hs1' := hs1.below hb2 hb2.size
      go_wp2_with fail
      refine (evs_any A2 A1 c2 c1 (picks kind task l) (picks kind task l) w2 (by omega) (by omega) hs2 hs1').mono ?_
      rintro e w3 ⟨rfl, hb3⟩
      rw [decide_eq_true (rfl : picks kind task l = picks kind task l)]
      have hB3 := hB2.trans (hb3.mono hB2.size)
      clear hs1' hs2 hb2 hb3 hB2 hown2 hc2 hs1 hown
      go_wp2_with fail
      refine (count_any A c l kind task w3 (by omega) (hl.below hB3 hB3.size)).mono ?_
      rintro e w4 ⟨rfl, hb4⟩
      have hB4 := hB3.trans (hb4.mono hB3.size)
      clear hb4 hB3
      go_wp2_with fail
      refine (rises_any A c l w4 (by omega) (hl.below hB4 hB4.size)).mono ?_
      rintro e w5 ⟨rfl, hb5⟩
      have hB5 := hB4.trans (hb5.mono hB4.size)
      clear hb5 hB4
      rcases upTo l (l.length - 1) with _ | _
      all_goals
        go_wp2_with fail
        refine (awake_any w5 (hT.below hB5) (hM.below hB5)).mono ?_
        rintro e w6 ⟨rfl, hb6⟩
        go_wp2_with fail
        go_ret
        exact ⟨rfl, hB5.trans (hb6.mono hB5.size)⟩

end Go.Proofs.YtopclkkkchhgiaaDoor
