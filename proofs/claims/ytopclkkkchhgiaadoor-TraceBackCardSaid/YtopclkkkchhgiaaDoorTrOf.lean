/- trace.Of, Count, Rises; the comparison of two rows of events. -/
import Derived.Test.YtopclkkkchhgiaaDoorEvBox
import Derived.Test.YtopclkkkchhgiaaDoorTr1
import Derived.Test.YtopclkkkchhgiaaDoorShelf
import Derived.Deep.RegionHeld3
namespace Go.Proofs.YtopclkkkchhgiaaDoor
open Go.RowKit

theorem EvSl.nil (w : World) (B : Nat) (A : Option Addr) : EvSl w B A [] := ⟨SlOf.nil, fun e h => by cases h⟩
theorem evTy : ElemTy Tryd.prog 32 23 5 40 := ElemTy.of (z := evV Ev.zero) Tryd.underlying32 (by kernel_rfl) rfl (by omega)

/-! ### which are picked -/
def pickB (kind task : Int) (e : Ev) : Bool := (kind == 0 || e.k == kind) && (task == -2 || e.p == task)
def picks (kind task : Int) (l : List Ev) : List Ev := l.filter (pickB kind task)
theorem picks_snoc (kind task : Int) {l : List Ev} {k : Nat} {e : Ev} (h : l[k]? = some e) : picks kind task (l.take (k + 1)) = if pickB kind task e = true then picks kind task (l.take k) ++ [e] else picks kind task (l.take k) := by
  rw [take_snoc h]
  unfold picks
  rw [List.filter_append]
  split <;> rename_i hh <;> simp [hh]
theorem picks_len (kind task : Int) (l : List Ev) : (picks kind task l).length ≤ l.length := List.length_filter_le _ _

def OwnE (base : Nat) (w : World) (v : Value) (l : List Ev) : Prop := Own evE 23 base w v l ∧ ∀ e ∈ l, e.ok
theorem OwnE.nil (base : Nat) (w : World) : OwnE base w (.slice none 0 0) [] := ⟨Own.nil _ _, fun e h => by cases h⟩
theorem OwnE.sl {base : Nat} {w : World} {v : Value} {l : List Ev} (h : OwnE base w v l) : ∃ A c, v = .slice A l.length c ∧ (l.length ≤ c ∧ c ≤ maxLen) ∧ EvSl w w.heap.size A l := by
  obtain ⟨A, c, e, hc, _, hs⟩ := h.1.sl
  exact ⟨A, c, e, hc, hs, h.2⟩
theorem OwnE.below {base B : Nat} {w w' : World} {v : Value} {l : List Ev} (h : OwnE base w v l) (hb : Below B w w') (hB : w.heap.size ≤ B) : OwnE base w' v l := ⟨h.1.below hb hB, h.2⟩
theorem OwnE.snoc {base : Nat} {w w1 : World} {v v' : Value} {l : List Ev} {e : Ev} (h : OwnE base w v l) (he : e.ok) (h2 : w1.ownsRow base 23 evE.size v' (l.length + 1) (evE.all l ++ e.cells)) : OwnE base w1 v' (l ++ [e]) :=
  ⟨Own.app h2 rfl, fun x hx => by
    rcases List.mem_append.1 hx with hx | hx
    · exact h.2 x hx
    · rw [List.mem_singleton.1 hx]; exact he⟩

set_option maxRecDepth 100000 in
set_option maxHeartbeats 1000000 in
theorem of_any (A : Option Addr) (c : Nat) (l : List Ev) (kind task : Int) (w : World) (hn : l.length ≤ 3000) (hl : EvSl w w.heap.size A l) :
    Calls Tryd.prog 17 #[.slice A l.length c, .int .i64 kind, .int .i64 task] w fun e w' => ∃ v, e = .returned v ∧ OwnE w.heap.size w' v (picks kind task l) ∧ Below w.heap.size w w' := by
  go_enter Tryd.func17, Tryd.ntmps17
  go_wp2_with fail
  go_loopw [7, 12] (fun v j wr => ∃ k : Nat, k ≤ l.length ∧ j = .int .i64 k ∧ OwnE w.heap.size wr v (picks kind task (l.take k)) ∧ Below w.heap.size w wr) (fun _ j _ => l.length - (intOf j).toNat)
  case atStart => exact ⟨0, Nat.zero_le _, rfl, OwnE.nil _ _, Below.refl _ _⟩
  case round =>
    obtain ⟨k, hk, rfl, hown, hb⟩ := hrel
    have hsz := hb.size
    by_cases hlt : k < l.length
    · obtain ⟨e, he⟩ := get_some hlt
      obtain ⟨hok, b, off, rfl, hlb, h0, h1, h2, h3, h4⟩ := (hl.below hb (Nat.le_refl _)).get he
      have hpl := picks_len kind task (l.take k)
      rw [List.length_take] at hpl
      have hsn := Lib.hid (picks_snoc kind task he)
      have hok' := Lib.hid hok
      have hown' := Lib.hid (hown.1.alloc (.cells #[.int .i64 e.t, .int .i64 e.k, .int .i64 e.p, .int .i64 e.a, .int .i64 e.b] 23))
      have hownE := Lib.hid hown
      clear he hok hown
      have hpb : pickB kind task e = ((kind == 0 || e.k == kind) && (task == -2 || e.p == task)) := rfl
      rcases a1 : (kind == 0) with _ | _ <;> rcases a2 : (e.k == kind) with _ | _ <;> rcases a3 : (task == -2) with _ | _ <;> rcases a4 : (e.p == task) with _ | _ <;> rw [a1, a2, a3, a4] at hpb <;> have hpb' := Lib.hid hpb <;> clear hpb
      all_goals
        go_wp2_with (first
          | (at_builtin; refine wpList_app1 rfl _ _ 32 rfl evTy w.heap.size hown'.out rfl (by rw [World.size_alloc]; rfl) rfl rfl (by unfold maxLen; omega) (by omega) (by simp; omega) ?_; intro v' w1 hown2 hbel2 _)
          | fail)
        go_roundw
        case measure => simp [intOf]; omega
        case rel => first
          | exact ⟨k + 1, by omega, by go_num, by rw [hsn.out, if_pos (by rw [hpb'.out]; rfl)]; exact OwnE.snoc hownE.out hok'.out hown2, (hb.alloc hb.size _).trans hbel2⟩
          | exact ⟨k + 1, by omega, by go_num, by rw [hsn.out, if_neg (by rw [hpb'.out]; decide)]; exact hownE.out.below ((Below.refl _ _).alloc (Nat.le_refl _) _) (Nat.le_refl _), hb.alloc hb.size _⟩
    · have ht := take_all hlt
      rw [ht] at hown
      go_wp2_with fail
      go_ret
      exact ⟨_, rfl, hown, hb⟩

theorem count_any (A : Option Addr) (c : Nat) (l : List Ev) (kind task : Int) (w : World) (hn : l.length ≤ 3000) (hl : EvSl w w.heap.size A l) :
    Calls Tryd.prog 18 #[.slice A l.length c, .int .i64 kind, .int .i64 task] w fun e w' => e = .returned (.int .i64 (picks kind task l).length) ∧ Below w.heap.size w w' := by
  go_enter Tryd.func18, Tryd.ntmps18
  go_wp2_with fail
  refine (of_any A c l kind task w hn hl).mono ?_
  rintro e w1 ⟨v, rfl, hown, hb⟩
  obtain ⟨A1, c1, rfl, hc1, hs⟩ := hown.sl
  go_wp2_with fail
  go_ret
  exact ⟨rfl, hb⟩

/-! ### two rows of events -/
set_option maxHeartbeats 1000000 in
theorem evs_any (A A' : Option Addr) (c c' : Nat) (l m : List Ev) (w : World) (hn : l.length ≤ 3000) (_hm : m.length ≤ 3000) (hl : EvSl w w.heap.size A l) (hm' : EvSl w w.heap.size A' m) :
    Calls Tryd.prog 16 #[.slice A l.length c, .slice A' m.length c'] w fun e w' => e = .returned (.bool (decide (l = m))) ∧ Below w.heap.size w w' := by
  by_cases hlen : l.length = m.length
  · have x0 : ((l.length : Int) != (m.length : Int)) = false := by simp [hlen]
    have hlen' := Lib.hid hlen
    clear hlen
    go_enter Tryd.func16, Tryd.ntmps16
    go_wp2
    go_loopw [5, 13] (fun i j wr => ∃ k : Nat, k ≤ l.length ∧ j = .int .i64 k ∧ l.take k = m.take k ∧ Below w.heap.size w wr) (fun _ j _ => l.length - (intOf j).toNat)
    case atStart => exact ⟨0, Nat.zero_le _, rfl, rfl, Below.refl _ _⟩
    case round =>
      obtain ⟨k, hk, rfl, heq, hb⟩ := hrel
      by_cases hlt : k < l.length
      · obtain ⟨x, hx⟩ := get_some hlt
        obtain ⟨y, hy⟩ := get_some (show k < m.length by have := hlen'.out; omega)
        obtain ⟨_, b, off, rfl, hlb, h0, h1, h2, h3, h4⟩ := (hl.below hb (Nat.le_refl _)).get hx
        obtain ⟨_, b2, off2, rfl, hlb2, g0, g1, g2, g3, g4⟩ := (hm'.below hb (Nat.le_refl _)).get hy
        have hmk : (k : Int) < m.length := by have := hlen'.out; omega
        have heq' := Lib.hid heq
        have hx' := Lib.hid hx
        have hy' := Lib.hid hy
        clear heq hx hy
        by_cases hxy : x = y
        · subst hxy
          go_wp2
          go_quiet (fail)
          go_wp2
          go_roundw
          case rel => exact ⟨k + 1, by omega, by go_num, by rw [take_snoc hx'.out, take_snoc hy'.out, heq'.out], drewN_below hb _⟩
          case measure => simp [intOf]; omega
        · have hxy' := Lib.hid hxy
          have hd : (x.t == y.t) = false ∨ ((x.t == y.t) = true ∧ (x.k == y.k) = false) ∨ ((x.t == y.t) = true ∧ (x.k == y.k) = true ∧ (x.p == y.p) = false) ∨ ((x.t == y.t) = true ∧ (x.k == y.k) = true ∧ (x.p == y.p) = true ∧ (x.a == y.a) = false) ∨ ((x.t == y.t) = true ∧ (x.k == y.k) = true ∧ (x.p == y.p) = true ∧ (x.a == y.a) = true ∧ (x.b == y.b) = false) := by
            obtain ⟨xt, xk, xp, xa, xb⟩ := x
            obtain ⟨yt, yk, yp, ya, yb⟩ := y
            simp only [Ev.mk.injEq] at hxy
            simp only [beq_eq_false_iff_ne, beq_iff_eq]
            by_cases e1 : xt = yt <;> by_cases e2 : xk = yk <;> by_cases e3 : xp = yp <;> by_cases e4 : xa = ya <;> by_cases e5 : xb = yb <;> simp_all
          clear hxy
          rcases hd with d1 | ⟨d1, d2⟩ | ⟨d1, d2, d3⟩ | ⟨d1, d2, d3, d4⟩ | ⟨d1, d2, d3, d4, d5⟩
          all_goals
            go_wp2
            go_quiet (fail)
            go_wp2
            go_ret
            refine ⟨ret_bool ?_, drewN_below hb _⟩
            symm
            rw [decide_eq_false_iff_not]
            intro e
            have := hx'.out
            rw [e, hy'.out] at this
            exact hxy'.out (by injection this with h; exact h.symm)
      · have h1 := take_all hlt
        have h2 : m.take k = m := take_all (by have := hlen'.out; omega)
        have h3 := Lib.hid (show l = m by rw [← h1, heq, h2])
        clear h1 h2 heq
        go_wp2
        go_ret
        exact ⟨ret_bool (by simpa using h3.out), hb⟩
  · have x0 : ((l.length : Int) != (m.length : Int)) = true := by simp; omega
    go_enter Tryd.func16, Tryd.ntmps16
    go_wp2
    go_ret
    exact ⟨ret_bool (by symm; rw [decide_eq_false_iff_not]; exact fun e => hlen (by rw [e])), Below.refl _ _⟩

end Go.Proofs.YtopclkkkchhgiaaDoor
