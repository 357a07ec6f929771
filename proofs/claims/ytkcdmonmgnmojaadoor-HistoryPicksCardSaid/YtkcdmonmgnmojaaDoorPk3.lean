/- coxswainplain.Calls of the same calls; history.Sort, Of, By; what sorting twice brings. -/
import Derived.Test.YtkcdmonmgnmojaaDoorRs2
import Derived.Test.YtkcdmonmgnmojaaDoorHPl
namespace Go.Proofs.YtkcdmonmgnmojaaDoor
open Go.RowKit
attribute [local go_sem] Oper.semAt_some

set_option maxRecDepth 100000 in
set_option maxHeartbeats 4000000 in
theorem calls_same (A A' : Option Addr) (c c' : Nat) (l : List Cl) (w : World) (hn : l.length ≤ 1000) (hr : ∀ x ∈ l, x.r.length ≤ 1000) (hl : ClSl w w.heap.size A l) (hm : ClSl w w.heap.size A' l) :
    Calls Tryd.prog 23 #[.slice A l.length c, .slice A' l.length c'] w fun e w' => e = .returned (.bool true) ∧ Below w.heap.size w w' := by
  have x0 : ((l.length : Int) != (l.length : Int)) = false := by simp
  go_enter Tryd.func23, Tryd.ntmps23
  go_wp2_with fail
  go_loopw [5, 13] (fun i j wr => ∃ k : Nat, k ≤ l.length ∧ j = .int .i64 k ∧ Below w.heap.size w wr) (fun _ j _ => l.length - (intOf j).toNat)
  case atStart => exact ⟨0, Nat.zero_le _, rfl, Below.refl _ _⟩
  case round =>
    obtain ⟨k, hk, rfl, hb⟩ := hrel
    by_cases hlt : k < l.length
    · obtain ⟨x, hx⟩ := get_some hlt
      obtain ⟨b1, off1, A1, c1, rfl, hlb1, hx1, hws1, _⟩ := (hl.below hb hb.size) k x hx
      obtain ⟨b2, off2, A2, c2, rfl, hlb2, hx2, hws2, _⟩ := (hm.below hb hb.size) k x hx
      have hxr := hr x (List.mem_of_getElem? hx)
      have hpc := fun (W : World) (hW : Below wr.heap.size wr W) => pcall_any x x A1 A2 c1 c2 W (hws1.below hW hW.size) (hws2.below hW hW.size) (by omega) (by omega)
      rw [clEq_self] at hpc
      unfold clV at hpc
      have HPC := Lib.hid hpc
      have hb0 := (Below.refl wr.heap.size wr).drew
      have hSd : (fun w' => Below wr.heap.size wr w' ∧ (w'.cell? ⟨b1, off1 + k * 7, none⟩ = some (.int .i64 x.p) ∧ w'.cell? ⟨b1, off1 + k * 7 + 1, none⟩ = some (.int .i64 x.o) ∧ w'.cell? ⟨b1, off1 + k * 7 + 2, none⟩ = some (.int .i64 x.q) ∧ w'.cell? ⟨b1, off1 + k * 7 + 3, none⟩ = some (.slice A1 x.r.length c1) ∧ w'.cell? ⟨b1, off1 + k * 7 + 4, none⟩ = some (.int .i64 x.c) ∧ w'.cell? ⟨b1, off1 + k * 7 + 5, none⟩ = some (.int .i64 x.b) ∧ w'.cell? ⟨b1, off1 + k * 7 + 6, none⟩ = some (.int .i64 x.e)) ∧ (w'.cell? ⟨b2, off2 + k * 7, none⟩ = some (.int .i64 x.p) ∧ w'.cell? ⟨b2, off2 + k * 7 + 1, none⟩ = some (.int .i64 x.o) ∧ w'.cell? ⟨b2, off2 + k * 7 + 2, none⟩ = some (.int .i64 x.q) ∧ w'.cell? ⟨b2, off2 + k * 7 + 3, none⟩ = some (.slice A2 x.r.length c2) ∧ w'.cell? ⟨b2, off2 + k * 7 + 4, none⟩ = some (.int .i64 x.c) ∧ w'.cell? ⟨b2, off2 + k * 7 + 5, none⟩ = some (.int .i64 x.b) ∧ w'.cell? ⟨b2, off2 + k * 7 + 6, none⟩ = some (.int .i64 x.e))) wr.drew := ⟨hb0, hx1, hx2⟩
      have HB := Lib.hid hb
      have k1 : (k : Int) < (l.length : Int) := by omega
      clear hpc hx1 hx2 hws1 hws2 hx hb hb0
      go_wp2_with fail
      refine wp_region_held_drew (S := (fun w' => Below wr.heap.size wr w' ∧ (w'.cell? ⟨b1, off1 + k * 7, none⟩ = some (.int .i64 x.p) ∧ w'.cell? ⟨b1, off1 + k * 7 + 1, none⟩ = some (.int .i64 x.o) ∧ w'.cell? ⟨b1, off1 + k * 7 + 2, none⟩ = some (.int .i64 x.q) ∧ w'.cell? ⟨b1, off1 + k * 7 + 3, none⟩ = some (.slice A1 x.r.length c1) ∧ w'.cell? ⟨b1, off1 + k * 7 + 4, none⟩ = some (.int .i64 x.c) ∧ w'.cell? ⟨b1, off1 + k * 7 + 5, none⟩ = some (.int .i64 x.b) ∧ w'.cell? ⟨b1, off1 + k * 7 + 6, none⟩ = some (.int .i64 x.e)) ∧ (w'.cell? ⟨b2, off2 + k * 7, none⟩ = some (.int .i64 x.p) ∧ w'.cell? ⟨b2, off2 + k * 7 + 1, none⟩ = some (.int .i64 x.o) ∧ w'.cell? ⟨b2, off2 + k * 7 + 2, none⟩ = some (.int .i64 x.q) ∧ w'.cell? ⟨b2, off2 + k * 7 + 3, none⟩ = some (.slice A2 x.r.length c2) ∧ w'.cell? ⟨b2, off2 + k * 7 + 4, none⟩ = some (.int .i64 x.c) ∧ w'.cell? ⟨b2, off2 + k * 7 + 5, none⟩ = some (.int .i64 x.b) ∧ w'.cell? ⟨b2, off2 + k * 7 + 6, none⟩ = some (.int .i64 x.e)))) (by kernel_rfl) hSd (fun hHeld => ?_)
      generalize wr.drew = wd at hHeld ⊢
      have hHeld : (fun w' => Below wr.heap.size wr w' ∧ (w'.cell? ⟨b1, off1 + k * 7, none⟩ = some (.int .i64 x.p) ∧ w'.cell? ⟨b1, off1 + k * 7 + 1, none⟩ = some (.int .i64 x.o) ∧ w'.cell? ⟨b1, off1 + k * 7 + 2, none⟩ = some (.int .i64 x.q) ∧ w'.cell? ⟨b1, off1 + k * 7 + 3, none⟩ = some (.slice A1 x.r.length c1) ∧ w'.cell? ⟨b1, off1 + k * 7 + 4, none⟩ = some (.int .i64 x.c) ∧ w'.cell? ⟨b1, off1 + k * 7 + 5, none⟩ = some (.int .i64 x.b) ∧ w'.cell? ⟨b1, off1 + k * 7 + 6, none⟩ = some (.int .i64 x.e)) ∧ (w'.cell? ⟨b2, off2 + k * 7, none⟩ = some (.int .i64 x.p) ∧ w'.cell? ⟨b2, off2 + k * 7 + 1, none⟩ = some (.int .i64 x.o) ∧ w'.cell? ⟨b2, off2 + k * 7 + 2, none⟩ = some (.int .i64 x.q) ∧ w'.cell? ⟨b2, off2 + k * 7 + 3, none⟩ = some (.slice A2 x.r.length c2) ∧ w'.cell? ⟨b2, off2 + k * 7 + 4, none⟩ = some (.int .i64 x.c) ∧ w'.cell? ⟨b2, off2 + k * 7 + 5, none⟩ = some (.int .i64 x.b) ∧ w'.cell? ⟨b2, off2 + k * 7 + 6, none⟩ = some (.int .i64 x.e))) wd := hHeld
      refine wpAnyH_take (i := 0) (oi := ?_) (v := ?_) ?_ (by kernel_rfl) (by kernel_rfl) (by kernel_rfl) ?_ (Or.inl ⟨?_, ?_⟩) (by assumption) ?_
      rotate_left 2
      · (simp only [List.getElem?_toArray, List.getElem?_cons_zero]; rfl)
      · first | exact fun _ _ _ h => h | exact fun _ _ _ h => by cases h.1
      · rfl
      · ((intro wq hSq; (try dsimp only at hSq); go_simp); (try with_reducible rfl))
      try simp only [Act.put, List.setIfInBounds_toArray, List.set_cons_zero, List.set_cons_succ]
      refine wpAnyH_take (i := 1) (oi := ?_) (v := ?_) ?_ (by kernel_rfl) (by kernel_rfl) (by kernel_rfl) ?_ (Or.inl ⟨?_, ?_⟩) (by assumption) ?_
      rotate_left 2
      · (simp only [List.getElem?_toArray, List.getElem?_cons_succ, List.getElem?_cons_zero]; rfl)
      · first | exact fun _ _ _ h => h | exact fun _ _ _ h => by cases h.1
      · rfl
      · ((intro wq hSq; (try dsimp only at hSq); go_simp); (try with_reducible rfl))
      try simp only [Act.put, List.setIfInBounds_toArray, List.set_cons_zero, List.set_cons_succ]
      refine wpAnyH_take (i := 2) (oi := ?_) (v := ?_) ?_ (by kernel_rfl) (by kernel_rfl) (by kernel_rfl) ?_ (Or.inl ⟨?_, ?_⟩) (by assumption) ?_
      rotate_left 2
      · (simp only [List.getElem?_toArray, List.getElem?_cons_succ, List.getElem?_cons_zero]; rfl)
      · first | exact fun _ _ _ h => h | exact fun _ _ _ h => by cases h.1
      · rfl
      · ((intro wq hSq; (try dsimp only at hSq); go_simp); (try with_reducible rfl))
      try simp only [Act.put, List.setIfInBounds_toArray, List.set_cons_zero, List.set_cons_succ]
      refine wpAnyH_take (i := 3) (oi := ?_) (v := ?_) ?_ (by kernel_rfl) (by kernel_rfl) (by kernel_rfl) ?_ (Or.inl ⟨?_, ?_⟩) (by assumption) ?_
      rotate_left 2
      · (simp only [List.getElem?_toArray, List.getElem?_cons_succ, List.getElem?_cons_zero]; rfl)
      · first | exact fun _ _ _ h => h | exact fun _ _ _ h => by cases h.1
      · rfl
      · ((intro wq hSq; (try dsimp only at hSq); go_simp); (try with_reducible rfl))
      try simp only [Act.put, List.setIfInBounds_toArray, List.set_cons_zero, List.set_cons_succ]
      refine wpAnyH_take (i := 4) (oi := ?_) (v := ?_) ?_ (by kernel_rfl) (by kernel_rfl) (by kernel_rfl) ?_ (Or.inl ⟨?_, ?_⟩) (by assumption) ?_
      rotate_left 2
      · (simp only [List.getElem?_toArray, List.getElem?_cons_succ, List.getElem?_cons_zero]; rfl)
      · first | exact fun _ _ _ h => h | exact fun _ _ _ h => by cases h.1
      · rfl
      · ((intro wq hSq; (try dsimp only at hSq); go_simp); (try with_reducible rfl))
      try simp only [Act.put, List.setIfInBounds_toArray, List.set_cons_zero, List.set_cons_succ]
      refine wpAnyH_take (i := 5) (oi := ?_) (v := ?_) ?_ (by kernel_rfl) (by kernel_rfl) (by kernel_rfl) ?_ (Or.inl ⟨?_, ?_⟩) (by assumption) ?_
      rotate_left 2
      · (simp only [List.getElem?_toArray, List.getElem?_cons_succ, List.getElem?_cons_zero]; rfl)
      · first | exact fun _ _ _ h => h | exact fun _ _ _ h => by cases h.1
      · rfl
      · ((intro wq hSq; (try dsimp only at hSq); go_simp); (try with_reducible rfl))
      try simp only [Act.put, List.setIfInBounds_toArray, List.set_cons_zero, List.set_cons_succ]
      refine wpAnyH_take (i := 6) (oi := ?_) (v := ?_) ?_ (by kernel_rfl) (by kernel_rfl) (by kernel_rfl) ?_ (Or.inl ⟨?_, ?_⟩) (by assumption) ?_
      rotate_left 2
      · (simp only [List.getElem?_toArray, List.getElem?_cons_succ, List.getElem?_cons_zero]; rfl)
      · first | exact fun _ _ _ h => h | exact fun _ _ _ h => by cases h.1
      · rfl
      · ((intro wq hSq; (try dsimp only at hSq); go_simp); (try with_reducible rfl))
      try simp only [Act.put, List.setIfInBounds_toArray, List.set_cons_zero, List.set_cons_succ]
      refine wpAnyH_take (i := 7) (oi := ?_) (v := ?_) ?_ (by kernel_rfl) (by kernel_rfl) (by kernel_rfl) ?_ (Or.inl ⟨?_, ?_⟩) (by assumption) ?_
      rotate_left 2
      · (simp only [List.getElem?_toArray, List.getElem?_cons_succ, List.getElem?_cons_zero]; rfl)
      · first | exact fun _ _ _ h => h | exact fun _ _ _ h => by cases h.1
      · rfl
      · ((intro wq hSq; (try dsimp only at hSq); go_simp); (try with_reducible rfl))
      try simp only [Act.put, List.setIfInBounds_toArray, List.set_cons_zero, List.set_cons_succ]
      refine wpAnyH_ready (rs := [8]) (by kernel_rfl) (by simp) ?_
      refine AllReadyH.cons (o := ?_) ?_ (fun K hK => ?_) AllReadyH.nil
      rotate_left
      · (simp only [List.getElem?_toArray, List.getElem?_cons_succ, List.getElem?_cons_zero]; rfl)
      go_simp
      go_at_call 32
      refine (HPC.out _ hHeld.1).mono ?_
      rintro ex wx ⟨rfl, hbx⟩
      have hbx := hbx.mono hHeld.1.size
      have hSx : (fun w' => Below wr.heap.size wr w' ∧ (w'.cell? ⟨b1, off1 + k * 7, none⟩ = some (.int .i64 x.p) ∧ w'.cell? ⟨b1, off1 + k * 7 + 1, none⟩ = some (.int .i64 x.o) ∧ w'.cell? ⟨b1, off1 + k * 7 + 2, none⟩ = some (.int .i64 x.q) ∧ w'.cell? ⟨b1, off1 + k * 7 + 3, none⟩ = some (.slice A1 x.r.length c1) ∧ w'.cell? ⟨b1, off1 + k * 7 + 4, none⟩ = some (.int .i64 x.c) ∧ w'.cell? ⟨b1, off1 + k * 7 + 5, none⟩ = some (.int .i64 x.b) ∧ w'.cell? ⟨b1, off1 + k * 7 + 6, none⟩ = some (.int .i64 x.e)) ∧ (w'.cell? ⟨b2, off2 + k * 7, none⟩ = some (.int .i64 x.p) ∧ w'.cell? ⟨b2, off2 + k * 7 + 1, none⟩ = some (.int .i64 x.o) ∧ w'.cell? ⟨b2, off2 + k * 7 + 2, none⟩ = some (.int .i64 x.q) ∧ w'.cell? ⟨b2, off2 + k * 7 + 3, none⟩ = some (.slice A2 x.r.length c2) ∧ w'.cell? ⟨b2, off2 + k * 7 + 4, none⟩ = some (.int .i64 x.c) ∧ w'.cell? ⟨b2, off2 + k * 7 + 5, none⟩ = some (.int .i64 x.b) ∧ w'.cell? ⟨b2, off2 + k * 7 + 6, none⟩ = some (.int .i64 x.e))) wx := by
        obtain ⟨h0, ⟨u0, u1, u2, u3, u4, u5, u6⟩, v0, v1, v2, v3, v4, v5, v6⟩ := hHeld
        have hk1 : ∀ {i : Nat} {u : Value}, _ → wx.cell? ⟨b1, i, none⟩ = some u := fun {i u} hc => (hbx.cell (p := ⟨b1, i, none⟩) hlb1).trans hc
        have hk2 : ∀ {i : Nat} {u : Value}, _ → wx.cell? ⟨b2, i, none⟩ = some u := fun {i u} hc => (hbx.cell (p := ⟨b2, i, none⟩) hlb2).trans hc
        exact ⟨h0.trans hbx, ⟨hk1 u0, hk1 u1, hk1 u2, hk1 u3, hk1 u4, hk1 u5, hk1 u6⟩, hk2 v0, hk2 v1, hk2 v2, hk2 v3, hk2 v4, hk2 v5, hk2 v6⟩
      refine hK.out _ _ hSx (fun hHeld => ?_)
      clear hK K
      try simp only [Act.put, List.setIfInBounds_toArray, List.set_cons_zero, List.set_cons_succ]
      refine wpAnyH_take (i := 9) (oi := ?_) (v := ?_) ?_ (by kernel_rfl) (by kernel_rfl) (by kernel_rfl) ?_ (Or.inl ⟨?_, ?_⟩) (by assumption) ?_
      rotate_left 2
      · (simp only [List.getElem?_toArray, List.getElem?_cons_succ, List.getElem?_cons_zero]; rfl)
      · first | exact fun _ _ _ h => h | exact fun _ _ _ h => by cases h.1
      · rfl
      · ((intro wq hSq; (try dsimp only at hSq); go_simp); (try with_reducible rfl))
      try simp only [Act.put, List.setIfInBounds_toArray, List.set_cons_zero, List.set_cons_succ]
      refine wpAnyH_done (by kernel_rfl) ?_ _
      have HB2 := Lib.hid (HB.out.trans (hHeld.1.mono HB.out.size))
      clear hSd hHeld hSx HB HPC
      go_wp2_with fail
      go_roundw
      case rel => exact ⟨k + 1, by omega, by go_num, HB2.out⟩
      case measure => simp [intOf]; omega
    · go_wp2_with fail
      go_ret
      exact ⟨rfl, hb⟩

/-! ### sorted twice -/
def ltP (e f : Cl × Nat) : Prop := e.1.b < f.1.b ∨ (e.1.b = f.1.b ∧ (e.1.p < f.1.p ∨ (e.1.p = f.1.p ∧ e.2 < f.2)))
def El.pr (e : El) : Cl × Nat := (e.x, e.t)
theorem srt_pr {L : List El} (h : Srt ltE L) : Srt ltP (L.map El.pr) := List.pairwise_map.2 (List.Pairwise.imp (fun h => h) h)
def Tagged (L : List El) : Prop := ∀ (k : Nat) (e : El), L[k]? = some e → e.t = k
theorem Tagged.pairs {L M : List El} (hL : Tagged L) (hM : Tagged M) (h : L.map (·.x) = M.map (·.x)) : L.map El.pr = M.map El.pr := by
  apply List.ext_getElem?
  intro k
  have hk := congrArg (·[k]?) h
  simp only [List.getElem?_map] at hk ⊢
  rcases h1 : L[k]? with _ | e <;> rcases h2 : M[k]? with _ | f <;> simp only [h1, h2, Option.map_none, Option.map_some, reduceCtorEq] at hk ⊢
  · have hx : e.x = f.x := by simpa using hk
    show some (e.x, e.t) = some (f.x, f.t)
    rw [hx, hL k e h1, hM k f h2]
theorem Tagged.lt {L : List El} (h : Tagged L) : L.Pairwise fun e f => e.t < f.t := by
  rw [List.pairwise_iff_getElem]
  intro i j hi hj hij
  rw [h i _ (List.getElem?_eq_getElem hi), h j _ (List.getElem?_eq_getElem hj)]
  exact hij
theorem sort_same {L L0 M M0 : List El} (t1 : Tagged L0) (t2 : Tagged M0) (he : L0.map (·.x) = M0.map (·.x)) (p1 : L.Perm L0) (p2 : M.Perm M0) (s1 : Srt ltE L) (s2 : Srt ltE M) : L.map (·.x) = M.map (·.x) := by
  have hp : (L.map El.pr).Perm (M.map El.pr) := by
    refine (p1.map El.pr).trans ?_
    rw [t1.pairs t2 he]
    exact (p2.map El.pr).symm
  have := Srt.unique (lt := ltP) (fun x => by unfold ltP; omega) (fun x y z => by unfold ltP; omega) (srt_pr s1) (srt_pr s2) hp
  have h2 := congrArg (List.map (·.1)) this
  simpa [List.map_map, El.pr, Function.comp_def] using h2

/-! ### Sort, Of, By -/
theorem OwnC.sl {base : Nat} {w : World} {v : Value} {L : List El} (h : OwnC base w v L) : ∃ A c, v = .slice A L.length c ∧ L.length ≤ c ∧ ClSl w w.heap.size A (L.map (·.x)) := by
  rcases h.rows with ⟨rfl, rfl⟩ | ⟨g, cap, rfl, hg, hr, h1, h2⟩
  · exact ⟨none, 0, rfl, Nat.le_refl _, fun k x hx => by simp at hx⟩
  · exact ⟨_, cap, rfl, h1, hr.sl h.2⟩
set_option maxHeartbeats 1000000 in
theorem hsort_any (A : Option Addr) (c : Nat) (l : List Cl) (w : World) (hn : l.length ≤ 60) (hr : ∀ x ∈ l, x.r.length ≤ 100) (hl : ClSl w w.heap.size A l) :
    Calls Tryd.prog 24 #[.slice A l.length c] w fun e w' => ∃ A' c' L M, e = .returned (.slice A' l.length c') ∧ ClSl w' w'.heap.size A' (M.map (·.x)) ∧ L.map (·.x) = l ∧ Tagged L ∧ M.Perm L ∧ Srt ltE M ∧ Below w.heap.size w w' := by
  have hp := Lib.hid (pickAll_any A c l w hn hr hl)
  go_enter Tryd.func24, Tryd.ntmps24
  go_wp2_with fail
  refine hp.out.mono ?_
  rintro e w1 ⟨v, L, rfl, ⟨hown, heq, htg⟩, hb⟩
  have heq : L.map (·.x) = l := by rw [heq]; simp
  have hll : L.length = l.length := by rw [← heq, List.length_map]
  rcases hown.rows with ⟨rfl, rfl⟩ | ⟨g, cap, rfl, hg, hrow, h1, h2⟩
  · have h0 : l = [] := by rw [← heq]; rfl
    subst h0
    go_wp2_with fail
    refine (sort_none w1).mono ?_
    rintro e w2 ⟨rfl, rfl⟩
    go_wp2_with fail
    go_ret
    exact ⟨none, 0, [], [], rfl, (fun k x hx => by simp at hx), rfl, htg, List.Perm.refl _, List.Pairwise.nil, hb⟩
  · have hs := Lib.hid (sort_any g cap L.length L w1 hrow (Tagged.lt htg) rfl h1 (by omega))
    have hrec := Lib.hid hown.2
    have hrow' := Lib.hid hrow
    clear hrow hown
    rw [hll]
    rw [hll] at hs
    go_wp2_with fail
    refine hs.out.mono ?_
    rintro e w2 ⟨rfl, M, hr2, hp2, hs2, hk2⟩
    have hku := KeepU.kpg hk2 hrow'.out
    go_wp2_with fail
    go_ret
    exact ⟨_, cap, L, M, rfl, hr2.sl (fun e he => (hrec.out e (hp2.subset he)).keep hku), heq, htg, hp2, hs2, hb.trans (hk2.below _ hg hb.size)⟩
set_option maxHeartbeats 1000000 in
theorem of_any (A : Option Addr) (c : Nat) (l : List Cl) (z : Int) (w : World) (hn : l.length ≤ 60) (hr : ∀ x ∈ l, x.r.length ≤ 100) (hl : ClSl w w.heap.size A l) :
    Calls Tryd.prog 26 #[.slice A l.length c, .int .i64 z] w fun e w' => ∃ A' c', e = .returned (.slice A' (l.filter (fun x => x.o == z)).length c') ∧ ClSl w' w'.heap.size A' (l.filter (fun x => x.o == z)) ∧ Below w.heap.size w w' := by
  have hb0 := (Below.refl _ w).alloc (Nat.le_refl _) (.cells #[.int .i64 z] 3)
  have hp := Lib.hid (pickOf_any A c l z w.heap.size (w.alloc (.cells #[.int .i64 z] 3)) hn hr (World.cell?_alloc_new w _ _ 0) (hl.below hb0 hb0.size))
  have HB := Lib.hid hb0
  clear hb0 hl
  go_enter Tryd.func26, Tryd.ntmps26
  go_wp2_with fail
  refine hp.out.mono ?_
  rintro e w1 ⟨v, L, rfl, ⟨hown, heq, htg⟩, hb⟩
  obtain ⟨A', c', rfl, _, hs⟩ := hown.sl
  rw [heq] at hs
  have hll : L.length = (l.filter (fun x => x.o == z)).length := by rw [← heq, List.length_map]
  go_wp2_with fail
  go_ret
  exact ⟨A', c', by first | rfl | (rw [hll]; rfl), hs, HB.out.trans (hb.mono HB.out.size)⟩
set_option maxHeartbeats 1000000 in
theorem by_any (A : Option Addr) (c : Nat) (l : List Cl) (z : Int) (w : World) (hn : l.length ≤ 60) (hr : ∀ x ∈ l, x.r.length ≤ 100) (hl : ClSl w w.heap.size A l) :
    Calls Tryd.prog 27 #[.slice A l.length c, .int .i64 z] w fun e w' => ∃ A' c', e = .returned (.slice A' (l.filter (fun x => x.p == z)).length c') ∧ ClSl w' w'.heap.size A' (l.filter (fun x => x.p == z)) ∧ Below w.heap.size w w' := by
  have hb0 := (Below.refl _ w).alloc (Nat.le_refl _) (.cells #[.int .i64 z] 3)
  have hp := Lib.hid (pickBy_any A c l z w.heap.size (w.alloc (.cells #[.int .i64 z] 3)) hn hr (World.cell?_alloc_new w _ _ 0) (hl.below hb0 hb0.size))
  have HB := Lib.hid hb0
  clear hb0 hl
  go_enter Tryd.func27, Tryd.ntmps27
  go_wp2_with fail
  refine hp.out.mono ?_
  rintro e w1 ⟨v, L, rfl, ⟨hown, heq, htg⟩, hb⟩
  obtain ⟨A', c', rfl, _, hs⟩ := hown.sl
  rw [heq] at hs
  have hll : L.length = (l.filter (fun x => x.p == z)).length := by rw [← heq, List.length_map]
  go_wp2_with fail
  go_ret
  exact ⟨A', c', by first | rfl | (rw [hll]; rfl), hs, HB.out.trans (hb.mono HB.out.size)⟩

end Go.Proofs.YtkcdmonmgnmojaaDoor
