/- Texts joined: slices.symMergeCmpFunc where one side holds one. slices.symMergeCmpFunc where the right side holds one. What the symmetric cut brings; symMerge's law as a statement. -/
import Derived.Test.YtgmmblknaeepbaaZh1
namespace Go.Proofs.Ytgmmblknaeepbaa
open Go.RowKit
attribute [local go_sem] Oper.semAt_some

theorem srt_split {V : List El} (hV : Srt ltE V) {k : Nat} {v : El} (h : V[k]? = some v) : (∀ x ∈ V.take k, ltE x v) ∧ (∀ x ∈ V.drop (k + 1), ltE v x) := by
  have hk := get_lt h
  have e : V = V.take k ++ v :: V.drop (k + 1) := by
    have h2 := (List.take_append_drop (k + 1) V).symm
    rw [take_snoc h] at h2
    simpa using h2
  rw [e] at hV
  exact ⟨fun x hx => hV.across x hx v (by simp), fun x hx => (List.pairwise_cons.1 hV.right).1 x hx⟩
theorem low_step {V : List El} (hV : Srt ltE V) {k : Nat} {v u : El} (h : V[k]? = some v) (hu : ltE v u) : ∀ x ∈ V.take (k + 1), ltE x u := by
  rw [take_snoc h]
  intro x hx
  rcases List.mem_append.1 hx with hx | hx
  · exact ltE_tr _ _ _ ((srt_split hV h).1 x hx) hu
  · rw [List.mem_singleton.1 hx]; exact hu
theorem up_step {V : List El} (hV : Srt ltE V) {k : Nat} {v u : El} (h : V[k]? = some v) (hu : ltE u v) : ∀ x ∈ V.drop k, ltE u x := by
  have hk := get_lt h
  have e : V.drop k = v :: V.drop (k + 1) := by
    rw [List.drop_eq_getElem_cons hk]
    rw [List.getElem?_eq_getElem hk] at h
    rw [Option.some.inj h]
  rw [e]
  intro x hx
  rcases List.mem_cons.1 hx with rfl | hx
  · exact hu
  · exact ltE_tr _ _ _ hu ((srt_split hV h).2 x hx)
theorem so_wrapu {x : Int} (h0 : 0 ≤ x) (h : x < 9223372036854775808) : IntKind.u64.wrap x = x := by
  simp [IntKind.wrap, IntKind.signed, IntKind.bits]
  omega

set_option maxRecDepth 100000 in
set_option maxHeartbeats 8000000 in
theorem sym_left (g cap a m b N : Nat) (P V R : List El) (u : El) (w : World) (hg : RowsG w g (P ++ u :: (V ++ R))) (ha : P.length = a) (hm : a + 1 = m) (hb : m + V.length = b) (hV : Srt ltE V) (ht : ∀ f ∈ V, u.t < f.t) (hN : P.length + 1 + V.length + R.length = N) (_hcap : N ≤ cap) (hbig : N ≤ 100000) :
    Calls Try.prog 71 #[.slice (some ⟨g, 0, none⟩) N cap, .int .i64 (a : Int), .int .i64 (m : Int), .int .i64 (b : Int), .func (.func 43) #[] #[]] w fun e w' => e = .returned (.tuple #[]) ∧ ∃ W, RowsG w' g (P ++ W ++ R) ∧ W.Perm (u :: V) ∧ Srt ltE W ∧ KpG g w w' := by
  have HG := Lib.hid hg
  have HA := Lib.hid ha
  have HM := Lib.hid hm
  have HB := Lib.hid hb
  have HV := Lib.hid hV
  have HT := Lib.hid ht
  have HN := Lib.hid hN
  have hbN : b ≤ N := by omega
  have hmb : m ≤ b := by omega
  have haN : a < N := by omega
  have e1 : (m : Int) - (a : Int) = 1 := by omega
  clear hg ha hm hb hV ht hN
  go_enter Try.func71, Try.ntmps71
  go_wp2_with fail
  go_loopw [10, 11, 12] (fun i j h wr => ∃ i' j' : Nat, i = .int .i64 (i' : Int) ∧ j = .int .i64 (j' : Int) ∧ m ≤ i' ∧ i' ≤ j' ∧ j' ≤ b ∧ (∀ v ∈ V.take (i' - m), ltE v u) ∧ (∀ v ∈ V.drop (j' - m), ltE u v) ∧ RowsG wr g (P ++ u :: (V ++ R)) ∧ KpG g w wr) (fun i j _ _ => (intOf j).toNat - (intOf i).toNat)
  case atStart =>
    have h1 := HB.out
    exact ⟨m, b, rfl, rfl, Nat.le_refl _, hmb, Nat.le_refl _, (fun v hv => by rw [Nat.sub_self] at hv; cases hv), (fun v hv => by rw [List.drop_eq_nil_of_le (by omega)] at hv; cases hv), HG.out, KpG.refl _ _⟩
  case round =>
    clear e1 HG
    obtain ⟨i, j, rfl, rfl, hi, hij, hj, hlo, hup, hr, hk⟩ := hrel
    by_cases hlt : i < j
    · have c1 : decide ((i : Int) < (j : Int)) = true := by rw [decide_eq_true_iff]; omega
      have c2 : decide (i < j) = true := decide_eq_true hlt
      obtain ⟨s, hs⟩ : ∃ s, i + j = s := ⟨_, rfl⟩
      obtain ⟨h, hh⟩ : ∃ h, s / 2 = h := ⟨_, rfl⟩
      have e1 : (i : Int) + (j : Int) = (s : Int) := by omega
      have e2 : (s : Int) / 2 = (h : Int) := by omega
      have jw1 : IntKind.i64.wrap (s : Int) = (s : Int) := so_wrap (by omega) (by omega)
      have jw2 : IntKind.u64.wrap (s : Int) = (s : Int) := so_wrapu (by omega) (by omega)
      have jw3 : IntKind.i64.wrap (h : Int) = (h : Int) := so_wrap (by omega) (by omega)
      have jw4 : IntKind.u64.wrap (h : Int) = (h : Int) := so_wrapu (by omega) (by omega)
      have hhi : i ≤ h ∧ h < j := by omega
      have HH := Lib.hid (And.intro hi (And.intro hhi (And.intro hij hj)))
      obtain ⟨v, hv⟩ := get_some (show h - m < V.length by have := HB.out; omega)
      have hlv : (P ++ u :: (V ++ R))[h]? = some v := by
        have h1 := HA.out
        have h2 := HM.out
        rw [List.getElem?_append_right (by omega), show h - P.length = (h - m) + 1 by omega, List.getElem?_cons_succ, List.getElem?_append_left (get_lt hv)]
        exact hv
      have hlu : (P ++ u :: (V ++ R))[a]? = some u := by
        rw [← HA.out, List.getElem?_append_right (Nat.le_refl _), Nat.sub_self, List.getElem?_cons_zero]
      have l1 : h < N := by omega
      have l2 : (h : Int) < (N : Int) := by omega
      have l3 : (a : Int) < (N : Int) := by omega
      have l4 : (0 : Int) ≤ (h : Int) := by omega
      have hcm := fun W => scmp_any v.x u.x v.A u.A v.c u.c W
      unfold clV at hcm
      obtain ⟨q, hcq⟩ : ∃ q, cmpC v.x u.x = q := ⟨_, rfl⟩
      rw [hcq] at hcm
      have HCM := Lib.hid hcm
      have HCQ := Lib.hid hcq
      have hxd := (hr.kept (Below.refl _ wr).drew).cells hlv
      have hyd := (hr.kept (Below.refl _ wr).drew).cells hlu
      have hSd : (fun w' => Below wr.heap.size wr w' ∧ (w'.cell? ⟨g, h * 7, none⟩ = some (.int .i64 v.x.p) ∧ w'.cell? ⟨g, h * 7 + 1, none⟩ = some (.int .i64 v.x.o) ∧ w'.cell? ⟨g, h * 7 + 2, none⟩ = some (.int .i64 v.x.q) ∧ w'.cell? ⟨g, h * 7 + 3, none⟩ = some (.slice v.A v.x.r.length v.c) ∧ w'.cell? ⟨g, h * 7 + 4, none⟩ = some (.int .i64 v.x.c) ∧ w'.cell? ⟨g, h * 7 + 5, none⟩ = some (.int .i64 v.x.b) ∧ w'.cell? ⟨g, h * 7 + 6, none⟩ = some (.int .i64 v.x.e)) ∧ (w'.cell? ⟨g, a * 7, none⟩ = some (.int .i64 u.x.p) ∧ w'.cell? ⟨g, a * 7 + 1, none⟩ = some (.int .i64 u.x.o) ∧ w'.cell? ⟨g, a * 7 + 2, none⟩ = some (.int .i64 u.x.q) ∧ w'.cell? ⟨g, a * 7 + 3, none⟩ = some (.slice u.A u.x.r.length u.c) ∧ w'.cell? ⟨g, a * 7 + 4, none⟩ = some (.int .i64 u.x.c) ∧ w'.cell? ⟨g, a * 7 + 5, none⟩ = some (.int .i64 u.x.b) ∧ w'.cell? ⟨g, a * 7 + 6, none⟩ = some (.int .i64 u.x.e))) wr.drew := ⟨(Below.refl _ wr).drew, hxd, hyd⟩
      clear hcm hcq hxd hyd
      have HR := Lib.hid hr
      have HK := Lib.hid hk
      have HLO := Lib.hid hlo
      have HUP := Lib.hid hup
      have HLV := Lib.hid hv
      clear hr hk hlo hup hlv hlu hv hs hh hhi hi hij hj
      rcases hneg : decide (q < 0) with _ | _
      · go_wp2_with fail
        refine wp_region_held_drew (S := (fun w' => Below wr.heap.size wr w' ∧ (w'.cell? ⟨g, h * 7, none⟩ = some (.int .i64 v.x.p) ∧ w'.cell? ⟨g, h * 7 + 1, none⟩ = some (.int .i64 v.x.o) ∧ w'.cell? ⟨g, h * 7 + 2, none⟩ = some (.int .i64 v.x.q) ∧ w'.cell? ⟨g, h * 7 + 3, none⟩ = some (.slice v.A v.x.r.length v.c) ∧ w'.cell? ⟨g, h * 7 + 4, none⟩ = some (.int .i64 v.x.c) ∧ w'.cell? ⟨g, h * 7 + 5, none⟩ = some (.int .i64 v.x.b) ∧ w'.cell? ⟨g, h * 7 + 6, none⟩ = some (.int .i64 v.x.e)) ∧ (w'.cell? ⟨g, a * 7, none⟩ = some (.int .i64 u.x.p) ∧ w'.cell? ⟨g, a * 7 + 1, none⟩ = some (.int .i64 u.x.o) ∧ w'.cell? ⟨g, a * 7 + 2, none⟩ = some (.int .i64 u.x.q) ∧ w'.cell? ⟨g, a * 7 + 3, none⟩ = some (.slice u.A u.x.r.length u.c) ∧ w'.cell? ⟨g, a * 7 + 4, none⟩ = some (.int .i64 u.x.c) ∧ w'.cell? ⟨g, a * 7 + 5, none⟩ = some (.int .i64 u.x.b) ∧ w'.cell? ⟨g, a * 7 + 6, none⟩ = some (.int .i64 u.x.e)))) (by kernel_rfl) hSd (fun hHeld => ?_)
        generalize wr.drew = wd at hHeld ⊢
        have hHeld : (fun w' => Below wr.heap.size wr w' ∧ (w'.cell? ⟨g, h * 7, none⟩ = some (.int .i64 v.x.p) ∧ w'.cell? ⟨g, h * 7 + 1, none⟩ = some (.int .i64 v.x.o) ∧ w'.cell? ⟨g, h * 7 + 2, none⟩ = some (.int .i64 v.x.q) ∧ w'.cell? ⟨g, h * 7 + 3, none⟩ = some (.slice v.A v.x.r.length v.c) ∧ w'.cell? ⟨g, h * 7 + 4, none⟩ = some (.int .i64 v.x.c) ∧ w'.cell? ⟨g, h * 7 + 5, none⟩ = some (.int .i64 v.x.b) ∧ w'.cell? ⟨g, h * 7 + 6, none⟩ = some (.int .i64 v.x.e)) ∧ (w'.cell? ⟨g, a * 7, none⟩ = some (.int .i64 u.x.p) ∧ w'.cell? ⟨g, a * 7 + 1, none⟩ = some (.int .i64 u.x.o) ∧ w'.cell? ⟨g, a * 7 + 2, none⟩ = some (.int .i64 u.x.q) ∧ w'.cell? ⟨g, a * 7 + 3, none⟩ = some (.slice u.A u.x.r.length u.c) ∧ w'.cell? ⟨g, a * 7 + 4, none⟩ = some (.int .i64 u.x.c) ∧ w'.cell? ⟨g, a * 7 + 5, none⟩ = some (.int .i64 u.x.b) ∧ w'.cell? ⟨g, a * 7 + 6, none⟩ = some (.int .i64 u.x.e))) wd := hHeld
        refine wpAnyH_take (i := 0) (oi := ?_) (v := ?_) ?_ (by kernel_rfl) (by kernel_rfl) (by kernel_rfl) ?_ (Or.inl ⟨?_, ?_⟩) (by assumption) ?_
        rotate_left 2
        · (simp only [List.getElem?_toArray, List.getElem?_cons_zero]; rfl)
        · first | exact fun _ _ _ h => h | exact fun _ _ _ h => by cases h.1
        · rfl
        · ((intro wq hSq; (try dsimp only at hSq); go_simp); (try with_reducible rfl))
        try simp only [Act.put, List.setIfInBounds_toArray, List.set_cons_zero, List.set_cons_succ]
        refine wpAnyH_take (i := 1) (oi := ?_) (v := ?_) ?_ (by kernel_rfl) (by kernel_rfl) (by kernel_rfl) ?_ (Or.inl ⟨?_, ?_⟩) (by assumption) ?_
        rotate_left 2
        · (simp only [List.getElem?_toArray, List.getElem?_cons_succ, List.getElem?_cons_zero]; rfl)
        · first | exact fun _ _ _ h => h | exact fun _ _ _ h => by cases h.1
        · rfl
        · ((intro wq hSq; (try dsimp only at hSq); go_simp); (try with_reducible rfl))
        try simp only [Act.put, List.setIfInBounds_toArray, List.set_cons_zero, List.set_cons_succ]
        refine wpAnyH_take (i := 2) (oi := ?_) (v := ?_) ?_ (by kernel_rfl) (by kernel_rfl) (by kernel_rfl) ?_ (Or.inl ⟨?_, ?_⟩) (by assumption) ?_
        rotate_left 2
        · (simp only [List.getElem?_toArray, List.getElem?_cons_succ, List.getElem?_cons_zero]; rfl)
        · first | exact fun _ _ _ h => h | exact fun _ _ _ h => by cases h.1
        · rfl
        · ((intro wq hSq; (try dsimp only at hSq); go_simp); (try with_reducible rfl))
        try simp only [Act.put, List.setIfInBounds_toArray, List.set_cons_zero, List.set_cons_succ]
        refine wpAnyH_take (i := 3) (oi := ?_) (v := ?_) ?_ (by kernel_rfl) (by kernel_rfl) (by kernel_rfl) ?_ (Or.inl ⟨?_, ?_⟩) (by assumption) ?_
        rotate_left 2
        · (simp only [List.getElem?_toArray, List.getElem?_cons_succ, List.getElem?_cons_zero]; rfl)
        · first | exact fun _ _ _ h => h | exact fun _ _ _ h => by cases h.1
        · rfl
        · ((intro wq hSq; (try dsimp only at hSq); go_simp); (try with_reducible rfl))
        try simp only [Act.put, List.setIfInBounds_toArray, List.set_cons_zero, List.set_cons_succ]
        refine wpAnyH_take (i := 4) (oi := ?_) (v := ?_) ?_ (by kernel_rfl) (by kernel_rfl) (by kernel_rfl) ?_ (Or.inl ⟨?_, ?_⟩) (by assumption) ?_
        rotate_left 2
        · (simp only [List.getElem?_toArray, List.getElem?_cons_succ, List.getElem?_cons_zero]; rfl)
        · first | exact fun _ _ _ h => h | exact fun _ _ _ h => by cases h.1
        · rfl
        · ((intro wq hSq; (try dsimp only at hSq); go_simp); (try with_reducible rfl))
        try simp only [Act.put, List.setIfInBounds_toArray, List.set_cons_zero, List.set_cons_succ]
        refine wpAnyH_take (i := 5) (oi := ?_) (v := ?_) ?_ (by kernel_rfl) (by kernel_rfl) (by kernel_rfl) ?_ (Or.inl ⟨?_, ?_⟩) (by assumption) ?_
        rotate_left 2
        · (simp only [List.getElem?_toArray, List.getElem?_cons_succ, List.getElem?_cons_zero]; rfl)
        · first | exact fun _ _ _ h => h | exact fun _ _ _ h => by cases h.1
        · rfl
        · ((intro wq hSq; (try dsimp only at hSq); go_simp); (try with_reducible rfl))
        try simp only [Act.put, List.setIfInBounds_toArray, List.set_cons_zero, List.set_cons_succ]
        refine wpAnyH_take (i := 6) (oi := ?_) (v := ?_) ?_ (by kernel_rfl) (by kernel_rfl) (by kernel_rfl) ?_ (Or.inl ⟨?_, ?_⟩) (by assumption) ?_
        rotate_left 2
        · (simp only [List.getElem?_toArray, List.getElem?_cons_succ, List.getElem?_cons_zero]; rfl)
        · first | exact fun _ _ _ h => h | exact fun _ _ _ h => by cases h.1
        · rfl
        · ((intro wq hSq; (try dsimp only at hSq); go_simp); (try with_reducible rfl))
        try simp only [Act.put, List.setIfInBounds_toArray, List.set_cons_zero, List.set_cons_succ]
        refine wpAnyH_take (i := 7) (oi := ?_) (v := ?_) ?_ (by kernel_rfl) (by kernel_rfl) (by kernel_rfl) ?_ (Or.inl ⟨?_, ?_⟩) (by assumption) ?_
        rotate_left 2
        · (simp only [List.getElem?_toArray, List.getElem?_cons_succ, List.getElem?_cons_zero]; rfl)
        · first | exact fun _ _ _ h => h | exact fun _ _ _ h => by cases h.1
        · rfl
        · ((intro wq hSq; (try dsimp only at hSq); go_simp); (try with_reducible rfl))
        try simp only [Act.put, List.setIfInBounds_toArray, List.set_cons_zero, List.set_cons_succ]
        refine wpAnyH_take (i := 8) (oi := ?_) (v := ?_) ?_ (by kernel_rfl) (by kernel_rfl) (by kernel_rfl) ?_ (Or.inl ⟨?_, ?_⟩) (by assumption) ?_
        rotate_left 2
        · (simp only [List.getElem?_toArray, List.getElem?_cons_succ, List.getElem?_cons_zero]; rfl)
        · first | exact fun _ _ _ h => h | exact fun _ _ _ h => by cases h.1
        · rfl
        · ((intro wq hSq; (try dsimp only at hSq); go_simp); (try with_reducible rfl))
        try simp only [Act.put, List.setIfInBounds_toArray, List.set_cons_zero, List.set_cons_succ]
        refine wpAnyH_ready (rs := [9]) (by kernel_rfl) (by simp) ?_
        refine AllReadyH.cons (o := ?_) ?_ (fun K hK => ?_) AllReadyH.nil
        rotate_left
        · (simp only [List.getElem?_toArray, List.getElem?_cons_succ, List.getElem?_cons_zero]; rfl)
        go_simp
        go_at_call 43
        refine (HCM.out _).mono ?_
        rintro ex wx ⟨rfl, hbx⟩
        have hSx : (fun w' => Below wr.heap.size wr w' ∧ (w'.cell? ⟨g, h * 7, none⟩ = some (.int .i64 v.x.p) ∧ w'.cell? ⟨g, h * 7 + 1, none⟩ = some (.int .i64 v.x.o) ∧ w'.cell? ⟨g, h * 7 + 2, none⟩ = some (.int .i64 v.x.q) ∧ w'.cell? ⟨g, h * 7 + 3, none⟩ = some (.slice v.A v.x.r.length v.c) ∧ w'.cell? ⟨g, h * 7 + 4, none⟩ = some (.int .i64 v.x.c) ∧ w'.cell? ⟨g, h * 7 + 5, none⟩ = some (.int .i64 v.x.b) ∧ w'.cell? ⟨g, h * 7 + 6, none⟩ = some (.int .i64 v.x.e)) ∧ (w'.cell? ⟨g, a * 7, none⟩ = some (.int .i64 u.x.p) ∧ w'.cell? ⟨g, a * 7 + 1, none⟩ = some (.int .i64 u.x.o) ∧ w'.cell? ⟨g, a * 7 + 2, none⟩ = some (.int .i64 u.x.q) ∧ w'.cell? ⟨g, a * 7 + 3, none⟩ = some (.slice u.A u.x.r.length u.c) ∧ w'.cell? ⟨g, a * 7 + 4, none⟩ = some (.int .i64 u.x.c) ∧ w'.cell? ⟨g, a * 7 + 5, none⟩ = some (.int .i64 u.x.b) ∧ w'.cell? ⟨g, a * 7 + 6, none⟩ = some (.int .i64 u.x.e))) wx := by
          obtain ⟨h0, ⟨u0, u1, u2, u3, u4, u5, u6⟩, v0, v1, v2, v3, v4, v5, v6⟩ := hHeld
          have hk : ∀ {i : Nat} {u : Value}, _ → wx.cell? ⟨g, i, none⟩ = some u := fun {i u} hc => (hbx.cell (p := ⟨g, i, none⟩) (cell_lt hc)).trans hc
          exact ⟨h0.trans (hbx.mono h0.size), ⟨hk u0, hk u1, hk u2, hk u3, hk u4, hk u5, hk u6⟩, hk v0, hk v1, hk v2, hk v3, hk v4, hk v5, hk v6⟩
        refine hK.out _ _ hSx (fun hHeld => ?_)
        clear hK K
        try simp only [Act.put, List.setIfInBounds_toArray, List.set_cons_zero, List.set_cons_succ]
        refine wpAnyH_take (i := 10) (oi := ?_) (v := ?_) ?_ (by kernel_rfl) (by kernel_rfl) (by kernel_rfl) ?_ (Or.inl ⟨?_, ?_⟩) (by assumption) ?_
        rotate_left 2
        · (simp only [List.getElem?_toArray, List.getElem?_cons_succ, List.getElem?_cons_zero]; rfl)
        · first | exact fun _ _ _ h => h | exact fun _ _ _ h => by cases h.1
        · rfl
        · ((intro wq hSq; (try dsimp only at hSq); go_simp); (try with_reducible rfl))
        try simp only [Act.put, List.setIfInBounds_toArray, List.set_cons_zero, List.set_cons_succ]
        refine wpAnyH_done (by kernel_rfl) ?_ _
        have hb := hHeld.1
        have hr' := Lib.hid (HR.out.kept hb)
        have hk' := Lib.hid (HK.out.trans (KpG.of hb))
        clear hSd hHeld hSx hb HR HK
        go_wp2_with fail
        go_roundw
        case rel =>
          obtain ⟨hi, hhi, hij, hj⟩ := HH.out
          refine ⟨i, h, rfl, rfl, hi, hhi.1, by omega, HLO.out, up_step HV.out HLV.out (ltE_else (HT.out v (List.mem_of_getElem? HLV.out)) (by rw [HCQ.out]; exact of_decide_eq_false hneg)), hr'.out, hk'.out⟩
        case measure => have := HH.out; simp [intOf]; omega
      · go_wp2_with fail
        refine wp_region_held_drew (S := (fun w' => Below wr.heap.size wr w' ∧ (w'.cell? ⟨g, h * 7, none⟩ = some (.int .i64 v.x.p) ∧ w'.cell? ⟨g, h * 7 + 1, none⟩ = some (.int .i64 v.x.o) ∧ w'.cell? ⟨g, h * 7 + 2, none⟩ = some (.int .i64 v.x.q) ∧ w'.cell? ⟨g, h * 7 + 3, none⟩ = some (.slice v.A v.x.r.length v.c) ∧ w'.cell? ⟨g, h * 7 + 4, none⟩ = some (.int .i64 v.x.c) ∧ w'.cell? ⟨g, h * 7 + 5, none⟩ = some (.int .i64 v.x.b) ∧ w'.cell? ⟨g, h * 7 + 6, none⟩ = some (.int .i64 v.x.e)) ∧ (w'.cell? ⟨g, a * 7, none⟩ = some (.int .i64 u.x.p) ∧ w'.cell? ⟨g, a * 7 + 1, none⟩ = some (.int .i64 u.x.o) ∧ w'.cell? ⟨g, a * 7 + 2, none⟩ = some (.int .i64 u.x.q) ∧ w'.cell? ⟨g, a * 7 + 3, none⟩ = some (.slice u.A u.x.r.length u.c) ∧ w'.cell? ⟨g, a * 7 + 4, none⟩ = some (.int .i64 u.x.c) ∧ w'.cell? ⟨g, a * 7 + 5, none⟩ = some (.int .i64 u.x.b) ∧ w'.cell? ⟨g, a * 7 + 6, none⟩ = some (.int .i64 u.x.e)))) (by kernel_rfl) hSd (fun hHeld => ?_)
        generalize wr.drew = wd at hHeld ⊢
        have hHeld : (fun w' => Below wr.heap.size wr w' ∧ (w'.cell? ⟨g, h * 7, none⟩ = some (.int .i64 v.x.p) ∧ w'.cell? ⟨g, h * 7 + 1, none⟩ = some (.int .i64 v.x.o) ∧ w'.cell? ⟨g, h * 7 + 2, none⟩ = some (.int .i64 v.x.q) ∧ w'.cell? ⟨g, h * 7 + 3, none⟩ = some (.slice v.A v.x.r.length v.c) ∧ w'.cell? ⟨g, h * 7 + 4, none⟩ = some (.int .i64 v.x.c) ∧ w'.cell? ⟨g, h * 7 + 5, none⟩ = some (.int .i64 v.x.b) ∧ w'.cell? ⟨g, h * 7 + 6, none⟩ = some (.int .i64 v.x.e)) ∧ (w'.cell? ⟨g, a * 7, none⟩ = some (.int .i64 u.x.p) ∧ w'.cell? ⟨g, a * 7 + 1, none⟩ = some (.int .i64 u.x.o) ∧ w'.cell? ⟨g, a * 7 + 2, none⟩ = some (.int .i64 u.x.q) ∧ w'.cell? ⟨g, a * 7 + 3, none⟩ = some (.slice u.A u.x.r.length u.c) ∧ w'.cell? ⟨g, a * 7 + 4, none⟩ = some (.int .i64 u.x.c) ∧ w'.cell? ⟨g, a * 7 + 5, none⟩ = some (.int .i64 u.x.b) ∧ w'.cell? ⟨g, a * 7 + 6, none⟩ = some (.int .i64 u.x.e))) wd := hHeld
        refine wpAnyH_take (i := 0) (oi := ?_) (v := ?_) ?_ (by kernel_rfl) (by kernel_rfl) (by kernel_rfl) ?_ (Or.inl ⟨?_, ?_⟩) (by assumption) ?_
        rotate_left 2
        · (simp only [List.getElem?_toArray, List.getElem?_cons_zero]; rfl)
        · first | exact fun _ _ _ h => h | exact fun _ _ _ h => by cases h.1
        · rfl
        · ((intro wq hSq; (try dsimp only at hSq); go_simp); (try with_reducible rfl))
        try simp only [Act.put, List.setIfInBounds_toArray, List.set_cons_zero, List.set_cons_succ]
        refine wpAnyH_take (i := 1) (oi := ?_) (v := ?_) ?_ (by kernel_rfl) (by kernel_rfl) (by kernel_rfl) ?_ (Or.inl ⟨?_, ?_⟩) (by assumption) ?_
        rotate_left 2
        · (simp only [List.getElem?_toArray, List.getElem?_cons_succ, List.getElem?_cons_zero]; rfl)
        · first | exact fun _ _ _ h => h | exact fun _ _ _ h => by cases h.1
        · rfl
        · ((intro wq hSq; (try dsimp only at hSq); go_simp); (try with_reducible rfl))
        try simp only [Act.put, List.setIfInBounds_toArray, List.set_cons_zero, List.set_cons_succ]
        refine wpAnyH_take (i := 2) (oi := ?_) (v := ?_) ?_ (by kernel_rfl) (by kernel_rfl) (by kernel_rfl) ?_ (Or.inl ⟨?_, ?_⟩) (by assumption) ?_
        rotate_left 2
        · (simp only [List.getElem?_toArray, List.getElem?_cons_succ, List.getElem?_cons_zero]; rfl)
        · first | exact fun _ _ _ h => h | exact fun _ _ _ h => by cases h.1
        · rfl
        · ((intro wq hSq; (try dsimp only at hSq); go_simp); (try with_reducible rfl))
        try simp only [Act.put, List.setIfInBounds_toArray, List.set_cons_zero, List.set_cons_succ]
        refine wpAnyH_take (i := 3) (oi := ?_) (v := ?_) ?_ (by kernel_rfl) (by kernel_rfl) (by kernel_rfl) ?_ (Or.inl ⟨?_, ?_⟩) (by assumption) ?_
        rotate_left 2
        · (simp only [List.getElem?_toArray, List.getElem?_cons_succ, List.getElem?_cons_zero]; rfl)
        · first | exact fun _ _ _ h => h | exact fun _ _ _ h => by cases h.1
        · rfl
        · ((intro wq hSq; (try dsimp only at hSq); go_simp); (try with_reducible rfl))
        try simp only [Act.put, List.setIfInBounds_toArray, List.set_cons_zero, List.set_cons_succ]
        refine wpAnyH_take (i := 4) (oi := ?_) (v := ?_) ?_ (by kernel_rfl) (by kernel_rfl) (by kernel_rfl) ?_ (Or.inl ⟨?_, ?_⟩) (by assumption) ?_
        rotate_left 2
        · (simp only [List.getElem?_toArray, List.getElem?_cons_succ, List.getElem?_cons_zero]; rfl)
        · first | exact fun _ _ _ h => h | exact fun _ _ _ h => by cases h.1
        · rfl
        · ((intro wq hSq; (try dsimp only at hSq); go_simp); (try with_reducible rfl))
        try simp only [Act.put, List.setIfInBounds_toArray, List.set_cons_zero, List.set_cons_succ]
        refine wpAnyH_take (i := 5) (oi := ?_) (v := ?_) ?_ (by kernel_rfl) (by kernel_rfl) (by kernel_rfl) ?_ (Or.inl ⟨?_, ?_⟩) (by assumption) ?_
        rotate_left 2
        · (simp only [List.getElem?_toArray, List.getElem?_cons_succ, List.getElem?_cons_zero]; rfl)
        · first | exact fun _ _ _ h => h | exact fun _ _ _ h => by cases h.1
        · rfl
        · ((intro wq hSq; (try dsimp only at hSq); go_simp); (try with_reducible rfl))
        try simp only [Act.put, List.setIfInBounds_toArray, List.set_cons_zero, List.set_cons_succ]
        refine wpAnyH_take (i := 6) (oi := ?_) (v := ?_) ?_ (by kernel_rfl) (by kernel_rfl) (by kernel_rfl) ?_ (Or.inl ⟨?_, ?_⟩) (by assumption) ?_
        rotate_left 2
        · (simp only [List.getElem?_toArray, List.getElem?_cons_succ, List.getElem?_cons_zero]; rfl)
        · first | exact fun _ _ _ h => h | exact fun _ _ _ h => by cases h.1
        · rfl
        · ((intro wq hSq; (try dsimp only at hSq); go_simp); (try with_reducible rfl))
        try simp only [Act.put, List.setIfInBounds_toArray, List.set_cons_zero, List.set_cons_succ]
        refine wpAnyH_take (i := 7) (oi := ?_) (v := ?_) ?_ (by kernel_rfl) (by kernel_rfl) (by kernel_rfl) ?_ (Or.inl ⟨?_, ?_⟩) (by assumption) ?_
        rotate_left 2
        · (simp only [List.getElem?_toArray, List.getElem?_cons_succ, List.getElem?_cons_zero]; rfl)
        · first | exact fun _ _ _ h => h | exact fun _ _ _ h => by cases h.1
        · rfl
        · ((intro wq hSq; (try dsimp only at hSq); go_simp); (try with_reducible rfl))
        try simp only [Act.put, List.setIfInBounds_toArray, List.set_cons_zero, List.set_cons_succ]
        refine wpAnyH_take (i := 8) (oi := ?_) (v := ?_) ?_ (by kernel_rfl) (by kernel_rfl) (by kernel_rfl) ?_ (Or.inl ⟨?_, ?_⟩) (by assumption) ?_
        rotate_left 2
        · (simp only [List.getElem?_toArray, List.getElem?_cons_succ, List.getElem?_cons_zero]; rfl)
        · first | exact fun _ _ _ h => h | exact fun _ _ _ h => by cases h.1
        · rfl
        · ((intro wq hSq; (try dsimp only at hSq); go_simp); (try with_reducible rfl))
        try simp only [Act.put, List.setIfInBounds_toArray, List.set_cons_zero, List.set_cons_succ]
        refine wpAnyH_ready (rs := [9]) (by kernel_rfl) (by simp) ?_
        refine AllReadyH.cons (o := ?_) ?_ (fun K hK => ?_) AllReadyH.nil
        rotate_left
        · (simp only [List.getElem?_toArray, List.getElem?_cons_succ, List.getElem?_cons_zero]; rfl)
        go_simp
        go_at_call 43
        refine (HCM.out _).mono ?_
        rintro ex wx ⟨rfl, hbx⟩
        have hSx : (fun w' => Below wr.heap.size wr w' ∧ (w'.cell? ⟨g, h * 7, none⟩ = some (.int .i64 v.x.p) ∧ w'.cell? ⟨g, h * 7 + 1, none⟩ = some (.int .i64 v.x.o) ∧ w'.cell? ⟨g, h * 7 + 2, none⟩ = some (.int .i64 v.x.q) ∧ w'.cell? ⟨g, h * 7 + 3, none⟩ = some (.slice v.A v.x.r.length v.c) ∧ w'.cell? ⟨g, h * 7 + 4, none⟩ = some (.int .i64 v.x.c) ∧ w'.cell? ⟨g, h * 7 + 5, none⟩ = some (.int .i64 v.x.b) ∧ w'.cell? ⟨g, h * 7 + 6, none⟩ = some (.int .i64 v.x.e)) ∧ (w'.cell? ⟨g, a * 7, none⟩ = some (.int .i64 u.x.p) ∧ w'.cell? ⟨g, a * 7 + 1, none⟩ = some (.int .i64 u.x.o) ∧ w'.cell? ⟨g, a * 7 + 2, none⟩ = some (.int .i64 u.x.q) ∧ w'.cell? ⟨g, a * 7 + 3, none⟩ = some (.slice u.A u.x.r.length u.c) ∧ w'.cell? ⟨g, a * 7 + 4, none⟩ = some (.int .i64 u.x.c) ∧ w'.cell? ⟨g, a * 7 + 5, none⟩ = some (.int .i64 u.x.b) ∧ w'.cell? ⟨g, a * 7 + 6, none⟩ = some (.int .i64 u.x.e))) wx := by
          obtain ⟨h0, ⟨u0, u1, u2, u3, u4, u5, u6⟩, v0, v1, v2, v3, v4, v5, v6⟩ := hHeld
          have hk : ∀ {i : Nat} {u : Value}, _ → wx.cell? ⟨g, i, none⟩ = some u := fun {i u} hc => (hbx.cell (p := ⟨g, i, none⟩) (cell_lt hc)).trans hc
          exact ⟨h0.trans (hbx.mono h0.size), ⟨hk u0, hk u1, hk u2, hk u3, hk u4, hk u5, hk u6⟩, hk v0, hk v1, hk v2, hk v3, hk v4, hk v5, hk v6⟩
        refine hK.out _ _ hSx (fun hHeld => ?_)
        clear hK K
        try simp only [Act.put, List.setIfInBounds_toArray, List.set_cons_zero, List.set_cons_succ]
        refine wpAnyH_take (i := 10) (oi := ?_) (v := ?_) ?_ (by kernel_rfl) (by kernel_rfl) (by kernel_rfl) ?_ (Or.inl ⟨?_, ?_⟩) (by assumption) ?_
        rotate_left 2
        · (simp only [List.getElem?_toArray, List.getElem?_cons_succ, List.getElem?_cons_zero]; rfl)
        · first | exact fun _ _ _ h => h | exact fun _ _ _ h => by cases h.1
        · rfl
        · ((intro wq hSq; (try dsimp only at hSq); go_simp); (try with_reducible rfl))
        try simp only [Act.put, List.setIfInBounds_toArray, List.set_cons_zero, List.set_cons_succ]
        refine wpAnyH_done (by kernel_rfl) ?_ _
        have hb := hHeld.1
        have hr' := Lib.hid (HR.out.kept hb)
        have hk' := Lib.hid (HK.out.trans (KpG.of hb))
        clear hSd hHeld hSx hb HR HK
        go_wp2_with fail
        go_roundw
        case rel =>
          obtain ⟨hi, hhi, hij, hj⟩ := HH.out
          refine ⟨h + 1, j, by first | rfl | exact val_int (by omega), rfl, by omega, by omega, hj, ?_, HUP.out, hr'.out, hk'.out⟩
          rw [show h + 1 - m = h - m + 1 by omega]
          exact low_step HV.out HLV.out ((ltE_later (HT.out v (List.mem_of_getElem? HLV.out))).2 (by rw [HCQ.out]; exact of_decide_eq_true hneg))
        case measure => have := HH.out; simp [intOf]; omega
    · have hije : j = i := by omega
      subst hije
      have c1 : decide ((j : Int) < (j : Int)) = false := by simp
      have c2 : decide (j < j) = false := by simp
      have hsp : V.take (j - m) ++ V.drop (j - m) = V := List.take_append_drop _ _
      have hl1 : (V.take (j - m)).length = j - m := by have := HB.out; rw [List.length_take]; omega
      obtain ⟨V1, hV1⟩ : ∃ V1, V.take (j - m) = V1 := ⟨_, rfl⟩
      obtain ⟨V2, hV2⟩ : ∃ V2, V.drop (j - m) = V2 := ⟨_, rfl⟩
      rw [hV1, hV2] at hsp
      rw [hV1] at hlo hl1
      rw [hV2] at hup
      obtain ⟨p, hp⟩ : ∃ p, a + V1.length = p := ⟨_, rfl⟩
      have e1 : (j : Int) - 1 = (p : Int) := by have := HM.out; omega
      have jw1 : IntKind.i64.wrap (p : Int) = (p : Int) := so_wrap (by omega) (by omega)
      have HSP := Lib.hid hsp
      have HLO := Lib.hid hlo
      have HUP := Lib.hid hup
      have HP := Lib.hid hp
      have HL1 := Lib.hid (And.intro hl1 (And.intro hi hj))
      have hpN : p < N := by have := HM.out; have := HB.out; omega
      rw [← hsp] at hr
      have HR := Lib.hid hr
      have HK := Lib.hid hk
      clear hsp hlo hup hp hl1 hV1 hV2 hr hk hi hj hij hlt
      go_wp2_with fail
      go_loopw [13] (fun k wq => ∃ A B, V1 = A ++ B ∧ k = .int .i64 ((a + A.length : Nat) : Int) ∧ RowsG wq g (P ++ A ++ u :: (B ++ V2 ++ R)) ∧ KpG g w wq) (fun k _ => p - (intOf k).toNat)
      case atStart => exact ⟨[], V1, rfl, rfl, by simpa using HR.out, HK.out⟩
      case round =>
        clear HR HK
        obtain ⟨A, B, hAB, rfl, hr, hk⟩ := hrel
        obtain ⟨k, hke⟩ : ∃ k, a + A.length = k := ⟨_, rfl⟩
        rw [hke]
        have hle := congrArg List.length hAB
        rw [List.length_append] at hle
        rcases B with _ | ⟨x, B⟩
        · have hkp : k = p := by have := HP.out; simp at hle; omega
          subst hkp
          have c1 : decide ((k : Int) < (k : Int)) = false := by simp
          have c2 : decide (k < k) = false := by simp
          rw [List.append_nil] at hAB
          subst hAB
          have HR := Lib.hid hr
          have HK := Lib.hid hk
          clear hr hk hle hke
          go_wp2_with fail
          refine bodyPost_ret (results_none rfl _ _ _) rfl ?_
          refine ⟨rfl, V1 ++ u :: V2, by simpa using HR.out, ?_, ?_, HK.out⟩
          · rw [← HSP.out]; exact List.perm_middle
          · have h1 := HV.out
            rw [← HSP.out] at h1
            exact Srt.app h1.left (List.pairwise_cons.2 ⟨HUP.out, h1.right⟩) (fun y hy z hz => by
              rcases List.mem_cons.1 hz with rfl | hz
              · exact HLO.out y hy
              · exact h1.across y hy z hz)
        · have hkp : k < p := by have := HP.out; simp at hle; omega
          have c1 : decide ((k : Int) < (p : Int)) = true := by rw [decide_eq_true_iff]; omega
          have c2 : decide (k < p) = true := decide_eq_true hkp
          have hPk : (P ++ A).length = k := by have := HA.out; simp; omega
          obtain ⟨L, hL⟩ : ∃ L, P ++ A ++ u :: (x :: B ++ V2 ++ R) = L := ⟨_, rfl⟩
          have hL2 : L = (P ++ A) ++ u :: ([] ++ x :: (B ++ V2 ++ R)) := by rw [← hL]; simp
          have hg2 := get2 (P ++ A) [] (B ++ V2 ++ R) u x
          have hs2 := set2 (P ++ A) [] (B ++ V2 ++ R) u x x u
          rw [← hL2, hPk] at hg2 hs2
          have hs2 : (L.set k x).set (k + 1) u = P ++ (A ++ [x]) ++ u :: (B ++ V2 ++ R) := hs2.trans (by simp)
          obtain ⟨gu, gx⟩ := hg2
          have gx : L[k + 1]? = some x := gx
          have hlen : L.length = N := by
            have h1 := congrArg List.length HSP.out
            have h2 := HN.out
            rw [← hL]
            simp only [List.length_append, List.length_cons] at h1 h2 hle ⊢
            omega
          have hk1 : k + 1 < N := by rw [← hlen]; exact get_lt gx
          have l1 : (k : Int) < (N : Int) := by omega
          have l2 : (k : Int) + 1 < (N : Int) := by omega
          have l3 : k < N := by omega
          have l4 : (0 : Int) ≤ (k : Int) + 1 := by omega
          have l5 : (0 : Int) ≤ (k : Int) := by omega
          have jw2 : IntKind.i64.wrap (k : Int) = (k : Int) := so_wrap (by omega) (by omega)
          have jw3 : IntKind.i64.wrap ((k : Int) + 1) = (k : Int) + 1 := so_wrap (by omega) (by omega)
          rw [hL] at hr
          have HR := Lib.hid hr
          have HK := Lib.hid hk
          have HLEN := Lib.hid hlen
          have HSW := Lib.hid hs2
          have HLX := Lib.hid gx
          have HLU := Lib.hid gu
          have HAB := Lib.hid hAB
          have HKE := Lib.hid hke
          clear hr hk hL hL2 hlen hs2 gx gu hAB hke hle hPk
          go_wp2_with fail
          have hSd : (fun _ : World => True) wr.drew := trivial
          refine wp_region_held_drew (S := fun _ => True) (by kernel_rfl) hSd (fun hHeld => ?_)
          have hr2 := HR.out.kept (Below.refl _ wr).drew
          have hk2 := HK.out.trans (KpG.of (Below.refl _ wr).drew)
          generalize wr.drew = we at hHeld hr2 hk2 ⊢
          obtain ⟨x0, x1, x2, x3, x4, x5, x6⟩ := hr2.cells HLX.out
          obtain ⟨y0, y1, y2, y3, y4, y5, y6⟩ := hr2.cells HLU.out
          refine wpAnyH_take (i := 0) (oi := ?_) (v := ?_) ?_ (by kernel_rfl) (by kernel_rfl) (by kernel_rfl) ?_ (Or.inl ⟨?_, ?_⟩) (by assumption) ?_
          rotate_left 2
          · (simp only [List.getElem?_toArray, List.getElem?_cons_zero]; rfl)
          · first | exact fun _ _ _ h => h | exact fun _ _ _ h => by cases h.1
          · rfl
          · ((intro wq hSq; (try dsimp only at hSq); go_simp); (try with_reducible rfl))
          try simp only [Act.put, List.setIfInBounds_toArray, List.set_cons_zero, List.set_cons_succ]
          refine wpAnyH_take (i := 1) (oi := ?_) (v := ?_) ?_ (by kernel_rfl) (by kernel_rfl) (by kernel_rfl) ?_ (Or.inl ⟨?_, ?_⟩) (by assumption) ?_
          rotate_left 2
          · (simp only [List.getElem?_toArray, List.getElem?_cons_succ, List.getElem?_cons_zero]; rfl)
          · first | exact fun _ _ _ h => h | exact fun _ _ _ h => by cases h.1
          · rfl
          · ((intro wq hSq; (try dsimp only at hSq); go_simp); (try with_reducible rfl))
          try simp only [Act.put, List.setIfInBounds_toArray, List.set_cons_zero, List.set_cons_succ]
          refine wpAnyH_take (i := 2) (oi := ?_) (v := ?_) ?_ (by kernel_rfl) (by kernel_rfl) (by kernel_rfl) ?_ (Or.inl ⟨?_, ?_⟩) (by assumption) ?_
          rotate_left 2
          · (simp only [List.getElem?_toArray, List.getElem?_cons_succ, List.getElem?_cons_zero]; rfl)
          · first | exact fun _ _ _ h => h | exact fun _ _ _ h => by cases h.1
          · rfl
          · ((intro wq hSq; (try dsimp only at hSq); go_simp); (try with_reducible rfl))
          try simp only [Act.put, List.setIfInBounds_toArray, List.set_cons_zero, List.set_cons_succ]
          refine wpAnyH_take (i := 3) (oi := ?_) (v := ?_) ?_ (by kernel_rfl) (by kernel_rfl) (by kernel_rfl) ?_ (Or.inl ⟨?_, ?_⟩) (by assumption) ?_
          rotate_left 2
          · (simp only [List.getElem?_toArray, List.getElem?_cons_succ, List.getElem?_cons_zero]; rfl)
          · first | exact fun _ _ _ h => h | exact fun _ _ _ h => by cases h.1
          · rfl
          · ((intro wq hSq; (try dsimp only at hSq); go_simp); (try with_reducible rfl))
          try simp only [Act.put, List.setIfInBounds_toArray, List.set_cons_zero, List.set_cons_succ]
          refine wpAnyH_take (i := 4) (oi := ?_) (v := ?_) ?_ (by kernel_rfl) (by kernel_rfl) (by kernel_rfl) ?_ (Or.inl ⟨?_, ?_⟩) (by assumption) ?_
          rotate_left 2
          · (simp only [List.getElem?_toArray, List.getElem?_cons_succ, List.getElem?_cons_zero]; rfl)
          · first | exact fun _ _ _ h => h | exact fun _ _ _ h => by cases h.1
          · rfl
          · ((intro wq hSq; (try dsimp only at hSq); go_simp); (try with_reducible rfl))
          try simp only [Act.put, List.setIfInBounds_toArray, List.set_cons_zero, List.set_cons_succ]
          refine wpAnyH_take (i := 5) (oi := ?_) (v := ?_) ?_ (by kernel_rfl) (by kernel_rfl) (by kernel_rfl) ?_ (Or.inl ⟨?_, ?_⟩) (by assumption) ?_
          rotate_left 2
          · (simp only [List.getElem?_toArray, List.getElem?_cons_succ, List.getElem?_cons_zero]; rfl)
          · first | exact fun _ _ _ h => h | exact fun _ _ _ h => by cases h.1
          · rfl
          · ((intro wq hSq; (try dsimp only at hSq); go_simp); (try with_reducible rfl))
          try simp only [Act.put, List.setIfInBounds_toArray, List.set_cons_zero, List.set_cons_succ]
          refine wpAnyH_take (i := 6) (oi := ?_) (v := ?_) ?_ (by kernel_rfl) (by kernel_rfl) (by kernel_rfl) ?_ (Or.inl ⟨?_, ?_⟩) (by assumption) ?_
          rotate_left 2
          · (simp only [List.getElem?_toArray, List.getElem?_cons_succ, List.getElem?_cons_zero]; rfl)
          · first | exact fun _ _ _ h => h | exact fun _ _ _ h => by cases h.1
          · rfl
          · ((intro wq hSq; (try dsimp only at hSq); go_simp); (try with_reducible rfl))
          try simp only [Act.put, List.setIfInBounds_toArray, List.set_cons_zero, List.set_cons_succ]
          refine wpAnyH_take (i := 7) (oi := ?_) (v := ?_) ?_ (by kernel_rfl) (by kernel_rfl) (by kernel_rfl) ?_ (Or.inl ⟨?_, ?_⟩) (by assumption) ?_
          rotate_left 2
          · (simp only [List.getElem?_toArray, List.getElem?_cons_succ, List.getElem?_cons_zero]; rfl)
          · first | exact fun _ _ _ h => h | exact fun _ _ _ h => by cases h.1
          · rfl
          · ((intro wq hSq; (try dsimp only at hSq); go_simp); (try with_reducible rfl))
          try simp only [Act.put, List.setIfInBounds_toArray, List.set_cons_zero, List.set_cons_succ]
          refine wpAnyH_take (i := 8) (oi := ?_) (v := ?_) ?_ (by kernel_rfl) (by kernel_rfl) (by kernel_rfl) ?_ (Or.inl ⟨?_, ?_⟩) (by assumption) ?_
          rotate_left 2
          · (simp only [List.getElem?_toArray, List.getElem?_cons_succ, List.getElem?_cons_zero]; rfl)
          · first | exact fun _ _ _ h => h | exact fun _ _ _ h => by cases h.1
          · rfl
          · ((intro wq hSq; (try dsimp only at hSq); go_simp); (try with_reducible rfl))
          try simp only [Act.put, List.setIfInBounds_toArray, List.set_cons_zero, List.set_cons_succ]
          refine wpAnyH_take (i := 10) (oi := ?_) (v := ?_) ?_ (by kernel_rfl) (by kernel_rfl) (by kernel_rfl) ?_ (Or.inl ⟨?_, ?_⟩) (by assumption) ?_
          rotate_left 2
          · (simp only [List.getElem?_toArray, List.getElem?_cons_succ, List.getElem?_cons_zero]; rfl)
          · first | exact fun _ _ _ h => h | exact fun _ _ _ h => by cases h.1
          · rfl
          · ((intro wq hSq; (try dsimp only at hSq); go_simp); (try with_reducible rfl))
          try simp only [Act.put, List.setIfInBounds_toArray, List.set_cons_zero, List.set_cons_succ]
          refine wpAnyH_take (i := 11) (oi := ?_) (v := ?_) ?_ (by kernel_rfl) (by kernel_rfl) (by kernel_rfl) ?_ (Or.inl ⟨?_, ?_⟩) (by assumption) ?_
          rotate_left 2
          · (simp only [List.getElem?_toArray, List.getElem?_cons_succ, List.getElem?_cons_zero]; rfl)
          · first | exact fun _ _ _ h => h | exact fun _ _ _ h => by cases h.1
          · rfl
          · ((intro wq hSq; (try dsimp only at hSq); go_simp); (try with_reducible rfl))
          try simp only [Act.put, List.setIfInBounds_toArray, List.set_cons_zero, List.set_cons_succ]
          refine wpAnyH_take (i := 12) (oi := ?_) (v := ?_) ?_ (by kernel_rfl) (by kernel_rfl) (by kernel_rfl) ?_ (Or.inl ⟨?_, ?_⟩) (by assumption) ?_
          rotate_left 2
          · (simp only [List.getElem?_toArray, List.getElem?_cons_succ, List.getElem?_cons_zero]; rfl)
          · first | exact fun _ _ _ h => h | exact fun _ _ _ h => by cases h.1
          · rfl
          · ((intro wq hSq; (try dsimp only at hSq); go_simp); (try with_reducible rfl))
          try simp only [Act.put, List.setIfInBounds_toArray, List.set_cons_zero, List.set_cons_succ]
          refine wpAnyH_ready (rs := [9, 13]) (by kernel_rfl) (by simp) ?_
          refine AllReadyH.cons (o := ?_) ?_ (fun K hK => ?_) ?_
          rotate_left
          · (simp only [List.getElem?_toArray, List.getElem?_cons_succ, List.getElem?_cons_zero]; rfl)
          · go_simp
            refine hK.out _ _ trivial (fun hHeld => ?_)
            clear hK K
            try simp only [Act.put, List.setIfInBounds_toArray, List.set_cons_zero, List.set_cons_succ]
            refine wpAnyH_ready (rs := [13]) (by kernel_rfl) (by simp) ?_
            refine AllReadyH.cons (o := ?_) ?_ (fun K hK => ?_) AllReadyH.nil
            rotate_left
            · (simp only [List.getElem?_toArray, List.getElem?_cons_succ, List.getElem?_cons_zero]; rfl)
            go_simp
            refine hK.out _ _ trivial (fun hHeld => ?_)
            clear hK K
            try simp only [Act.put, List.setIfInBounds_toArray, List.set_cons_zero, List.set_cons_succ]
            refine wpAnyH_take (i := 14) (oi := ?_) (v := ?_) ?_ (by kernel_rfl) (by kernel_rfl) (by kernel_rfl) ?_ (Or.inl ⟨?_, ?_⟩) (by assumption) ?_
            rotate_left 2
            · (simp only [List.getElem?_toArray, List.getElem?_cons_succ, List.getElem?_cons_zero]; rfl)
            · first | exact fun _ _ _ h => h | exact fun _ _ _ h => by cases h.1
            · rfl
            · ((intro wq hSq; (try dsimp only at hSq); go_simp); (try with_reducible rfl))
            try simp only [Act.put, List.setIfInBounds_toArray, List.set_cons_zero, List.set_cons_succ]
            obtain ⟨ar1, hs1, hg1⟩ := hr2.store k x (by rw [HLEN.out]; exact l3)
            refine wpAnyH_ready (rs := [15]) (by kernel_rfl) (by simp) ?_
            refine AllReadyH.cons (o := ?_) ?_ (fun K hK => ?_) AllReadyH.nil
            rotate_left
            · (simp only [List.getElem?_toArray, List.getElem?_cons_succ, List.getElem?_cons_zero]; rfl)
            refine step_store_at rfl 32 (.tmp 75) (.tmp 70) rfl ⟨g, k * 7, none⟩ _ rfl rfl hs1 ?_
            refine hK.out _ _ trivial (fun hHeld => ?_)
            clear hK K
            try simp only [Act.put]
            refine wpAnyH_take (i := 16) (oi := ?_) (v := ?_) ?_ (by kernel_rfl) (by kernel_rfl) (by kernel_rfl) ?_ (Or.inl ⟨?_, ?_⟩) (by assumption) ?_
            rotate_left 2
            · (simp only [List.getElem?_toArray, List.getElem?_cons_succ, List.getElem?_cons_zero]; rfl)
            · first | exact fun _ _ _ h => h | exact fun _ _ _ h => by cases h.1
            · rfl
            · ((intro wq hSq; (try dsimp only at hSq); go_simp); (try with_reducible rfl))
            try simp only [Act.put, List.setIfInBounds_toArray, List.set_cons_zero, List.set_cons_succ]
            obtain ⟨ar2, hs2, hg2⟩ := hg1.store (k + 1) u (by rw [List.length_set, HLEN.out]; exact hk1)
            refine wpAnyH_ready (rs := [17]) (by kernel_rfl) (by simp) ?_
            refine AllReadyH.cons (o := ?_) ?_ (fun K hK => ?_) AllReadyH.nil
            rotate_left
            · (simp only [List.getElem?_toArray, List.getElem?_cons_succ, List.getElem?_cons_zero]; rfl)
            refine step_store_at rfl 32 (.tmp 76) (.tmp 74) rfl ⟨g, (k + 1) * 7, none⟩ _ rfl rfl hs2 ?_
            refine hK.out _ _ trivial (fun hHeld => ?_)
            clear hK K
            try simp only [Act.put]
            rw [HSW.out] at hg2
            have hk3 := (hk2.row ar1).row ar2
            generalize (we.setRow g ar1).setRow g ar2 = wz at hg2 hk3 ⊢
            have HG2 := Lib.hid hg2
            have HK3 := Lib.hid hk3
            clear hg2 hk3 hk2 hr2 hg1 hs1 hs2 x0 x1 x2 x3 x4 x5 x6 y0 y1 y2 y3 y4 y5 y6
            refine wpAnyH_done (by kernel_rfl) ?_ _
            go_wp2_with fail
            go_roundw
            case rel => exact ⟨A ++ [x], B, by rw [HAB.out]; simp, val_int (by have := HKE.out; simp; omega), HG2.out, HK3.out⟩
            case measure => simp [intOf]; omega
          · refine AllReadyH.cons (o := ?_) ?_ (fun K hK => ?_) AllReadyH.nil
            rotate_left
            · (simp only [List.getElem?_toArray, List.getElem?_cons_succ, List.getElem?_cons_zero]; rfl)
            go_simp
            refine hK.out _ _ trivial (fun hHeld => ?_)
            clear hK K
            try simp only [Act.put, List.setIfInBounds_toArray, List.set_cons_zero, List.set_cons_succ]
            refine wpAnyH_ready (rs := [9]) (by kernel_rfl) (by simp) ?_
            refine AllReadyH.cons (o := ?_) ?_ (fun K hK => ?_) AllReadyH.nil
            rotate_left
            · (simp only [List.getElem?_toArray, List.getElem?_cons_succ, List.getElem?_cons_zero]; rfl)
            go_simp
            refine hK.out _ _ trivial (fun hHeld => ?_)
            clear hK K
            try simp only [Act.put, List.setIfInBounds_toArray, List.set_cons_zero, List.set_cons_succ]
            refine wpAnyH_take (i := 14) (oi := ?_) (v := ?_) ?_ (by kernel_rfl) (by kernel_rfl) (by kernel_rfl) ?_ (Or.inl ⟨?_, ?_⟩) (by assumption) ?_
            rotate_left 2
            · (simp only [List.getElem?_toArray, List.getElem?_cons_succ, List.getElem?_cons_zero]; rfl)
            · first | exact fun _ _ _ h => h | exact fun _ _ _ h => by cases h.1
            · rfl
            · ((intro wq hSq; (try dsimp only at hSq); go_simp); (try with_reducible rfl))
            try simp only [Act.put, List.setIfInBounds_toArray, List.set_cons_zero, List.set_cons_succ]
            obtain ⟨ar1, hs1, hg1⟩ := hr2.store k x (by rw [HLEN.out]; exact l3)
            refine wpAnyH_ready (rs := [15]) (by kernel_rfl) (by simp) ?_
            refine AllReadyH.cons (o := ?_) ?_ (fun K hK => ?_) AllReadyH.nil
            rotate_left
            · (simp only [List.getElem?_toArray, List.getElem?_cons_succ, List.getElem?_cons_zero]; rfl)
            refine step_store_at rfl 32 (.tmp 75) (.tmp 70) rfl ⟨g, k * 7, none⟩ _ rfl rfl hs1 ?_
            refine hK.out _ _ trivial (fun hHeld => ?_)
            clear hK K
            try simp only [Act.put]
            refine wpAnyH_take (i := 16) (oi := ?_) (v := ?_) ?_ (by kernel_rfl) (by kernel_rfl) (by kernel_rfl) ?_ (Or.inl ⟨?_, ?_⟩) (by assumption) ?_
            rotate_left 2
            · (simp only [List.getElem?_toArray, List.getElem?_cons_succ, List.getElem?_cons_zero]; rfl)
            · first | exact fun _ _ _ h => h | exact fun _ _ _ h => by cases h.1
            · rfl
            · ((intro wq hSq; (try dsimp only at hSq); go_simp); (try with_reducible rfl))
            try simp only [Act.put, List.setIfInBounds_toArray, List.set_cons_zero, List.set_cons_succ]
            obtain ⟨ar2, hs2, hg2⟩ := hg1.store (k + 1) u (by rw [List.length_set, HLEN.out]; exact hk1)
            refine wpAnyH_ready (rs := [17]) (by kernel_rfl) (by simp) ?_
            refine AllReadyH.cons (o := ?_) ?_ (fun K hK => ?_) AllReadyH.nil
            rotate_left
            · (simp only [List.getElem?_toArray, List.getElem?_cons_succ, List.getElem?_cons_zero]; rfl)
            refine step_store_at rfl 32 (.tmp 76) (.tmp 74) rfl ⟨g, (k + 1) * 7, none⟩ _ rfl rfl hs2 ?_
            refine hK.out _ _ trivial (fun hHeld => ?_)
            clear hK K
            try simp only [Act.put]
            rw [HSW.out] at hg2
            have hk3 := (hk2.row ar1).row ar2
            generalize (we.setRow g ar1).setRow g ar2 = wz at hg2 hk3 ⊢
            have HG2 := Lib.hid hg2
            have HK3 := Lib.hid hk3
            clear hg2 hk3 hk2 hr2 hg1 hs1 hs2 x0 x1 x2 x3 x4 x5 x6 y0 y1 y2 y3 y4 y5 y6
            refine wpAnyH_done (by kernel_rfl) ?_ _
            go_wp2_with fail
            go_roundw
            case rel => exact ⟨A ++ [x], B, by rw [HAB.out]; simp, val_int (by have := HKE.out; simp; omega), HG2.out, HK3.out⟩
            case measure => simp [intOf]; omega

end Go.Proofs.Ytgmmblknaeepbaa

namespace Go.Proofs.Ytgmmblknaeepbaa
open Go.RowKit
attribute [local go_sem] Oper.semAt_some

set_option maxRecDepth 100000 in
set_option maxHeartbeats 8000000 in
theorem sym_right (g cap a m b N : Nat) (P V R : List El) (u : El) (w : World) (hg : RowsG w g (P ++ V ++ u :: R)) (ha : P.length = a) (hm : a + V.length = m) (hb : m + 1 = b) (hn1 : V.length ≠ 1) (hV : Srt ltE V) (ht : ∀ f ∈ V, f.t < u.t) (hN : P.length + 1 + V.length + R.length = N) (_hcap : N ≤ cap) (hbig : N ≤ 100000) :
    Calls Try.prog 71 #[.slice (some ⟨g, 0, none⟩) N cap, .int .i64 (a : Int), .int .i64 (m : Int), .int .i64 (b : Int), .func (.func 43) #[] #[]] w fun e w' => e = .returned (.tuple #[]) ∧ ∃ W, RowsG w' g (P ++ W ++ R) ∧ W.Perm (V ++ [u]) ∧ Srt ltE W ∧ KpG g w w' := by
  have HG := Lib.hid hg
  have HA := Lib.hid ha
  have HM := Lib.hid hm
  have HB := Lib.hid hb
  have HV := Lib.hid hV
  have HT := Lib.hid ht
  have HN := Lib.hid hN
  have hbN : b ≤ N := by omega
  have hmb : m < N := by omega
  have ham : a ≤ m := by omega
  obtain ⟨d, hd⟩ : ∃ d, m - a = d := ⟨_, rfl⟩
  have e1 : (m : Int) - (a : Int) = (d : Int) := by omega
  have e2 : (b : Int) - (m : Int) = 1 := by omega
  have jd : IntKind.i64.wrap (d : Int) = (d : Int) := so_wrap (by omega) (by omega)
  have d1 : ¬ d = 1 := by omega
  have d2 : ¬ (d : Int) = 1 := by omega
  have d3 : (d == 1) = false := by simpa using d1
  have d4 : ((d : Int) == 1) = false := by simpa using d2
  clear hg ha hm hb hV ht hN hn1 hd
  go_enter Try.func71, Try.ntmps71
  go_wp2_with fail
  go_loopw [14, 15, 16] (fun i j h wr => ∃ i' j' : Nat, i = .int .i64 (i' : Int) ∧ j = .int .i64 (j' : Int) ∧ a ≤ i' ∧ i' ≤ j' ∧ j' ≤ m ∧ (∀ v ∈ V.take (i' - a), ltE v u) ∧ (∀ v ∈ V.drop (j' - a), ltE u v) ∧ RowsG wr g (P ++ V ++ u :: R) ∧ KpG g w wr) (fun i j _ _ => (intOf j).toNat - (intOf i).toNat)
  case atStart =>
    have h1 := HM.out
    exact ⟨a, m, rfl, rfl, Nat.le_refl _, ham, Nat.le_refl _, (fun v hv => by rw [Nat.sub_self] at hv; cases hv), (fun v hv => by rw [List.drop_eq_nil_of_le (by omega)] at hv; cases hv), HG.out, KpG.refl _ _⟩
  case round =>
    clear e1 e2 jd d1 d2 d3 d4 HG
    obtain ⟨i, j, rfl, rfl, hi, hij, hj, hlo, hup, hr, hk⟩ := hrel
    by_cases hlt : i < j
    · have c1 : decide ((i : Int) < (j : Int)) = true := by rw [decide_eq_true_iff]; omega
      have c2 : decide (i < j) = true := decide_eq_true hlt
      obtain ⟨s, hs⟩ : ∃ s, i + j = s := ⟨_, rfl⟩
      obtain ⟨h, hh⟩ : ∃ h, s / 2 = h := ⟨_, rfl⟩
      have e1 : (i : Int) + (j : Int) = (s : Int) := by omega
      have e2 : (s : Int) / 2 = (h : Int) := by omega
      have jw1 : IntKind.i64.wrap (s : Int) = (s : Int) := so_wrap (by omega) (by omega)
      have jw2 : IntKind.u64.wrap (s : Int) = (s : Int) := so_wrapu (by omega) (by omega)
      have jw3 : IntKind.i64.wrap (h : Int) = (h : Int) := so_wrap (by omega) (by omega)
      have jw4 : IntKind.u64.wrap (h : Int) = (h : Int) := so_wrapu (by omega) (by omega)
      have hhi : i ≤ h ∧ h < j := by omega
      have HH := Lib.hid (And.intro hi (And.intro hhi (And.intro hij hj)))
      obtain ⟨v, hv⟩ := get_some (show h - a < V.length by have := HM.out; omega)
      have hlv : (P ++ V ++ u :: R)[h]? = some v := by
        have h1 := HA.out
        rw [List.append_assoc, List.getElem?_append_right (by omega), h1, List.getElem?_append_left (get_lt hv)]
        exact hv
      have hlu : (P ++ V ++ u :: R)[m]? = some u := by
        have h1 := HA.out
        have h2 := HM.out
        rw [List.getElem?_append_right (by simp; omega), show m - (P ++ V).length = 0 by simp; omega, List.getElem?_cons_zero]
      have l1 : h < N := by omega
      have l2 : (h : Int) < (N : Int) := by omega
      have l3 : (m : Int) < (N : Int) := by omega
      have l4 : (0 : Int) ≤ (h : Int) := by omega
      have hcm := fun W => scmp_any u.x v.x u.A v.A u.c v.c W
      unfold clV at hcm
      obtain ⟨q, hcq⟩ : ∃ q, cmpC u.x v.x = q := ⟨_, rfl⟩
      rw [hcq] at hcm
      have HCM := Lib.hid hcm
      have HCQ := Lib.hid hcq
      have hxd := (hr.kept (Below.refl _ wr).drew).cells hlu
      have hyd := (hr.kept (Below.refl _ wr).drew).cells hlv
      have hSd : (fun w' => Below wr.heap.size wr w' ∧ (w'.cell? ⟨g, m * 7, none⟩ = some (.int .i64 u.x.p) ∧ w'.cell? ⟨g, m * 7 + 1, none⟩ = some (.int .i64 u.x.o) ∧ w'.cell? ⟨g, m * 7 + 2, none⟩ = some (.int .i64 u.x.q) ∧ w'.cell? ⟨g, m * 7 + 3, none⟩ = some (.slice u.A u.x.r.length u.c) ∧ w'.cell? ⟨g, m * 7 + 4, none⟩ = some (.int .i64 u.x.c) ∧ w'.cell? ⟨g, m * 7 + 5, none⟩ = some (.int .i64 u.x.b) ∧ w'.cell? ⟨g, m * 7 + 6, none⟩ = some (.int .i64 u.x.e)) ∧ (w'.cell? ⟨g, h * 7, none⟩ = some (.int .i64 v.x.p) ∧ w'.cell? ⟨g, h * 7 + 1, none⟩ = some (.int .i64 v.x.o) ∧ w'.cell? ⟨g, h * 7 + 2, none⟩ = some (.int .i64 v.x.q) ∧ w'.cell? ⟨g, h * 7 + 3, none⟩ = some (.slice v.A v.x.r.length v.c) ∧ w'.cell? ⟨g, h * 7 + 4, none⟩ = some (.int .i64 v.x.c) ∧ w'.cell? ⟨g, h * 7 + 5, none⟩ = some (.int .i64 v.x.b) ∧ w'.cell? ⟨g, h * 7 + 6, none⟩ = some (.int .i64 v.x.e))) wr.drew := ⟨(Below.refl _ wr).drew, hxd, hyd⟩
      clear hcm hcq hxd hyd
      have HR := Lib.hid hr
      have HK := Lib.hid hk
      have HLO := Lib.hid hlo
      have HUP := Lib.hid hup
      have HLV := Lib.hid hv
      clear hr hk hlo hup hlv hlu hv hs hh hhi hi hij hj
      rcases hneg : decide (q < 0) with _ | _
      · go_wp2_with fail
        refine wp_region_held_drew (S := (fun w' => Below wr.heap.size wr w' ∧ (w'.cell? ⟨g, m * 7, none⟩ = some (.int .i64 u.x.p) ∧ w'.cell? ⟨g, m * 7 + 1, none⟩ = some (.int .i64 u.x.o) ∧ w'.cell? ⟨g, m * 7 + 2, none⟩ = some (.int .i64 u.x.q) ∧ w'.cell? ⟨g, m * 7 + 3, none⟩ = some (.slice u.A u.x.r.length u.c) ∧ w'.cell? ⟨g, m * 7 + 4, none⟩ = some (.int .i64 u.x.c) ∧ w'.cell? ⟨g, m * 7 + 5, none⟩ = some (.int .i64 u.x.b) ∧ w'.cell? ⟨g, m * 7 + 6, none⟩ = some (.int .i64 u.x.e)) ∧ (w'.cell? ⟨g, h * 7, none⟩ = some (.int .i64 v.x.p) ∧ w'.cell? ⟨g, h * 7 + 1, none⟩ = some (.int .i64 v.x.o) ∧ w'.cell? ⟨g, h * 7 + 2, none⟩ = some (.int .i64 v.x.q) ∧ w'.cell? ⟨g, h * 7 + 3, none⟩ = some (.slice v.A v.x.r.length v.c) ∧ w'.cell? ⟨g, h * 7 + 4, none⟩ = some (.int .i64 v.x.c) ∧ w'.cell? ⟨g, h * 7 + 5, none⟩ = some (.int .i64 v.x.b) ∧ w'.cell? ⟨g, h * 7 + 6, none⟩ = some (.int .i64 v.x.e)))) (by kernel_rfl) hSd (fun hHeld => ?_)
        generalize wr.drew = wd at hHeld ⊢
        have hHeld : (fun w' => Below wr.heap.size wr w' ∧ (w'.cell? ⟨g, m * 7, none⟩ = some (.int .i64 u.x.p) ∧ w'.cell? ⟨g, m * 7 + 1, none⟩ = some (.int .i64 u.x.o) ∧ w'.cell? ⟨g, m * 7 + 2, none⟩ = some (.int .i64 u.x.q) ∧ w'.cell? ⟨g, m * 7 + 3, none⟩ = some (.slice u.A u.x.r.length u.c) ∧ w'.cell? ⟨g, m * 7 + 4, none⟩ = some (.int .i64 u.x.c) ∧ w'.cell? ⟨g, m * 7 + 5, none⟩ = some (.int .i64 u.x.b) ∧ w'.cell? ⟨g, m * 7 + 6, none⟩ = some (.int .i64 u.x.e)) ∧ (w'.cell? ⟨g, h * 7, none⟩ = some (.int .i64 v.x.p) ∧ w'.cell? ⟨g, h * 7 + 1, none⟩ = some (.int .i64 v.x.o) ∧ w'.cell? ⟨g, h * 7 + 2, none⟩ = some (.int .i64 v.x.q) ∧ w'.cell? ⟨g, h * 7 + 3, none⟩ = some (.slice v.A v.x.r.length v.c) ∧ w'.cell? ⟨g, h * 7 + 4, none⟩ = some (.int .i64 v.x.c) ∧ w'.cell? ⟨g, h * 7 + 5, none⟩ = some (.int .i64 v.x.b) ∧ w'.cell? ⟨g, h * 7 + 6, none⟩ = some (.int .i64 v.x.e))) wd := hHeld
        refine wpAnyH_take (i := 0) (oi := ?_) (v := ?_) ?_ (by kernel_rfl) (by kernel_rfl) (by kernel_rfl) ?_ (Or.inl ⟨?_, ?_⟩) (by assumption) ?_
        rotate_left 2
        · (simp only [List.getElem?_toArray, List.getElem?_cons_zero]; rfl)
        · first | exact fun _ _ _ h => h | exact fun _ _ _ h => by cases h.1
        · rfl
        · ((intro wq hSq; (try dsimp only at hSq); go_simp); (try with_reducible rfl))
        try simp only [Act.put, List.setIfInBounds_toArray, List.set_cons_zero, List.set_cons_succ]
        refine wpAnyH_take (i := 1) (oi := ?_) (v := ?_) ?_ (by kernel_rfl) (by kernel_rfl) (by kernel_rfl) ?_ (Or.inl ⟨?_, ?_⟩) (by assumption) ?_
        rotate_left 2
        · (simp only [List.getElem?_toArray, List.getElem?_cons_succ, List.getElem?_cons_zero]; rfl)
        · first | exact fun _ _ _ h => h | exact fun _ _ _ h => by cases h.1
        · rfl
        · ((intro wq hSq; (try dsimp only at hSq); go_simp); (try with_reducible rfl))
        try simp only [Act.put, List.setIfInBounds_toArray, List.set_cons_zero, List.set_cons_succ]
        refine wpAnyH_take (i := 2) (oi := ?_) (v := ?_) ?_ (by kernel_rfl) (by kernel_rfl) (by kernel_rfl) ?_ (Or.inl ⟨?_, ?_⟩) (by assumption) ?_
        rotate_left 2
        · (simp only [List.getElem?_toArray, List.getElem?_cons_succ, List.getElem?_cons_zero]; rfl)
        · first | exact fun _ _ _ h => h | exact fun _ _ _ h => by cases h.1
        · rfl
        · ((intro wq hSq; (try dsimp only at hSq); go_simp); (try with_reducible rfl))
        try simp only [Act.put, List.setIfInBounds_toArray, List.set_cons_zero, List.set_cons_succ]
        refine wpAnyH_take (i := 3) (oi := ?_) (v := ?_) ?_ (by kernel_rfl) (by kernel_rfl) (by kernel_rfl) ?_ (Or.inl ⟨?_, ?_⟩) (by assumption) ?_
        rotate_left 2
        · (simp only [List.getElem?_toArray, List.getElem?_cons_succ, List.getElem?_cons_zero]; rfl)
        · first | exact fun _ _ _ h => h | exact fun _ _ _ h => by cases h.1
        · rfl
        · ((intro wq hSq; (try dsimp only at hSq); go_simp); (try with_reducible rfl))
        try simp only [Act.put, List.setIfInBounds_toArray, List.set_cons_zero, List.set_cons_succ]
        refine wpAnyH_take (i := 4) (oi := ?_) (v := ?_) ?_ (by kernel_rfl) (by kernel_rfl) (by kernel_rfl) ?_ (Or.inl ⟨?_, ?_⟩) (by assumption) ?_
        rotate_left 2
        · (simp only [List.getElem?_toArray, List.getElem?_cons_succ, List.getElem?_cons_zero]; rfl)
        · first | exact fun _ _ _ h => h | exact fun _ _ _ h => by cases h.1
        · rfl
        · ((intro wq hSq; (try dsimp only at hSq); go_simp); (try with_reducible rfl))
        try simp only [Act.put, List.setIfInBounds_toArray, List.set_cons_zero, List.set_cons_succ]
        refine wpAnyH_take (i := 5) (oi := ?_) (v := ?_) ?_ (by kernel_rfl) (by kernel_rfl) (by kernel_rfl) ?_ (Or.inl ⟨?_, ?_⟩) (by assumption) ?_
        rotate_left 2
        · (simp only [List.getElem?_toArray, List.getElem?_cons_succ, List.getElem?_cons_zero]; rfl)
        · first | exact fun _ _ _ h => h | exact fun _ _ _ h => by cases h.1
        · rfl
        · ((intro wq hSq; (try dsimp only at hSq); go_simp); (try with_reducible rfl))
        try simp only [Act.put, List.setIfInBounds_toArray, List.set_cons_zero, List.set_cons_succ]
        refine wpAnyH_take (i := 6) (oi := ?_) (v := ?_) ?_ (by kernel_rfl) (by kernel_rfl) (by kernel_rfl) ?_ (Or.inl ⟨?_, ?_⟩) (by assumption) ?_
        rotate_left 2
        · (simp only [List.getElem?_toArray, List.getElem?_cons_succ, List.getElem?_cons_zero]; rfl)
        · first | exact fun _ _ _ h => h | exact fun _ _ _ h => by cases h.1
        · rfl
        · ((intro wq hSq; (try dsimp only at hSq); go_simp); (try with_reducible rfl))
        try simp only [Act.put, List.setIfInBounds_toArray, List.set_cons_zero, List.set_cons_succ]
        refine wpAnyH_take (i := 7) (oi := ?_) (v := ?_) ?_ (by kernel_rfl) (by kernel_rfl) (by kernel_rfl) ?_ (Or.inl ⟨?_, ?_⟩) (by assumption) ?_
        rotate_left 2
        · (simp only [List.getElem?_toArray, List.getElem?_cons_succ, List.getElem?_cons_zero]; rfl)
        · first | exact fun _ _ _ h => h | exact fun _ _ _ h => by cases h.1
        · rfl
        · ((intro wq hSq; (try dsimp only at hSq); go_simp); (try with_reducible rfl))
        try simp only [Act.put, List.setIfInBounds_toArray, List.set_cons_zero, List.set_cons_succ]
        refine wpAnyH_take (i := 8) (oi := ?_) (v := ?_) ?_ (by kernel_rfl) (by kernel_rfl) (by kernel_rfl) ?_ (Or.inl ⟨?_, ?_⟩) (by assumption) ?_
        rotate_left 2
        · (simp only [List.getElem?_toArray, List.getElem?_cons_succ, List.getElem?_cons_zero]; rfl)
        · first | exact fun _ _ _ h => h | exact fun _ _ _ h => by cases h.1
        · rfl
        · ((intro wq hSq; (try dsimp only at hSq); go_simp); (try with_reducible rfl))
        try simp only [Act.put, List.setIfInBounds_toArray, List.set_cons_zero, List.set_cons_succ]
        refine wpAnyH_ready (rs := [9]) (by kernel_rfl) (by simp) ?_
        refine AllReadyH.cons (o := ?_) ?_ (fun K hK => ?_) AllReadyH.nil
        rotate_left
        · (simp only [List.getElem?_toArray, List.getElem?_cons_succ, List.getElem?_cons_zero]; rfl)
        go_simp
        go_at_call 43
        refine (HCM.out _).mono ?_
        rintro ex wx ⟨rfl, hbx⟩
        have hSx : (fun w' => Below wr.heap.size wr w' ∧ (w'.cell? ⟨g, m * 7, none⟩ = some (.int .i64 u.x.p) ∧ w'.cell? ⟨g, m * 7 + 1, none⟩ = some (.int .i64 u.x.o) ∧ w'.cell? ⟨g, m * 7 + 2, none⟩ = some (.int .i64 u.x.q) ∧ w'.cell? ⟨g, m * 7 + 3, none⟩ = some (.slice u.A u.x.r.length u.c) ∧ w'.cell? ⟨g, m * 7 + 4, none⟩ = some (.int .i64 u.x.c) ∧ w'.cell? ⟨g, m * 7 + 5, none⟩ = some (.int .i64 u.x.b) ∧ w'.cell? ⟨g, m * 7 + 6, none⟩ = some (.int .i64 u.x.e)) ∧ (w'.cell? ⟨g, h * 7, none⟩ = some (.int .i64 v.x.p) ∧ w'.cell? ⟨g, h * 7 + 1, none⟩ = some (.int .i64 v.x.o) ∧ w'.cell? ⟨g, h * 7 + 2, none⟩ = some (.int .i64 v.x.q) ∧ w'.cell? ⟨g, h * 7 + 3, none⟩ = some (.slice v.A v.x.r.length v.c) ∧ w'.cell? ⟨g, h * 7 + 4, none⟩ = some (.int .i64 v.x.c) ∧ w'.cell? ⟨g, h * 7 + 5, none⟩ = some (.int .i64 v.x.b) ∧ w'.cell? ⟨g, h * 7 + 6, none⟩ = some (.int .i64 v.x.e))) wx := by
          obtain ⟨h0, ⟨u0, u1, u2, u3, u4, u5, u6⟩, v0, v1, v2, v3, v4, v5, v6⟩ := hHeld
          have hk : ∀ {i : Nat} {u : Value}, _ → wx.cell? ⟨g, i, none⟩ = some u := fun {i u} hc => (hbx.cell (p := ⟨g, i, none⟩) (cell_lt hc)).trans hc
          exact ⟨h0.trans (hbx.mono h0.size), ⟨hk u0, hk u1, hk u2, hk u3, hk u4, hk u5, hk u6⟩, hk v0, hk v1, hk v2, hk v3, hk v4, hk v5, hk v6⟩
        refine hK.out _ _ hSx (fun hHeld => ?_)
        clear hK K
        try simp only [Act.put, List.setIfInBounds_toArray, List.set_cons_zero, List.set_cons_succ]
        refine wpAnyH_take (i := 10) (oi := ?_) (v := ?_) ?_ (by kernel_rfl) (by kernel_rfl) (by kernel_rfl) ?_ (Or.inl ⟨?_, ?_⟩) (by assumption) ?_
        rotate_left 2
        · (simp only [List.getElem?_toArray, List.getElem?_cons_succ, List.getElem?_cons_zero]; rfl)
        · first | exact fun _ _ _ h => h | exact fun _ _ _ h => by cases h.1
        · rfl
        · ((intro wq hSq; (try dsimp only at hSq); go_simp); (try with_reducible rfl))
        try simp only [Act.put, List.setIfInBounds_toArray, List.set_cons_zero, List.set_cons_succ]
        refine wpAnyH_take (i := 11) (oi := ?_) (v := ?_) ?_ (by kernel_rfl) (by kernel_rfl) (by kernel_rfl) ?_ (Or.inl ⟨?_, ?_⟩) (by assumption) ?_
        rotate_left 2
        · (simp only [List.getElem?_toArray, List.getElem?_cons_succ, List.getElem?_cons_zero]; rfl)
        · first | exact fun _ _ _ h => h | exact fun _ _ _ h => by cases h.1
        · rfl
        · ((intro wq hSq; (try dsimp only at hSq); go_simp); (try with_reducible rfl))
        try simp only [Act.put, List.setIfInBounds_toArray, List.set_cons_zero, List.set_cons_succ]
        refine wpAnyH_done (by kernel_rfl) ?_ _
        have hb := hHeld.1
        have hr' := Lib.hid (HR.out.kept hb)
        have hk' := Lib.hid (HK.out.trans (KpG.of hb))
        clear hSd hHeld hSx hb HR HK
        go_wp2_with fail
        go_roundw
        case rel =>
          obtain ⟨hi, hhi, hij, hj⟩ := HH.out
          refine ⟨h + 1, j, by first | rfl | exact val_int (by omega), rfl, by omega, by omega, hj, ?_, HUP.out, hr'.out, hk'.out⟩
          rw [show h + 1 - a = h - a + 1 by omega]
          exact low_step HV.out HLV.out (ltE_else (HT.out v (List.mem_of_getElem? HLV.out)) (by rw [HCQ.out]; exact of_decide_eq_false hneg))
        case measure => have := HH.out; simp [intOf]; omega
      · go_wp2_with fail
        refine wp_region_held_drew (S := (fun w' => Below wr.heap.size wr w' ∧ (w'.cell? ⟨g, m * 7, none⟩ = some (.int .i64 u.x.p) ∧ w'.cell? ⟨g, m * 7 + 1, none⟩ = some (.int .i64 u.x.o) ∧ w'.cell? ⟨g, m * 7 + 2, none⟩ = some (.int .i64 u.x.q) ∧ w'.cell? ⟨g, m * 7 + 3, none⟩ = some (.slice u.A u.x.r.length u.c) ∧ w'.cell? ⟨g, m * 7 + 4, none⟩ = some (.int .i64 u.x.c) ∧ w'.cell? ⟨g, m * 7 + 5, none⟩ = some (.int .i64 u.x.b) ∧ w'.cell? ⟨g, m * 7 + 6, none⟩ = some (.int .i64 u.x.e)) ∧ (w'.cell? ⟨g, h * 7, none⟩ = some (.int .i64 v.x.p) ∧ w'.cell? ⟨g, h * 7 + 1, none⟩ = some (.int .i64 v.x.o) ∧ w'.cell? ⟨g, h * 7 + 2, none⟩ = some (.int .i64 v.x.q) ∧ w'.cell? ⟨g, h * 7 + 3, none⟩ = some (.slice v.A v.x.r.length v.c) ∧ w'.cell? ⟨g, h * 7 + 4, none⟩ = some (.int .i64 v.x.c) ∧ w'.cell? ⟨g, h * 7 + 5, none⟩ = some (.int .i64 v.x.b) ∧ w'.cell? ⟨g, h * 7 + 6, none⟩ = some (.int .i64 v.x.e)))) (by kernel_rfl) hSd (fun hHeld => ?_)
        generalize wr.drew = wd at hHeld ⊢
        have hHeld : (fun w' => Below wr.heap.size wr w' ∧ (w'.cell? ⟨g, m * 7, none⟩ = some (.int .i64 u.x.p) ∧ w'.cell? ⟨g, m * 7 + 1, none⟩ = some (.int .i64 u.x.o) ∧ w'.cell? ⟨g, m * 7 + 2, none⟩ = some (.int .i64 u.x.q) ∧ w'.cell? ⟨g, m * 7 + 3, none⟩ = some (.slice u.A u.x.r.length u.c) ∧ w'.cell? ⟨g, m * 7 + 4, none⟩ = some (.int .i64 u.x.c) ∧ w'.cell? ⟨g, m * 7 + 5, none⟩ = some (.int .i64 u.x.b) ∧ w'.cell? ⟨g, m * 7 + 6, none⟩ = some (.int .i64 u.x.e)) ∧ (w'.cell? ⟨g, h * 7, none⟩ = some (.int .i64 v.x.p) ∧ w'.cell? ⟨g, h * 7 + 1, none⟩ = some (.int .i64 v.x.o) ∧ w'.cell? ⟨g, h * 7 + 2, none⟩ = some (.int .i64 v.x.q) ∧ w'.cell? ⟨g, h * 7 + 3, none⟩ = some (.slice v.A v.x.r.length v.c) ∧ w'.cell? ⟨g, h * 7 + 4, none⟩ = some (.int .i64 v.x.c) ∧ w'.cell? ⟨g, h * 7 + 5, none⟩ = some (.int .i64 v.x.b) ∧ w'.cell? ⟨g, h * 7 + 6, none⟩ = some (.int .i64 v.x.e))) wd := hHeld
        refine wpAnyH_take (i := 0) (oi := ?_) (v := ?_) ?_ (by kernel_rfl) (by kernel_rfl) (by kernel_rfl) ?_ (Or.inl ⟨?_, ?_⟩) (by assumption) ?_
        rotate_left 2
        · (simp only [List.getElem?_toArray, List.getElem?_cons_zero]; rfl)
        · first | exact fun _ _ _ h => h | exact fun _ _ _ h => by cases h.1
        · rfl
        · ((intro wq hSq; (try dsimp only at hSq); go_simp); (try with_reducible rfl))
        try simp only [Act.put, List.setIfInBounds_toArray, List.set_cons_zero, List.set_cons_succ]
        refine wpAnyH_take (i := 1) (oi := ?_) (v := ?_) ?_ (by kernel_rfl) (by kernel_rfl) (by kernel_rfl) ?_ (Or.inl ⟨?_, ?_⟩) (by assumption) ?_
        rotate_left 2
        · (simp only [List.getElem?_toArray, List.getElem?_cons_succ, List.getElem?_cons_zero]; rfl)
        · first | exact fun _ _ _ h => h | exact fun _ _ _ h => by cases h.1
        · rfl
        · ((intro wq hSq; (try dsimp only at hSq); go_simp); (try with_reducible rfl))
        try simp only [Act.put, List.setIfInBounds_toArray, List.set_cons_zero, List.set_cons_succ]
        refine wpAnyH_take (i := 2) (oi := ?_) (v := ?_) ?_ (by kernel_rfl) (by kernel_rfl) (by kernel_rfl) ?_ (Or.inl ⟨?_, ?_⟩) (by assumption) ?_
        rotate_left 2
        · (simp only [List.getElem?_toArray, List.getElem?_cons_succ, List.getElem?_cons_zero]; rfl)
        · first | exact fun _ _ _ h => h | exact fun _ _ _ h => by cases h.1
        · rfl
        · ((intro wq hSq; (try dsimp only at hSq); go_simp); (try with_reducible rfl))
        try simp only [Act.put, List.setIfInBounds_toArray, List.set_cons_zero, List.set_cons_succ]
        refine wpAnyH_take (i := 3) (oi := ?_) (v := ?_) ?_ (by kernel_rfl) (by kernel_rfl) (by kernel_rfl) ?_ (Or.inl ⟨?_, ?_⟩) (by assumption) ?_
        rotate_left 2
        · (simp only [List.getElem?_toArray, List.getElem?_cons_succ, List.getElem?_cons_zero]; rfl)
        · first | exact fun _ _ _ h => h | exact fun _ _ _ h => by cases h.1
        · rfl
        · ((intro wq hSq; (try dsimp only at hSq); go_simp); (try with_reducible rfl))
        try simp only [Act.put, List.setIfInBounds_toArray, List.set_cons_zero, List.set_cons_succ]
        refine wpAnyH_take (i := 4) (oi := ?_) (v := ?_) ?_ (by kernel_rfl) (by kernel_rfl) (by kernel_rfl) ?_ (Or.inl ⟨?_, ?_⟩) (by assumption) ?_
        rotate_left 2
        · (simp only [List.getElem?_toArray, List.getElem?_cons_succ, List.getElem?_cons_zero]; rfl)
        · first | exact fun _ _ _ h => h | exact fun _ _ _ h => by cases h.1
        · rfl
        · ((intro wq hSq; (try dsimp only at hSq); go_simp); (try with_reducible rfl))
        try simp only [Act.put, List.setIfInBounds_toArray, List.set_cons_zero, List.set_cons_succ]
        refine wpAnyH_take (i := 5) (oi := ?_) (v := ?_) ?_ (by kernel_rfl) (by kernel_rfl) (by kernel_rfl) ?_ (Or.inl ⟨?_, ?_⟩) (by assumption) ?_
        rotate_left 2
        · (simp only [List.getElem?_toArray, List.getElem?_cons_succ, List.getElem?_cons_zero]; rfl)
        · first | exact fun _ _ _ h => h | exact fun _ _ _ h => by cases h.1
        · rfl
        · ((intro wq hSq; (try dsimp only at hSq); go_simp); (try with_reducible rfl))
        try simp only [Act.put, List.setIfInBounds_toArray, List.set_cons_zero, List.set_cons_succ]
        refine wpAnyH_take (i := 6) (oi := ?_) (v := ?_) ?_ (by kernel_rfl) (by kernel_rfl) (by kernel_rfl) ?_ (Or.inl ⟨?_, ?_⟩) (by assumption) ?_
        rotate_left 2
        · (simp only [List.getElem?_toArray, List.getElem?_cons_succ, List.getElem?_cons_zero]; rfl)
        · first | exact fun _ _ _ h => h | exact fun _ _ _ h => by cases h.1
        · rfl
        · ((intro wq hSq; (try dsimp only at hSq); go_simp); (try with_reducible rfl))
        try simp only [Act.put, List.setIfInBounds_toArray, List.set_cons_zero, List.set_cons_succ]
        refine wpAnyH_take (i := 7) (oi := ?_) (v := ?_) ?_ (by kernel_rfl) (by kernel_rfl) (by kernel_rfl) ?_ (Or.inl ⟨?_, ?_⟩) (by assumption) ?_
        rotate_left 2
        · (simp only [List.getElem?_toArray, List.getElem?_cons_succ, List.getElem?_cons_zero]; rfl)
        · first | exact fun _ _ _ h => h | exact fun _ _ _ h => by cases h.1
        · rfl
        · ((intro wq hSq; (try dsimp only at hSq); go_simp); (try with_reducible rfl))
        try simp only [Act.put, List.setIfInBounds_toArray, List.set_cons_zero, List.set_cons_succ]
        refine wpAnyH_take (i := 8) (oi := ?_) (v := ?_) ?_ (by kernel_rfl) (by kernel_rfl) (by kernel_rfl) ?_ (Or.inl ⟨?_, ?_⟩) (by assumption) ?_
        rotate_left 2
        · (simp only [List.getElem?_toArray, List.getElem?_cons_succ, List.getElem?_cons_zero]; rfl)
        · first | exact fun _ _ _ h => h | exact fun _ _ _ h => by cases h.1
        · rfl
        · ((intro wq hSq; (try dsimp only at hSq); go_simp); (try with_reducible rfl))
        try simp only [Act.put, List.setIfInBounds_toArray, List.set_cons_zero, List.set_cons_succ]
        refine wpAnyH_ready (rs := [9]) (by kernel_rfl) (by simp) ?_
        refine AllReadyH.cons (o := ?_) ?_ (fun K hK => ?_) AllReadyH.nil
        rotate_left
        · (simp only [List.getElem?_toArray, List.getElem?_cons_succ, List.getElem?_cons_zero]; rfl)
        go_simp
        go_at_call 43
        refine (HCM.out _).mono ?_
        rintro ex wx ⟨rfl, hbx⟩
        have hSx : (fun w' => Below wr.heap.size wr w' ∧ (w'.cell? ⟨g, m * 7, none⟩ = some (.int .i64 u.x.p) ∧ w'.cell? ⟨g, m * 7 + 1, none⟩ = some (.int .i64 u.x.o) ∧ w'.cell? ⟨g, m * 7 + 2, none⟩ = some (.int .i64 u.x.q) ∧ w'.cell? ⟨g, m * 7 + 3, none⟩ = some (.slice u.A u.x.r.length u.c) ∧ w'.cell? ⟨g, m * 7 + 4, none⟩ = some (.int .i64 u.x.c) ∧ w'.cell? ⟨g, m * 7 + 5, none⟩ = some (.int .i64 u.x.b) ∧ w'.cell? ⟨g, m * 7 + 6, none⟩ = some (.int .i64 u.x.e)) ∧ (w'.cell? ⟨g, h * 7, none⟩ = some (.int .i64 v.x.p) ∧ w'.cell? ⟨g, h * 7 + 1, none⟩ = some (.int .i64 v.x.o) ∧ w'.cell? ⟨g, h * 7 + 2, none⟩ = some (.int .i64 v.x.q) ∧ w'.cell? ⟨g, h * 7 + 3, none⟩ = some (.slice v.A v.x.r.length v.c) ∧ w'.cell? ⟨g, h * 7 + 4, none⟩ = some (.int .i64 v.x.c) ∧ w'.cell? ⟨g, h * 7 + 5, none⟩ = some (.int .i64 v.x.b) ∧ w'.cell? ⟨g, h * 7 + 6, none⟩ = some (.int .i64 v.x.e))) wx := by
          obtain ⟨h0, ⟨u0, u1, u2, u3, u4, u5, u6⟩, v0, v1, v2, v3, v4, v5, v6⟩ := hHeld
          have hk : ∀ {i : Nat} {u : Value}, _ → wx.cell? ⟨g, i, none⟩ = some u := fun {i u} hc => (hbx.cell (p := ⟨g, i, none⟩) (cell_lt hc)).trans hc
          exact ⟨h0.trans (hbx.mono h0.size), ⟨hk u0, hk u1, hk u2, hk u3, hk u4, hk u5, hk u6⟩, hk v0, hk v1, hk v2, hk v3, hk v4, hk v5, hk v6⟩
        refine hK.out _ _ hSx (fun hHeld => ?_)
        clear hK K
        try simp only [Act.put, List.setIfInBounds_toArray, List.set_cons_zero, List.set_cons_succ]
        refine wpAnyH_take (i := 10) (oi := ?_) (v := ?_) ?_ (by kernel_rfl) (by kernel_rfl) (by kernel_rfl) ?_ (Or.inl ⟨?_, ?_⟩) (by assumption) ?_
        rotate_left 2
        · (simp only [List.getElem?_toArray, List.getElem?_cons_succ, List.getElem?_cons_zero]; rfl)
        · first | exact fun _ _ _ h => h | exact fun _ _ _ h => by cases h.1
        · rfl
        · ((intro wq hSq; (try dsimp only at hSq); go_simp); (try with_reducible rfl))
        try simp only [Act.put, List.setIfInBounds_toArray, List.set_cons_zero, List.set_cons_succ]
        refine wpAnyH_take (i := 11) (oi := ?_) (v := ?_) ?_ (by kernel_rfl) (by kernel_rfl) (by kernel_rfl) ?_ (Or.inl ⟨?_, ?_⟩) (by assumption) ?_
        rotate_left 2
        · (simp only [List.getElem?_toArray, List.getElem?_cons_succ, List.getElem?_cons_zero]; rfl)
        · first | exact fun _ _ _ h => h | exact fun _ _ _ h => by cases h.1
        · rfl
        · ((intro wq hSq; (try dsimp only at hSq); go_simp); (try with_reducible rfl))
        try simp only [Act.put, List.setIfInBounds_toArray, List.set_cons_zero, List.set_cons_succ]
        refine wpAnyH_done (by kernel_rfl) ?_ _
        have hb := hHeld.1
        have hr' := Lib.hid (HR.out.kept hb)
        have hk' := Lib.hid (HK.out.trans (KpG.of hb))
        clear hSd hHeld hSx hb HR HK
        go_wp2_with fail
        go_roundw
        case rel =>
          obtain ⟨hi, hhi, hij, hj⟩ := HH.out
          exact ⟨i, h, rfl, rfl, hi, hhi.1, by omega, HLO.out, up_step HV.out HLV.out ((ltE_later (HT.out v (List.mem_of_getElem? HLV.out))).2 (by rw [HCQ.out]; exact of_decide_eq_true hneg)), hr'.out, hk'.out⟩
        case measure => have := HH.out; simp [intOf]; omega
    · have hije : j = i := by omega
      subst hije
      have c1 : decide ((j : Int) < (j : Int)) = false := by simp
      have c2 : decide (j < j) = false := by simp
      have hsp : V.take (j - a) ++ V.drop (j - a) = V := List.take_append_drop _ _
      have hl1 : (V.take (j - a)).length = j - a := by have := HM.out; rw [List.length_take]; omega
      obtain ⟨V1, hV1⟩ : ∃ V1, V.take (j - a) = V1 := ⟨_, rfl⟩
      obtain ⟨V2, hV2⟩ : ∃ V2, V.drop (j - a) = V2 := ⟨_, rfl⟩
      rw [hV1, hV2] at hsp
      rw [hV1] at hlo hl1
      rw [hV2] at hup
      have HSP := Lib.hid hsp
      have HLO := Lib.hid hlo
      have HUP := Lib.hid hup
      have HL1 := Lib.hid (And.intro hl1 (And.intro hi hj))
      rw [← hsp] at hr
      have HR := Lib.hid hr
      have HK := Lib.hid hk
      clear hsp hlo hup hl1 hV1 hV2 hr hk hi hj hij hlt
      go_wp2_with fail
      go_loopw [17] (fun k wq => ∃ A B, V2 = A ++ B ∧ k = .int .i64 ((j + A.length : Nat) : Int) ∧ RowsG wq g ((P ++ V1) ++ A ++ u :: B ++ R) ∧ KpG g w wq) (fun k _ => (intOf k).toNat - j)
      case atStart => exact ⟨V2, [], by simp, val_int (by have h1 := congrArg List.length HSP.out; have h2 := HL1.out; have h3 := HM.out; rw [List.length_append] at h1; omega), by simpa using HR.out, HK.out⟩
      case round =>
        clear HR HK
        obtain ⟨A, B, hAB, rfl, hr, hk⟩ := hrel
        have hle := congrArg List.length hAB
        rw [List.length_append] at hle
        rcases List.eq_nil_or_concat A with rfl | ⟨A', y, rfl⟩
        · have c1 : decide ((j : Int) < (j : Int)) = false := by simp
          have c2 : decide (j < j) = false := by simp
          rw [List.nil_append] at hAB
          subst hAB
          rw [List.append_nil] at hr
          simp only [List.length_nil, Nat.add_zero]
          have HR := Lib.hid hr
          have HK := Lib.hid hk
          clear hr hk hle
          go_wp2_with fail
          refine bodyPost_ret (results_none rfl _ _ _) rfl ?_
          refine ⟨rfl, V1 ++ u :: V2, by simpa using HR.out, ?_, ?_, HK.out⟩
          · rw [← HSP.out]; exact List.perm_middle.trans (List.perm_append_singleton u _).symm
          · have h1 := HV.out
            rw [← HSP.out] at h1
            exact Srt.app h1.left (List.pairwise_cons.2 ⟨HUP.out, h1.right⟩) (fun y hy z hz => by
              rcases List.mem_cons.1 hz with rfl | hz
              · exact HLO.out y hy
              · exact h1.across y hy z hz)
        · simp only [List.concat_eq_append] at hAB hr ⊢
          rw [show j + (A' ++ [y]).length = j + A'.length + 1 by simp; omega]
          obtain ⟨p, hp2⟩ : ∃ p, j + A'.length = p := ⟨_, rfl⟩
          rw [hp2]
          have hPp : (P ++ V1).length + A'.length = p := by have := HA.out; have := HL1.out; simp; omega
          obtain ⟨L, hL⟩ : ∃ L, (P ++ V1) ++ (A' ++ [y]) ++ u :: B ++ R = L := ⟨_, rfl⟩
          have hsw := swap_set (S1 := A') (S2 := B) (y := y) (x := u) (P ++ V1) R
          rw [hPp, hL] at hsw
          have hlen : L.length = N := by
            have h1 := congrArg List.length HSP.out
            have h2 := HN.out
            have h3 := congrArg List.length hAB
            rw [← hL]
            simp only [List.length_append, List.length_cons, List.length_nil] at h1 h2 h3 hle ⊢
            omega
          have hL2 : L = (P ++ V1 ++ A') ++ y :: ([] ++ u :: (B ++ R)) := by rw [← hL]; simp
          have hg2 := get2 (P ++ V1 ++ A') [] (B ++ R) y u
          rw [← hL2, show (P ++ V1 ++ A').length = p by rw [← hPp]; simp; omega] at hg2
          obtain ⟨gy, gu⟩ := hg2
          have gu : L[p + 1]? = some u := gu
          have hpN : p + 1 < N := by rw [← hlen]; exact get_lt gu
          have hap : j < p + 1 := by omega
          have j1 : decide ((j : Int) < (p : Int) + 1) = true := by rw [decide_eq_true_iff]; omega
          have j2 : decide (j < p + 1) = true := decide_eq_true hap
          have j3 : (j : Int) < (p : Int) + 1 := by omega
          have j4 : (p : Int) + 1 < (N : Int) := by omega
          have j5 : (p : Int) < (N : Int) := by omega
          have j6 : p < N := by omega
          have j7 : (0 : Int) ≤ (p : Int) + 1 := by omega
          have j8 : (0 : Int) ≤ (p : Int) := by omega
          have jw : IntKind.i64.wrap (p : Int) = (p : Int) := so_wrap (by omega) (by omega)
          rw [hL] at hr
          have HR := Lib.hid hr
          have HK := Lib.hid hk
          have HLEN := Lib.hid hlen
          have HSW := Lib.hid hsw
          have HLX := Lib.hid gu
          have HLU := Lib.hid gy
          have HAB := Lib.hid hAB
          have HKE := Lib.hid hp2
          clear hr hk hL hL2 hlen hsw gu gy hAB hp2 hle hPp
          go_wp2_with fail
          have hSd : (fun _ : World => True) wr.drew := trivial
          refine wp_region_held_drew (S := fun _ => True) (by kernel_rfl) hSd (fun hHeld => ?_)
          have hr2 := HR.out.kept (Below.refl _ wr).drew
          have hk2 := HK.out.trans (KpG.of (Below.refl _ wr).drew)
          generalize wr.drew = we at hHeld hr2 hk2 ⊢
          obtain ⟨x0, x1, x2, x3, x4, x5, x6⟩ := hr2.cells HLX.out
          obtain ⟨y0, y1, y2, y3, y4, y5, y6⟩ := hr2.cells HLU.out
          refine wpAnyH_take (i := 0) (oi := ?_) (v := ?_) ?_ (by kernel_rfl) (by kernel_rfl) (by kernel_rfl) ?_ (Or.inl ⟨?_, ?_⟩) (by assumption) ?_
          rotate_left 2
          · (simp only [List.getElem?_toArray, List.getElem?_cons_zero]; rfl)
          · first | exact fun _ _ _ h => h | exact fun _ _ _ h => by cases h.1
          · rfl
          · ((intro wq hSq; (try dsimp only at hSq); go_simp); (try with_reducible rfl))
          try simp only [Act.put, List.setIfInBounds_toArray, List.set_cons_zero, List.set_cons_succ]
          refine wpAnyH_take (i := 1) (oi := ?_) (v := ?_) ?_ (by kernel_rfl) (by kernel_rfl) (by kernel_rfl) ?_ (Or.inl ⟨?_, ?_⟩) (by assumption) ?_
          rotate_left 2
          · (simp only [List.getElem?_toArray, List.getElem?_cons_succ, List.getElem?_cons_zero]; rfl)
          · first | exact fun _ _ _ h => h | exact fun _ _ _ h => by cases h.1
          · rfl
          · ((intro wq hSq; (try dsimp only at hSq); go_simp); (try with_reducible rfl))
          try simp only [Act.put, List.setIfInBounds_toArray, List.set_cons_zero, List.set_cons_succ]
          refine wpAnyH_take (i := 2) (oi := ?_) (v := ?_) ?_ (by kernel_rfl) (by kernel_rfl) (by kernel_rfl) ?_ (Or.inl ⟨?_, ?_⟩) (by assumption) ?_
          rotate_left 2
          · (simp only [List.getElem?_toArray, List.getElem?_cons_succ, List.getElem?_cons_zero]; rfl)
          · first | exact fun _ _ _ h => h | exact fun _ _ _ h => by cases h.1
          · rfl
          · ((intro wq hSq; (try dsimp only at hSq); go_simp); (try with_reducible rfl))
          try simp only [Act.put, List.setIfInBounds_toArray, List.set_cons_zero, List.set_cons_succ]
          refine wpAnyH_take (i := 3) (oi := ?_) (v := ?_) ?_ (by kernel_rfl) (by kernel_rfl) (by kernel_rfl) ?_ (Or.inl ⟨?_, ?_⟩) (by assumption) ?_
          rotate_left 2
          · (simp only [List.getElem?_toArray, List.getElem?_cons_succ, List.getElem?_cons_zero]; rfl)
          · first | exact fun _ _ _ h => h | exact fun _ _ _ h => by cases h.1
          · rfl
          · ((intro wq hSq; (try dsimp only at hSq); go_simp); (try with_reducible rfl))
          try simp only [Act.put, List.setIfInBounds_toArray, List.set_cons_zero, List.set_cons_succ]
          refine wpAnyH_take (i := 4) (oi := ?_) (v := ?_) ?_ (by kernel_rfl) (by kernel_rfl) (by kernel_rfl) ?_ (Or.inl ⟨?_, ?_⟩) (by assumption) ?_
          rotate_left 2
          · (simp only [List.getElem?_toArray, List.getElem?_cons_succ, List.getElem?_cons_zero]; rfl)
          · first | exact fun _ _ _ h => h | exact fun _ _ _ h => by cases h.1
          · rfl
          · ((intro wq hSq; (try dsimp only at hSq); go_simp); (try with_reducible rfl))
          try simp only [Act.put, List.setIfInBounds_toArray, List.set_cons_zero, List.set_cons_succ]
          refine wpAnyH_take (i := 5) (oi := ?_) (v := ?_) ?_ (by kernel_rfl) (by kernel_rfl) (by kernel_rfl) ?_ (Or.inl ⟨?_, ?_⟩) (by assumption) ?_
          rotate_left 2
          · (simp only [List.getElem?_toArray, List.getElem?_cons_succ, List.getElem?_cons_zero]; rfl)
          · first | exact fun _ _ _ h => h | exact fun _ _ _ h => by cases h.1
          · rfl
          · ((intro wq hSq; (try dsimp only at hSq); go_simp); (try with_reducible rfl))
          try simp only [Act.put, List.setIfInBounds_toArray, List.set_cons_zero, List.set_cons_succ]
          refine wpAnyH_take (i := 6) (oi := ?_) (v := ?_) ?_ (by kernel_rfl) (by kernel_rfl) (by kernel_rfl) ?_ (Or.inl ⟨?_, ?_⟩) (by assumption) ?_
          rotate_left 2
          · (simp only [List.getElem?_toArray, List.getElem?_cons_succ, List.getElem?_cons_zero]; rfl)
          · first | exact fun _ _ _ h => h | exact fun _ _ _ h => by cases h.1
          · rfl
          · ((intro wq hSq; (try dsimp only at hSq); go_simp); (try with_reducible rfl))
          try simp only [Act.put, List.setIfInBounds_toArray, List.set_cons_zero, List.set_cons_succ]
          refine wpAnyH_take (i := 7) (oi := ?_) (v := ?_) ?_ (by kernel_rfl) (by kernel_rfl) (by kernel_rfl) ?_ (Or.inl ⟨?_, ?_⟩) (by assumption) ?_
          rotate_left 2
          · (simp only [List.getElem?_toArray, List.getElem?_cons_succ, List.getElem?_cons_zero]; rfl)
          · first | exact fun _ _ _ h => h | exact fun _ _ _ h => by cases h.1
          · rfl
          · ((intro wq hSq; (try dsimp only at hSq); go_simp); (try with_reducible rfl))
          try simp only [Act.put, List.setIfInBounds_toArray, List.set_cons_zero, List.set_cons_succ]
          refine wpAnyH_take (i := 8) (oi := ?_) (v := ?_) ?_ (by kernel_rfl) (by kernel_rfl) (by kernel_rfl) ?_ (Or.inl ⟨?_, ?_⟩) (by assumption) ?_
          rotate_left 2
          · (simp only [List.getElem?_toArray, List.getElem?_cons_succ, List.getElem?_cons_zero]; rfl)
          · first | exact fun _ _ _ h => h | exact fun _ _ _ h => by cases h.1
          · rfl
          · ((intro wq hSq; (try dsimp only at hSq); go_simp); (try with_reducible rfl))
          try simp only [Act.put, List.setIfInBounds_toArray, List.set_cons_zero, List.set_cons_succ]
          refine wpAnyH_take (i := 10) (oi := ?_) (v := ?_) ?_ (by kernel_rfl) (by kernel_rfl) (by kernel_rfl) ?_ (Or.inl ⟨?_, ?_⟩) (by assumption) ?_
          rotate_left 2
          · (simp only [List.getElem?_toArray, List.getElem?_cons_succ, List.getElem?_cons_zero]; rfl)
          · first | exact fun _ _ _ h => h | exact fun _ _ _ h => by cases h.1
          · rfl
          · ((intro wq hSq; (try dsimp only at hSq); go_simp); (try with_reducible rfl))
          try simp only [Act.put, List.setIfInBounds_toArray, List.set_cons_zero, List.set_cons_succ]
          refine wpAnyH_take (i := 11) (oi := ?_) (v := ?_) ?_ (by kernel_rfl) (by kernel_rfl) (by kernel_rfl) ?_ (Or.inl ⟨?_, ?_⟩) (by assumption) ?_
          rotate_left 2
          · (simp only [List.getElem?_toArray, List.getElem?_cons_succ, List.getElem?_cons_zero]; rfl)
          · first | exact fun _ _ _ h => h | exact fun _ _ _ h => by cases h.1
          · rfl
          · ((intro wq hSq; (try dsimp only at hSq); go_simp); (try with_reducible rfl))
          try simp only [Act.put, List.setIfInBounds_toArray, List.set_cons_zero, List.set_cons_succ]
          refine wpAnyH_take (i := 12) (oi := ?_) (v := ?_) ?_ (by kernel_rfl) (by kernel_rfl) (by kernel_rfl) ?_ (Or.inl ⟨?_, ?_⟩) (by assumption) ?_
          rotate_left 2
          · (simp only [List.getElem?_toArray, List.getElem?_cons_succ, List.getElem?_cons_zero]; rfl)
          · first | exact fun _ _ _ h => h | exact fun _ _ _ h => by cases h.1
          · rfl
          · ((intro wq hSq; (try dsimp only at hSq); go_simp); (try with_reducible rfl))
          try simp only [Act.put, List.setIfInBounds_toArray, List.set_cons_zero, List.set_cons_succ]
          refine wpAnyH_ready (rs := [9, 13]) (by kernel_rfl) (by simp) ?_
          refine AllReadyH.cons (o := ?_) ?_ (fun K hK => ?_) ?_
          rotate_left
          · (simp only [List.getElem?_toArray, List.getElem?_cons_succ, List.getElem?_cons_zero]; rfl)
          · go_simp
            refine hK.out _ _ trivial (fun hHeld => ?_)
            clear hK K
            try simp only [Act.put, List.setIfInBounds_toArray, List.set_cons_zero, List.set_cons_succ]
            refine wpAnyH_ready (rs := [13]) (by kernel_rfl) (by simp) ?_
            refine AllReadyH.cons (o := ?_) ?_ (fun K hK => ?_) AllReadyH.nil
            rotate_left
            · (simp only [List.getElem?_toArray, List.getElem?_cons_succ, List.getElem?_cons_zero]; rfl)
            go_simp
            refine hK.out _ _ trivial (fun hHeld => ?_)
            clear hK K
            try simp only [Act.put, List.setIfInBounds_toArray, List.set_cons_zero, List.set_cons_succ]
            refine wpAnyH_take (i := 14) (oi := ?_) (v := ?_) ?_ (by kernel_rfl) (by kernel_rfl) (by kernel_rfl) ?_ (Or.inl ⟨?_, ?_⟩) (by assumption) ?_
            rotate_left 2
            · (simp only [List.getElem?_toArray, List.getElem?_cons_succ, List.getElem?_cons_zero]; rfl)
            · first | exact fun _ _ _ h => h | exact fun _ _ _ h => by cases h.1
            · rfl
            · ((intro wq hSq; (try dsimp only at hSq); go_simp); (try with_reducible rfl))
            try simp only [Act.put, List.setIfInBounds_toArray, List.set_cons_zero, List.set_cons_succ]
            obtain ⟨ar1, hs1, hg1⟩ := hr2.store (p + 1) y (by rw [HLEN.out]; exact hpN)
            refine wpAnyH_ready (rs := [15]) (by kernel_rfl) (by simp) ?_
            refine AllReadyH.cons (o := ?_) ?_ (fun K hK => ?_) AllReadyH.nil
            rotate_left
            · (simp only [List.getElem?_toArray, List.getElem?_cons_succ, List.getElem?_cons_zero]; rfl)
            refine step_store_at rfl 32 (.tmp 127) (.tmp 122) rfl ⟨g, (p + 1) * 7, none⟩ _ rfl rfl hs1 ?_
            refine hK.out _ _ trivial (fun hHeld => ?_)
            clear hK K
            try simp only [Act.put]
            refine wpAnyH_take (i := 16) (oi := ?_) (v := ?_) ?_ (by kernel_rfl) (by kernel_rfl) (by kernel_rfl) ?_ (Or.inl ⟨?_, ?_⟩) (by assumption) ?_
            rotate_left 2
            · (simp only [List.getElem?_toArray, List.getElem?_cons_succ, List.getElem?_cons_zero]; rfl)
            · first | exact fun _ _ _ h => h | exact fun _ _ _ h => by cases h.1
            · rfl
            · ((intro wq hSq; (try dsimp only at hSq); go_simp); (try with_reducible rfl))
            try simp only [Act.put, List.setIfInBounds_toArray, List.set_cons_zero, List.set_cons_succ]
            obtain ⟨ar2, hs2, hg2⟩ := hg1.store p u (by rw [List.length_set, HLEN.out]; exact j6)
            refine wpAnyH_ready (rs := [17]) (by kernel_rfl) (by simp) ?_
            refine AllReadyH.cons (o := ?_) ?_ (fun K hK => ?_) AllReadyH.nil
            rotate_left
            · (simp only [List.getElem?_toArray, List.getElem?_cons_succ, List.getElem?_cons_zero]; rfl)
            refine step_store_at rfl 32 (.tmp 128) (.tmp 126) rfl ⟨g, p * 7, none⟩ _ rfl rfl hs2 ?_
            refine hK.out _ _ trivial (fun hHeld => ?_)
            clear hK K
            try simp only [Act.put]
            rw [HSW.out] at hg2
            have hk3 := (hk2.row ar1).row ar2
            generalize (we.setRow g ar1).setRow g ar2 = wz at hg2 hk3 ⊢
            have HG2 := Lib.hid hg2
            have HK3 := Lib.hid hk3
            clear hg2 hk3 hk2 hr2 hg1 hs1 hs2 x0 x1 x2 x3 x4 x5 x6 y0 y1 y2 y3 y4 y5 y6
            refine wpAnyH_done (by kernel_rfl) ?_ _
            go_wp2_with fail
            go_roundw
            case rel => exact ⟨A', y :: B, by rw [HAB.out]; simp, val_int (by have := HKE.out; omega), HG2.out, HK3.out⟩
            case measure => have := HKE.out; simp [intOf]; omega
          · refine AllReadyH.cons (o := ?_) ?_ (fun K hK => ?_) AllReadyH.nil
            rotate_left
            · (simp only [List.getElem?_toArray, List.getElem?_cons_succ, List.getElem?_cons_zero]; rfl)
            go_simp
            refine hK.out _ _ trivial (fun hHeld => ?_)
            clear hK K
            try simp only [Act.put, List.setIfInBounds_toArray, List.set_cons_zero, List.set_cons_succ]
            refine wpAnyH_ready (rs := [9]) (by kernel_rfl) (by simp) ?_
            refine AllReadyH.cons (o := ?_) ?_ (fun K hK => ?_) AllReadyH.nil
            rotate_left
            · (simp only [List.getElem?_toArray, List.getElem?_cons_succ, List.getElem?_cons_zero]; rfl)
            go_simp
            refine hK.out _ _ trivial (fun hHeld => ?_)
            clear hK K
            try simp only [Act.put, List.setIfInBounds_toArray, List.set_cons_zero, List.set_cons_succ]
            refine wpAnyH_take (i := 14) (oi := ?_) (v := ?_) ?_ (by kernel_rfl) (by kernel_rfl) (by kernel_rfl) ?_ (Or.inl ⟨?_, ?_⟩) (by assumption) ?_
            rotate_left 2
            · (simp only [List.getElem?_toArray, List.getElem?_cons_succ, List.getElem?_cons_zero]; rfl)
            · first | exact fun _ _ _ h => h | exact fun _ _ _ h => by cases h.1
            · rfl
            · ((intro wq hSq; (try dsimp only at hSq); go_simp); (try with_reducible rfl))
            try simp only [Act.put, List.setIfInBounds_toArray, List.set_cons_zero, List.set_cons_succ]
            obtain ⟨ar1, hs1, hg1⟩ := hr2.store (p + 1) y (by rw [HLEN.out]; exact hpN)
            refine wpAnyH_ready (rs := [15]) (by kernel_rfl) (by simp) ?_
            refine AllReadyH.cons (o := ?_) ?_ (fun K hK => ?_) AllReadyH.nil
            rotate_left
            · (simp only [List.getElem?_toArray, List.getElem?_cons_succ, List.getElem?_cons_zero]; rfl)
            refine step_store_at rfl 32 (.tmp 127) (.tmp 122) rfl ⟨g, (p + 1) * 7, none⟩ _ rfl rfl hs1 ?_
            refine hK.out _ _ trivial (fun hHeld => ?_)
            clear hK K
            try simp only [Act.put]
            refine wpAnyH_take (i := 16) (oi := ?_) (v := ?_) ?_ (by kernel_rfl) (by kernel_rfl) (by kernel_rfl) ?_ (Or.inl ⟨?_, ?_⟩) (by assumption) ?_
            rotate_left 2
            · (simp only [List.getElem?_toArray, List.getElem?_cons_succ, List.getElem?_cons_zero]; rfl)
            · first | exact fun _ _ _ h => h | exact fun _ _ _ h => by cases h.1
            · rfl
            · ((intro wq hSq; (try dsimp only at hSq); go_simp); (try with_reducible rfl))
            try simp only [Act.put, List.setIfInBounds_toArray, List.set_cons_zero, List.set_cons_succ]
            obtain ⟨ar2, hs2, hg2⟩ := hg1.store p u (by rw [List.length_set, HLEN.out]; exact j6)
            refine wpAnyH_ready (rs := [17]) (by kernel_rfl) (by simp) ?_
            refine AllReadyH.cons (o := ?_) ?_ (fun K hK => ?_) AllReadyH.nil
            rotate_left
            · (simp only [List.getElem?_toArray, List.getElem?_cons_succ, List.getElem?_cons_zero]; rfl)
            refine step_store_at rfl 32 (.tmp 128) (.tmp 126) rfl ⟨g, p * 7, none⟩ _ rfl rfl hs2 ?_
            refine hK.out _ _ trivial (fun hHeld => ?_)
            clear hK K
            try simp only [Act.put]
            rw [HSW.out] at hg2
            have hk3 := (hk2.row ar1).row ar2
            generalize (we.setRow g ar1).setRow g ar2 = wz at hg2 hk3 ⊢
            have HG2 := Lib.hid hg2
            have HK3 := Lib.hid hk3
            clear hg2 hk3 hk2 hr2 hg1 hs1 hs2 x0 x1 x2 x3 x4 x5 x6 y0 y1 y2 y3 y4 y5 y6
            refine wpAnyH_done (by kernel_rfl) ?_ _
            go_wp2_with fail
            go_roundw
            case rel => exact ⟨A', y :: B, by rw [HAB.out]; simp, val_int (by have := HKE.out; omega), HG2.out, HK3.out⟩
            case measure => have := HKE.out; simp [intOf]; omega

end Go.Proofs.Ytgmmblknaeepbaa

namespace Go.Proofs.Ytgmmblknaeepbaa
open Go.RowKit

theorem cut_at {U V : List El} {k j : Nat} (hU : Srt ltE U) (hV : Srt ltE V) (h1 : k = 0 ∨ j = V.length ∨ ∃ x y, 0 < k ∧ U[k - 1]? = some x ∧ V[j]? = some y ∧ ltE x y) (h2 : j = 0 ∨ k = U.length ∨ ∃ x y, 0 < j ∧ V[j - 1]? = some x ∧ U[k]? = some y ∧ ltE x y) :
    ∀ x ∈ U.take k ++ V.take j, ∀ y ∈ U.drop k ++ V.drop j, ltE x y := by
  have last : ∀ {l : List El} {k : Nat} {x : El}, 0 < k → l[k - 1]? = some x → (l.take k).getLast? = some x := fun {l k x} h0 h => by
    have h2 := take_snoc h
    rw [show k - 1 + 1 = k by omega] at h2
    rw [h2]
    simp
  have head : ∀ {l : List El} {k : Nat} {x : El}, l[k]? = some x → (l.drop k).head? = some x := fun {l k x} h => by
    rw [List.head?_drop]; exact h
  refine cut_below ltE_tr (by rw [List.take_append_drop]; exact hU) (by rw [List.take_append_drop]; exact hV) ?_ ?_
  · rcases h1 with rfl | rfl | ⟨x, y, h0, hx, hy, h⟩
    · exact .inl (List.take_zero ..)
    · exact .inr (.inl (List.drop_eq_nil_of_le (Nat.le_refl _)))
    · exact .inr (.inr ⟨x, y, last h0 hx, head hy, h⟩)
  · rcases h2 with rfl | rfl | ⟨x, y, h0, hx, hy, h⟩
    · exact .inl (List.take_zero ..)
    · exact .inr (.inl (List.drop_eq_nil_of_le (Nat.le_refl _)))
    · exact .inr (.inr ⟨x, y, last h0 hx, head hy, h⟩)

/-- A cut, and what is known of its parts. -/
structure CutF (P U1 U2 V1 V2 R : List El) (a s mid m e b N : Nat) : Prop where
  la : P.length = a
  ls : a + U1.length = s
  lm : s + U2.length = m
  le : m + V1.length = e
  lb : e + V2.length = b
  lmid : s + V1.length = mid
  sU : Srt ltE (U1 ++ U2)
  sV : Srt ltE (V1 ++ V2)
  tags : ∀ x ∈ U1 ++ U2, ∀ y ∈ V1 ++ V2, x.t < y.t
  below : ∀ x ∈ U1 ++ V1, ∀ y ∈ U2 ++ V2, ltE x y
  lN : b + R.length = N
theorem CutF.done {P U1 U2 V1 V2 R W1 W2 : List El} {a s mid m e b N : Nat} (h : CutF P U1 U2 V1 V2 R a s mid m e b N) (p1 : W1.Perm (U1 ++ V1)) (p2 : W2.Perm (U2 ++ V2)) (s1 : Srt ltE W1) (s2 : Srt ltE W2) :
    (W1 ++ W2).Perm ((U1 ++ U2) ++ (V1 ++ V2)) ∧ Srt ltE (W1 ++ W2) := by
  refine ⟨(p1.append p2).trans ?_, Srt.app s1 s2 fun x hx y hy => h.below x (p1.subset hx) y (p2.subset hy)⟩
  simp only [List.append_assoc]
  refine List.Perm.append_left U1 ?_
  rw [← List.append_assoc, ← List.append_assoc]
  exact List.Perm.append_right V2 List.perm_append_comm

/-- What symMerge does, of at most so many. -/
def SymOk (sz : Nat) : Prop := ∀ (g cap a m b N : Nat) (P U V R : List El) (w : World), U.length + V.length ≤ sz → RowsG w g (P ++ U ++ V ++ R) → P.length = a → a + U.length = m → m + V.length = b → 0 < U.length → 0 < V.length → Srt ltE U → Srt ltE V → (∀ x ∈ U, ∀ y ∈ V, x.t < y.t) → b + R.length = N → N ≤ cap → N ≤ 100000 →
    Calls Try.prog 71 #[.slice (some ⟨g, 0, none⟩) N cap, .int .i64 (a : Int), .int .i64 (m : Int), .int .i64 (b : Int), .func (.func 43) #[] #[]] w fun e w' => e = .returned (.tuple #[]) ∧ ∃ W, RowsG w' g (P ++ W ++ R) ∧ W.Perm (U ++ V) ∧ Srt ltE W ∧ KpG g w w'

section
variable {g cap a s mid m e b N sz : Nat} {P U1 U2 V1 V2 R : List El} {w : World}
theorem CutF.rot (h : CutF P U1 U2 V1 V2 R a s mid m e b N) (hr : RowsG w g (P ++ U1 ++ U2 ++ V1 ++ V2 ++ R)) (h1 : 0 < U2.length) (h2 : 0 < V1.length) (hcap : N ≤ cap) (hbig : N ≤ 100000) :
    Calls Try.prog 73 #[.slice (some ⟨g, 0, none⟩) N cap, .int .i64 (s : Int), .int .i64 (m : Int), .int .i64 (e : Int), .func (.func 43) #[] #[]] w fun x w' => x = .returned (.tuple #[]) ∧ RowsG w' g (P ++ U1 ++ V1 ++ U2 ++ V2 ++ R) ∧ KpG g w w' := by
  obtain ⟨la, ls, lm, le, lb, lmid, sU, sV, tags, below, lN⟩ := h
  refine (rotate_any g cap s m e N (P ++ U1) U2 V1 (V2 ++ R) w (by simpa using hr) (by simp; omega) (by simp; omega) (by simp; omega) h1 h2 (by simp; omega) hcap hbig).mono ?_
  rintro x w1 ⟨rfl, q1, q2⟩
  exact ⟨rfl, by simpa using q1, q2⟩
theorem CutF.left (h : CutF P U1 U2 V1 V2 R a s mid m e b N) (ih : SymOk sz) (hsz : b - a ≤ sz + 1) (hr : RowsG w g (P ++ U1 ++ V1 ++ U2 ++ V2 ++ R)) (h1 : 0 < U1.length) (h2 : 0 < V1.length) (h3 : 0 < U2.length + V2.length) (hcap : N ≤ cap) (hbig : N ≤ 100000) :
    Calls Try.prog 71 #[.slice (some ⟨g, 0, none⟩) N cap, .int .i64 (a : Int), .int .i64 (s : Int), .int .i64 (mid : Int), .func (.func 43) #[] #[]] w fun x w' => x = .returned (.tuple #[]) ∧ ∃ W, RowsG w' g (P ++ W ++ (U2 ++ V2 ++ R)) ∧ W.Perm (U1 ++ V1) ∧ Srt ltE W ∧ KpG g w w' := by
  obtain ⟨la, ls, lm, le, lb, lmid, sU, sV, tags, below, lN⟩ := h
  exact ih g cap a s mid N P U1 V1 (U2 ++ V2 ++ R) w (by omega) (by simpa using hr) la ls lmid h1 h2 sU.left sV.left (fun x hx y hy => tags x (List.mem_append_left _ hx) y (List.mem_append_left _ hy)) (by simp; omega) hcap hbig
theorem CutF.right {W : List El} (h : CutF P U1 U2 V1 V2 R a s mid m e b N) (ih : SymOk sz) (hsz : b - a ≤ sz + 1) (hp : W.Perm (U1 ++ V1)) (hr : RowsG w g (P ++ W ++ (U2 ++ V2 ++ R))) (h1 : 0 < U2.length) (h2 : 0 < V2.length) (h3 : 0 < U1.length + V1.length) (hcap : N ≤ cap) (hbig : N ≤ 100000) :
    Calls Try.prog 71 #[.slice (some ⟨g, 0, none⟩) N cap, .int .i64 (mid : Int), .int .i64 (e : Int), .int .i64 (b : Int), .func (.func 43) #[] #[]] w fun x w' => x = .returned (.tuple #[]) ∧ ∃ W', RowsG w' g (P ++ (W ++ W') ++ R) ∧ W'.Perm (U2 ++ V2) ∧ Srt ltE W' ∧ KpG g w w' := by
  obtain ⟨la, ls, lm, le, lb, lmid, sU, sV, tags, below, lN⟩ := h
  have hw := hp.length_eq
  rw [List.length_append] at hw
  refine (ih g cap mid e b N (P ++ W) U2 V2 R w (by omega) (by simpa using hr) (by simp; omega) (by omega) lb h1 h2 sU.right sV.right (fun x hx y hy => tags x (List.mem_append_right _ hx) y (List.mem_append_right _ hy)) lN hcap hbig).mono ?_
  rintro x w1 ⟨rfl, W', q1, q2⟩
  exact ⟨rfl, W', by simpa using q1, q2⟩
end

end Go.Proofs.Ytgmmblknaeepbaa
