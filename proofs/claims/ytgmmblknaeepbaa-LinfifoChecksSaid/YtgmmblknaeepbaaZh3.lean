/- Texts joined: slices.symMergeCmpFunc in general, the middle left of the border. slices.symMergeCmpFunc in general, the middle not left of the border. slices.symMergeCmpFunc on calls. Lists in sorted blocks; how they grow. slices.stableCmpFunc, SortStableFunc on calls. -/
import Derived.Test.YtgmmblknaeepbaaZh2
import Derived.Test.YtgmmblknaeepbaaZh1
namespace Go.Proofs.Ytgmmblknaeepbaa
open Go.RowKit
attribute [local go_sem] Oper.semAt_some

set_option maxRecDepth 100000 in
set_option maxHeartbeats 16000000 in
theorem sym_gt (sz : Nat) (ih : SymOk sz) (g cap a m b N : Nat) (P U V R : List El) (w : World) (hsz : U.length + V.length ≤ sz + 1) (hg : RowsG w g (P ++ U ++ V ++ R)) (ha : P.length = a) (hm : a + U.length = m) (hb : m + V.length = b) (hU : 1 < U.length) (hV : 1 < V.length) (sU : Srt ltE U) (sV : Srt ltE V) (ht : ∀ x ∈ U, ∀ y ∈ V, x.t < y.t) (hN : b + R.length = N) (hcap : N ≤ cap) (hbig : N ≤ 100000) (hmid : (a + b) / 2 < m) :
    Calls Try.prog 71 #[.slice (some ⟨g, 0, none⟩) N cap, .int .i64 (a : Int), .int .i64 (m : Int), .int .i64 (b : Int), .func (.func 43) #[] #[]] w fun e w' => e = .returned (.tuple #[]) ∧ ∃ W, RowsG w' g (P ++ W ++ R) ∧ W.Perm (U ++ V) ∧ Srt ltE W ∧ KpG g w w' := by
  have IH := Lib.hid ih
  obtain ⟨ab, hab⟩ : ∃ ab, a + b = ab := ⟨_, rfl⟩
  obtain ⟨mid, hmd⟩ : ∃ mid, ab / 2 = mid := ⟨_, rfl⟩
  obtain ⟨n, hn⟩ : ∃ n, mid + m = n := ⟨_, rfl⟩
  obtain ⟨p, hp⟩ : ∃ p, n - 1 = p := ⟨_, rfl⟩
  obtain ⟨s0, hs0⟩ : ∃ s0, n - b = s0 := ⟨_, rfl⟩
  obtain ⟨r0, hr0⟩ : ∃ r0, mid = r0 := ⟨_, rfl⟩
  rw [hab, hmd] at hmid
  obtain ⟨d, hd⟩ : ∃ d, m - a = d := ⟨_, rfl⟩
  obtain ⟨f, hf⟩ : ∃ f, b - m = f := ⟨_, rfl⟩
  have e1 : (m : Int) - (a : Int) = (d : Int) := by omega
  have e2 : (b : Int) - (m : Int) = (f : Int) := by omega
  have jd : IntKind.i64.wrap (d : Int) = (d : Int) := so_wrap (by omega) (by omega)
  have jf : IntKind.i64.wrap (f : Int) = (f : Int) := so_wrap (by omega) (by omega)
  have d1 : ¬ d = 1 := by omega
  have d2 : ¬ (d : Int) = 1 := by omega
  have d3 : (d == 1) = false := by simpa using d1
  have d4 : ((d : Int) == 1) = false := by simpa using d2
  have f1 : ¬ f = 1 := by omega
  have f2 : ¬ (f : Int) = 1 := by omega
  have f3 : (f == 1) = false := by simpa using f1
  have f4 : ((f : Int) == 1) = false := by simpa using f2
  have e3 : (a : Int) + (b : Int) = (ab : Int) := by omega
  have e4 : (ab : Int) / 2 = (mid : Int) := by omega
  have e5 : (mid : Int) + (m : Int) = (n : Int) := by omega
  have e7 : (n : Int) - 1 = (p : Int) := by omega
  have e6 : (n : Int) - (b : Int) = (s0 : Int) := by omega
  have j1 : IntKind.i64.wrap (ab : Int) = (ab : Int) := so_wrap (by omega) (by omega)
  have j2 : IntKind.u64.wrap (ab : Int) = (ab : Int) := so_wrapu (by omega) (by omega)
  have j3 : IntKind.i64.wrap (mid : Int) = (mid : Int) := so_wrap (by omega) (by omega)
  have j4 : IntKind.u64.wrap (mid : Int) = (mid : Int) := so_wrapu (by omega) (by omega)
  have j5 : IntKind.i64.wrap (n : Int) = (n : Int) := so_wrap (by omega) (by omega)
  have j6 : IntKind.i64.wrap (s0 : Int) = (s0 : Int) := so_wrap (by omega) (by omega)
  have j7 : IntKind.i64.wrap (p : Int) = (p : Int) := so_wrap (by omega) (by omega)
  have c1 : decide ((mid : Int) < (m : Int)) = true := by rw [decide_eq_true_iff]; omega
  have c2 : decide (mid < m) = true := by rw [decide_eq_true_iff]; omega
  have hs0r : s0 ≤ r0 := by omega
  have hrng : ∀ c, s0 ≤ c → c < r0 → a ≤ c ∧ c < m ∧ m + c ≤ p ∧ p < b + c := fun c h1 h2 => by omega
  have hend : ∀ s, s0 ≤ s → s ≤ r0 → a ≤ s ∧ s ≤ m ∧ s ≤ mid ∧ m + s ≤ n ∧ n ≤ b + s ∧ n = p + 1 ∧ n = mid + m := fun s h1 h2 => by omega
  have hlo0 : ∀ s, s = s0 → n = b + s := fun s h => by omega
  have hhi0 : ∀ s, s = r0 → n = m + s := fun s h => by omega
  have hmids : a < mid ∧ mid < b := by omega
  have HRNG := Lib.hid (And.intro hrng (And.intro hend (And.intro hlo0 (And.intro hhi0 hmids))))
  have HLEN := Lib.hid (And.intro ha (And.intro hm (And.intro hb (And.intro hN hsz))))
  have HS := Lib.hid (And.intro sU (And.intro sV ht))
  have HG := Lib.hid hg
  have HS0 := Lib.hid hs0
  have HR0 := Lib.hid hr0
  have hbN : b ≤ N := by omega
  have hmN : m ≤ N := by omega
  clear ih hsz hg ha hm hb hU hV sU sV ht hN hmid hab hmd hn hp hs0 hr0 hd hf hrng hend hlo0 hhi0 hmids
  go_enter Try.func71, Try.ntmps71
  go_wp2_with fail
  go_loopw [20, 21, 23] (fun s r c wr => ∃ s' r' : Nat, s = .int .i64 (s' : Int) ∧ r = .int .i64 (r' : Int) ∧ s0 ≤ s' ∧ s' ≤ r' ∧ r' ≤ r0 ∧ (s' = s0 ∨ ∃ x y, a < s' ∧ U[s' - 1 - a]? = some x ∧ V[p - (s' - 1) - m]? = some y ∧ ltE x y) ∧ (r' = r0 ∨ ∃ x y, r' < p ∧ U[r' - a]? = some x ∧ V[p - r' - m]? = some y ∧ ltE y x) ∧ RowsG wr g (P ++ U ++ V ++ R) ∧ KpG g w wr) (fun s r _ _ => (intOf r).toNat - (intOf s).toNat)
  case atStart => exact ⟨s0, r0, by first | rfl | (rw [e6]) | (rw [HS0.out]), by first | rfl | (rw [HR0.out]), Nat.le_refl _, hs0r, Nat.le_refl _, .inl rfl, .inl rfl, HG.out, KpG.refl _ _⟩
  case round =>
    clear e1 e2 d1 d2 d3 d4 f1 f2 f3 f4 e3 e4  HG jd jf c1 c2 j1 j2 j3 j4 j6
    obtain ⟨s, r, rfl, rfl, hs, hsr, hr, hlo, hhi, hrow, hk⟩ := hrel
    by_cases hlt : s < r
    · have c1 : decide ((s : Int) < (r : Int)) = true := by rw [decide_eq_true_iff]; omega
      have c2 : decide (s < r) = true := decide_eq_true hlt
      obtain ⟨sr, hsr2⟩ : ∃ sr, s + r = sr := ⟨_, rfl⟩
      obtain ⟨c, hc⟩ : ∃ c, sr / 2 = c := ⟨_, rfl⟩
      have hcc : s ≤ c ∧ c < r := by omega
      obtain ⟨q1, q2, q3, q4⟩ := HRNG.out.1 c (by omega) (by omega)
      have hr0b : r ≤ N := by
        have := (HRNG.out.2.1 r0 hs0r (Nat.le_refl _)).2.1
        omega
      obtain ⟨pc, hpc⟩ : ∃ pc, p - c = pc := ⟨_, rfl⟩
      have e1 : (s : Int) + (r : Int) = (sr : Int) := by omega
      have e2 : (sr : Int) / 2 = (c : Int) := by omega
      have e3 : (p : Int) - (c : Int) = (pc : Int) := by omega
      have jw1 : IntKind.i64.wrap (sr : Int) = (sr : Int) := so_wrap (by omega) (by omega)
      have jw2 : IntKind.u64.wrap (sr : Int) = (sr : Int) := so_wrapu (by omega) (by omega)
      have jw3 : IntKind.i64.wrap (c : Int) = (c : Int) := so_wrap (by omega) (by omega)
      have jw4 : IntKind.u64.wrap (c : Int) = (c : Int) := so_wrapu (by omega) (by omega)
      have jw5 : IntKind.i64.wrap (pc : Int) = (pc : Int) := so_wrap (by omega) (by omega)
      obtain ⟨x, hx⟩ := get_some (show c - a < U.length by have := HLEN.out; omega)
      obtain ⟨y, hy⟩ := get_some (show pc - m < V.length by have := HLEN.out; omega)
      have hlx : (P ++ U ++ V ++ R)[c]? = some x := by
        obtain ⟨h1, h2, h3, _⟩ := HLEN.out
        rw [List.append_assoc, List.append_assoc, List.getElem?_append_right (by omega), h1, List.getElem?_append_left (get_lt hx)]
        exact hx
      have hly : (P ++ U ++ V ++ R)[pc]? = some y := by
        obtain ⟨h1, h2, h3, _⟩ := HLEN.out
        have h4 : (P ++ U).length = m := by simp; omega
        rw [List.append_assoc, List.getElem?_append_right (by omega), h4, List.getElem?_append_left (get_lt hy)]
        exact hy
      have l1 : c < N := by omega
      have l2 : (c : Int) < (N : Int) := by omega
      have l3 : pc < N := by omega
      have l4 : (pc : Int) < (N : Int) := by omega
      have l5 : (0 : Int) ≤ (c : Int) := by omega
      have l6 : (0 : Int) ≤ (pc : Int) := by omega
      have hcm := fun W => scmp_any y.x x.x y.A x.A y.c x.c W
      unfold clV at hcm
      obtain ⟨q, hcq⟩ : ∃ q, cmpC y.x x.x = q := ⟨_, rfl⟩
      rw [hcq] at hcm
      have HCM := Lib.hid hcm
      have HCQ := Lib.hid hcq
      have hxd := (hrow.kept (Below.refl _ wr).drew).cells hly
      have hyd := (hrow.kept (Below.refl _ wr).drew).cells hlx
      have hSd : (fun w' => Below wr.heap.size wr w' ∧ (w'.cell? ⟨g, pc * 7, none⟩ = some (.int .i64 y.x.p) ∧ w'.cell? ⟨g, pc * 7 + 1, none⟩ = some (.int .i64 y.x.o) ∧ w'.cell? ⟨g, pc * 7 + 2, none⟩ = some (.int .i64 y.x.q) ∧ w'.cell? ⟨g, pc * 7 + 3, none⟩ = some (.slice y.A y.x.r.length y.c) ∧ w'.cell? ⟨g, pc * 7 + 4, none⟩ = some (.int .i64 y.x.c) ∧ w'.cell? ⟨g, pc * 7 + 5, none⟩ = some (.int .i64 y.x.b) ∧ w'.cell? ⟨g, pc * 7 + 6, none⟩ = some (.int .i64 y.x.e)) ∧ (w'.cell? ⟨g, c * 7, none⟩ = some (.int .i64 x.x.p) ∧ w'.cell? ⟨g, c * 7 + 1, none⟩ = some (.int .i64 x.x.o) ∧ w'.cell? ⟨g, c * 7 + 2, none⟩ = some (.int .i64 x.x.q) ∧ w'.cell? ⟨g, c * 7 + 3, none⟩ = some (.slice x.A x.x.r.length x.c) ∧ w'.cell? ⟨g, c * 7 + 4, none⟩ = some (.int .i64 x.x.c) ∧ w'.cell? ⟨g, c * 7 + 5, none⟩ = some (.int .i64 x.x.b) ∧ w'.cell? ⟨g, c * 7 + 6, none⟩ = some (.int .i64 x.x.e))) wr.drew := ⟨(Below.refl _ wr).drew, hxd, hyd⟩
      clear hcm hcq hxd hyd
      have HR := Lib.hid hrow
      have HK := Lib.hid hk
      have HLO := Lib.hid hlo
      have HHI := Lib.hid hhi
      have HX := Lib.hid hx
      have HY := Lib.hid hy
      have HH := Lib.hid (And.intro hs (And.intro hcc (And.intro hsr (And.intro hr (And.intro hpc (And.intro q1 (And.intro q2 (And.intro q3 q4))))))))
      clear hrow hk hlo hhi hx hy hlx hly hs hcc hsr hr hpc q1 q2 q3 q4 hsr2 hc hr0b hlt hs0r
      rcases hneg : decide (q < 0) with _ | _
      · go_wp2_with fail
        refine wp_region_held_drew (S := (fun w' => Below wr.heap.size wr w' ∧ (w'.cell? ⟨g, pc * 7, none⟩ = some (.int .i64 y.x.p) ∧ w'.cell? ⟨g, pc * 7 + 1, none⟩ = some (.int .i64 y.x.o) ∧ w'.cell? ⟨g, pc * 7 + 2, none⟩ = some (.int .i64 y.x.q) ∧ w'.cell? ⟨g, pc * 7 + 3, none⟩ = some (.slice y.A y.x.r.length y.c) ∧ w'.cell? ⟨g, pc * 7 + 4, none⟩ = some (.int .i64 y.x.c) ∧ w'.cell? ⟨g, pc * 7 + 5, none⟩ = some (.int .i64 y.x.b) ∧ w'.cell? ⟨g, pc * 7 + 6, none⟩ = some (.int .i64 y.x.e)) ∧ (w'.cell? ⟨g, c * 7, none⟩ = some (.int .i64 x.x.p) ∧ w'.cell? ⟨g, c * 7 + 1, none⟩ = some (.int .i64 x.x.o) ∧ w'.cell? ⟨g, c * 7 + 2, none⟩ = some (.int .i64 x.x.q) ∧ w'.cell? ⟨g, c * 7 + 3, none⟩ = some (.slice x.A x.x.r.length x.c) ∧ w'.cell? ⟨g, c * 7 + 4, none⟩ = some (.int .i64 x.x.c) ∧ w'.cell? ⟨g, c * 7 + 5, none⟩ = some (.int .i64 x.x.b) ∧ w'.cell? ⟨g, c * 7 + 6, none⟩ = some (.int .i64 x.x.e)))) (by kernel_rfl) hSd (fun hHeld => ?_)
        generalize wr.drew = wd at hHeld ⊢
        have hHeld : (fun w' => Below wr.heap.size wr w' ∧ (w'.cell? ⟨g, pc * 7, none⟩ = some (.int .i64 y.x.p) ∧ w'.cell? ⟨g, pc * 7 + 1, none⟩ = some (.int .i64 y.x.o) ∧ w'.cell? ⟨g, pc * 7 + 2, none⟩ = some (.int .i64 y.x.q) ∧ w'.cell? ⟨g, pc * 7 + 3, none⟩ = some (.slice y.A y.x.r.length y.c) ∧ w'.cell? ⟨g, pc * 7 + 4, none⟩ = some (.int .i64 y.x.c) ∧ w'.cell? ⟨g, pc * 7 + 5, none⟩ = some (.int .i64 y.x.b) ∧ w'.cell? ⟨g, pc * 7 + 6, none⟩ = some (.int .i64 y.x.e)) ∧ (w'.cell? ⟨g, c * 7, none⟩ = some (.int .i64 x.x.p) ∧ w'.cell? ⟨g, c * 7 + 1, none⟩ = some (.int .i64 x.x.o) ∧ w'.cell? ⟨g, c * 7 + 2, none⟩ = some (.int .i64 x.x.q) ∧ w'.cell? ⟨g, c * 7 + 3, none⟩ = some (.slice x.A x.x.r.length x.c) ∧ w'.cell? ⟨g, c * 7 + 4, none⟩ = some (.int .i64 x.x.c) ∧ w'.cell? ⟨g, c * 7 + 5, none⟩ = some (.int .i64 x.x.b) ∧ w'.cell? ⟨g, c * 7 + 6, none⟩ = some (.int .i64 x.x.e))) wd := hHeld
        refine wpAnyH_take (i := 0) (oi := ?_) (v := ?_) ?_ (by kernel_rfl) (by kernel_rfl) (by kernel_rfl) ?_ (Or.inl ⟨?_, ?_⟩) (by assumption) ?_
        rotate_left 2
        · (simp only [List.getElem?_toArray, List.getElem?_cons_zero]; rfl)
        · first | exact fun _ _ _ h => h | exact fun _ _ _ h => by cases h.1
        · rfl
        · ((intro wq hSq; (try dsimp only at hSq); go_simp); (try with_reducible rfl))
        try simp only [Act.put, List.setIfInBounds_toArray, List.set_cons_zero, List.set_cons_succ]
        refine wpAnyH_take (i := 1) (oi := ?_) (v := ?_) ?_ (by kernel_rfl) (by kernel_rfl) (by kernel_rfl) ?_ (Or.inl ⟨?_, ?_⟩) (by assumption) ?_
        rotate_left 2
        · (simp only [List.getElem?_toArray, List.getElem?_cons_succ, List.getElem?_cons_zero]; rfl)
        · first | exact fun _ _ _ h => h | exact fun _ _ _ h => by cases h.1
        · rfl
        · ((intro wq hSq; (try dsimp only at hSq); go_simp); (try with_reducible rfl))
        try simp only [Act.put, List.setIfInBounds_toArray, List.set_cons_zero, List.set_cons_succ]
        refine wpAnyH_take (i := 2) (oi := ?_) (v := ?_) ?_ (by kernel_rfl) (by kernel_rfl) (by kernel_rfl) ?_ (Or.inl ⟨?_, ?_⟩) (by assumption) ?_
        rotate_left 2
        · (simp only [List.getElem?_toArray, List.getElem?_cons_succ, List.getElem?_cons_zero]; rfl)
        · first | exact fun _ _ _ h => h | exact fun _ _ _ h => by cases h.1
        · rfl
        · ((intro wq hSq; (try dsimp only at hSq); go_simp); (try with_reducible rfl))
        try simp only [Act.put, List.setIfInBounds_toArray, List.set_cons_zero, List.set_cons_succ]
        refine wpAnyH_take (i := 3) (oi := ?_) (v := ?_) ?_ (by kernel_rfl) (by kernel_rfl) (by kernel_rfl) ?_ (Or.inl ⟨?_, ?_⟩) (by assumption) ?_
        rotate_left 2
        · (simp only [List.getElem?_toArray, List.getElem?_cons_succ, List.getElem?_cons_zero]; rfl)
        · first | exact fun _ _ _ h => h | exact fun _ _ _ h => by cases h.1
        · rfl
        · ((intro wq hSq; (try dsimp only at hSq); go_simp); (try with_reducible rfl))
        try simp only [Act.put, List.setIfInBounds_toArray, List.set_cons_zero, List.set_cons_succ]
        refine wpAnyH_take (i := 4) (oi := ?_) (v := ?_) ?_ (by kernel_rfl) (by kernel_rfl) (by kernel_rfl) ?_ (Or.inl ⟨?_, ?_⟩) (by assumption) ?_
        rotate_left 2
        · (simp only [List.getElem?_toArray, List.getElem?_cons_succ, List.getElem?_cons_zero]; rfl)
        · first | exact fun _ _ _ h => h | exact fun _ _ _ h => by cases h.1
        · rfl
        · ((intro wq hSq; (try dsimp only at hSq); go_simp); (try with_reducible rfl))
        try simp only [Act.put, List.setIfInBounds_toArray, List.set_cons_zero, List.set_cons_succ]
        refine wpAnyH_take (i := 5) (oi := ?_) (v := ?_) ?_ (by kernel_rfl) (by kernel_rfl) (by kernel_rfl) ?_ (Or.inl ⟨?_, ?_⟩) (by assumption) ?_
        rotate_left 2
        · (simp only [List.getElem?_toArray, List.getElem?_cons_succ, List.getElem?_cons_zero]; rfl)
        · first | exact fun _ _ _ h => h | exact fun _ _ _ h => by cases h.1
        · rfl
        · ((intro wq hSq; (try dsimp only at hSq); go_simp); (try with_reducible rfl))
        try simp only [Act.put, List.setIfInBounds_toArray, List.set_cons_zero, List.set_cons_succ]
        refine wpAnyH_take (i := 6) (oi := ?_) (v := ?_) ?_ (by kernel_rfl) (by kernel_rfl) (by kernel_rfl) ?_ (Or.inl ⟨?_, ?_⟩) (by assumption) ?_
        rotate_left 2
        · (simp only [List.getElem?_toArray, List.getElem?_cons_succ, List.getElem?_cons_zero]; rfl)
        · first | exact fun _ _ _ h => h | exact fun _ _ _ h => by cases h.1
        · rfl
        · ((intro wq hSq; (try dsimp only at hSq); go_simp); (try with_reducible rfl))
        try simp only [Act.put, List.setIfInBounds_toArray, List.set_cons_zero, List.set_cons_succ]
        refine wpAnyH_take (i := 7) (oi := ?_) (v := ?_) ?_ (by kernel_rfl) (by kernel_rfl) (by kernel_rfl) ?_ (Or.inl ⟨?_, ?_⟩) (by assumption) ?_
        rotate_left 2
        · (simp only [List.getElem?_toArray, List.getElem?_cons_succ, List.getElem?_cons_zero]; rfl)
        · first | exact fun _ _ _ h => h | exact fun _ _ _ h => by cases h.1
        · rfl
        · ((intro wq hSq; (try dsimp only at hSq); go_simp); (try with_reducible rfl))
        try simp only [Act.put, List.setIfInBounds_toArray, List.set_cons_zero, List.set_cons_succ]
        refine wpAnyH_take (i := 8) (oi := ?_) (v := ?_) ?_ (by kernel_rfl) (by kernel_rfl) (by kernel_rfl) ?_ (Or.inl ⟨?_, ?_⟩) (by assumption) ?_
        rotate_left 2
        · (simp only [List.getElem?_toArray, List.getElem?_cons_succ, List.getElem?_cons_zero]; rfl)
        · first | exact fun _ _ _ h => h | exact fun _ _ _ h => by cases h.1
        · rfl
        · ((intro wq hSq; (try dsimp only at hSq); go_simp); (try with_reducible rfl))
        try simp only [Act.put, List.setIfInBounds_toArray, List.set_cons_zero, List.set_cons_succ]
        refine wpAnyH_take (i := 9) (oi := ?_) (v := ?_) ?_ (by kernel_rfl) (by kernel_rfl) (by kernel_rfl) ?_ (Or.inl ⟨?_, ?_⟩) (by assumption) ?_
        rotate_left 2
        · (simp only [List.getElem?_toArray, List.getElem?_cons_succ, List.getElem?_cons_zero]; rfl)
        · first | exact fun _ _ _ h => h | exact fun _ _ _ h => by cases h.1
        · rfl
        · ((intro wq hSq; (try dsimp only at hSq); go_simp); (try with_reducible rfl))
        try simp only [Act.put, List.setIfInBounds_toArray, List.set_cons_zero, List.set_cons_succ]
        refine wpAnyH_take (i := 10) (oi := ?_) (v := ?_) ?_ (by kernel_rfl) (by kernel_rfl) (by kernel_rfl) ?_ (Or.inl ⟨?_, ?_⟩) (by assumption) ?_
        rotate_left 2
        · (simp only [List.getElem?_toArray, List.getElem?_cons_succ, List.getElem?_cons_zero]; rfl)
        · first | exact fun _ _ _ h => h | exact fun _ _ _ h => by cases h.1
        · rfl
        · ((intro wq hSq; (try dsimp only at hSq); go_simp); (try with_reducible rfl))
        try simp only [Act.put, List.setIfInBounds_toArray, List.set_cons_zero, List.set_cons_succ]
        refine wpAnyH_ready (rs := [11]) (by kernel_rfl) (by simp) ?_
        refine AllReadyH.cons (o := ?_) ?_ (fun K hK => ?_) AllReadyH.nil
        rotate_left
        · (simp only [List.getElem?_toArray, List.getElem?_cons_succ, List.getElem?_cons_zero]; rfl)
        go_simp
        go_at_call 43
        refine (HCM.out _).mono ?_
        rintro ex wx ⟨rfl, hbx⟩
        have hSx : (fun w' => Below wr.heap.size wr w' ∧ (w'.cell? ⟨g, pc * 7, none⟩ = some (.int .i64 y.x.p) ∧ w'.cell? ⟨g, pc * 7 + 1, none⟩ = some (.int .i64 y.x.o) ∧ w'.cell? ⟨g, pc * 7 + 2, none⟩ = some (.int .i64 y.x.q) ∧ w'.cell? ⟨g, pc * 7 + 3, none⟩ = some (.slice y.A y.x.r.length y.c) ∧ w'.cell? ⟨g, pc * 7 + 4, none⟩ = some (.int .i64 y.x.c) ∧ w'.cell? ⟨g, pc * 7 + 5, none⟩ = some (.int .i64 y.x.b) ∧ w'.cell? ⟨g, pc * 7 + 6, none⟩ = some (.int .i64 y.x.e)) ∧ (w'.cell? ⟨g, c * 7, none⟩ = some (.int .i64 x.x.p) ∧ w'.cell? ⟨g, c * 7 + 1, none⟩ = some (.int .i64 x.x.o) ∧ w'.cell? ⟨g, c * 7 + 2, none⟩ = some (.int .i64 x.x.q) ∧ w'.cell? ⟨g, c * 7 + 3, none⟩ = some (.slice x.A x.x.r.length x.c) ∧ w'.cell? ⟨g, c * 7 + 4, none⟩ = some (.int .i64 x.x.c) ∧ w'.cell? ⟨g, c * 7 + 5, none⟩ = some (.int .i64 x.x.b) ∧ w'.cell? ⟨g, c * 7 + 6, none⟩ = some (.int .i64 x.x.e))) wx := by
          obtain ⟨h0, ⟨u0, u1, u2, u3, u4, u5, u6⟩, v0, v1, v2, v3, v4, v5, v6⟩ := hHeld
          have hk : ∀ {i : Nat} {u : Value}, _ → wx.cell? ⟨g, i, none⟩ = some u := fun {i u} hc => (hbx.cell (p := ⟨g, i, none⟩) (cell_lt hc)).trans hc
          exact ⟨h0.trans (hbx.mono h0.size), ⟨hk u0, hk u1, hk u2, hk u3, hk u4, hk u5, hk u6⟩, hk v0, hk v1, hk v2, hk v3, hk v4, hk v5, hk v6⟩
        refine hK.out _ _ hSx (fun hHeld => ?_)
        clear hK K
        try simp only [Act.put, List.setIfInBounds_toArray, List.set_cons_zero, List.set_cons_succ]
        refine wpAnyH_take (i := 12) (oi := ?_) (v := ?_) ?_ (by kernel_rfl) (by kernel_rfl) (by kernel_rfl) ?_ (Or.inl ⟨?_, ?_⟩) (by assumption) ?_
        rotate_left 2
        · (simp only [List.getElem?_toArray, List.getElem?_cons_succ, List.getElem?_cons_zero]; rfl)
        · first | exact fun _ _ _ h => h | exact fun _ _ _ h => by cases h.1
        · rfl
        · ((intro wq hSq; (try dsimp only at hSq); go_simp); (try with_reducible rfl))
        try simp only [Act.put, List.setIfInBounds_toArray, List.set_cons_zero, List.set_cons_succ]
        refine wpAnyH_take (i := 13) (oi := ?_) (v := ?_) ?_ (by kernel_rfl) (by kernel_rfl) (by kernel_rfl) ?_ (Or.inl ⟨?_, ?_⟩) (by assumption) ?_
        rotate_left 2
        · (simp only [List.getElem?_toArray, List.getElem?_cons_succ, List.getElem?_cons_zero]; rfl)
        · first | exact fun _ _ _ h => h | exact fun _ _ _ h => by cases h.1
        · rfl
        · ((intro wq hSq; (try dsimp only at hSq); go_simp); (try with_reducible rfl))
        try simp only [Act.put, List.setIfInBounds_toArray, List.set_cons_zero, List.set_cons_succ]
        refine wpAnyH_done (by kernel_rfl) ?_ _
        have hb := hHeld.1
        have hr' := Lib.hid (HR.out.kept hb)
        have hk' := Lib.hid (HK.out.trans (KpG.of hb))
        clear hSd hHeld hSx hb HR HK
        go_wp2_with fail
        go_roundw
        case rel =>
          obtain ⟨hs, hcc, hsr, hr, hpc, q1, q2, q3, q4⟩ := HH.out
          have htg := HS.out.2.2 x (List.mem_of_getElem? HX.out) y (List.mem_of_getElem? HY.out)
          refine ⟨c + 1, r, by first | rfl | exact val_int (by omega), rfl, by omega, by omega, hr, .inr ⟨x, y, by omega, ?_, ?_, ltE_else htg (by rw [HCQ.out]; exact of_decide_eq_false hneg)⟩, HHI.out, hr'.out, hk'.out⟩
          · rw [show c + 1 - 1 - a = c - a by omega]; exact HX.out
          · rw [show p - (c + 1 - 1) - m = pc - m by omega]; exact HY.out
        case measure => have := HH.out; simp [intOf]; omega
      · go_wp2_with fail
        refine wp_region_held_drew (S := (fun w' => Below wr.heap.size wr w' ∧ (w'.cell? ⟨g, pc * 7, none⟩ = some (.int .i64 y.x.p) ∧ w'.cell? ⟨g, pc * 7 + 1, none⟩ = some (.int .i64 y.x.o) ∧ w'.cell? ⟨g, pc * 7 + 2, none⟩ = some (.int .i64 y.x.q) ∧ w'.cell? ⟨g, pc * 7 + 3, none⟩ = some (.slice y.A y.x.r.length y.c) ∧ w'.cell? ⟨g, pc * 7 + 4, none⟩ = some (.int .i64 y.x.c) ∧ w'.cell? ⟨g, pc * 7 + 5, none⟩ = some (.int .i64 y.x.b) ∧ w'.cell? ⟨g, pc * 7 + 6, none⟩ = some (.int .i64 y.x.e)) ∧ (w'.cell? ⟨g, c * 7, none⟩ = some (.int .i64 x.x.p) ∧ w'.cell? ⟨g, c * 7 + 1, none⟩ = some (.int .i64 x.x.o) ∧ w'.cell? ⟨g, c * 7 + 2, none⟩ = some (.int .i64 x.x.q) ∧ w'.cell? ⟨g, c * 7 + 3, none⟩ = some (.slice x.A x.x.r.length x.c) ∧ w'.cell? ⟨g, c * 7 + 4, none⟩ = some (.int .i64 x.x.c) ∧ w'.cell? ⟨g, c * 7 + 5, none⟩ = some (.int .i64 x.x.b) ∧ w'.cell? ⟨g, c * 7 + 6, none⟩ = some (.int .i64 x.x.e)))) (by kernel_rfl) hSd (fun hHeld => ?_)
        generalize wr.drew = wd at hHeld ⊢
        have hHeld : (fun w' => Below wr.heap.size wr w' ∧ (w'.cell? ⟨g, pc * 7, none⟩ = some (.int .i64 y.x.p) ∧ w'.cell? ⟨g, pc * 7 + 1, none⟩ = some (.int .i64 y.x.o) ∧ w'.cell? ⟨g, pc * 7 + 2, none⟩ = some (.int .i64 y.x.q) ∧ w'.cell? ⟨g, pc * 7 + 3, none⟩ = some (.slice y.A y.x.r.length y.c) ∧ w'.cell? ⟨g, pc * 7 + 4, none⟩ = some (.int .i64 y.x.c) ∧ w'.cell? ⟨g, pc * 7 + 5, none⟩ = some (.int .i64 y.x.b) ∧ w'.cell? ⟨g, pc * 7 + 6, none⟩ = some (.int .i64 y.x.e)) ∧ (w'.cell? ⟨g, c * 7, none⟩ = some (.int .i64 x.x.p) ∧ w'.cell? ⟨g, c * 7 + 1, none⟩ = some (.int .i64 x.x.o) ∧ w'.cell? ⟨g, c * 7 + 2, none⟩ = some (.int .i64 x.x.q) ∧ w'.cell? ⟨g, c * 7 + 3, none⟩ = some (.slice x.A x.x.r.length x.c) ∧ w'.cell? ⟨g, c * 7 + 4, none⟩ = some (.int .i64 x.x.c) ∧ w'.cell? ⟨g, c * 7 + 5, none⟩ = some (.int .i64 x.x.b) ∧ w'.cell? ⟨g, c * 7 + 6, none⟩ = some (.int .i64 x.x.e))) wd := hHeld
        refine wpAnyH_take (i := 0) (oi := ?_) (v := ?_) ?_ (by kernel_rfl) (by kernel_rfl) (by kernel_rfl) ?_ (Or.inl ⟨?_, ?_⟩) (by assumption) ?_
        rotate_left 2
        · (simp only [List.getElem?_toArray, List.getElem?_cons_zero]; rfl)
        · first | exact fun _ _ _ h => h | exact fun _ _ _ h => by cases h.1
        · rfl
        · ((intro wq hSq; (try dsimp only at hSq); go_simp); (try with_reducible rfl))
        try simp only [Act.put, List.setIfInBounds_toArray, List.set_cons_zero, List.set_cons_succ]
        refine wpAnyH_take (i := 1) (oi := ?_) (v := ?_) ?_ (by kernel_rfl) (by kernel_rfl) (by kernel_rfl) ?_ (Or.inl ⟨?_, ?_⟩) (by assumption) ?_
        rotate_left 2
        · (simp only [List.getElem?_toArray, List.getElem?_cons_succ, List.getElem?_cons_zero]; rfl)
        · first | exact fun _ _ _ h => h | exact fun _ _ _ h => by cases h.1
        · rfl
        · ((intro wq hSq; (try dsimp only at hSq); go_simp); (try with_reducible rfl))
        try simp only [Act.put, List.setIfInBounds_toArray, List.set_cons_zero, List.set_cons_succ]
        refine wpAnyH_take (i := 2) (oi := ?_) (v := ?_) ?_ (by kernel_rfl) (by kernel_rfl) (by kernel_rfl) ?_ (Or.inl ⟨?_, ?_⟩) (by assumption) ?_
        rotate_left 2
        · (simp only [List.getElem?_toArray, List.getElem?_cons_succ, List.getElem?_cons_zero]; rfl)
        · first | exact fun _ _ _ h => h | exact fun _ _ _ h => by cases h.1
        · rfl
        · ((intro wq hSq; (try dsimp only at hSq); go_simp); (try with_reducible rfl))
        try simp only [Act.put, List.setIfInBounds_toArray, List.set_cons_zero, List.set_cons_succ]
        refine wpAnyH_take (i := 3) (oi := ?_) (v := ?_) ?_ (by kernel_rfl) (by kernel_rfl) (by kernel_rfl) ?_ (Or.inl ⟨?_, ?_⟩) (by assumption) ?_
        rotate_left 2
        · (simp only [List.getElem?_toArray, List.getElem?_cons_succ, List.getElem?_cons_zero]; rfl)
        · first | exact fun _ _ _ h => h | exact fun _ _ _ h => by cases h.1
        · rfl
        · ((intro wq hSq; (try dsimp only at hSq); go_simp); (try with_reducible rfl))
        try simp only [Act.put, List.setIfInBounds_toArray, List.set_cons_zero, List.set_cons_succ]
        refine wpAnyH_take (i := 4) (oi := ?_) (v := ?_) ?_ (by kernel_rfl) (by kernel_rfl) (by kernel_rfl) ?_ (Or.inl ⟨?_, ?_⟩) (by assumption) ?_
        rotate_left 2
        · (simp only [List.getElem?_toArray, List.getElem?_cons_succ, List.getElem?_cons_zero]; rfl)
        · first | exact fun _ _ _ h => h | exact fun _ _ _ h => by cases h.1
        · rfl
        · ((intro wq hSq; (try dsimp only at hSq); go_simp); (try with_reducible rfl))
        try simp only [Act.put, List.setIfInBounds_toArray, List.set_cons_zero, List.set_cons_succ]
        refine wpAnyH_take (i := 5) (oi := ?_) (v := ?_) ?_ (by kernel_rfl) (by kernel_rfl) (by kernel_rfl) ?_ (Or.inl ⟨?_, ?_⟩) (by assumption) ?_
        rotate_left 2
        · (simp only [List.getElem?_toArray, List.getElem?_cons_succ, List.getElem?_cons_zero]; rfl)
        · first | exact fun _ _ _ h => h | exact fun _ _ _ h => by cases h.1
        · rfl
        · ((intro wq hSq; (try dsimp only at hSq); go_simp); (try with_reducible rfl))
        try simp only [Act.put, List.setIfInBounds_toArray, List.set_cons_zero, List.set_cons_succ]
        refine wpAnyH_take (i := 6) (oi := ?_) (v := ?_) ?_ (by kernel_rfl) (by kernel_rfl) (by kernel_rfl) ?_ (Or.inl ⟨?_, ?_⟩) (by assumption) ?_
        rotate_left 2
        · (simp only [List.getElem?_toArray, List.getElem?_cons_succ, List.getElem?_cons_zero]; rfl)
        · first | exact fun _ _ _ h => h | exact fun _ _ _ h => by cases h.1
        · rfl
        · ((intro wq hSq; (try dsimp only at hSq); go_simp); (try with_reducible rfl))
        try simp only [Act.put, List.setIfInBounds_toArray, List.set_cons_zero, List.set_cons_succ]
        refine wpAnyH_take (i := 7) (oi := ?_) (v := ?_) ?_ (by kernel_rfl) (by kernel_rfl) (by kernel_rfl) ?_ (Or.inl ⟨?_, ?_⟩) (by assumption) ?_
        rotate_left 2
        · (simp only [List.getElem?_toArray, List.getElem?_cons_succ, List.getElem?_cons_zero]; rfl)
        · first | exact fun _ _ _ h => h | exact fun _ _ _ h => by cases h.1
        · rfl
        · ((intro wq hSq; (try dsimp only at hSq); go_simp); (try with_reducible rfl))
        try simp only [Act.put, List.setIfInBounds_toArray, List.set_cons_zero, List.set_cons_succ]
        refine wpAnyH_take (i := 8) (oi := ?_) (v := ?_) ?_ (by kernel_rfl) (by kernel_rfl) (by kernel_rfl) ?_ (Or.inl ⟨?_, ?_⟩) (by assumption) ?_
        rotate_left 2
        · (simp only [List.getElem?_toArray, List.getElem?_cons_succ, List.getElem?_cons_zero]; rfl)
        · first | exact fun _ _ _ h => h | exact fun _ _ _ h => by cases h.1
        · rfl
        · ((intro wq hSq; (try dsimp only at hSq); go_simp); (try with_reducible rfl))
        try simp only [Act.put, List.setIfInBounds_toArray, List.set_cons_zero, List.set_cons_succ]
        refine wpAnyH_take (i := 9) (oi := ?_) (v := ?_) ?_ (by kernel_rfl) (by kernel_rfl) (by kernel_rfl) ?_ (Or.inl ⟨?_, ?_⟩) (by assumption) ?_
        rotate_left 2
        · (simp only [List.getElem?_toArray, List.getElem?_cons_succ, List.getElem?_cons_zero]; rfl)
        · first | exact fun _ _ _ h => h | exact fun _ _ _ h => by cases h.1
        · rfl
        · ((intro wq hSq; (try dsimp only at hSq); go_simp); (try with_reducible rfl))
        try simp only [Act.put, List.setIfInBounds_toArray, List.set_cons_zero, List.set_cons_succ]
        refine wpAnyH_take (i := 10) (oi := ?_) (v := ?_) ?_ (by kernel_rfl) (by kernel_rfl) (by kernel_rfl) ?_ (Or.inl ⟨?_, ?_⟩) (by assumption) ?_
        rotate_left 2
        · (simp only [List.getElem?_toArray, List.getElem?_cons_succ, List.getElem?_cons_zero]; rfl)
        · first | exact fun _ _ _ h => h | exact fun _ _ _ h => by cases h.1
        · rfl
        · ((intro wq hSq; (try dsimp only at hSq); go_simp); (try with_reducible rfl))
        try simp only [Act.put, List.setIfInBounds_toArray, List.set_cons_zero, List.set_cons_succ]
        refine wpAnyH_ready (rs := [11]) (by kernel_rfl) (by simp) ?_
        refine AllReadyH.cons (o := ?_) ?_ (fun K hK => ?_) AllReadyH.nil
        rotate_left
        · (simp only [List.getElem?_toArray, List.getElem?_cons_succ, List.getElem?_cons_zero]; rfl)
        go_simp
        go_at_call 43
        refine (HCM.out _).mono ?_
        rintro ex wx ⟨rfl, hbx⟩
        have hSx : (fun w' => Below wr.heap.size wr w' ∧ (w'.cell? ⟨g, pc * 7, none⟩ = some (.int .i64 y.x.p) ∧ w'.cell? ⟨g, pc * 7 + 1, none⟩ = some (.int .i64 y.x.o) ∧ w'.cell? ⟨g, pc * 7 + 2, none⟩ = some (.int .i64 y.x.q) ∧ w'.cell? ⟨g, pc * 7 + 3, none⟩ = some (.slice y.A y.x.r.length y.c) ∧ w'.cell? ⟨g, pc * 7 + 4, none⟩ = some (.int .i64 y.x.c) ∧ w'.cell? ⟨g, pc * 7 + 5, none⟩ = some (.int .i64 y.x.b) ∧ w'.cell? ⟨g, pc * 7 + 6, none⟩ = some (.int .i64 y.x.e)) ∧ (w'.cell? ⟨g, c * 7, none⟩ = some (.int .i64 x.x.p) ∧ w'.cell? ⟨g, c * 7 + 1, none⟩ = some (.int .i64 x.x.o) ∧ w'.cell? ⟨g, c * 7 + 2, none⟩ = some (.int .i64 x.x.q) ∧ w'.cell? ⟨g, c * 7 + 3, none⟩ = some (.slice x.A x.x.r.length x.c) ∧ w'.cell? ⟨g, c * 7 + 4, none⟩ = some (.int .i64 x.x.c) ∧ w'.cell? ⟨g, c * 7 + 5, none⟩ = some (.int .i64 x.x.b) ∧ w'.cell? ⟨g, c * 7 + 6, none⟩ = some (.int .i64 x.x.e))) wx := by
          obtain ⟨h0, ⟨u0, u1, u2, u3, u4, u5, u6⟩, v0, v1, v2, v3, v4, v5, v6⟩ := hHeld
          have hk : ∀ {i : Nat} {u : Value}, _ → wx.cell? ⟨g, i, none⟩ = some u := fun {i u} hc => (hbx.cell (p := ⟨g, i, none⟩) (cell_lt hc)).trans hc
          exact ⟨h0.trans (hbx.mono h0.size), ⟨hk u0, hk u1, hk u2, hk u3, hk u4, hk u5, hk u6⟩, hk v0, hk v1, hk v2, hk v3, hk v4, hk v5, hk v6⟩
        refine hK.out _ _ hSx (fun hHeld => ?_)
        clear hK K
        try simp only [Act.put, List.setIfInBounds_toArray, List.set_cons_zero, List.set_cons_succ]
        refine wpAnyH_take (i := 12) (oi := ?_) (v := ?_) ?_ (by kernel_rfl) (by kernel_rfl) (by kernel_rfl) ?_ (Or.inl ⟨?_, ?_⟩) (by assumption) ?_
        rotate_left 2
        · (simp only [List.getElem?_toArray, List.getElem?_cons_succ, List.getElem?_cons_zero]; rfl)
        · first | exact fun _ _ _ h => h | exact fun _ _ _ h => by cases h.1
        · rfl
        · ((intro wq hSq; (try dsimp only at hSq); go_simp); (try with_reducible rfl))
        try simp only [Act.put, List.setIfInBounds_toArray, List.set_cons_zero, List.set_cons_succ]
        refine wpAnyH_take (i := 13) (oi := ?_) (v := ?_) ?_ (by kernel_rfl) (by kernel_rfl) (by kernel_rfl) ?_ (Or.inl ⟨?_, ?_⟩) (by assumption) ?_
        rotate_left 2
        · (simp only [List.getElem?_toArray, List.getElem?_cons_succ, List.getElem?_cons_zero]; rfl)
        · first | exact fun _ _ _ h => h | exact fun _ _ _ h => by cases h.1
        · rfl
        · ((intro wq hSq; (try dsimp only at hSq); go_simp); (try with_reducible rfl))
        try simp only [Act.put, List.setIfInBounds_toArray, List.set_cons_zero, List.set_cons_succ]
        refine wpAnyH_done (by kernel_rfl) ?_ _
        have hb := hHeld.1
        have hr' := Lib.hid (HR.out.kept hb)
        have hk' := Lib.hid (HK.out.trans (KpG.of hb))
        clear hSd hHeld hSx hb HR HK
        go_wp2_with fail
        go_roundw
        case rel =>
          obtain ⟨hs, hcc, hsr, hr, hpc, q1, q2, q3, q4⟩ := HH.out
          have htg := HS.out.2.2 x (List.mem_of_getElem? HX.out) y (List.mem_of_getElem? HY.out)
          refine ⟨s, c, rfl, rfl, hs, hcc.1, by omega, HLO.out, .inr ⟨x, y, by omega, HX.out, ?_, (ltE_later htg).2 (by rw [HCQ.out]; exact of_decide_eq_true hneg)⟩, hr'.out, hk'.out⟩
          rw [hpc]; exact HY.out
        case measure => have := HH.out; simp [intOf]; omega
    · have hsre : r = s := by omega
      subst hsre
      have c1 : decide ((r : Int) < (r : Int)) = false := by simp
      have c2 : decide (r < r) = false := by simp
      obtain ⟨q1, q2, q3, q4, q5, q6, q6b⟩ := HRNG.out.2.1 r hs hr
      obtain ⟨e, he⟩ : ∃ e, n - r = e := ⟨_, rfl⟩
      have hcf : CutF P (U.take (r - a)) (U.drop (r - a)) (V.take (e - m)) (V.drop (e - m)) R a r mid m e b N := by
        obtain ⟨l1, l2, l3, l4, l5⟩ := HLEN.out
        have HRO := HRNG.out.2.2
        have hmn : mid + m = n := by
          omega
        refine ⟨l1, by rw [List.length_take]; omega, by rw [List.length_drop]; omega, by rw [List.length_take]; omega, by rw [List.length_drop]; omega, by rw [List.length_take]; omega, by rw [List.take_append_drop]; exact HS.out.1, by rw [List.take_append_drop]; exact HS.out.2.1, by rw [List.take_append_drop, List.take_append_drop]; exact HS.out.2.2, cut_at HS.out.1 HS.out.2.1 ?_ ?_, l4⟩
        · rcases hlo with h | ⟨x, y, h0, hx, hy, hl⟩
          · have := HRO.1 r h
            omega
          · exact .inr (.inr ⟨x, y, by omega, by rw [show r - a - 1 = r - 1 - a by omega]; exact hx, by rw [show e - m = p - (r - 1) - m by omega]; exact hy, hl⟩)
        · rcases hhi with h | ⟨x, y, h0, hx, hy, hl⟩
          · have := HRO.2.1 r h
            omega
          · have hlt := get_lt hy
            by_cases hz : e - m = 0
            · exact .inl hz
            · exact .inr (.inr ⟨y, x, by omega, by rw [show e - m - 1 = p - r - m by omega]; exact hy, hx, hl⟩)
      have hsU : U.take (r - a) ++ U.drop (r - a) = U := List.take_append_drop _ _
      have hsV : V.take (e - m) ++ V.drop (e - m) = V := List.take_append_drop _ _
      generalize U.take (r - a) = U1 at hcf hsU
      generalize U.drop (r - a) = U2 at hcf hsU
      generalize V.take (e - m) = V1 at hcf hsV
      generalize V.drop (e - m) = V2 at hcf hsV
      have hrow : RowsG wr g (P ++ U1 ++ U2 ++ V1 ++ V2 ++ R) := by
        rw [← hsU, ← hsV] at hrow
        simpa using hrow
      have hszb : b - a ≤ sz + 1 := by have := HLEN.out; omega
      have e1 : (n : Int) - (r : Int) = (e : Int) := by omega
      have jw1 : IntKind.i64.wrap (e : Int) = (e : Int) := so_wrap (by omega) (by omega)
      have HSU := Lib.hid (And.intro hsU hsV)
      have HSZ := Lib.hid hszb
      have HR := Lib.hid hrow
      have HK := Lib.hid hk
      have HC := Lib.hid hcf
      have hmid2 := HRNG.out.2.2.2.2
      clear hlo hhi hs hr hsr hlt hsU hsV hrow hk hcf hszb q1 q2 q3 q4 q5 q6 q6b he
      obtain ⟨k1, hk1⟩ : ∃ k, U1.length = k := ⟨_, rfl⟩
      obtain ⟨k2, hk2⟩ : ∃ k, U2.length = k := ⟨_, rfl⟩
      obtain ⟨k3, hk3⟩ : ∃ k, V1.length = k := ⟨_, rfl⟩
      obtain ⟨k4, hk4⟩ : ∃ k, V2.length = k := ⟨_, rfl⟩
      have hle : a + k1 = r ∧ r + k2 = m ∧ m + k3 = e ∧ e + k4 = b ∧ r + k3 = mid := ⟨hk1 ▸ HC.out.ls, hk2 ▸ HC.out.lm, hk3 ▸ HC.out.le, hk4 ▸ HC.out.lb, hk3 ▸ HC.out.lmid⟩
      have HKK := Lib.hid (And.intro hk1 (And.intro hk2 (And.intro hk3 (And.intro hk4 (And.intro hle hmid2)))))
      have hall : (0 < k1 ∨ k1 = 0) ∧ (0 < k2 ∨ k2 = 0) ∧ (0 < k3 ∨ k3 = 0) ∧ (0 < k4 ∨ k4 = 0) := by omega
      obtain ⟨z1, z2, z3, z4⟩ := hall
      clear hk1 hk2 hk3 hk4
      rcases z1 with z1 | z1 <;> rcases z2 with z2 | z2 <;> rcases z3 with z3 | z3 <;> rcases z4 with z4 | z4
      · -- 1 1 1 1
        have ta1 : decide ((r : Int) < (m : Int)) = true := by rw [decide_eq_true_iff]; omega
        have ta2 : decide (r < m) = true := by rw [decide_eq_true_iff]; omega
        have tb1 : decide ((m : Int) < (e : Int)) = true := by rw [decide_eq_true_iff]; omega
        have tb2 : decide (m < e) = true := by rw [decide_eq_true_iff]; omega
        have tc1 : decide ((a : Int) < (r : Int)) = true := by rw [decide_eq_true_iff]; omega
        have tc2 : decide (a < r) = true := by rw [decide_eq_true_iff]; omega
        have td1 : decide ((r : Int) < (mid : Int)) = true := by rw [decide_eq_true_iff]; omega
        have td2 : decide (r < mid) = true := by rw [decide_eq_true_iff]; omega
        have te1 : decide ((mid : Int) < (e : Int)) = true := by rw [decide_eq_true_iff]; omega
        have te2 : decide (mid < e) = true := by rw [decide_eq_true_iff]; omega
        have tf1 : decide ((e : Int) < (b : Int)) = true := by rw [decide_eq_true_iff]; omega
        have tf2 : decide (e < b) = true := by rw [decide_eq_true_iff]; omega
        have HZ := Lib.hid (And.intro z1 (And.intro z2 (And.intro z3 z4)))
        clear z1 z2 z3 z4 hle hmid2
        go_wp2_with fail
        refine (HC.out.rot HR.out (by have := HKK.out; have := HZ.out; omega) (by have := HKK.out; have := HZ.out; omega) hcap hbig).mono ?_
        rintro x1 w1 ⟨rfl, hg1, hk1⟩
        have HG1 := Lib.hid hg1
        have HK1 := Lib.hid (HK.out.trans hk1)
        clear hg1 hk1 HK
        go_wp2_with fail
        refine (HC.out.left IH.out HSZ.out HG1.out (by have := HKK.out; have := HZ.out; omega) (by have := HKK.out; have := HZ.out; omega) (by have := HKK.out; have := HZ.out; omega) hcap hbig).mono ?_
        rintro x2 w2 ⟨rfl, W1, hg2, hp2, hs2, hk2⟩
        have HG2 := Lib.hid hg2
        have HP1 := Lib.hid (And.intro hp2 hs2)
        have HK2 := Lib.hid (HK1.out.trans hk2)
        clear hg2 hp2 hs2 hk2
        go_wp2_with fail
        refine (HC.out.right IH.out HSZ.out HP1.out.1 HG2.out (by have := HKK.out; have := HZ.out; omega) (by have := HKK.out; have := HZ.out; omega) (by have := HKK.out; have := HZ.out; omega) hcap hbig).mono ?_
        rintro x3 w3 ⟨rfl, W2, hg3, hp3, hs3, hk3⟩
        have HG3 := Lib.hid hg3
        have HP2 := Lib.hid (And.intro hp3 hs3)
        have HK3 := Lib.hid (HK2.out.trans hk3)
        clear hg3 hp3 hs3 hk3
        go_wp2_with fail
        (try simp only [Exit.inBlock, Exit.then])
        refine bodyPost_end (results_none rfl _ _ _) rfl ?_
        have hdone := HC.out.done HP1.out.1 HP2.out.1 HP1.out.2 HP2.out.2
        rw [HSU.out.1, HSU.out.2] at hdone
        exact ⟨rfl, _, HG3.out, hdone.1, hdone.2, HK3.out⟩
      · -- 1 1 1 0
        have ta1 : decide ((r : Int) < (m : Int)) = true := by rw [decide_eq_true_iff]; omega
        have ta2 : decide (r < m) = true := by rw [decide_eq_true_iff]; omega
        have tb1 : decide ((m : Int) < (e : Int)) = true := by rw [decide_eq_true_iff]; omega
        have tb2 : decide (m < e) = true := by rw [decide_eq_true_iff]; omega
        have tc1 : decide ((a : Int) < (r : Int)) = true := by rw [decide_eq_true_iff]; omega
        have tc2 : decide (a < r) = true := by rw [decide_eq_true_iff]; omega
        have td1 : decide ((r : Int) < (mid : Int)) = true := by rw [decide_eq_true_iff]; omega
        have td2 : decide (r < mid) = true := by rw [decide_eq_true_iff]; omega
        have te1 : decide ((mid : Int) < (e : Int)) = true := by rw [decide_eq_true_iff]; omega
        have te2 : decide (mid < e) = true := by rw [decide_eq_true_iff]; omega
        have tf1 : decide ((e : Int) < (b : Int)) = false := by rw [decide_eq_false_iff_not]; omega
        have tf2 : decide (e < b) = false := by rw [decide_eq_false_iff_not]; omega
        have HZ := Lib.hid (And.intro z1 (And.intro z2 (And.intro z3 z4)))
        clear z1 z2 z3 z4 hle hmid2
        go_wp2_with fail
        refine (HC.out.rot HR.out (by have := HKK.out; have := HZ.out; omega) (by have := HKK.out; have := HZ.out; omega) hcap hbig).mono ?_
        rintro x1 w1 ⟨rfl, hg1, hk1⟩
        have HG1 := Lib.hid hg1
        have HK1 := Lib.hid (HK.out.trans hk1)
        clear hg1 hk1 HK
        go_wp2_with fail
        refine (HC.out.left IH.out HSZ.out HG1.out (by have := HKK.out; have := HZ.out; omega) (by have := HKK.out; have := HZ.out; omega) (by have := HKK.out; have := HZ.out; omega) hcap hbig).mono ?_
        rintro x2 w2 ⟨rfl, W1, hg2, hp2, hs2, hk2⟩
        have HG2 := Lib.hid hg2
        have HP1 := Lib.hid (And.intro hp2 hs2)
        have HK2 := Lib.hid (HK1.out.trans hk2)
        clear hg2 hp2 hs2 hk2
        go_wp2_with fail
        have HP2 : Hid ((U2 ++ V2).Perm (U2 ++ V2) ∧ Srt ltE (U2 ++ V2)) := Lib.hid ⟨List.Perm.refl _, by
          have hz : V2 = [] := List.eq_nil_of_length_eq_zero (by have := HKK.out; have := HZ.out; omega)
          rw [hz]
          simpa using HC.out.sU.right⟩
        have HG3 : Hid (RowsG w2 g (P ++ (W1 ++ (U2 ++ V2)) ++ R)) := Lib.hid (by simpa using HG2.out)
        have HK3 := HK2
        (try simp only [Exit.inBlock, Exit.then])
        refine bodyPost_end (results_none rfl _ _ _) rfl ?_
        have hdone := HC.out.done HP1.out.1 HP2.out.1 HP1.out.2 HP2.out.2
        rw [HSU.out.1, HSU.out.2] at hdone
        exact ⟨rfl, _, HG3.out, hdone.1, hdone.2, HK3.out⟩
      · -- 1 1 0 1
        have ta1 : decide ((r : Int) < (m : Int)) = true := by rw [decide_eq_true_iff]; omega
        have ta2 : decide (r < m) = true := by rw [decide_eq_true_iff]; omega
        have tb1 : decide ((m : Int) < (e : Int)) = false := by rw [decide_eq_false_iff_not]; omega
        have tb2 : decide (m < e) = false := by rw [decide_eq_false_iff_not]; omega
        have tc1 : decide ((a : Int) < (r : Int)) = true := by rw [decide_eq_true_iff]; omega
        have tc2 : decide (a < r) = true := by rw [decide_eq_true_iff]; omega
        have td1 : decide ((r : Int) < (mid : Int)) = false := by rw [decide_eq_false_iff_not]; omega
        have td2 : decide (r < mid) = false := by rw [decide_eq_false_iff_not]; omega
        have te1 : decide ((mid : Int) < (e : Int)) = true := by rw [decide_eq_true_iff]; omega
        have te2 : decide (mid < e) = true := by rw [decide_eq_true_iff]; omega
        have tf1 : decide ((e : Int) < (b : Int)) = true := by rw [decide_eq_true_iff]; omega
        have tf2 : decide (e < b) = true := by rw [decide_eq_true_iff]; omega
        have HZ := Lib.hid (And.intro z1 (And.intro z2 (And.intro z3 z4)))
        clear z1 z2 z3 z4 hle hmid2
        go_wp2_with fail
        have HG1 : Hid (RowsG wr g (P ++ U1 ++ V1 ++ U2 ++ V2 ++ R)) := Lib.hid (by
          have h0 := HR.out
          have hz : V1 = [] := List.eq_nil_of_length_eq_zero (by have := HKK.out; have := HZ.out; omega)
          rw [hz] at h0 ⊢
          simpa using h0)
        have HK1 := HK
        clear HK
        have HP1 : Hid ((U1 ++ V1).Perm (U1 ++ V1) ∧ Srt ltE (U1 ++ V1)) := Lib.hid ⟨List.Perm.refl _, by
          have hz : V1 = [] := List.eq_nil_of_length_eq_zero (by have := HKK.out; have := HZ.out; omega)
          rw [hz]
          simpa using HC.out.sU.left⟩
        have HG2 : Hid (RowsG wr g (P ++ (U1 ++ V1) ++ (U2 ++ V2 ++ R))) := Lib.hid (by simpa using HG1.out)
        have HK2 := HK1
        clear HK1
        refine (HC.out.right IH.out HSZ.out HP1.out.1 HG2.out (by have := HKK.out; have := HZ.out; omega) (by have := HKK.out; have := HZ.out; omega) (by have := HKK.out; have := HZ.out; omega) hcap hbig).mono ?_
        rintro x3 w3 ⟨rfl, W2, hg3, hp3, hs3, hk3⟩
        have HG3 := Lib.hid hg3
        have HP2 := Lib.hid (And.intro hp3 hs3)
        have HK3 := Lib.hid (HK2.out.trans hk3)
        clear hg3 hp3 hs3 hk3
        go_wp2_with fail
        (try simp only [Exit.inBlock, Exit.then])
        refine bodyPost_end (results_none rfl _ _ _) rfl ?_
        have hdone := HC.out.done HP1.out.1 HP2.out.1 HP1.out.2 HP2.out.2
        rw [HSU.out.1, HSU.out.2] at hdone
        exact ⟨rfl, _, HG3.out, hdone.1, hdone.2, HK3.out⟩
      · -- 1 1 0 0
        have ta1 : decide ((r : Int) < (m : Int)) = true := by rw [decide_eq_true_iff]; omega
        have ta2 : decide (r < m) = true := by rw [decide_eq_true_iff]; omega
        have tb1 : decide ((m : Int) < (e : Int)) = false := by rw [decide_eq_false_iff_not]; omega
        have tb2 : decide (m < e) = false := by rw [decide_eq_false_iff_not]; omega
        have tc1 : decide ((a : Int) < (r : Int)) = true := by rw [decide_eq_true_iff]; omega
        have tc2 : decide (a < r) = true := by rw [decide_eq_true_iff]; omega
        have td1 : decide ((r : Int) < (mid : Int)) = false := by rw [decide_eq_false_iff_not]; omega
        have td2 : decide (r < mid) = false := by rw [decide_eq_false_iff_not]; omega
        have te1 : decide ((mid : Int) < (e : Int)) = true := by rw [decide_eq_true_iff]; omega
        have te2 : decide (mid < e) = true := by rw [decide_eq_true_iff]; omega
        have tf1 : decide ((e : Int) < (b : Int)) = false := by rw [decide_eq_false_iff_not]; omega
        have tf2 : decide (e < b) = false := by rw [decide_eq_false_iff_not]; omega
        have HZ := Lib.hid (And.intro z1 (And.intro z2 (And.intro z3 z4)))
        clear z1 z2 z3 z4 hle hmid2
        go_wp2_with fail
        have HG1 : Hid (RowsG wr g (P ++ U1 ++ V1 ++ U2 ++ V2 ++ R)) := Lib.hid (by
          have h0 := HR.out
          have hz : V1 = [] := List.eq_nil_of_length_eq_zero (by have := HKK.out; have := HZ.out; omega)
          rw [hz] at h0 ⊢
          simpa using h0)
        have HK1 := HK
        clear HK
        have HP1 : Hid ((U1 ++ V1).Perm (U1 ++ V1) ∧ Srt ltE (U1 ++ V1)) := Lib.hid ⟨List.Perm.refl _, by
          have hz : V1 = [] := List.eq_nil_of_length_eq_zero (by have := HKK.out; have := HZ.out; omega)
          rw [hz]
          simpa using HC.out.sU.left⟩
        have HG2 : Hid (RowsG wr g (P ++ (U1 ++ V1) ++ (U2 ++ V2 ++ R))) := Lib.hid (by simpa using HG1.out)
        have HK2 := HK1
        clear HK1
        have HP2 : Hid ((U2 ++ V2).Perm (U2 ++ V2) ∧ Srt ltE (U2 ++ V2)) := Lib.hid ⟨List.Perm.refl _, by
          have hz : V2 = [] := List.eq_nil_of_length_eq_zero (by have := HKK.out; have := HZ.out; omega)
          rw [hz]
          simpa using HC.out.sU.right⟩
        have HG3 : Hid (RowsG wr g (P ++ ((U1 ++ V1) ++ (U2 ++ V2)) ++ R)) := Lib.hid (by simpa using HG2.out)
        have HK3 := HK2
        (try simp only [Exit.inBlock, Exit.then])
        refine bodyPost_end (results_none rfl _ _ _) rfl ?_
        have hdone := HC.out.done HP1.out.1 HP2.out.1 HP1.out.2 HP2.out.2
        rw [HSU.out.1, HSU.out.2] at hdone
        exact ⟨rfl, _, HG3.out, hdone.1, hdone.2, HK3.out⟩
      · -- 1 0 1 1
        have ta1 : decide ((r : Int) < (m : Int)) = false := by rw [decide_eq_false_iff_not]; omega
        have ta2 : decide (r < m) = false := by rw [decide_eq_false_iff_not]; omega
        have tb1 : decide ((m : Int) < (e : Int)) = true := by rw [decide_eq_true_iff]; omega
        have tb2 : decide (m < e) = true := by rw [decide_eq_true_iff]; omega
        have tc1 : decide ((a : Int) < (r : Int)) = true := by rw [decide_eq_true_iff]; omega
        have tc2 : decide (a < r) = true := by rw [decide_eq_true_iff]; omega
        have td1 : decide ((r : Int) < (mid : Int)) = true := by rw [decide_eq_true_iff]; omega
        have td2 : decide (r < mid) = true := by rw [decide_eq_true_iff]; omega
        have te1 : decide ((mid : Int) < (e : Int)) = false := by rw [decide_eq_false_iff_not]; omega
        have te2 : decide (mid < e) = false := by rw [decide_eq_false_iff_not]; omega
        have tf1 : decide ((e : Int) < (b : Int)) = true := by rw [decide_eq_true_iff]; omega
        have tf2 : decide (e < b) = true := by rw [decide_eq_true_iff]; omega
        have HZ := Lib.hid (And.intro z1 (And.intro z2 (And.intro z3 z4)))
        clear z1 z2 z3 z4 hle hmid2
        go_wp2_with fail
        have HG1 : Hid (RowsG wr g (P ++ U1 ++ V1 ++ U2 ++ V2 ++ R)) := Lib.hid (by
          have h0 := HR.out
          have hz : U2 = [] := List.eq_nil_of_length_eq_zero (by have := HKK.out; have := HZ.out; omega)
          rw [hz] at h0 ⊢
          simpa using h0)
        have HK1 := HK
        clear HK
        refine (HC.out.left IH.out HSZ.out HG1.out (by have := HKK.out; have := HZ.out; omega) (by have := HKK.out; have := HZ.out; omega) (by have := HKK.out; have := HZ.out; omega) hcap hbig).mono ?_
        rintro x2 w2 ⟨rfl, W1, hg2, hp2, hs2, hk2⟩
        have HG2 := Lib.hid hg2
        have HP1 := Lib.hid (And.intro hp2 hs2)
        have HK2 := Lib.hid (HK1.out.trans hk2)
        clear hg2 hp2 hs2 hk2
        go_wp2_with fail
        have HP2 : Hid ((U2 ++ V2).Perm (U2 ++ V2) ∧ Srt ltE (U2 ++ V2)) := Lib.hid ⟨List.Perm.refl _, by
          have hz : U2 = [] := List.eq_nil_of_length_eq_zero (by have := HKK.out; have := HZ.out; omega)
          rw [hz]
          simpa using HC.out.sV.right⟩
        have HG3 : Hid (RowsG w2 g (P ++ (W1 ++ (U2 ++ V2)) ++ R)) := Lib.hid (by simpa using HG2.out)
        have HK3 := HK2
        (try simp only [Exit.inBlock, Exit.then])
        refine bodyPost_end (results_none rfl _ _ _) rfl ?_
        have hdone := HC.out.done HP1.out.1 HP2.out.1 HP1.out.2 HP2.out.2
        rw [HSU.out.1, HSU.out.2] at hdone
        exact ⟨rfl, _, HG3.out, hdone.1, hdone.2, HK3.out⟩
      · exfalso; omega
      · -- 1 0 0 1
        have ta1 : decide ((r : Int) < (m : Int)) = false := by rw [decide_eq_false_iff_not]; omega
        have ta2 : decide (r < m) = false := by rw [decide_eq_false_iff_not]; omega
        have tb1 : decide ((m : Int) < (e : Int)) = false := by rw [decide_eq_false_iff_not]; omega
        have tb2 : decide (m < e) = false := by rw [decide_eq_false_iff_not]; omega
        have tc1 : decide ((a : Int) < (r : Int)) = true := by rw [decide_eq_true_iff]; omega
        have tc2 : decide (a < r) = true := by rw [decide_eq_true_iff]; omega
        have td1 : decide ((r : Int) < (mid : Int)) = false := by rw [decide_eq_false_iff_not]; omega
        have td2 : decide (r < mid) = false := by rw [decide_eq_false_iff_not]; omega
        have te1 : decide ((mid : Int) < (e : Int)) = false := by rw [decide_eq_false_iff_not]; omega
        have te2 : decide (mid < e) = false := by rw [decide_eq_false_iff_not]; omega
        have tf1 : decide ((e : Int) < (b : Int)) = true := by rw [decide_eq_true_iff]; omega
        have tf2 : decide (e < b) = true := by rw [decide_eq_true_iff]; omega
        have HZ := Lib.hid (And.intro z1 (And.intro z2 (And.intro z3 z4)))
        clear z1 z2 z3 z4 hle hmid2
        go_wp2_with fail
        have HG1 : Hid (RowsG wr g (P ++ U1 ++ V1 ++ U2 ++ V2 ++ R)) := Lib.hid (by
          have h0 := HR.out
          have hz : U2 = [] := List.eq_nil_of_length_eq_zero (by have := HKK.out; have := HZ.out; omega)
          rw [hz] at h0 ⊢
          simpa using h0)
        have HK1 := HK
        clear HK
        have HP1 : Hid ((U1 ++ V1).Perm (U1 ++ V1) ∧ Srt ltE (U1 ++ V1)) := Lib.hid ⟨List.Perm.refl _, by
          have hz : V1 = [] := List.eq_nil_of_length_eq_zero (by have := HKK.out; have := HZ.out; omega)
          rw [hz]
          simpa using HC.out.sU.left⟩
        have HG2 : Hid (RowsG wr g (P ++ (U1 ++ V1) ++ (U2 ++ V2 ++ R))) := Lib.hid (by simpa using HG1.out)
        have HK2 := HK1
        clear HK1
        have HP2 : Hid ((U2 ++ V2).Perm (U2 ++ V2) ∧ Srt ltE (U2 ++ V2)) := Lib.hid ⟨List.Perm.refl _, by
          have hz : U2 = [] := List.eq_nil_of_length_eq_zero (by have := HKK.out; have := HZ.out; omega)
          rw [hz]
          simpa using HC.out.sV.right⟩
        have HG3 : Hid (RowsG wr g (P ++ ((U1 ++ V1) ++ (U2 ++ V2)) ++ R)) := Lib.hid (by simpa using HG2.out)
        have HK3 := HK2
        (try simp only [Exit.inBlock, Exit.then])
        refine bodyPost_end (results_none rfl _ _ _) rfl ?_
        have hdone := HC.out.done HP1.out.1 HP2.out.1 HP1.out.2 HP2.out.2
        rw [HSU.out.1, HSU.out.2] at hdone
        exact ⟨rfl, _, HG3.out, hdone.1, hdone.2, HK3.out⟩
      · exfalso; omega
      · -- 0 1 1 1
        have ta1 : decide ((r : Int) < (m : Int)) = true := by rw [decide_eq_true_iff]; omega
        have ta2 : decide (r < m) = true := by rw [decide_eq_true_iff]; omega
        have tb1 : decide ((m : Int) < (e : Int)) = true := by rw [decide_eq_true_iff]; omega
        have tb2 : decide (m < e) = true := by rw [decide_eq_true_iff]; omega
        have tc1 : decide ((a : Int) < (r : Int)) = false := by rw [decide_eq_false_iff_not]; omega
        have tc2 : decide (a < r) = false := by rw [decide_eq_false_iff_not]; omega
        have td1 : decide ((r : Int) < (mid : Int)) = true := by rw [decide_eq_true_iff]; omega
        have td2 : decide (r < mid) = true := by rw [decide_eq_true_iff]; omega
        have te1 : decide ((mid : Int) < (e : Int)) = true := by rw [decide_eq_true_iff]; omega
        have te2 : decide (mid < e) = true := by rw [decide_eq_true_iff]; omega
        have tf1 : decide ((e : Int) < (b : Int)) = true := by rw [decide_eq_true_iff]; omega
        have tf2 : decide (e < b) = true := by rw [decide_eq_true_iff]; omega
        have HZ := Lib.hid (And.intro z1 (And.intro z2 (And.intro z3 z4)))
        clear z1 z2 z3 z4 hle hmid2
        go_wp2_with fail
        refine (HC.out.rot HR.out (by have := HKK.out; have := HZ.out; omega) (by have := HKK.out; have := HZ.out; omega) hcap hbig).mono ?_
        rintro x1 w1 ⟨rfl, hg1, hk1⟩
        have HG1 := Lib.hid hg1
        have HK1 := Lib.hid (HK.out.trans hk1)
        clear hg1 hk1 HK
        go_wp2_with fail
        have HP1 : Hid ((U1 ++ V1).Perm (U1 ++ V1) ∧ Srt ltE (U1 ++ V1)) := Lib.hid ⟨List.Perm.refl _, by
          have hz : U1 = [] := List.eq_nil_of_length_eq_zero (by have := HKK.out; have := HZ.out; omega)
          rw [hz]
          simpa using HC.out.sV.left⟩
        have HG2 : Hid (RowsG w1 g (P ++ (U1 ++ V1) ++ (U2 ++ V2 ++ R))) := Lib.hid (by simpa using HG1.out)
        have HK2 := HK1
        clear HK1
        refine (HC.out.right IH.out HSZ.out HP1.out.1 HG2.out (by have := HKK.out; have := HZ.out; omega) (by have := HKK.out; have := HZ.out; omega) (by have := HKK.out; have := HZ.out; omega) hcap hbig).mono ?_
        rintro x3 w3 ⟨rfl, W2, hg3, hp3, hs3, hk3⟩
        have HG3 := Lib.hid hg3
        have HP2 := Lib.hid (And.intro hp3 hs3)
        have HK3 := Lib.hid (HK2.out.trans hk3)
        clear hg3 hp3 hs3 hk3
        go_wp2_with fail
        (try simp only [Exit.inBlock, Exit.then])
        refine bodyPost_end (results_none rfl _ _ _) rfl ?_
        have hdone := HC.out.done HP1.out.1 HP2.out.1 HP1.out.2 HP2.out.2
        rw [HSU.out.1, HSU.out.2] at hdone
        exact ⟨rfl, _, HG3.out, hdone.1, hdone.2, HK3.out⟩
      · -- 0 1 1 0
        have ta1 : decide ((r : Int) < (m : Int)) = true := by rw [decide_eq_true_iff]; omega
        have ta2 : decide (r < m) = true := by rw [decide_eq_true_iff]; omega
        have tb1 : decide ((m : Int) < (e : Int)) = true := by rw [decide_eq_true_iff]; omega
        have tb2 : decide (m < e) = true := by rw [decide_eq_true_iff]; omega
        have tc1 : decide ((a : Int) < (r : Int)) = false := by rw [decide_eq_false_iff_not]; omega
        have tc2 : decide (a < r) = false := by rw [decide_eq_false_iff_not]; omega
        have td1 : decide ((r : Int) < (mid : Int)) = true := by rw [decide_eq_true_iff]; omega
        have td2 : decide (r < mid) = true := by rw [decide_eq_true_iff]; omega
        have te1 : decide ((mid : Int) < (e : Int)) = true := by rw [decide_eq_true_iff]; omega
        have te2 : decide (mid < e) = true := by rw [decide_eq_true_iff]; omega
        have tf1 : decide ((e : Int) < (b : Int)) = false := by rw [decide_eq_false_iff_not]; omega
        have tf2 : decide (e < b) = false := by rw [decide_eq_false_iff_not]; omega
        have HZ := Lib.hid (And.intro z1 (And.intro z2 (And.intro z3 z4)))
        clear z1 z2 z3 z4 hle hmid2
        go_wp2_with fail
        refine (HC.out.rot HR.out (by have := HKK.out; have := HZ.out; omega) (by have := HKK.out; have := HZ.out; omega) hcap hbig).mono ?_
        rintro x1 w1 ⟨rfl, hg1, hk1⟩
        have HG1 := Lib.hid hg1
        have HK1 := Lib.hid (HK.out.trans hk1)
        clear hg1 hk1 HK
        go_wp2_with fail
        have HP1 : Hid ((U1 ++ V1).Perm (U1 ++ V1) ∧ Srt ltE (U1 ++ V1)) := Lib.hid ⟨List.Perm.refl _, by
          have hz : U1 = [] := List.eq_nil_of_length_eq_zero (by have := HKK.out; have := HZ.out; omega)
          rw [hz]
          simpa using HC.out.sV.left⟩
        have HG2 : Hid (RowsG w1 g (P ++ (U1 ++ V1) ++ (U2 ++ V2 ++ R))) := Lib.hid (by simpa using HG1.out)
        have HK2 := HK1
        clear HK1
        have HP2 : Hid ((U2 ++ V2).Perm (U2 ++ V2) ∧ Srt ltE (U2 ++ V2)) := Lib.hid ⟨List.Perm.refl _, by
          have hz : V2 = [] := List.eq_nil_of_length_eq_zero (by have := HKK.out; have := HZ.out; omega)
          rw [hz]
          simpa using HC.out.sU.right⟩
        have HG3 : Hid (RowsG w1 g (P ++ ((U1 ++ V1) ++ (U2 ++ V2)) ++ R)) := Lib.hid (by simpa using HG2.out)
        have HK3 := HK2
        (try simp only [Exit.inBlock, Exit.then])
        refine bodyPost_end (results_none rfl _ _ _) rfl ?_
        have hdone := HC.out.done HP1.out.1 HP2.out.1 HP1.out.2 HP2.out.2
        rw [HSU.out.1, HSU.out.2] at hdone
        exact ⟨rfl, _, HG3.out, hdone.1, hdone.2, HK3.out⟩
      · exfalso; omega
      · exfalso; omega
      · -- 0 0 1 1
        have ta1 : decide ((r : Int) < (m : Int)) = false := by rw [decide_eq_false_iff_not]; omega
        have ta2 : decide (r < m) = false := by rw [decide_eq_false_iff_not]; omega
        have tb1 : decide ((m : Int) < (e : Int)) = true := by rw [decide_eq_true_iff]; omega
        have tb2 : decide (m < e) = true := by rw [decide_eq_true_iff]; omega
        have tc1 : decide ((a : Int) < (r : Int)) = false := by rw [decide_eq_false_iff_not]; omega
        have tc2 : decide (a < r) = false := by rw [decide_eq_false_iff_not]; omega
        have td1 : decide ((r : Int) < (mid : Int)) = true := by rw [decide_eq_true_iff]; omega
        have td2 : decide (r < mid) = true := by rw [decide_eq_true_iff]; omega
        have te1 : decide ((mid : Int) < (e : Int)) = false := by rw [decide_eq_false_iff_not]; omega
        have te2 : decide (mid < e) = false := by rw [decide_eq_false_iff_not]; omega
        have tf1 : decide ((e : Int) < (b : Int)) = true := by rw [decide_eq_true_iff]; omega
        have tf2 : decide (e < b) = true := by rw [decide_eq_true_iff]; omega
        have HZ := Lib.hid (And.intro z1 (And.intro z2 (And.intro z3 z4)))
        clear z1 z2 z3 z4 hle hmid2
        go_wp2_with fail
        have HG1 : Hid (RowsG wr g (P ++ U1 ++ V1 ++ U2 ++ V2 ++ R)) := Lib.hid (by
          have h0 := HR.out
          have hz : U2 = [] := List.eq_nil_of_length_eq_zero (by have := HKK.out; have := HZ.out; omega)
          rw [hz] at h0 ⊢
          simpa using h0)
        have HK1 := HK
        clear HK
        have HP1 : Hid ((U1 ++ V1).Perm (U1 ++ V1) ∧ Srt ltE (U1 ++ V1)) := Lib.hid ⟨List.Perm.refl _, by
          have hz : U1 = [] := List.eq_nil_of_length_eq_zero (by have := HKK.out; have := HZ.out; omega)
          rw [hz]
          simpa using HC.out.sV.left⟩
        have HG2 : Hid (RowsG wr g (P ++ (U1 ++ V1) ++ (U2 ++ V2 ++ R))) := Lib.hid (by simpa using HG1.out)
        have HK2 := HK1
        clear HK1
        have HP2 : Hid ((U2 ++ V2).Perm (U2 ++ V2) ∧ Srt ltE (U2 ++ V2)) := Lib.hid ⟨List.Perm.refl _, by
          have hz : U2 = [] := List.eq_nil_of_length_eq_zero (by have := HKK.out; have := HZ.out; omega)
          rw [hz]
          simpa using HC.out.sV.right⟩
        have HG3 : Hid (RowsG wr g (P ++ ((U1 ++ V1) ++ (U2 ++ V2)) ++ R)) := Lib.hid (by simpa using HG2.out)
        have HK3 := HK2
        (try simp only [Exit.inBlock, Exit.then])
        refine bodyPost_end (results_none rfl _ _ _) rfl ?_
        have hdone := HC.out.done HP1.out.1 HP2.out.1 HP1.out.2 HP2.out.2
        rw [HSU.out.1, HSU.out.2] at hdone
        exact ⟨rfl, _, HG3.out, hdone.1, hdone.2, HK3.out⟩
      · exfalso; omega
      · exfalso; omega
      · exfalso; omega

end Go.Proofs.Ytgmmblknaeepbaa

namespace Go.Proofs.Ytgmmblknaeepbaa
open Go.RowKit
attribute [local go_sem] Oper.semAt_some

set_option maxRecDepth 100000 in
set_option maxHeartbeats 16000000 in
theorem sym_le (sz : Nat) (ih : SymOk sz) (g cap a m b N : Nat) (P U V R : List El) (w : World) (hsz : U.length + V.length ≤ sz + 1) (hg : RowsG w g (P ++ U ++ V ++ R)) (ha : P.length = a) (hm : a + U.length = m) (hb : m + V.length = b) (hU : 1 < U.length) (hV : 1 < V.length) (sU : Srt ltE U) (sV : Srt ltE V) (ht : ∀ x ∈ U, ∀ y ∈ V, x.t < y.t) (hN : b + R.length = N) (hcap : N ≤ cap) (hbig : N ≤ 100000) (hmid : m ≤ (a + b) / 2) :
    Calls Try.prog 71 #[.slice (some ⟨g, 0, none⟩) N cap, .int .i64 (a : Int), .int .i64 (m : Int), .int .i64 (b : Int), .func (.func 43) #[] #[]] w fun e w' => e = .returned (.tuple #[]) ∧ ∃ W, RowsG w' g (P ++ W ++ R) ∧ W.Perm (U ++ V) ∧ Srt ltE W ∧ KpG g w w' := by
  have IH := Lib.hid ih
  obtain ⟨ab, hab⟩ : ∃ ab, a + b = ab := ⟨_, rfl⟩
  obtain ⟨mid, hmd⟩ : ∃ mid, ab / 2 = mid := ⟨_, rfl⟩
  obtain ⟨n, hn⟩ : ∃ n, mid + m = n := ⟨_, rfl⟩
  obtain ⟨p, hp⟩ : ∃ p, n - 1 = p := ⟨_, rfl⟩
  obtain ⟨s0, hs0⟩ : ∃ s0, a = s0 := ⟨_, rfl⟩
  obtain ⟨r0, hr0⟩ : ∃ r0, m = r0 := ⟨_, rfl⟩
  rw [hab, hmd] at hmid
  obtain ⟨d, hd⟩ : ∃ d, m - a = d := ⟨_, rfl⟩
  obtain ⟨f, hf⟩ : ∃ f, b - m = f := ⟨_, rfl⟩
  have e1 : (m : Int) - (a : Int) = (d : Int) := by omega
  have e2 : (b : Int) - (m : Int) = (f : Int) := by omega
  have jd : IntKind.i64.wrap (d : Int) = (d : Int) := so_wrap (by omega) (by omega)
  have jf : IntKind.i64.wrap (f : Int) = (f : Int) := so_wrap (by omega) (by omega)
  have d1 : ¬ d = 1 := by omega
  have d2 : ¬ (d : Int) = 1 := by omega
  have d3 : (d == 1) = false := by simpa using d1
  have d4 : ((d : Int) == 1) = false := by simpa using d2
  have f1 : ¬ f = 1 := by omega
  have f2 : ¬ (f : Int) = 1 := by omega
  have f3 : (f == 1) = false := by simpa using f1
  have f4 : ((f : Int) == 1) = false := by simpa using f2
  have e3 : (a : Int) + (b : Int) = (ab : Int) := by omega
  have e4 : (ab : Int) / 2 = (mid : Int) := by omega
  have e5 : (mid : Int) + (m : Int) = (n : Int) := by omega
  have e7 : (n : Int) - 1 = (p : Int) := by omega
  have e6 : True := trivial
  have j1 : IntKind.i64.wrap (ab : Int) = (ab : Int) := so_wrap (by omega) (by omega)
  have j2 : IntKind.u64.wrap (ab : Int) = (ab : Int) := so_wrapu (by omega) (by omega)
  have j3 : IntKind.i64.wrap (mid : Int) = (mid : Int) := so_wrap (by omega) (by omega)
  have j4 : IntKind.u64.wrap (mid : Int) = (mid : Int) := so_wrapu (by omega) (by omega)
  have j5 : IntKind.i64.wrap (n : Int) = (n : Int) := so_wrap (by omega) (by omega)
  have j6 : IntKind.i64.wrap (s0 : Int) = (s0 : Int) := so_wrap (by omega) (by omega)
  have j7 : IntKind.i64.wrap (p : Int) = (p : Int) := so_wrap (by omega) (by omega)
  have c1 : decide ((mid : Int) < (m : Int)) = false := by rw [decide_eq_false_iff_not]; omega
  have c2 : decide (mid < m) = false := by rw [decide_eq_false_iff_not]; omega
  have hs0r : s0 ≤ r0 := by omega
  have hrng : ∀ c, s0 ≤ c → c < r0 → a ≤ c ∧ c < m ∧ m + c ≤ p ∧ p < b + c := fun c h1 h2 => by omega
  have hend : ∀ s, s0 ≤ s → s ≤ r0 → a ≤ s ∧ s ≤ m ∧ s ≤ mid ∧ m + s ≤ n ∧ n ≤ b + s ∧ n = p + 1 ∧ n = mid + m := fun s h1 h2 => by omega
  have hlo0 : ∀ s, s = s0 → s = a := fun s h => by omega
  have hhi0 : ∀ s, s = r0 → s = m := fun s h => by omega
  have hmids : a < mid ∧ mid < b := by omega
  have HRNG := Lib.hid (And.intro hrng (And.intro hend (And.intro hlo0 (And.intro hhi0 hmids))))
  have HLEN := Lib.hid (And.intro ha (And.intro hm (And.intro hb (And.intro hN hsz))))
  have HS := Lib.hid (And.intro sU (And.intro sV ht))
  have HG := Lib.hid hg
  have HS0 := Lib.hid hs0
  have HR0 := Lib.hid hr0
  have hbN : b ≤ N := by omega
  have hmN : m ≤ N := by omega
  clear ih hsz hg ha hm hb hU hV sU sV ht hN hmid hab hmd hn hp hs0 hr0 hd hf hrng hend hlo0 hhi0 hmids
  go_enter Try.func71, Try.ntmps71
  go_wp2_with fail
  go_loopw [20, 21, 23] (fun s r c wr => ∃ s' r' : Nat, s = .int .i64 (s' : Int) ∧ r = .int .i64 (r' : Int) ∧ s0 ≤ s' ∧ s' ≤ r' ∧ r' ≤ r0 ∧ (s' = s0 ∨ ∃ x y, a < s' ∧ U[s' - 1 - a]? = some x ∧ V[p - (s' - 1) - m]? = some y ∧ ltE x y) ∧ (r' = r0 ∨ ∃ x y, r' < p ∧ U[r' - a]? = some x ∧ V[p - r' - m]? = some y ∧ ltE y x) ∧ RowsG wr g (P ++ U ++ V ++ R) ∧ KpG g w wr) (fun s r _ _ => (intOf r).toNat - (intOf s).toNat)
  case atStart => exact ⟨s0, r0, by first | rfl | (rw [e6]) | (rw [HS0.out]), by first | rfl | (rw [HR0.out]), Nat.le_refl _, hs0r, Nat.le_refl _, .inl rfl, .inl rfl, HG.out, KpG.refl _ _⟩
  case round =>
    clear e1 e2 d1 d2 d3 d4 f1 f2 f3 f4 e3 e4  HG jd jf c1 c2 j1 j2 j3 j4 j6
    obtain ⟨s, r, rfl, rfl, hs, hsr, hr, hlo, hhi, hrow, hk⟩ := hrel
    by_cases hlt : s < r
    · have c1 : decide ((s : Int) < (r : Int)) = true := by rw [decide_eq_true_iff]; omega
      have c2 : decide (s < r) = true := decide_eq_true hlt
      obtain ⟨sr, hsr2⟩ : ∃ sr, s + r = sr := ⟨_, rfl⟩
      obtain ⟨c, hc⟩ : ∃ c, sr / 2 = c := ⟨_, rfl⟩
      have hcc : s ≤ c ∧ c < r := by omega
      obtain ⟨q1, q2, q3, q4⟩ := HRNG.out.1 c (by omega) (by omega)
      have hr0b : r ≤ N := by
        have := (HRNG.out.2.1 r0 hs0r (Nat.le_refl _)).2.1
        omega
      obtain ⟨pc, hpc⟩ : ∃ pc, p - c = pc := ⟨_, rfl⟩
      have e1 : (s : Int) + (r : Int) = (sr : Int) := by omega
      have e2 : (sr : Int) / 2 = (c : Int) := by omega
      have e3 : (p : Int) - (c : Int) = (pc : Int) := by omega
      have jw1 : IntKind.i64.wrap (sr : Int) = (sr : Int) := so_wrap (by omega) (by omega)
      have jw2 : IntKind.u64.wrap (sr : Int) = (sr : Int) := so_wrapu (by omega) (by omega)
      have jw3 : IntKind.i64.wrap (c : Int) = (c : Int) := so_wrap (by omega) (by omega)
      have jw4 : IntKind.u64.wrap (c : Int) = (c : Int) := so_wrapu (by omega) (by omega)
      have jw5 : IntKind.i64.wrap (pc : Int) = (pc : Int) := so_wrap (by omega) (by omega)
      obtain ⟨x, hx⟩ := get_some (show c - a < U.length by have := HLEN.out; omega)
      obtain ⟨y, hy⟩ := get_some (show pc - m < V.length by have := HLEN.out; omega)
      have hlx : (P ++ U ++ V ++ R)[c]? = some x := by
        obtain ⟨h1, h2, h3, _⟩ := HLEN.out
        rw [List.append_assoc, List.append_assoc, List.getElem?_append_right (by omega), h1, List.getElem?_append_left (get_lt hx)]
        exact hx
      have hly : (P ++ U ++ V ++ R)[pc]? = some y := by
        obtain ⟨h1, h2, h3, _⟩ := HLEN.out
        have h4 : (P ++ U).length = m := by simp; omega
        rw [List.append_assoc, List.getElem?_append_right (by omega), h4, List.getElem?_append_left (get_lt hy)]
        exact hy
      have l1 : c < N := by omega
      have l2 : (c : Int) < (N : Int) := by omega
      have l3 : pc < N := by omega
      have l4 : (pc : Int) < (N : Int) := by omega
      have l5 : (0 : Int) ≤ (c : Int) := by omega
      have l6 : (0 : Int) ≤ (pc : Int) := by omega
      have hcm := fun W => scmp_any y.x x.x y.A x.A y.c x.c W
      unfold clV at hcm
      obtain ⟨q, hcq⟩ : ∃ q, cmpC y.x x.x = q := ⟨_, rfl⟩
      rw [hcq] at hcm
      have HCM := Lib.hid hcm
      have HCQ := Lib.hid hcq
      have hxd := (hrow.kept (Below.refl _ wr).drew).cells hly
      have hyd := (hrow.kept (Below.refl _ wr).drew).cells hlx
      have hSd : (fun w' => Below wr.heap.size wr w' ∧ (w'.cell? ⟨g, pc * 7, none⟩ = some (.int .i64 y.x.p) ∧ w'.cell? ⟨g, pc * 7 + 1, none⟩ = some (.int .i64 y.x.o) ∧ w'.cell? ⟨g, pc * 7 + 2, none⟩ = some (.int .i64 y.x.q) ∧ w'.cell? ⟨g, pc * 7 + 3, none⟩ = some (.slice y.A y.x.r.length y.c) ∧ w'.cell? ⟨g, pc * 7 + 4, none⟩ = some (.int .i64 y.x.c) ∧ w'.cell? ⟨g, pc * 7 + 5, none⟩ = some (.int .i64 y.x.b) ∧ w'.cell? ⟨g, pc * 7 + 6, none⟩ = some (.int .i64 y.x.e)) ∧ (w'.cell? ⟨g, c * 7, none⟩ = some (.int .i64 x.x.p) ∧ w'.cell? ⟨g, c * 7 + 1, none⟩ = some (.int .i64 x.x.o) ∧ w'.cell? ⟨g, c * 7 + 2, none⟩ = some (.int .i64 x.x.q) ∧ w'.cell? ⟨g, c * 7 + 3, none⟩ = some (.slice x.A x.x.r.length x.c) ∧ w'.cell? ⟨g, c * 7 + 4, none⟩ = some (.int .i64 x.x.c) ∧ w'.cell? ⟨g, c * 7 + 5, none⟩ = some (.int .i64 x.x.b) ∧ w'.cell? ⟨g, c * 7 + 6, none⟩ = some (.int .i64 x.x.e))) wr.drew := ⟨(Below.refl _ wr).drew, hxd, hyd⟩
      clear hcm hcq hxd hyd
      have HR := Lib.hid hrow
      have HK := Lib.hid hk
      have HLO := Lib.hid hlo
      have HHI := Lib.hid hhi
      have HX := Lib.hid hx
      have HY := Lib.hid hy
      have HH := Lib.hid (And.intro hs (And.intro hcc (And.intro hsr (And.intro hr (And.intro hpc (And.intro q1 (And.intro q2 (And.intro q3 q4))))))))
      clear hrow hk hlo hhi hx hy hlx hly hs hcc hsr hr hpc q1 q2 q3 q4 hsr2 hc hr0b hlt hs0r
      rcases hneg : decide (q < 0) with _ | _
      · go_wp2_with fail
        refine wp_region_held_drew (S := (fun w' => Below wr.heap.size wr w' ∧ (w'.cell? ⟨g, pc * 7, none⟩ = some (.int .i64 y.x.p) ∧ w'.cell? ⟨g, pc * 7 + 1, none⟩ = some (.int .i64 y.x.o) ∧ w'.cell? ⟨g, pc * 7 + 2, none⟩ = some (.int .i64 y.x.q) ∧ w'.cell? ⟨g, pc * 7 + 3, none⟩ = some (.slice y.A y.x.r.length y.c) ∧ w'.cell? ⟨g, pc * 7 + 4, none⟩ = some (.int .i64 y.x.c) ∧ w'.cell? ⟨g, pc * 7 + 5, none⟩ = some (.int .i64 y.x.b) ∧ w'.cell? ⟨g, pc * 7 + 6, none⟩ = some (.int .i64 y.x.e)) ∧ (w'.cell? ⟨g, c * 7, none⟩ = some (.int .i64 x.x.p) ∧ w'.cell? ⟨g, c * 7 + 1, none⟩ = some (.int .i64 x.x.o) ∧ w'.cell? ⟨g, c * 7 + 2, none⟩ = some (.int .i64 x.x.q) ∧ w'.cell? ⟨g, c * 7 + 3, none⟩ = some (.slice x.A x.x.r.length x.c) ∧ w'.cell? ⟨g, c * 7 + 4, none⟩ = some (.int .i64 x.x.c) ∧ w'.cell? ⟨g, c * 7 + 5, none⟩ = some (.int .i64 x.x.b) ∧ w'.cell? ⟨g, c * 7 + 6, none⟩ = some (.int .i64 x.x.e)))) (by kernel_rfl) hSd (fun hHeld => ?_)
        generalize wr.drew = wd at hHeld ⊢
        have hHeld : (fun w' => Below wr.heap.size wr w' ∧ (w'.cell? ⟨g, pc * 7, none⟩ = some (.int .i64 y.x.p) ∧ w'.cell? ⟨g, pc * 7 + 1, none⟩ = some (.int .i64 y.x.o) ∧ w'.cell? ⟨g, pc * 7 + 2, none⟩ = some (.int .i64 y.x.q) ∧ w'.cell? ⟨g, pc * 7 + 3, none⟩ = some (.slice y.A y.x.r.length y.c) ∧ w'.cell? ⟨g, pc * 7 + 4, none⟩ = some (.int .i64 y.x.c) ∧ w'.cell? ⟨g, pc * 7 + 5, none⟩ = some (.int .i64 y.x.b) ∧ w'.cell? ⟨g, pc * 7 + 6, none⟩ = some (.int .i64 y.x.e)) ∧ (w'.cell? ⟨g, c * 7, none⟩ = some (.int .i64 x.x.p) ∧ w'.cell? ⟨g, c * 7 + 1, none⟩ = some (.int .i64 x.x.o) ∧ w'.cell? ⟨g, c * 7 + 2, none⟩ = some (.int .i64 x.x.q) ∧ w'.cell? ⟨g, c * 7 + 3, none⟩ = some (.slice x.A x.x.r.length x.c) ∧ w'.cell? ⟨g, c * 7 + 4, none⟩ = some (.int .i64 x.x.c) ∧ w'.cell? ⟨g, c * 7 + 5, none⟩ = some (.int .i64 x.x.b) ∧ w'.cell? ⟨g, c * 7 + 6, none⟩ = some (.int .i64 x.x.e))) wd := hHeld
        refine wpAnyH_take (i := 0) (oi := ?_) (v := ?_) ?_ (by kernel_rfl) (by kernel_rfl) (by kernel_rfl) ?_ (Or.inl ⟨?_, ?_⟩) (by assumption) ?_
        rotate_left 2
        · (simp only [List.getElem?_toArray, List.getElem?_cons_zero]; rfl)
        · first | exact fun _ _ _ h => h | exact fun _ _ _ h => by cases h.1
        · rfl
        · ((intro wq hSq; (try dsimp only at hSq); go_simp); (try with_reducible rfl))
        try simp only [Act.put, List.setIfInBounds_toArray, List.set_cons_zero, List.set_cons_succ]
        refine wpAnyH_take (i := 1) (oi := ?_) (v := ?_) ?_ (by kernel_rfl) (by kernel_rfl) (by kernel_rfl) ?_ (Or.inl ⟨?_, ?_⟩) (by assumption) ?_
        rotate_left 2
        · (simp only [List.getElem?_toArray, List.getElem?_cons_succ, List.getElem?_cons_zero]; rfl)
        · first | exact fun _ _ _ h => h | exact fun _ _ _ h => by cases h.1
        · rfl
        · ((intro wq hSq; (try dsimp only at hSq); go_simp); (try with_reducible rfl))
        try simp only [Act.put, List.setIfInBounds_toArray, List.set_cons_zero, List.set_cons_succ]
        refine wpAnyH_take (i := 2) (oi := ?_) (v := ?_) ?_ (by kernel_rfl) (by kernel_rfl) (by kernel_rfl) ?_ (Or.inl ⟨?_, ?_⟩) (by assumption) ?_
        rotate_left 2
        · (simp only [List.getElem?_toArray, List.getElem?_cons_succ, List.getElem?_cons_zero]; rfl)
        · first | exact fun _ _ _ h => h | exact fun _ _ _ h => by cases h.1
        · rfl
        · ((intro wq hSq; (try dsimp only at hSq); go_simp); (try with_reducible rfl))
        try simp only [Act.put, List.setIfInBounds_toArray, List.set_cons_zero, List.set_cons_succ]
        refine wpAnyH_take (i := 3) (oi := ?_) (v := ?_) ?_ (by kernel_rfl) (by kernel_rfl) (by kernel_rfl) ?_ (Or.inl ⟨?_, ?_⟩) (by assumption) ?_
        rotate_left 2
        · (simp only [List.getElem?_toArray, List.getElem?_cons_succ, List.getElem?_cons_zero]; rfl)
        · first | exact fun _ _ _ h => h | exact fun _ _ _ h => by cases h.1
        · rfl
        · ((intro wq hSq; (try dsimp only at hSq); go_simp); (try with_reducible rfl))
        try simp only [Act.put, List.setIfInBounds_toArray, List.set_cons_zero, List.set_cons_succ]
        refine wpAnyH_take (i := 4) (oi := ?_) (v := ?_) ?_ (by kernel_rfl) (by kernel_rfl) (by kernel_rfl) ?_ (Or.inl ⟨?_, ?_⟩) (by assumption) ?_
        rotate_left 2
        · (simp only [List.getElem?_toArray, List.getElem?_cons_succ, List.getElem?_cons_zero]; rfl)
        · first | exact fun _ _ _ h => h | exact fun _ _ _ h => by cases h.1
        · rfl
        · ((intro wq hSq; (try dsimp only at hSq); go_simp); (try with_reducible rfl))
        try simp only [Act.put, List.setIfInBounds_toArray, List.set_cons_zero, List.set_cons_succ]
        refine wpAnyH_take (i := 5) (oi := ?_) (v := ?_) ?_ (by kernel_rfl) (by kernel_rfl) (by kernel_rfl) ?_ (Or.inl ⟨?_, ?_⟩) (by assumption) ?_
        rotate_left 2
        · (simp only [List.getElem?_toArray, List.getElem?_cons_succ, List.getElem?_cons_zero]; rfl)
        · first | exact fun _ _ _ h => h | exact fun _ _ _ h => by cases h.1
        · rfl
        · ((intro wq hSq; (try dsimp only at hSq); go_simp); (try with_reducible rfl))
        try simp only [Act.put, List.setIfInBounds_toArray, List.set_cons_zero, List.set_cons_succ]
        refine wpAnyH_take (i := 6) (oi := ?_) (v := ?_) ?_ (by kernel_rfl) (by kernel_rfl) (by kernel_rfl) ?_ (Or.inl ⟨?_, ?_⟩) (by assumption) ?_
        rotate_left 2
        · (simp only [List.getElem?_toArray, List.getElem?_cons_succ, List.getElem?_cons_zero]; rfl)
        · first | exact fun _ _ _ h => h | exact fun _ _ _ h => by cases h.1
        · rfl
        · ((intro wq hSq; (try dsimp only at hSq); go_simp); (try with_reducible rfl))
        try simp only [Act.put, List.setIfInBounds_toArray, List.set_cons_zero, List.set_cons_succ]
        refine wpAnyH_take (i := 7) (oi := ?_) (v := ?_) ?_ (by kernel_rfl) (by kernel_rfl) (by kernel_rfl) ?_ (Or.inl ⟨?_, ?_⟩) (by assumption) ?_
        rotate_left 2
        · (simp only [List.getElem?_toArray, List.getElem?_cons_succ, List.getElem?_cons_zero]; rfl)
        · first | exact fun _ _ _ h => h | exact fun _ _ _ h => by cases h.1
        · rfl
        · ((intro wq hSq; (try dsimp only at hSq); go_simp); (try with_reducible rfl))
        try simp only [Act.put, List.setIfInBounds_toArray, List.set_cons_zero, List.set_cons_succ]
        refine wpAnyH_take (i := 8) (oi := ?_) (v := ?_) ?_ (by kernel_rfl) (by kernel_rfl) (by kernel_rfl) ?_ (Or.inl ⟨?_, ?_⟩) (by assumption) ?_
        rotate_left 2
        · (simp only [List.getElem?_toArray, List.getElem?_cons_succ, List.getElem?_cons_zero]; rfl)
        · first | exact fun _ _ _ h => h | exact fun _ _ _ h => by cases h.1
        · rfl
        · ((intro wq hSq; (try dsimp only at hSq); go_simp); (try with_reducible rfl))
        try simp only [Act.put, List.setIfInBounds_toArray, List.set_cons_zero, List.set_cons_succ]
        refine wpAnyH_take (i := 9) (oi := ?_) (v := ?_) ?_ (by kernel_rfl) (by kernel_rfl) (by kernel_rfl) ?_ (Or.inl ⟨?_, ?_⟩) (by assumption) ?_
        rotate_left 2
        · (simp only [List.getElem?_toArray, List.getElem?_cons_succ, List.getElem?_cons_zero]; rfl)
        · first | exact fun _ _ _ h => h | exact fun _ _ _ h => by cases h.1
        · rfl
        · ((intro wq hSq; (try dsimp only at hSq); go_simp); (try with_reducible rfl))
        try simp only [Act.put, List.setIfInBounds_toArray, List.set_cons_zero, List.set_cons_succ]
        refine wpAnyH_take (i := 10) (oi := ?_) (v := ?_) ?_ (by kernel_rfl) (by kernel_rfl) (by kernel_rfl) ?_ (Or.inl ⟨?_, ?_⟩) (by assumption) ?_
        rotate_left 2
        · (simp only [List.getElem?_toArray, List.getElem?_cons_succ, List.getElem?_cons_zero]; rfl)
        · first | exact fun _ _ _ h => h | exact fun _ _ _ h => by cases h.1
        · rfl
        · ((intro wq hSq; (try dsimp only at hSq); go_simp); (try with_reducible rfl))
        try simp only [Act.put, List.setIfInBounds_toArray, List.set_cons_zero, List.set_cons_succ]
        refine wpAnyH_ready (rs := [11]) (by kernel_rfl) (by simp) ?_
        refine AllReadyH.cons (o := ?_) ?_ (fun K hK => ?_) AllReadyH.nil
        rotate_left
        · (simp only [List.getElem?_toArray, List.getElem?_cons_succ, List.getElem?_cons_zero]; rfl)
        go_simp
        go_at_call 43
        refine (HCM.out _).mono ?_
        rintro ex wx ⟨rfl, hbx⟩
        have hSx : (fun w' => Below wr.heap.size wr w' ∧ (w'.cell? ⟨g, pc * 7, none⟩ = some (.int .i64 y.x.p) ∧ w'.cell? ⟨g, pc * 7 + 1, none⟩ = some (.int .i64 y.x.o) ∧ w'.cell? ⟨g, pc * 7 + 2, none⟩ = some (.int .i64 y.x.q) ∧ w'.cell? ⟨g, pc * 7 + 3, none⟩ = some (.slice y.A y.x.r.length y.c) ∧ w'.cell? ⟨g, pc * 7 + 4, none⟩ = some (.int .i64 y.x.c) ∧ w'.cell? ⟨g, pc * 7 + 5, none⟩ = some (.int .i64 y.x.b) ∧ w'.cell? ⟨g, pc * 7 + 6, none⟩ = some (.int .i64 y.x.e)) ∧ (w'.cell? ⟨g, c * 7, none⟩ = some (.int .i64 x.x.p) ∧ w'.cell? ⟨g, c * 7 + 1, none⟩ = some (.int .i64 x.x.o) ∧ w'.cell? ⟨g, c * 7 + 2, none⟩ = some (.int .i64 x.x.q) ∧ w'.cell? ⟨g, c * 7 + 3, none⟩ = some (.slice x.A x.x.r.length x.c) ∧ w'.cell? ⟨g, c * 7 + 4, none⟩ = some (.int .i64 x.x.c) ∧ w'.cell? ⟨g, c * 7 + 5, none⟩ = some (.int .i64 x.x.b) ∧ w'.cell? ⟨g, c * 7 + 6, none⟩ = some (.int .i64 x.x.e))) wx := by
          obtain ⟨h0, ⟨u0, u1, u2, u3, u4, u5, u6⟩, v0, v1, v2, v3, v4, v5, v6⟩ := hHeld
          have hk : ∀ {i : Nat} {u : Value}, _ → wx.cell? ⟨g, i, none⟩ = some u := fun {i u} hc => (hbx.cell (p := ⟨g, i, none⟩) (cell_lt hc)).trans hc
          exact ⟨h0.trans (hbx.mono h0.size), ⟨hk u0, hk u1, hk u2, hk u3, hk u4, hk u5, hk u6⟩, hk v0, hk v1, hk v2, hk v3, hk v4, hk v5, hk v6⟩
        refine hK.out _ _ hSx (fun hHeld => ?_)
        clear hK K
        try simp only [Act.put, List.setIfInBounds_toArray, List.set_cons_zero, List.set_cons_succ]
        refine wpAnyH_take (i := 12) (oi := ?_) (v := ?_) ?_ (by kernel_rfl) (by kernel_rfl) (by kernel_rfl) ?_ (Or.inl ⟨?_, ?_⟩) (by assumption) ?_
        rotate_left 2
        · (simp only [List.getElem?_toArray, List.getElem?_cons_succ, List.getElem?_cons_zero]; rfl)
        · first | exact fun _ _ _ h => h | exact fun _ _ _ h => by cases h.1
        · rfl
        · ((intro wq hSq; (try dsimp only at hSq); go_simp); (try with_reducible rfl))
        try simp only [Act.put, List.setIfInBounds_toArray, List.set_cons_zero, List.set_cons_succ]
        refine wpAnyH_take (i := 13) (oi := ?_) (v := ?_) ?_ (by kernel_rfl) (by kernel_rfl) (by kernel_rfl) ?_ (Or.inl ⟨?_, ?_⟩) (by assumption) ?_
        rotate_left 2
        · (simp only [List.getElem?_toArray, List.getElem?_cons_succ, List.getElem?_cons_zero]; rfl)
        · first | exact fun _ _ _ h => h | exact fun _ _ _ h => by cases h.1
        · rfl
        · ((intro wq hSq; (try dsimp only at hSq); go_simp); (try with_reducible rfl))
        try simp only [Act.put, List.setIfInBounds_toArray, List.set_cons_zero, List.set_cons_succ]
        refine wpAnyH_done (by kernel_rfl) ?_ _
        have hb := hHeld.1
        have hr' := Lib.hid (HR.out.kept hb)
        have hk' := Lib.hid (HK.out.trans (KpG.of hb))
        clear hSd hHeld hSx hb HR HK
        go_wp2_with fail
        go_roundw
        case rel =>
          obtain ⟨hs, hcc, hsr, hr, hpc, q1, q2, q3, q4⟩ := HH.out
          have htg := HS.out.2.2 x (List.mem_of_getElem? HX.out) y (List.mem_of_getElem? HY.out)
          refine ⟨c + 1, r, by first | rfl | exact val_int (by omega), rfl, by omega, by omega, hr, .inr ⟨x, y, by omega, ?_, ?_, ltE_else htg (by rw [HCQ.out]; exact of_decide_eq_false hneg)⟩, HHI.out, hr'.out, hk'.out⟩
          · rw [show c + 1 - 1 - a = c - a by omega]; exact HX.out
          · rw [show p - (c + 1 - 1) - m = pc - m by omega]; exact HY.out
        case measure => have := HH.out; simp [intOf]; omega
      · go_wp2_with fail
        refine wp_region_held_drew (S := (fun w' => Below wr.heap.size wr w' ∧ (w'.cell? ⟨g, pc * 7, none⟩ = some (.int .i64 y.x.p) ∧ w'.cell? ⟨g, pc * 7 + 1, none⟩ = some (.int .i64 y.x.o) ∧ w'.cell? ⟨g, pc * 7 + 2, none⟩ = some (.int .i64 y.x.q) ∧ w'.cell? ⟨g, pc * 7 + 3, none⟩ = some (.slice y.A y.x.r.length y.c) ∧ w'.cell? ⟨g, pc * 7 + 4, none⟩ = some (.int .i64 y.x.c) ∧ w'.cell? ⟨g, pc * 7 + 5, none⟩ = some (.int .i64 y.x.b) ∧ w'.cell? ⟨g, pc * 7 + 6, none⟩ = some (.int .i64 y.x.e)) ∧ (w'.cell? ⟨g, c * 7, none⟩ = some (.int .i64 x.x.p) ∧ w'.cell? ⟨g, c * 7 + 1, none⟩ = some (.int .i64 x.x.o) ∧ w'.cell? ⟨g, c * 7 + 2, none⟩ = some (.int .i64 x.x.q) ∧ w'.cell? ⟨g, c * 7 + 3, none⟩ = some (.slice x.A x.x.r.length x.c) ∧ w'.cell? ⟨g, c * 7 + 4, none⟩ = some (.int .i64 x.x.c) ∧ w'.cell? ⟨g, c * 7 + 5, none⟩ = some (.int .i64 x.x.b) ∧ w'.cell? ⟨g, c * 7 + 6, none⟩ = some (.int .i64 x.x.e)))) (by kernel_rfl) hSd (fun hHeld => ?_)
        generalize wr.drew = wd at hHeld ⊢
        have hHeld : (fun w' => Below wr.heap.size wr w' ∧ (w'.cell? ⟨g, pc * 7, none⟩ = some (.int .i64 y.x.p) ∧ w'.cell? ⟨g, pc * 7 + 1, none⟩ = some (.int .i64 y.x.o) ∧ w'.cell? ⟨g, pc * 7 + 2, none⟩ = some (.int .i64 y.x.q) ∧ w'.cell? ⟨g, pc * 7 + 3, none⟩ = some (.slice y.A y.x.r.length y.c) ∧ w'.cell? ⟨g, pc * 7 + 4, none⟩ = some (.int .i64 y.x.c) ∧ w'.cell? ⟨g, pc * 7 + 5, none⟩ = some (.int .i64 y.x.b) ∧ w'.cell? ⟨g, pc * 7 + 6, none⟩ = some (.int .i64 y.x.e)) ∧ (w'.cell? ⟨g, c * 7, none⟩ = some (.int .i64 x.x.p) ∧ w'.cell? ⟨g, c * 7 + 1, none⟩ = some (.int .i64 x.x.o) ∧ w'.cell? ⟨g, c * 7 + 2, none⟩ = some (.int .i64 x.x.q) ∧ w'.cell? ⟨g, c * 7 + 3, none⟩ = some (.slice x.A x.x.r.length x.c) ∧ w'.cell? ⟨g, c * 7 + 4, none⟩ = some (.int .i64 x.x.c) ∧ w'.cell? ⟨g, c * 7 + 5, none⟩ = some (.int .i64 x.x.b) ∧ w'.cell? ⟨g, c * 7 + 6, none⟩ = some (.int .i64 x.x.e))) wd := hHeld
        refine wpAnyH_take (i := 0) (oi := ?_) (v := ?_) ?_ (by kernel_rfl) (by kernel_rfl) (by kernel_rfl) ?_ (Or.inl ⟨?_, ?_⟩) (by assumption) ?_
        rotate_left 2
        · (simp only [List.getElem?_toArray, List.getElem?_cons_zero]; rfl)
        · first | exact fun _ _ _ h => h | exact fun _ _ _ h => by cases h.1
        · rfl
        · ((intro wq hSq; (try dsimp only at hSq); go_simp); (try with_reducible rfl))
        try simp only [Act.put, List.setIfInBounds_toArray, List.set_cons_zero, List.set_cons_succ]
        refine wpAnyH_take (i := 1) (oi := ?_) (v := ?_) ?_ (by kernel_rfl) (by kernel_rfl) (by kernel_rfl) ?_ (Or.inl ⟨?_, ?_⟩) (by assumption) ?_
        rotate_left 2
        · (simp only [List.getElem?_toArray, List.getElem?_cons_succ, List.getElem?_cons_zero]; rfl)
        · first | exact fun _ _ _ h => h | exact fun _ _ _ h => by cases h.1
        · rfl
        · ((intro wq hSq; (try dsimp only at hSq); go_simp); (try with_reducible rfl))
        try simp only [Act.put, List.setIfInBounds_toArray, List.set_cons_zero, List.set_cons_succ]
        refine wpAnyH_take (i := 2) (oi := ?_) (v := ?_) ?_ (by kernel_rfl) (by kernel_rfl) (by kernel_rfl) ?_ (Or.inl ⟨?_, ?_⟩) (by assumption) ?_
        rotate_left 2
        · (simp only [List.getElem?_toArray, List.getElem?_cons_succ, List.getElem?_cons_zero]; rfl)
        · first | exact fun _ _ _ h => h | exact fun _ _ _ h => by cases h.1
        · rfl
        · ((intro wq hSq; (try dsimp only at hSq); go_simp); (try with_reducible rfl))
        try simp only [Act.put, List.setIfInBounds_toArray, List.set_cons_zero, List.set_cons_succ]
        refine wpAnyH_take (i := 3) (oi := ?_) (v := ?_) ?_ (by kernel_rfl) (by kernel_rfl) (by kernel_rfl) ?_ (Or.inl ⟨?_, ?_⟩) (by assumption) ?_
        rotate_left 2
        · (simp only [List.getElem?_toArray, List.getElem?_cons_succ, List.getElem?_cons_zero]; rfl)
        · first | exact fun _ _ _ h => h | exact fun _ _ _ h => by cases h.1
        · rfl
        · ((intro wq hSq; (try dsimp only at hSq); go_simp); (try with_reducible rfl))
        try simp only [Act.put, List.setIfInBounds_toArray, List.set_cons_zero, List.set_cons_succ]
        refine wpAnyH_take (i := 4) (oi := ?_) (v := ?_) ?_ (by kernel_rfl) (by kernel_rfl) (by kernel_rfl) ?_ (Or.inl ⟨?_, ?_⟩) (by assumption) ?_
        rotate_left 2
        · (simp only [List.getElem?_toArray, List.getElem?_cons_succ, List.getElem?_cons_zero]; rfl)
        · first | exact fun _ _ _ h => h | exact fun _ _ _ h => by cases h.1
        · rfl
        · ((intro wq hSq; (try dsimp only at hSq); go_simp); (try with_reducible rfl))
        try simp only [Act.put, List.setIfInBounds_toArray, List.set_cons_zero, List.set_cons_succ]
        refine wpAnyH_take (i := 5) (oi := ?_) (v := ?_) ?_ (by kernel_rfl) (by kernel_rfl) (by kernel_rfl) ?_ (Or.inl ⟨?_, ?_⟩) (by assumption) ?_
        rotate_left 2
        · (simp only [List.getElem?_toArray, List.getElem?_cons_succ, List.getElem?_cons_zero]; rfl)
        · first | exact fun _ _ _ h => h | exact fun _ _ _ h => by cases h.1
        · rfl
        · ((intro wq hSq; (try dsimp only at hSq); go_simp); (try with_reducible rfl))
        try simp only [Act.put, List.setIfInBounds_toArray, List.set_cons_zero, List.set_cons_succ]
        refine wpAnyH_take (i := 6) (oi := ?_) (v := ?_) ?_ (by kernel_rfl) (by kernel_rfl) (by kernel_rfl) ?_ (Or.inl ⟨?_, ?_⟩) (by assumption) ?_
        rotate_left 2
        · (simp only [List.getElem?_toArray, List.getElem?_cons_succ, List.getElem?_cons_zero]; rfl)
        · first | exact fun _ _ _ h => h | exact fun _ _ _ h => by cases h.1
        · rfl
        · ((intro wq hSq; (try dsimp only at hSq); go_simp); (try with_reducible rfl))
        try simp only [Act.put, List.setIfInBounds_toArray, List.set_cons_zero, List.set_cons_succ]
        refine wpAnyH_take (i := 7) (oi := ?_) (v := ?_) ?_ (by kernel_rfl) (by kernel_rfl) (by kernel_rfl) ?_ (Or.inl ⟨?_, ?_⟩) (by assumption) ?_
        rotate_left 2
        · (simp only [List.getElem?_toArray, List.getElem?_cons_succ, List.getElem?_cons_zero]; rfl)
        · first | exact fun _ _ _ h => h | exact fun _ _ _ h => by cases h.1
        · rfl
        · ((intro wq hSq; (try dsimp only at hSq); go_simp); (try with_reducible rfl))
        try simp only [Act.put, List.setIfInBounds_toArray, List.set_cons_zero, List.set_cons_succ]
        refine wpAnyH_take (i := 8) (oi := ?_) (v := ?_) ?_ (by kernel_rfl) (by kernel_rfl) (by kernel_rfl) ?_ (Or.inl ⟨?_, ?_⟩) (by assumption) ?_
        rotate_left 2
        · (simp only [List.getElem?_toArray, List.getElem?_cons_succ, List.getElem?_cons_zero]; rfl)
        · first | exact fun _ _ _ h => h | exact fun _ _ _ h => by cases h.1
        · rfl
        · ((intro wq hSq; (try dsimp only at hSq); go_simp); (try with_reducible rfl))
        try simp only [Act.put, List.setIfInBounds_toArray, List.set_cons_zero, List.set_cons_succ]
        refine wpAnyH_take (i := 9) (oi := ?_) (v := ?_) ?_ (by kernel_rfl) (by kernel_rfl) (by kernel_rfl) ?_ (Or.inl ⟨?_, ?_⟩) (by assumption) ?_
        rotate_left 2
        · (simp only [List.getElem?_toArray, List.getElem?_cons_succ, List.getElem?_cons_zero]; rfl)
        · first | exact fun _ _ _ h => h | exact fun _ _ _ h => by cases h.1
        · rfl
        · ((intro wq hSq; (try dsimp only at hSq); go_simp); (try with_reducible rfl))
        try simp only [Act.put, List.setIfInBounds_toArray, List.set_cons_zero, List.set_cons_succ]
        refine wpAnyH_take (i := 10) (oi := ?_) (v := ?_) ?_ (by kernel_rfl) (by kernel_rfl) (by kernel_rfl) ?_ (Or.inl ⟨?_, ?_⟩) (by assumption) ?_
        rotate_left 2
        · (simp only [List.getElem?_toArray, List.getElem?_cons_succ, List.getElem?_cons_zero]; rfl)
        · first | exact fun _ _ _ h => h | exact fun _ _ _ h => by cases h.1
        · rfl
        · ((intro wq hSq; (try dsimp only at hSq); go_simp); (try with_reducible rfl))
        try simp only [Act.put, List.setIfInBounds_toArray, List.set_cons_zero, List.set_cons_succ]
        refine wpAnyH_ready (rs := [11]) (by kernel_rfl) (by simp) ?_
        refine AllReadyH.cons (o := ?_) ?_ (fun K hK => ?_) AllReadyH.nil
        rotate_left
        · (simp only [List.getElem?_toArray, List.getElem?_cons_succ, List.getElem?_cons_zero]; rfl)
        go_simp
        go_at_call 43
        refine (HCM.out _).mono ?_
        rintro ex wx ⟨rfl, hbx⟩
        have hSx : (fun w' => Below wr.heap.size wr w' ∧ (w'.cell? ⟨g, pc * 7, none⟩ = some (.int .i64 y.x.p) ∧ w'.cell? ⟨g, pc * 7 + 1, none⟩ = some (.int .i64 y.x.o) ∧ w'.cell? ⟨g, pc * 7 + 2, none⟩ = some (.int .i64 y.x.q) ∧ w'.cell? ⟨g, pc * 7 + 3, none⟩ = some (.slice y.A y.x.r.length y.c) ∧ w'.cell? ⟨g, pc * 7 + 4, none⟩ = some (.int .i64 y.x.c) ∧ w'.cell? ⟨g, pc * 7 + 5, none⟩ = some (.int .i64 y.x.b) ∧ w'.cell? ⟨g, pc * 7 + 6, none⟩ = some (.int .i64 y.x.e)) ∧ (w'.cell? ⟨g, c * 7, none⟩ = some (.int .i64 x.x.p) ∧ w'.cell? ⟨g, c * 7 + 1, none⟩ = some (.int .i64 x.x.o) ∧ w'.cell? ⟨g, c * 7 + 2, none⟩ = some (.int .i64 x.x.q) ∧ w'.cell? ⟨g, c * 7 + 3, none⟩ = some (.slice x.A x.x.r.length x.c) ∧ w'.cell? ⟨g, c * 7 + 4, none⟩ = some (.int .i64 x.x.c) ∧ w'.cell? ⟨g, c * 7 + 5, none⟩ = some (.int .i64 x.x.b) ∧ w'.cell? ⟨g, c * 7 + 6, none⟩ = some (.int .i64 x.x.e))) wx := by
          obtain ⟨h0, ⟨u0, u1, u2, u3, u4, u5, u6⟩, v0, v1, v2, v3, v4, v5, v6⟩ := hHeld
          have hk : ∀ {i : Nat} {u : Value}, _ → wx.cell? ⟨g, i, none⟩ = some u := fun {i u} hc => (hbx.cell (p := ⟨g, i, none⟩) (cell_lt hc)).trans hc
          exact ⟨h0.trans (hbx.mono h0.size), ⟨hk u0, hk u1, hk u2, hk u3, hk u4, hk u5, hk u6⟩, hk v0, hk v1, hk v2, hk v3, hk v4, hk v5, hk v6⟩
        refine hK.out _ _ hSx (fun hHeld => ?_)
        clear hK K
        try simp only [Act.put, List.setIfInBounds_toArray, List.set_cons_zero, List.set_cons_succ]
        refine wpAnyH_take (i := 12) (oi := ?_) (v := ?_) ?_ (by kernel_rfl) (by kernel_rfl) (by kernel_rfl) ?_ (Or.inl ⟨?_, ?_⟩) (by assumption) ?_
        rotate_left 2
        · (simp only [List.getElem?_toArray, List.getElem?_cons_succ, List.getElem?_cons_zero]; rfl)
        · first | exact fun _ _ _ h => h | exact fun _ _ _ h => by cases h.1
        · rfl
        · ((intro wq hSq; (try dsimp only at hSq); go_simp); (try with_reducible rfl))
        try simp only [Act.put, List.setIfInBounds_toArray, List.set_cons_zero, List.set_cons_succ]
        refine wpAnyH_take (i := 13) (oi := ?_) (v := ?_) ?_ (by kernel_rfl) (by kernel_rfl) (by kernel_rfl) ?_ (Or.inl ⟨?_, ?_⟩) (by assumption) ?_
        rotate_left 2
        · (simp only [List.getElem?_toArray, List.getElem?_cons_succ, List.getElem?_cons_zero]; rfl)
        · first | exact fun _ _ _ h => h | exact fun _ _ _ h => by cases h.1
        · rfl
        · ((intro wq hSq; (try dsimp only at hSq); go_simp); (try with_reducible rfl))
        try simp only [Act.put, List.setIfInBounds_toArray, List.set_cons_zero, List.set_cons_succ]
        refine wpAnyH_done (by kernel_rfl) ?_ _
        have hb := hHeld.1
        have hr' := Lib.hid (HR.out.kept hb)
        have hk' := Lib.hid (HK.out.trans (KpG.of hb))
        clear hSd hHeld hSx hb HR HK
        go_wp2_with fail
        go_roundw
        case rel =>
          obtain ⟨hs, hcc, hsr, hr, hpc, q1, q2, q3, q4⟩ := HH.out
          have htg := HS.out.2.2 x (List.mem_of_getElem? HX.out) y (List.mem_of_getElem? HY.out)
          refine ⟨s, c, rfl, rfl, hs, hcc.1, by omega, HLO.out, .inr ⟨x, y, by omega, HX.out, ?_, (ltE_later htg).2 (by rw [HCQ.out]; exact of_decide_eq_true hneg)⟩, hr'.out, hk'.out⟩
          rw [hpc]; exact HY.out
        case measure => have := HH.out; simp [intOf]; omega
    · have hsre : r = s := by omega
      subst hsre
      have c1 : decide ((r : Int) < (r : Int)) = false := by simp
      have c2 : decide (r < r) = false := by simp
      obtain ⟨q1, q2, q3, q4, q5, q6, q6b⟩ := HRNG.out.2.1 r hs hr
      obtain ⟨e, he⟩ : ∃ e, n - r = e := ⟨_, rfl⟩
      have hcf : CutF P (U.take (r - a)) (U.drop (r - a)) (V.take (e - m)) (V.drop (e - m)) R a r mid m e b N := by
        obtain ⟨l1, l2, l3, l4, l5⟩ := HLEN.out
        have HRO := HRNG.out.2.2
        have hmn : mid + m = n := by
          omega
        refine ⟨l1, by rw [List.length_take]; omega, by rw [List.length_drop]; omega, by rw [List.length_take]; omega, by rw [List.length_drop]; omega, by rw [List.length_take]; omega, by rw [List.take_append_drop]; exact HS.out.1, by rw [List.take_append_drop]; exact HS.out.2.1, by rw [List.take_append_drop, List.take_append_drop]; exact HS.out.2.2, cut_at HS.out.1 HS.out.2.1 ?_ ?_, l4⟩
        · rcases hlo with h | ⟨x, y, h0, hx, hy, hl⟩
          · have := HRO.1 r h
            omega
          · exact .inr (.inr ⟨x, y, by omega, by rw [show r - a - 1 = r - 1 - a by omega]; exact hx, by rw [show e - m = p - (r - 1) - m by omega]; exact hy, hl⟩)
        · rcases hhi with h | ⟨x, y, h0, hx, hy, hl⟩
          · have := HRO.2.1 r h
            omega
          · have hlt := get_lt hy
            by_cases hz : e - m = 0
            · exact .inl hz
            · exact .inr (.inr ⟨y, x, by omega, by rw [show e - m - 1 = p - r - m by omega]; exact hy, hx, hl⟩)
      have hsU : U.take (r - a) ++ U.drop (r - a) = U := List.take_append_drop _ _
      have hsV : V.take (e - m) ++ V.drop (e - m) = V := List.take_append_drop _ _
      generalize U.take (r - a) = U1 at hcf hsU
      generalize U.drop (r - a) = U2 at hcf hsU
      generalize V.take (e - m) = V1 at hcf hsV
      generalize V.drop (e - m) = V2 at hcf hsV
      have hrow : RowsG wr g (P ++ U1 ++ U2 ++ V1 ++ V2 ++ R) := by
        rw [← hsU, ← hsV] at hrow
        simpa using hrow
      have hszb : b - a ≤ sz + 1 := by have := HLEN.out; omega
      have e1 : (n : Int) - (r : Int) = (e : Int) := by omega
      have jw1 : IntKind.i64.wrap (e : Int) = (e : Int) := so_wrap (by omega) (by omega)
      have HSU := Lib.hid (And.intro hsU hsV)
      have HSZ := Lib.hid hszb
      have HR := Lib.hid hrow
      have HK := Lib.hid hk
      have HC := Lib.hid hcf
      have hmid2 := HRNG.out.2.2.2.2
      clear hlo hhi hs hr hsr hlt hsU hsV hrow hk hcf hszb q1 q2 q3 q4 q5 q6 q6b he
      obtain ⟨k1, hk1⟩ : ∃ k, U1.length = k := ⟨_, rfl⟩
      obtain ⟨k2, hk2⟩ : ∃ k, U2.length = k := ⟨_, rfl⟩
      obtain ⟨k3, hk3⟩ : ∃ k, V1.length = k := ⟨_, rfl⟩
      obtain ⟨k4, hk4⟩ : ∃ k, V2.length = k := ⟨_, rfl⟩
      have hle : a + k1 = r ∧ r + k2 = m ∧ m + k3 = e ∧ e + k4 = b ∧ r + k3 = mid := ⟨hk1 ▸ HC.out.ls, hk2 ▸ HC.out.lm, hk3 ▸ HC.out.le, hk4 ▸ HC.out.lb, hk3 ▸ HC.out.lmid⟩
      have HKK := Lib.hid (And.intro hk1 (And.intro hk2 (And.intro hk3 (And.intro hk4 (And.intro hle hmid2)))))
      have hall : (0 < k1 ∨ k1 = 0) ∧ (0 < k2 ∨ k2 = 0) ∧ (0 < k3 ∨ k3 = 0) ∧ (0 < k4 ∨ k4 = 0) := by omega
      obtain ⟨z1, z2, z3, z4⟩ := hall
      clear hk1 hk2 hk3 hk4
      rcases z1 with z1 | z1 <;> rcases z2 with z2 | z2 <;> rcases z3 with z3 | z3 <;> rcases z4 with z4 | z4
      · -- 1 1 1 1
        have ta1 : decide ((r : Int) < (m : Int)) = true := by rw [decide_eq_true_iff]; omega
        have ta2 : decide (r < m) = true := by rw [decide_eq_true_iff]; omega
        have tb1 : decide ((m : Int) < (e : Int)) = true := by rw [decide_eq_true_iff]; omega
        have tb2 : decide (m < e) = true := by rw [decide_eq_true_iff]; omega
        have tc1 : decide ((a : Int) < (r : Int)) = true := by rw [decide_eq_true_iff]; omega
        have tc2 : decide (a < r) = true := by rw [decide_eq_true_iff]; omega
        have td1 : decide ((r : Int) < (mid : Int)) = true := by rw [decide_eq_true_iff]; omega
        have td2 : decide (r < mid) = true := by rw [decide_eq_true_iff]; omega
        have te1 : decide ((mid : Int) < (e : Int)) = true := by rw [decide_eq_true_iff]; omega
        have te2 : decide (mid < e) = true := by rw [decide_eq_true_iff]; omega
        have tf1 : decide ((e : Int) < (b : Int)) = true := by rw [decide_eq_true_iff]; omega
        have tf2 : decide (e < b) = true := by rw [decide_eq_true_iff]; omega
        have HZ := Lib.hid (And.intro z1 (And.intro z2 (And.intro z3 z4)))
        clear z1 z2 z3 z4 hle hmid2
        go_wp2_with fail
        refine (HC.out.rot HR.out (by have := HKK.out; have := HZ.out; omega) (by have := HKK.out; have := HZ.out; omega) hcap hbig).mono ?_
        rintro x1 w1 ⟨rfl, hg1, hk1⟩
        have HG1 := Lib.hid hg1
        have HK1 := Lib.hid (HK.out.trans hk1)
        clear hg1 hk1 HK
        go_wp2_with fail
        refine (HC.out.left IH.out HSZ.out HG1.out (by have := HKK.out; have := HZ.out; omega) (by have := HKK.out; have := HZ.out; omega) (by have := HKK.out; have := HZ.out; omega) hcap hbig).mono ?_
        rintro x2 w2 ⟨rfl, W1, hg2, hp2, hs2, hk2⟩
        have HG2 := Lib.hid hg2
        have HP1 := Lib.hid (And.intro hp2 hs2)
        have HK2 := Lib.hid (HK1.out.trans hk2)
        clear hg2 hp2 hs2 hk2
        go_wp2_with fail
        refine (HC.out.right IH.out HSZ.out HP1.out.1 HG2.out (by have := HKK.out; have := HZ.out; omega) (by have := HKK.out; have := HZ.out; omega) (by have := HKK.out; have := HZ.out; omega) hcap hbig).mono ?_
        rintro x3 w3 ⟨rfl, W2, hg3, hp3, hs3, hk3⟩
        have HG3 := Lib.hid hg3
        have HP2 := Lib.hid (And.intro hp3 hs3)
        have HK3 := Lib.hid (HK2.out.trans hk3)
        clear hg3 hp3 hs3 hk3
        go_wp2_with fail
        (try simp only [Exit.inBlock, Exit.then])
        refine bodyPost_end (results_none rfl _ _ _) rfl ?_
        have hdone := HC.out.done HP1.out.1 HP2.out.1 HP1.out.2 HP2.out.2
        rw [HSU.out.1, HSU.out.2] at hdone
        exact ⟨rfl, _, HG3.out, hdone.1, hdone.2, HK3.out⟩
      · -- 1 1 1 0
        have ta1 : decide ((r : Int) < (m : Int)) = true := by rw [decide_eq_true_iff]; omega
        have ta2 : decide (r < m) = true := by rw [decide_eq_true_iff]; omega
        have tb1 : decide ((m : Int) < (e : Int)) = true := by rw [decide_eq_true_iff]; omega
        have tb2 : decide (m < e) = true := by rw [decide_eq_true_iff]; omega
        have tc1 : decide ((a : Int) < (r : Int)) = true := by rw [decide_eq_true_iff]; omega
        have tc2 : decide (a < r) = true := by rw [decide_eq_true_iff]; omega
        have td1 : decide ((r : Int) < (mid : Int)) = true := by rw [decide_eq_true_iff]; omega
        have td2 : decide (r < mid) = true := by rw [decide_eq_true_iff]; omega
        have te1 : decide ((mid : Int) < (e : Int)) = true := by rw [decide_eq_true_iff]; omega
        have te2 : decide (mid < e) = true := by rw [decide_eq_true_iff]; omega
        have tf1 : decide ((e : Int) < (b : Int)) = false := by rw [decide_eq_false_iff_not]; omega
        have tf2 : decide (e < b) = false := by rw [decide_eq_false_iff_not]; omega
        have HZ := Lib.hid (And.intro z1 (And.intro z2 (And.intro z3 z4)))
        clear z1 z2 z3 z4 hle hmid2
        go_wp2_with fail
        refine (HC.out.rot HR.out (by have := HKK.out; have := HZ.out; omega) (by have := HKK.out; have := HZ.out; omega) hcap hbig).mono ?_
        rintro x1 w1 ⟨rfl, hg1, hk1⟩
        have HG1 := Lib.hid hg1
        have HK1 := Lib.hid (HK.out.trans hk1)
        clear hg1 hk1 HK
        go_wp2_with fail
        refine (HC.out.left IH.out HSZ.out HG1.out (by have := HKK.out; have := HZ.out; omega) (by have := HKK.out; have := HZ.out; omega) (by have := HKK.out; have := HZ.out; omega) hcap hbig).mono ?_
        rintro x2 w2 ⟨rfl, W1, hg2, hp2, hs2, hk2⟩
        have HG2 := Lib.hid hg2
        have HP1 := Lib.hid (And.intro hp2 hs2)
        have HK2 := Lib.hid (HK1.out.trans hk2)
        clear hg2 hp2 hs2 hk2
        go_wp2_with fail
        have HP2 : Hid ((U2 ++ V2).Perm (U2 ++ V2) ∧ Srt ltE (U2 ++ V2)) := Lib.hid ⟨List.Perm.refl _, by
          have hz : V2 = [] := List.eq_nil_of_length_eq_zero (by have := HKK.out; have := HZ.out; omega)
          rw [hz]
          simpa using HC.out.sU.right⟩
        have HG3 : Hid (RowsG w2 g (P ++ (W1 ++ (U2 ++ V2)) ++ R)) := Lib.hid (by simpa using HG2.out)
        have HK3 := HK2
        (try simp only [Exit.inBlock, Exit.then])
        refine bodyPost_end (results_none rfl _ _ _) rfl ?_
        have hdone := HC.out.done HP1.out.1 HP2.out.1 HP1.out.2 HP2.out.2
        rw [HSU.out.1, HSU.out.2] at hdone
        exact ⟨rfl, _, HG3.out, hdone.1, hdone.2, HK3.out⟩
      · -- 1 1 0 1
        have ta1 : decide ((r : Int) < (m : Int)) = true := by rw [decide_eq_true_iff]; omega
        have ta2 : decide (r < m) = true := by rw [decide_eq_true_iff]; omega
        have tb1 : decide ((m : Int) < (e : Int)) = false := by rw [decide_eq_false_iff_not]; omega
        have tb2 : decide (m < e) = false := by rw [decide_eq_false_iff_not]; omega
        have tc1 : decide ((a : Int) < (r : Int)) = true := by rw [decide_eq_true_iff]; omega
        have tc2 : decide (a < r) = true := by rw [decide_eq_true_iff]; omega
        have td1 : decide ((r : Int) < (mid : Int)) = false := by rw [decide_eq_false_iff_not]; omega
        have td2 : decide (r < mid) = false := by rw [decide_eq_false_iff_not]; omega
        have te1 : decide ((mid : Int) < (e : Int)) = true := by rw [decide_eq_true_iff]; omega
        have te2 : decide (mid < e) = true := by rw [decide_eq_true_iff]; omega
        have tf1 : decide ((e : Int) < (b : Int)) = true := by rw [decide_eq_true_iff]; omega
        have tf2 : decide (e < b) = true := by rw [decide_eq_true_iff]; omega
        have HZ := Lib.hid (And.intro z1 (And.intro z2 (And.intro z3 z4)))
        clear z1 z2 z3 z4 hle hmid2
        go_wp2_with fail
        have HG1 : Hid (RowsG wr g (P ++ U1 ++ V1 ++ U2 ++ V2 ++ R)) := Lib.hid (by
          have h0 := HR.out
          have hz : V1 = [] := List.eq_nil_of_length_eq_zero (by have := HKK.out; have := HZ.out; omega)
          rw [hz] at h0 ⊢
          simpa using h0)
        have HK1 := HK
        clear HK
        have HP1 : Hid ((U1 ++ V1).Perm (U1 ++ V1) ∧ Srt ltE (U1 ++ V1)) := Lib.hid ⟨List.Perm.refl _, by
          have hz : V1 = [] := List.eq_nil_of_length_eq_zero (by have := HKK.out; have := HZ.out; omega)
          rw [hz]
          simpa using HC.out.sU.left⟩
        have HG2 : Hid (RowsG wr g (P ++ (U1 ++ V1) ++ (U2 ++ V2 ++ R))) := Lib.hid (by simpa using HG1.out)
        have HK2 := HK1
        clear HK1
        refine (HC.out.right IH.out HSZ.out HP1.out.1 HG2.out (by have := HKK.out; have := HZ.out; omega) (by have := HKK.out; have := HZ.out; omega) (by have := HKK.out; have := HZ.out; omega) hcap hbig).mono ?_
        rintro x3 w3 ⟨rfl, W2, hg3, hp3, hs3, hk3⟩
        have HG3 := Lib.hid hg3
        have HP2 := Lib.hid (And.intro hp3 hs3)
        have HK3 := Lib.hid (HK2.out.trans hk3)
        clear hg3 hp3 hs3 hk3
        go_wp2_with fail
        (try simp only [Exit.inBlock, Exit.then])
        refine bodyPost_end (results_none rfl _ _ _) rfl ?_
        have hdone := HC.out.done HP1.out.1 HP2.out.1 HP1.out.2 HP2.out.2
        rw [HSU.out.1, HSU.out.2] at hdone
        exact ⟨rfl, _, HG3.out, hdone.1, hdone.2, HK3.out⟩
      · -- 1 1 0 0
        have ta1 : decide ((r : Int) < (m : Int)) = true := by rw [decide_eq_true_iff]; omega
        have ta2 : decide (r < m) = true := by rw [decide_eq_true_iff]; omega
        have tb1 : decide ((m : Int) < (e : Int)) = false := by rw [decide_eq_false_iff_not]; omega
        have tb2 : decide (m < e) = false := by rw [decide_eq_false_iff_not]; omega
        have tc1 : decide ((a : Int) < (r : Int)) = true := by rw [decide_eq_true_iff]; omega
        have tc2 : decide (a < r) = true := by rw [decide_eq_true_iff]; omega
        have td1 : decide ((r : Int) < (mid : Int)) = false := by rw [decide_eq_false_iff_not]; omega
        have td2 : decide (r < mid) = false := by rw [decide_eq_false_iff_not]; omega
        have te1 : decide ((mid : Int) < (e : Int)) = true := by rw [decide_eq_true_iff]; omega
        have te2 : decide (mid < e) = true := by rw [decide_eq_true_iff]; omega
        have tf1 : decide ((e : Int) < (b : Int)) = false := by rw [decide_eq_false_iff_not]; omega
        have tf2 : decide (e < b) = false := by rw [decide_eq_false_iff_not]; omega
        have HZ := Lib.hid (And.intro z1 (And.intro z2 (And.intro z3 z4)))
        clear z1 z2 z3 z4 hle hmid2
        go_wp2_with fail
        have HG1 : Hid (RowsG wr g (P ++ U1 ++ V1 ++ U2 ++ V2 ++ R)) := Lib.hid (by
          have h0 := HR.out
          have hz : V1 = [] := List.eq_nil_of_length_eq_zero (by have := HKK.out; have := HZ.out; omega)
          rw [hz] at h0 ⊢
          simpa using h0)
        have HK1 := HK
        clear HK
        have HP1 : Hid ((U1 ++ V1).Perm (U1 ++ V1) ∧ Srt ltE (U1 ++ V1)) := Lib.hid ⟨List.Perm.refl _, by
          have hz : V1 = [] := List.eq_nil_of_length_eq_zero (by have := HKK.out; have := HZ.out; omega)
          rw [hz]
          simpa using HC.out.sU.left⟩
        have HG2 : Hid (RowsG wr g (P ++ (U1 ++ V1) ++ (U2 ++ V2 ++ R))) := Lib.hid (by simpa using HG1.out)
        have HK2 := HK1
        clear HK1
        have HP2 : Hid ((U2 ++ V2).Perm (U2 ++ V2) ∧ Srt ltE (U2 ++ V2)) := Lib.hid ⟨List.Perm.refl _, by
          have hz : V2 = [] := List.eq_nil_of_length_eq_zero (by have := HKK.out; have := HZ.out; omega)
          rw [hz]
          simpa using HC.out.sU.right⟩
        have HG3 : Hid (RowsG wr g (P ++ ((U1 ++ V1) ++ (U2 ++ V2)) ++ R)) := Lib.hid (by simpa using HG2.out)
        have HK3 := HK2
        (try simp only [Exit.inBlock, Exit.then])
        refine bodyPost_end (results_none rfl _ _ _) rfl ?_
        have hdone := HC.out.done HP1.out.1 HP2.out.1 HP1.out.2 HP2.out.2
        rw [HSU.out.1, HSU.out.2] at hdone
        exact ⟨rfl, _, HG3.out, hdone.1, hdone.2, HK3.out⟩
      · -- 1 0 1 1
        have ta1 : decide ((r : Int) < (m : Int)) = false := by rw [decide_eq_false_iff_not]; omega
        have ta2 : decide (r < m) = false := by rw [decide_eq_false_iff_not]; omega
        have tb1 : decide ((m : Int) < (e : Int)) = true := by rw [decide_eq_true_iff]; omega
        have tb2 : decide (m < e) = true := by rw [decide_eq_true_iff]; omega
        have tc1 : decide ((a : Int) < (r : Int)) = true := by rw [decide_eq_true_iff]; omega
        have tc2 : decide (a < r) = true := by rw [decide_eq_true_iff]; omega
        have td1 : decide ((r : Int) < (mid : Int)) = true := by rw [decide_eq_true_iff]; omega
        have td2 : decide (r < mid) = true := by rw [decide_eq_true_iff]; omega
        have te1 : decide ((mid : Int) < (e : Int)) = false := by rw [decide_eq_false_iff_not]; omega
        have te2 : decide (mid < e) = false := by rw [decide_eq_false_iff_not]; omega
        have tf1 : decide ((e : Int) < (b : Int)) = true := by rw [decide_eq_true_iff]; omega
        have tf2 : decide (e < b) = true := by rw [decide_eq_true_iff]; omega
        have HZ := Lib.hid (And.intro z1 (And.intro z2 (And.intro z3 z4)))
        clear z1 z2 z3 z4 hle hmid2
        go_wp2_with fail
        have HG1 : Hid (RowsG wr g (P ++ U1 ++ V1 ++ U2 ++ V2 ++ R)) := Lib.hid (by
          have h0 := HR.out
          have hz : U2 = [] := List.eq_nil_of_length_eq_zero (by have := HKK.out; have := HZ.out; omega)
          rw [hz] at h0 ⊢
          simpa using h0)
        have HK1 := HK
        clear HK
        refine (HC.out.left IH.out HSZ.out HG1.out (by have := HKK.out; have := HZ.out; omega) (by have := HKK.out; have := HZ.out; omega) (by have := HKK.out; have := HZ.out; omega) hcap hbig).mono ?_
        rintro x2 w2 ⟨rfl, W1, hg2, hp2, hs2, hk2⟩
        have HG2 := Lib.hid hg2
        have HP1 := Lib.hid (And.intro hp2 hs2)
        have HK2 := Lib.hid (HK1.out.trans hk2)
        clear hg2 hp2 hs2 hk2
        go_wp2_with fail
        have HP2 : Hid ((U2 ++ V2).Perm (U2 ++ V2) ∧ Srt ltE (U2 ++ V2)) := Lib.hid ⟨List.Perm.refl _, by
          have hz : U2 = [] := List.eq_nil_of_length_eq_zero (by have := HKK.out; have := HZ.out; omega)
          rw [hz]
          simpa using HC.out.sV.right⟩
        have HG3 : Hid (RowsG w2 g (P ++ (W1 ++ (U2 ++ V2)) ++ R)) := Lib.hid (by simpa using HG2.out)
        have HK3 := HK2
        (try simp only [Exit.inBlock, Exit.then])
        refine bodyPost_end (results_none rfl _ _ _) rfl ?_
        have hdone := HC.out.done HP1.out.1 HP2.out.1 HP1.out.2 HP2.out.2
        rw [HSU.out.1, HSU.out.2] at hdone
        exact ⟨rfl, _, HG3.out, hdone.1, hdone.2, HK3.out⟩
      · exfalso; omega
      · -- 1 0 0 1
        have ta1 : decide ((r : Int) < (m : Int)) = false := by rw [decide_eq_false_iff_not]; omega
        have ta2 : decide (r < m) = false := by rw [decide_eq_false_iff_not]; omega
        have tb1 : decide ((m : Int) < (e : Int)) = false := by rw [decide_eq_false_iff_not]; omega
        have tb2 : decide (m < e) = false := by rw [decide_eq_false_iff_not]; omega
        have tc1 : decide ((a : Int) < (r : Int)) = true := by rw [decide_eq_true_iff]; omega
        have tc2 : decide (a < r) = true := by rw [decide_eq_true_iff]; omega
        have td1 : decide ((r : Int) < (mid : Int)) = false := by rw [decide_eq_false_iff_not]; omega
        have td2 : decide (r < mid) = false := by rw [decide_eq_false_iff_not]; omega
        have te1 : decide ((mid : Int) < (e : Int)) = false := by rw [decide_eq_false_iff_not]; omega
        have te2 : decide (mid < e) = false := by rw [decide_eq_false_iff_not]; omega
        have tf1 : decide ((e : Int) < (b : Int)) = true := by rw [decide_eq_true_iff]; omega
        have tf2 : decide (e < b) = true := by rw [decide_eq_true_iff]; omega
        have HZ := Lib.hid (And.intro z1 (And.intro z2 (And.intro z3 z4)))
        clear z1 z2 z3 z4 hle hmid2
        go_wp2_with fail
        have HG1 : Hid (RowsG wr g (P ++ U1 ++ V1 ++ U2 ++ V2 ++ R)) := Lib.hid (by
          have h0 := HR.out
          have hz : U2 = [] := List.eq_nil_of_length_eq_zero (by have := HKK.out; have := HZ.out; omega)
          rw [hz] at h0 ⊢
          simpa using h0)
        have HK1 := HK
        clear HK
        have HP1 : Hid ((U1 ++ V1).Perm (U1 ++ V1) ∧ Srt ltE (U1 ++ V1)) := Lib.hid ⟨List.Perm.refl _, by
          have hz : V1 = [] := List.eq_nil_of_length_eq_zero (by have := HKK.out; have := HZ.out; omega)
          rw [hz]
          simpa using HC.out.sU.left⟩
        have HG2 : Hid (RowsG wr g (P ++ (U1 ++ V1) ++ (U2 ++ V2 ++ R))) := Lib.hid (by simpa using HG1.out)
        have HK2 := HK1
        clear HK1
        have HP2 : Hid ((U2 ++ V2).Perm (U2 ++ V2) ∧ Srt ltE (U2 ++ V2)) := Lib.hid ⟨List.Perm.refl _, by
          have hz : U2 = [] := List.eq_nil_of_length_eq_zero (by have := HKK.out; have := HZ.out; omega)
          rw [hz]
          simpa using HC.out.sV.right⟩
        have HG3 : Hid (RowsG wr g (P ++ ((U1 ++ V1) ++ (U2 ++ V2)) ++ R)) := Lib.hid (by simpa using HG2.out)
        have HK3 := HK2
        (try simp only [Exit.inBlock, Exit.then])
        refine bodyPost_end (results_none rfl _ _ _) rfl ?_
        have hdone := HC.out.done HP1.out.1 HP2.out.1 HP1.out.2 HP2.out.2
        rw [HSU.out.1, HSU.out.2] at hdone
        exact ⟨rfl, _, HG3.out, hdone.1, hdone.2, HK3.out⟩
      · exfalso; omega
      · -- 0 1 1 1
        have ta1 : decide ((r : Int) < (m : Int)) = true := by rw [decide_eq_true_iff]; omega
        have ta2 : decide (r < m) = true := by rw [decide_eq_true_iff]; omega
        have tb1 : decide ((m : Int) < (e : Int)) = true := by rw [decide_eq_true_iff]; omega
        have tb2 : decide (m < e) = true := by rw [decide_eq_true_iff]; omega
        have tc1 : decide ((a : Int) < (r : Int)) = false := by rw [decide_eq_false_iff_not]; omega
        have tc2 : decide (a < r) = false := by rw [decide_eq_false_iff_not]; omega
        have td1 : decide ((r : Int) < (mid : Int)) = true := by rw [decide_eq_true_iff]; omega
        have td2 : decide (r < mid) = true := by rw [decide_eq_true_iff]; omega
        have te1 : decide ((mid : Int) < (e : Int)) = true := by rw [decide_eq_true_iff]; omega
        have te2 : decide (mid < e) = true := by rw [decide_eq_true_iff]; omega
        have tf1 : decide ((e : Int) < (b : Int)) = true := by rw [decide_eq_true_iff]; omega
        have tf2 : decide (e < b) = true := by rw [decide_eq_true_iff]; omega
        have HZ := Lib.hid (And.intro z1 (And.intro z2 (And.intro z3 z4)))
        clear z1 z2 z3 z4 hle hmid2
        go_wp2_with fail
        refine (HC.out.rot HR.out (by have := HKK.out; have := HZ.out; omega) (by have := HKK.out; have := HZ.out; omega) hcap hbig).mono ?_
        rintro x1 w1 ⟨rfl, hg1, hk1⟩
        have HG1 := Lib.hid hg1
        have HK1 := Lib.hid (HK.out.trans hk1)
        clear hg1 hk1 HK
        go_wp2_with fail
        have HP1 : Hid ((U1 ++ V1).Perm (U1 ++ V1) ∧ Srt ltE (U1 ++ V1)) := Lib.hid ⟨List.Perm.refl _, by
          have hz : U1 = [] := List.eq_nil_of_length_eq_zero (by have := HKK.out; have := HZ.out; omega)
          rw [hz]
          simpa using HC.out.sV.left⟩
        have HG2 : Hid (RowsG w1 g (P ++ (U1 ++ V1) ++ (U2 ++ V2 ++ R))) := Lib.hid (by simpa using HG1.out)
        have HK2 := HK1
        clear HK1
        refine (HC.out.right IH.out HSZ.out HP1.out.1 HG2.out (by have := HKK.out; have := HZ.out; omega) (by have := HKK.out; have := HZ.out; omega) (by have := HKK.out; have := HZ.out; omega) hcap hbig).mono ?_
        rintro x3 w3 ⟨rfl, W2, hg3, hp3, hs3, hk3⟩
        have HG3 := Lib.hid hg3
        have HP2 := Lib.hid (And.intro hp3 hs3)
        have HK3 := Lib.hid (HK2.out.trans hk3)
        clear hg3 hp3 hs3 hk3
        go_wp2_with fail
        (try simp only [Exit.inBlock, Exit.then])
        refine bodyPost_end (results_none rfl _ _ _) rfl ?_
        have hdone := HC.out.done HP1.out.1 HP2.out.1 HP1.out.2 HP2.out.2
        rw [HSU.out.1, HSU.out.2] at hdone
        exact ⟨rfl, _, HG3.out, hdone.1, hdone.2, HK3.out⟩
      · -- 0 1 1 0
        have ta1 : decide ((r : Int) < (m : Int)) = true := by rw [decide_eq_true_iff]; omega
        have ta2 : decide (r < m) = true := by rw [decide_eq_true_iff]; omega
        have tb1 : decide ((m : Int) < (e : Int)) = true := by rw [decide_eq_true_iff]; omega
        have tb2 : decide (m < e) = true := by rw [decide_eq_true_iff]; omega
        have tc1 : decide ((a : Int) < (r : Int)) = false := by rw [decide_eq_false_iff_not]; omega
        have tc2 : decide (a < r) = false := by rw [decide_eq_false_iff_not]; omega
        have td1 : decide ((r : Int) < (mid : Int)) = true := by rw [decide_eq_true_iff]; omega
        have td2 : decide (r < mid) = true := by rw [decide_eq_true_iff]; omega
        have te1 : decide ((mid : Int) < (e : Int)) = true := by rw [decide_eq_true_iff]; omega
        have te2 : decide (mid < e) = true := by rw [decide_eq_true_iff]; omega
        have tf1 : decide ((e : Int) < (b : Int)) = false := by rw [decide_eq_false_iff_not]; omega
        have tf2 : decide (e < b) = false := by rw [decide_eq_false_iff_not]; omega
        have HZ := Lib.hid (And.intro z1 (And.intro z2 (And.intro z3 z4)))
        clear z1 z2 z3 z4 hle hmid2
        go_wp2_with fail
        refine (HC.out.rot HR.out (by have := HKK.out; have := HZ.out; omega) (by have := HKK.out; have := HZ.out; omega) hcap hbig).mono ?_
        rintro x1 w1 ⟨rfl, hg1, hk1⟩
        have HG1 := Lib.hid hg1
        have HK1 := Lib.hid (HK.out.trans hk1)
        clear hg1 hk1 HK
        go_wp2_with fail
        have HP1 : Hid ((U1 ++ V1).Perm (U1 ++ V1) ∧ Srt ltE (U1 ++ V1)) := Lib.hid ⟨List.Perm.refl _, by
          have hz : U1 = [] := List.eq_nil_of_length_eq_zero (by have := HKK.out; have := HZ.out; omega)
          rw [hz]
          simpa using HC.out.sV.left⟩
        have HG2 : Hid (RowsG w1 g (P ++ (U1 ++ V1) ++ (U2 ++ V2 ++ R))) := Lib.hid (by simpa using HG1.out)
        have HK2 := HK1
        clear HK1
        have HP2 : Hid ((U2 ++ V2).Perm (U2 ++ V2) ∧ Srt ltE (U2 ++ V2)) := Lib.hid ⟨List.Perm.refl _, by
          have hz : V2 = [] := List.eq_nil_of_length_eq_zero (by have := HKK.out; have := HZ.out; omega)
          rw [hz]
          simpa using HC.out.sU.right⟩
        have HG3 : Hid (RowsG w1 g (P ++ ((U1 ++ V1) ++ (U2 ++ V2)) ++ R)) := Lib.hid (by simpa using HG2.out)
        have HK3 := HK2
        (try simp only [Exit.inBlock, Exit.then])
        refine bodyPost_end (results_none rfl _ _ _) rfl ?_
        have hdone := HC.out.done HP1.out.1 HP2.out.1 HP1.out.2 HP2.out.2
        rw [HSU.out.1, HSU.out.2] at hdone
        exact ⟨rfl, _, HG3.out, hdone.1, hdone.2, HK3.out⟩
      · exfalso; omega
      · exfalso; omega
      · -- 0 0 1 1
        have ta1 : decide ((r : Int) < (m : Int)) = false := by rw [decide_eq_false_iff_not]; omega
        have ta2 : decide (r < m) = false := by rw [decide_eq_false_iff_not]; omega
        have tb1 : decide ((m : Int) < (e : Int)) = true := by rw [decide_eq_true_iff]; omega
        have tb2 : decide (m < e) = true := by rw [decide_eq_true_iff]; omega
        have tc1 : decide ((a : Int) < (r : Int)) = false := by rw [decide_eq_false_iff_not]; omega
        have tc2 : decide (a < r) = false := by rw [decide_eq_false_iff_not]; omega
        have td1 : decide ((r : Int) < (mid : Int)) = true := by rw [decide_eq_true_iff]; omega
        have td2 : decide (r < mid) = true := by rw [decide_eq_true_iff]; omega
        have te1 : decide ((mid : Int) < (e : Int)) = false := by rw [decide_eq_false_iff_not]; omega
        have te2 : decide (mid < e) = false := by rw [decide_eq_false_iff_not]; omega
        have tf1 : decide ((e : Int) < (b : Int)) = true := by rw [decide_eq_true_iff]; omega
        have tf2 : decide (e < b) = true := by rw [decide_eq_true_iff]; omega
        have HZ := Lib.hid (And.intro z1 (And.intro z2 (And.intro z3 z4)))
        clear z1 z2 z3 z4 hle hmid2
        go_wp2_with fail
        have HG1 : Hid (RowsG wr g (P ++ U1 ++ V1 ++ U2 ++ V2 ++ R)) := Lib.hid (by
          have h0 := HR.out
          have hz : U2 = [] := List.eq_nil_of_length_eq_zero (by have := HKK.out; have := HZ.out; omega)
          rw [hz] at h0 ⊢
          simpa using h0)
        have HK1 := HK
        clear HK
        have HP1 : Hid ((U1 ++ V1).Perm (U1 ++ V1) ∧ Srt ltE (U1 ++ V1)) := Lib.hid ⟨List.Perm.refl _, by
          have hz : U1 = [] := List.eq_nil_of_length_eq_zero (by have := HKK.out; have := HZ.out; omega)
          rw [hz]
          simpa using HC.out.sV.left⟩
        have HG2 : Hid (RowsG wr g (P ++ (U1 ++ V1) ++ (U2 ++ V2 ++ R))) := Lib.hid (by simpa using HG1.out)
        have HK2 := HK1
        clear HK1
        have HP2 : Hid ((U2 ++ V2).Perm (U2 ++ V2) ∧ Srt ltE (U2 ++ V2)) := Lib.hid ⟨List.Perm.refl _, by
          have hz : U2 = [] := List.eq_nil_of_length_eq_zero (by have := HKK.out; have := HZ.out; omega)
          rw [hz]
          simpa using HC.out.sV.right⟩
        have HG3 : Hid (RowsG wr g (P ++ ((U1 ++ V1) ++ (U2 ++ V2)) ++ R)) := Lib.hid (by simpa using HG2.out)
        have HK3 := HK2
        (try simp only [Exit.inBlock, Exit.then])
        refine bodyPost_end (results_none rfl _ _ _) rfl ?_
        have hdone := HC.out.done HP1.out.1 HP2.out.1 HP1.out.2 HP2.out.2
        rw [HSU.out.1, HSU.out.2] at hdone
        exact ⟨rfl, _, HG3.out, hdone.1, hdone.2, HK3.out⟩
      · exfalso; omega
      · exfalso; omega
      · exfalso; omega

end Go.Proofs.Ytgmmblknaeepbaa

namespace Go.Proofs.Ytgmmblknaeepbaa
open Go.RowKit

theorem sym_any : ∀ sz : Nat, SymOk sz
  | 0 => fun g cap a m b N P U V R w hsz hg ha hm hb hU hV sU sV ht hN hcap hbig => by omega
  | sz + 1 => fun g cap a m b N P U V R w hsz hg ha hm hb hU hV sU sV ht hN hcap hbig => by
    by_cases h1 : U.length = 1
    · obtain ⟨u, rfl⟩ := List.length_eq_one_iff.1 h1
      refine (sym_left g cap a m b N P V R u w (by simpa using hg) ha (by simpa using hm) hb sV (fun f hf => ht u (by simp) f hf) (by simp at hm; omega) hcap hbig).mono ?_
      rintro e w1 ⟨rfl, W, q1, q2, q3⟩
      exact ⟨rfl, W, q1, by simpa using q2, q3⟩
    · by_cases h2 : V.length = 1
      · obtain ⟨u, rfl⟩ := List.length_eq_one_iff.1 h2
        refine (sym_right g cap a m b N P U R u w (by simpa using hg) ha hm (by simpa using hb) h1 sU (fun f hf => ht f hf u (by simp)) (by simp at hb; omega) hcap hbig).mono ?_
        rintro e w1 ⟨rfl, W, q1, q2, q3⟩
        exact ⟨rfl, W, q1, q2, q3⟩
      · by_cases h3 : (a + b) / 2 < m
        · exact sym_gt sz (sym_any sz) g cap a m b N P U V R w hsz hg ha hm hb (by omega) (by omega) sU sV ht hN hcap hbig h3
        · exact sym_le sz (sym_any sz) g cap a m b N P U V R w hsz hg ha hm hb (by omega) (by omega) sU sV ht hN hcap hbig (by omega)

end Go.Proofs.Ytgmmblknaeepbaa

namespace Go.Proofs.Ytgmmblknaeepbaa
open Go.RowKit

/-- A list that stands in sorted blocks of a size, each a permutation of what stood there at first. -/
inductive Bl (sz : Nat) : List El → List El → Prop
  | last {L L0 : List El} : L.length ≤ sz → Srt ltE L → L.Perm L0 → Bl sz L L0
  | more {U U0 L L0 : List El} : U.length = sz → Srt ltE U → U.Perm U0 → Bl sz L L0 → Bl sz (U ++ L) (U0 ++ L0)
theorem Bl.perm {sz : Nat} {L L0 : List El} (h : Bl sz L L0) : L.Perm L0 := by
  induction h with
  | last _ _ h => exact h
  | more _ _ h _ ih => exact h.append ih
theorem Bl.one {sz : Nat} {L L0 : List El} (h : Bl sz L L0) (hl : L.length ≤ sz) : Srt ltE L := by
  cases h with
  | last _ h _ => exact h
  | @more U U0 L' L0' hU h hp hr =>
    rw [List.length_append] at hl
    have h0 : L' = [] := List.eq_nil_of_length_eq_zero (by omega)
    subst h0
    simpa using h
theorem Bl.split {sz : Nat} {L L0 : List El} (h : Bl sz L L0) (hl : sz ≤ L.length) : ∃ U U0 E E0, L = U ++ E ∧ L0 = U0 ++ E0 ∧ U.length = sz ∧ Srt ltE U ∧ U.Perm U0 ∧ Bl sz E E0 := by
  cases h with
  | last h1 h2 h3 => exact ⟨L, L0, [], [], by simp, by simp, by omega, h2, h3, .last (by simp) List.Pairwise.nil (List.Perm.refl _)⟩
  | @more U U0 L' L0' hU h hp hr => exact ⟨U, U0, L', L0', rfl, rfl, hU, h, hp, hr⟩
/-- Full blocks, that any others may follow. -/
def BlD (sz : Nat) (D D0 : List El) : Prop := ∀ E E0, Bl sz E E0 → Bl sz (D ++ E) (D0 ++ E0)
theorem BlD.nil (sz : Nat) : BlD sz [] [] := fun _ _ h => h
theorem BlD.snoc {sz : Nat} {D D0 W W0 : List El} (h : BlD sz D D0) (hl : W.length = sz) (hs : Srt ltE W) (hp : W.Perm W0) : BlD sz (D ++ W) (D0 ++ W0) := fun E E0 hE => by
  rw [List.append_assoc, List.append_assoc]
  exact h _ _ (.more hl hs hp hE)
theorem tags_across {D U V E : List El} (h : (D ++ (U ++ (V ++ E))).Pairwise fun e f => e.t < f.t) : ∀ x ∈ U, ∀ y ∈ V, x.t < y.t := fun x hx y hy =>
  (List.pairwise_append.1 (List.pairwise_append.1 h).2.1).2.2 x hx y (List.mem_append_left _ hy)

end Go.Proofs.Ytgmmblknaeepbaa

namespace Go.Proofs.Ytgmmblknaeepbaa
open Go.RowKit
attribute [local go_sem] Oper.semAt_some

theorem insert_none (w : World) : Calls Try.prog 70 #[.slice none 0 0, .int .i64 0, .int .i64 0, .func (.func 43) #[] #[]] w fun e w' => e = .returned (.tuple #[]) ∧ w' = w := by
  go_enter Try.func70, Try.ntmps70
  go_wp2_with fail
  go_loopw [8] (fun i wr => i = .int .i64 1 ∧ wr = w) (fun _ _ => 0)
  case atStart => exact ⟨rfl, rfl⟩
  case round =>
    obtain ⟨rfl, rfl⟩ := hrel
    go_wp2_with fail
    (try simp only [Exit.inBlock, Exit.then])
    refine bodyPost_end (results_none rfl _ _ _) rfl ?_
    exact ⟨rfl, rfl⟩
theorem stable_none (w : World) : Calls Try.prog 61 #[.slice none 0 0, .int .i64 0, .func (.func 43) #[] #[]] w fun e w' => e = .returned (.tuple #[]) ∧ w' = w := by
  go_enter Try.func61, Try.ntmps61
  go_wp2_with fail
  go_loopw [7, 8] (fun a b wr => a = .int .i64 0 ∧ b = .int .i64 20 ∧ wr = w) (fun _ _ _ => 0)
  case atStart => exact ⟨rfl, rfl, rfl⟩
  case round =>
    obtain ⟨rfl, rfl, rfl⟩ := hrel
    go_wp2_with fail
    refine (insert_none _).mono ?_
    rintro e w1 ⟨rfl, rfl⟩
    go_wp2_with fail
    go_loopw [6] (fun i wq => i = .int .i64 20 ∧ wq = w1) (fun _ _ => 0)
    case atStart => exact ⟨rfl, rfl⟩
    case round =>
      obtain ⟨rfl, rfl⟩ := hrel
      go_wp2_with fail
      (try simp only [Exit.inBlock, Exit.then])
      refine bodyPost_end (results_none rfl _ _ _) rfl ?_
      exact ⟨rfl, rfl⟩

set_option maxRecDepth 100000 in
set_option maxHeartbeats 8000000 in
theorem stable_any (g cap n : Nat) (L0 : List El) (w : World) (hg : RowsG w g L0) (htag : L0.Pairwise fun e f => e.t < f.t) (hn : L0.length = n) (hcap : n ≤ cap) (hbig : n ≤ 10000) :
    Calls Try.prog 61 #[.slice (some ⟨g, 0, none⟩) n cap, .int .i64 (n : Int), .func (.func 43) #[] #[]] w fun e w' => e = .returned (.tuple #[]) ∧ ∃ L, RowsG w' g L ∧ L.Perm L0 ∧ Srt ltE L ∧ KpG g w w' := by
  have HG := Lib.hid hg
  have HT := Lib.hid htag
  have HN := Lib.hid hn
  clear hg htag hn
  go_enter Try.func61, Try.ntmps61
  go_wp2_with fail
  go_loopw [7, 8] (fun a b wr => ∃ (a' b' : Nat) (D D0 E0 : List El), a = .int .i64 (a' : Int) ∧ b = .int .i64 (b' : Int) ∧ b' = a' + 20 ∧ a' ≤ n ∧ D.length = a' ∧ L0 = D0 ++ E0 ∧ D0.length = a' ∧ BlD 20 D D0 ∧ RowsG wr g (D ++ E0) ∧ KpG g w wr) (fun a _ _ => n - (intOf a).toNat)
  case atStart => exact ⟨0, 20, [], [], L0, rfl, rfl, rfl, Nat.zero_le _, rfl, rfl, rfl, BlD.nil _, HG.out, KpG.refl _ _⟩
  case round =>
    clear HG
    obtain ⟨a, b, D, D0, E0, rfl, rfl, hab, han, hD, hL, hD0, hbl, hr, hk⟩ := hrel
    have hle := congrArg List.length hL
    rw [List.length_append, HN.out] at hle
    by_cases hlt : b ≤ n
    · have c1 : decide ((b : Int) ≤ (n : Int)) = true := by rw [decide_eq_true_iff]; omega
      have c2 : decide (b ≤ n) = true := decide_eq_true hlt
      obtain ⟨b2, hb2⟩ : ∃ b2, b + 20 = b2 := ⟨_, rfl⟩
      have e1 : (b : Int) + 20 = (b2 : Int) := by omega
      have jw : IntKind.i64.wrap (b2 : Int) = (b2 : Int) := so_wrap (by omega) (by omega)
      have hsp : E0.take 20 ++ E0.drop 20 = E0 := List.take_append_drop _ _
      have hl1 : (E0.take 20).length = 20 := by rw [List.length_take]; omega
      generalize E0.take 20 = S0 at hsp hl1
      generalize E0.drop 20 = R at hsp
      subst hsp
      have hcall := insert_any g cap a 20 n D S0 R wr (by simpa using hr) (by
        have h1 := HT.out
        rw [hL] at h1
        exact (List.pairwise_append.1 (List.pairwise_append.1 h1).2.1).1) hD hl1 (by simp at hle; omega) hcap (by omega)
      rw [show ((a + 20 : Nat) : Int) = (b : Int) by omega] at hcall
      have HC := Lib.hid hcall
      have HH := Lib.hid (And.intro hab (And.intro han (And.intro hD (And.intro hL (And.intro hD0 (And.intro hbl (And.intro hl1 (And.intro hlt hb2))))))))
      have HK := Lib.hid hk
      clear hcall hab han hD hL hD0 hbl hl1 hr hk hle hlt hb2
      go_wp2_with fail
      refine HC.out.mono ?_
      rintro x w1 ⟨rfl, S', hg1, hp1, hs1, hk1⟩
      have HG1 := Lib.hid hg1
      have HP1 := Lib.hid (And.intro hp1 (And.intro hs1 hk1))
      clear hg1 hp1 hs1 hk1 HC
      go_wp2_with fail
      go_roundw
      case rel =>
        obtain ⟨hab, han, hD, hL, hD0, hbl, hl1, hlt, hb2⟩ := HH.out
        have hls := HP1.out.1.length_eq
        exact ⟨b, b2, D ++ S', D0 ++ S0, R, rfl, rfl, hb2.symm, hlt, by simp; omega, by rw [hL]; simp, by simp; omega, hbl.snoc (by omega) HP1.out.2.1 HP1.out.1, HG1.out, HK.out.trans HP1.out.2.2⟩
      case measure => have := HH.out; simp [intOf]; omega
    · have c1 : decide ((b : Int) ≤ (n : Int)) = false := by rw [decide_eq_false_iff_not]; omega
      have c2 : decide (b ≤ n) = false := decide_eq_false hlt
      have hcall := insert_any g cap a (n - a) n D E0 [] wr (by simpa using hr) (by
        have h1 := HT.out
        rw [hL] at h1
        exact (List.pairwise_append.1 h1).2.1) hD (by omega) (by simp; omega) hcap (by omega)
      rw [show ((a + (n - a) : Nat) : Int) = (n : Int) by omega] at hcall
      have HC := Lib.hid hcall
      have HH := Lib.hid (And.intro hL (And.intro hbl (And.intro (show E0.length ≤ 20 by omega) hk)))
      clear hcall hab han hD hL hD0 hbl hr hk hle hlt
      go_wp2_with fail
      refine HC.out.mono ?_
      rintro x w1 ⟨rfl, S', hg1, hp1, hs1, hk1⟩
      have HS : Hid (∃ L, Bl 20 L L0 ∧ RowsG w1 g L ∧ KpG g w w1) := Lib.hid (by
        obtain ⟨hL, hbl, hl, hk⟩ := HH.out
        rw [hL]
        exact ⟨D ++ S', hbl _ _ (.last (by rw [hp1.length_eq]; exact hl) hs1 hp1), by simpa using hg1, hk.trans hk1⟩)
      clear hg1 hp1 hs1 hk1 HC HH
      go_wp2_with fail
      go_loopw [6, 7, 8, 9] (fun z _ _ _ wq => ∃ (sz : Nat) (L : List El), z = .int .i64 (sz : Int) ∧ 20 ≤ sz ∧ sz ≤ 20 + 2 * n ∧ Bl sz L L0 ∧ RowsG wq g L ∧ KpG g w wq) (fun z _ _ _ _ => n - (intOf z).toNat)
      case atStart =>
        obtain ⟨L, h1, h2, h3⟩ := HS.out
        exact ⟨20, L, rfl, Nat.le_refl _, by omega, h1, h2, h3⟩
      case round =>
        clear HS
        obtain ⟨sz, L, rfl, hs1, hs2, hbl, hr, hk⟩ := hrel
        have hln : L.length = n := by rw [hbl.perm.length_eq]; exact HN.out
        by_cases hz : sz < n
        · have c1 : decide ((sz : Int) < (n : Int)) = true := by rw [decide_eq_true_iff]; omega
          have c2 : decide (sz < n) = true := decide_eq_true hz
          obtain ⟨s2, hs22⟩ : ∃ s2, 2 * sz = s2 := ⟨_, rfl⟩
          have e1 : 2 * (sz : Int) = (s2 : Int) := by omega
          have e2 : (sz : Int) * 2 = (s2 : Int) := by omega
          have jw : IntKind.i64.wrap (s2 : Int) = (s2 : Int) := so_wrap (by omega) (by omega)
          have HBL := Lib.hid (And.intro hbl (And.intro hr hk))
          have HZ := Lib.hid (And.intro hs22 (And.intro hs1 (And.intro hs2 (And.intro hz hln))))
          clear hbl hr hk hs22 hs1 hs2 hz hln
          go_wp2_with fail
          go_loopw [7, 8] (fun a b wq => ∃ (a' b' : Nat) (D D0 E E0 : List El), a = .int .i64 (a' : Int) ∧ b = .int .i64 (b' : Int) ∧ b' = a' + s2 ∧ a' ≤ n ∧ D.length = a' ∧ D.length + E.length = n ∧ L0 = D0 ++ E0 ∧ BlD s2 D D0 ∧ Bl sz E E0 ∧ RowsG wq g (D ++ E) ∧ KpG g w wq) (fun a _ _ => n - (intOf a).toNat)
          case atStart => exact ⟨0, s2, [], [], L, L0, rfl, rfl, by omega, Nat.zero_le _, rfl, by have := HZ.out; simp; omega, rfl, BlD.nil _, HBL.out.1, HBL.out.2.1, HBL.out.2.2⟩
          case round =>
            clear HBL
            obtain ⟨a, b, D, D0, E, E0, rfl, rfl, hab, han, hD, hDE, hL, hbl, hE, hr, hk⟩ := hrel
            obtain ⟨hs22, hs1, hs2, hz, hln⟩ := HZ.out
            obtain ⟨m, hm⟩ : ∃ m, a + sz = m := ⟨_, rfl⟩
            have e3 : (a : Int) + (sz : Int) = (m : Int) := by omega
            have jm : IntKind.i64.wrap (m : Int) = (m : Int) := so_wrap (by omega) (by omega)
            by_cases hbn : b ≤ n
            · have c1 : decide ((b : Int) ≤ (n : Int)) = true := by rw [decide_eq_true_iff]; omega
              have c2 : decide (b ≤ n) = true := decide_eq_true hbn
              obtain ⟨b2, hb2⟩ : ∃ b2, b + s2 = b2 := ⟨_, rfl⟩
              have e4 : (b : Int) + (s2 : Int) = (b2 : Int) := by omega
              have jb : IntKind.i64.wrap (b2 : Int) = (b2 : Int) := so_wrap (by omega) (by omega)
              obtain ⟨U, U0, E1, E10, rfl, rfl, hU, hsU, hpU, hE1⟩ := hE.split (by omega)
              rw [List.length_append] at hDE
              obtain ⟨V, V0, E2, E20, rfl, rfl, hV, hsV, hpV, hE2⟩ := hE1.split (by omega)
              rw [List.length_append] at hDE
              have htg := HT.out
              rw [hL] at htg
              have htg2 := tags_across htg
              have hcall := sym_any (U.length + V.length) g cap a m b n D U V E2 wr (Nat.le_refl _) (by simpa using hr) hD (by omega) (by omega) (by omega) (by omega) hsU hsV (fun x hx y hy => htg2 x (hpU.subset hx) y (hpV.subset hy)) (by omega) hcap (by omega)
              have HC := Lib.hid hcall
              have HH := Lib.hid (And.intro hab (And.intro hbn (And.intro hb2 (And.intro hD (And.intro hDE (And.intro hL (And.intro hbl (And.intro hE2 (And.intro hU (And.intro hV (And.intro hpU (And.intro hpV hk))))))))))))
              clear hcall hab hbn hb2 hD hDE hL hbl hE2 hU hV hpU hpV hk htg htg2 hsU hsV hE hE1 hr hs22 hs1 hs2 hz hln hm han
              go_wp2_with fail
              refine HC.out.mono ?_
              rintro x w2 ⟨rfl, W, hg1, hp1, hs1, hk1⟩
              have HG1 := Lib.hid hg1
              have HP1 := Lib.hid (And.intro hp1 (And.intro hs1 hk1))
              clear hg1 hp1 hs1 hk1 HC
              go_wp2_with fail
              go_roundw
              case rel =>
                obtain ⟨hab, hbn, hb2, hD, hDE, hL, hbl, hE2, hU, hV, hpU, hpV, hk⟩ := HH.out
                have hls := HP1.out.1.length_eq
                rw [List.length_append] at hls
                have hz := HZ.out
                exact ⟨b, b2, D ++ W, D0 ++ (U0 ++ V0), E2, E20, rfl, rfl, hb2.symm, hbn, by simp; omega, by simp; omega, by rw [hL]; simp, hbl.snoc (by omega) HP1.out.2.1 (HP1.out.1.trans (hpU.append hpV)), hE2, HG1.out, hk.trans HP1.out.2.2⟩
              case measure => have := HH.out; have := HZ.out; simp [intOf]; omega
            · have c1 : decide ((b : Int) ≤ (n : Int)) = false := by rw [decide_eq_false_iff_not]; omega
              have c2 : decide (b ≤ n) = false := decide_eq_false hbn
              by_cases hmn : m < n
              · have c3 : decide ((m : Int) < (n : Int)) = true := by rw [decide_eq_true_iff]; omega
                have c4 : decide (m < n) = true := decide_eq_true hmn
                obtain ⟨U, U0, E1, E10, rfl, rfl, hU, hsU, hpU, hE1⟩ := hE.split (by omega)
                rw [List.length_append] at hDE
                have hsV := hE1.one (by omega)
                have hpV := hE1.perm
                have htg := HT.out
                rw [hL, show D0 ++ (U0 ++ E10) = D0 ++ (U0 ++ (E10 ++ [])) by simp] at htg
                have htg2 := tags_across htg
                have hcall := sym_any (U.length + E1.length) g cap a m n n D U E1 [] wr (Nat.le_refl _) (by simpa using hr) hD (by omega) (by omega) (by omega) (by omega) hsU hsV (fun x hx y hy => htg2 x (hpU.subset hx) y (hpV.subset hy)) (by simp) hcap (by omega)
                have HC := Lib.hid hcall
                have HH := Lib.hid (And.intro hL (And.intro hbl (And.intro (show U.length + E1.length ≤ s2 by omega) (And.intro hpU (And.intro hpV (And.intro hk (show s2 ≤ 20 + 2 * n ∧ 20 ≤ s2 ∧ n < s2 + n ∧ sz < n ∧ sz < s2 by omega)))))))
                clear hcall hab hbn hD hDE hL hbl hU hpU hpV hk htg htg2 hsU hsV hE hE1 hr hs22 hs1 hs2 hz hln hm han hmn
                go_wp2_with fail
                refine HC.out.mono ?_
                rintro x w2 ⟨rfl, W, hg1, hp1, hs1, hk1⟩
                have HG1 := Lib.hid hg1
                have HP1 := Lib.hid (And.intro hp1 (And.intro hs1 hk1))
                clear hg1 hp1 hs1 hk1 HC
                go_wp2_with fail
                go_roundw
                case rel =>
                  obtain ⟨hL, hbl, hl, hpU, hpV, hk, h1, h2, _⟩ := HH.out
                  have hls := HP1.out.1.length_eq
                  rw [List.length_append] at hls
                  exact ⟨s2, D ++ W, rfl, h2, h1, by rw [hL]; exact hbl _ _ (.last (by omega) HP1.out.2.1 (HP1.out.1.trans (hpU.append hpV))), by simpa using HG1.out, hk.trans HP1.out.2.2⟩
                case measure => have := HH.out; simp [intOf]; omega
              · have c3 : decide ((m : Int) < (n : Int)) = false := by rw [decide_eq_false_iff_not]; omega
                have c4 : decide (m < n) = false := decide_eq_false hmn
                have hsE := hE.one (by omega)
                have HH := Lib.hid (And.intro hL (And.intro hbl (And.intro (show E.length ≤ s2 by omega) (And.intro hsE (And.intro hE.perm (And.intro hr (And.intro hk (show s2 ≤ 20 + 2 * n ∧ 20 ≤ s2 ∧ sz < n ∧ sz < s2 by omega))))))))
                clear hab hbn hD hDE hL hbl hk hsE hE hr hs22 hs1 hs2 hz hln hm han hmn
                go_wp2_with fail
                go_roundw
                case rel =>
                  obtain ⟨hL, hbl, hl, hsE, hpE, hr, hk, h1, h2, _⟩ := HH.out
                  exact ⟨s2, D ++ E, rfl, h2, h1, by rw [hL]; exact hbl _ _ (.last hl hsE hpE), hr, hk⟩
                case measure => have := HH.out; simp [intOf]; omega
        · have c1 : decide ((sz : Int) < (n : Int)) = false := by rw [decide_eq_false_iff_not]; omega
          have c2 : decide (sz < n) = false := decide_eq_false hz
          have HF := Lib.hid (And.intro hr (And.intro hbl.perm (And.intro (hbl.one (by omega)) hk)))
          clear hbl hr hk hs1 hs2 hz hln
          go_wp2_with fail
          (try simp only [Exit.inBlock, Exit.then])
          refine bodyPost_end (results_none rfl _ _ _) rfl ?_
          exact ⟨rfl, L, HF.out⟩

theorem sort_any (g cap n : Nat) (L0 : List El) (w : World) (hg : RowsG w g L0) (htag : L0.Pairwise fun e f => e.t < f.t) (hn : L0.length = n) (hcap : n ≤ cap) (hbig : n ≤ 10000) :
    Calls Try.prog 42 #[.slice (some ⟨g, 0, none⟩) n cap, .func (.func 43) #[] #[]] w fun e w' => e = .returned (.tuple #[]) ∧ ∃ L, RowsG w' g L ∧ L.Perm L0 ∧ Srt ltE L ∧ KpG g w w' := by
  have HC := Lib.hid (stable_any g cap n L0 w hg htag hn hcap hbig)
  clear hg htag hn
  go_enter Try.func42, Try.ntmps42
  go_wp2_with fail
  refine HC.out.mono ?_
  rintro x w1 ⟨rfl, h⟩
  go_wp2_with fail
  (try simp only [Exit.inBlock, Exit.then])
  refine bodyPost_end (results_none rfl _ _ _) rfl ?_
  exact ⟨rfl, h⟩
theorem sort_none (w : World) : Calls Try.prog 42 #[.slice none 0 0, .func (.func 43) #[] #[]] w fun e w' => e = .returned (.tuple #[]) ∧ w' = w := by
  go_enter Try.func42, Try.ntmps42
  go_wp2_with fail
  refine (stable_none w).mono ?_
  rintro x w1 ⟨rfl, rfl⟩
  go_wp2_with fail
  (try simp only [Exit.inBlock, Exit.then])
  refine bodyPost_end (results_none rfl _ _ _) rfl ?_
  exact ⟨rfl, rfl⟩

end Go.Proofs.Ytgmmblknaeepbaa
