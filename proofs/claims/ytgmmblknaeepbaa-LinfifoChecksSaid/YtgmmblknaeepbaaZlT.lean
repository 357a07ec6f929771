/- A queue's finder: the spot behind the next take. -/
import Derived.Test.YtgmmblknaeepbaaZlS
import Derived.Test.YtgmmblknaeepbaaZlP
import Derived.Test.YtgmmblknaeepbaaZr
namespace Go.Proofs.Ytgmmblknaeepbaa
open Go.RowKit
attribute [local go_sem] Oper.semAt_some

set_option maxRecDepth 100000 in
set_option maxHeartbeats 4000000 in
theorem ftake_0 {n : Int} {P T : List Cl} {s : Sp} (hs : Inv n P T s) (hP : P.length ≤ 60) (hT : T.length ≤ 60) {fb bm cP cT LI cI : Nat} {AP AT AI : Option Addr} {vE : Value} (hcP : P.length ≤ cP) (hcT : T.length ≤ cT) (W : World)
    (hF : FBox W fb n AP P.length cP AT T.length cT AI LI cI bm vE) (hlP : ClSl W W.heap.size AP P) (hlT : ClSl W W.heap.size AT T) (h0 : s.b = T.length) :
    Calls Try.prog 35 #[.pointer (some ⟨fb, 0, none⟩), spV s] W (PutR (stepT P T s) W) := by
  have huse := And.intro hP (And.intro hT (And.intro hcP (And.intro hcT (And.intro hlP hlT))))
  clear huse
  obtain ⟨LP, hLP⟩ : ∃ x, P.length = x := ⟨_, rfl⟩
  obtain ⟨LT, hLT⟩ : ∃ x, T.length = x := ⟨_, rfl⟩
  have s1 := hs.a
  have s2 := hs.b
  have s3 := hs.oi
  have s4 : s.i ≤ 60 := by rw [hs.i]; exact Nat.le_trans List.countP_le_length (by rw [List.length_take]; omega)
  rw [hLP] at hF s1 hP hcP
  rw [hLT] at hF s2 hT hcT
  have hst := (show stepT P T s = none by unfold stepT; rw [List.getElem?_eq_none (by omega)])
  rw [hst]
  have h0i : ((s.b : Int) == (LT : Int)) = true := by rw [hLT] at h0; simp; omega
  clear hst h0 hlP hlT hLP hLT hs
  have hb1 := (Below.refl W.heap.size W).alloc (Nat.le_refl _) (.cells #[.int .i64 (s.a : Int), .int .i64 (s.b : Int), .int .i64 (s.i : Int), .int .i64 (s.o : Int)] 48)
  have hb2 := hb1.alloc hb1.size (.cells #[.int .i64 0, .int .i64 0, .int .i64 0, .int .i64 0] 48)
  have hs1 := heap_alloc_new W (.cells #[.int .i64 (s.a : Int), .int .i64 (s.b : Int), .int .i64 (s.i : Int), .int .i64 (s.o : Int)] 48)
  have hs2 := row_kept hs1 ((Below.refl _ _).alloc (Nat.le_refl _) (.cells #[.int .i64 0, .int .i64 0, .int .i64 0, .int .i64 0] 48))
  have hr2 := heap_alloc_new (W.alloc (.cells #[.int .i64 (s.a : Int), .int .i64 (s.b : Int), .int .i64 (s.i : Int), .int .i64 (s.o : Int)] 48)) (.cells #[.int .i64 0, .int .i64 0, .int .i64 0, .int .i64 0] 48)
  have hf2 := row_kept hF hb2
  rw [World.size_alloc] at hr2
  have hlt := row_lt hF
  have hsz2 : W.heap.size + 2 ≤ ((W.alloc (.cells #[.int .i64 (s.a : Int), .int .i64 (s.b : Int), .int .i64 (s.i : Int), .int .i64 (s.o : Int)] 48)).alloc (.cells #[.int .i64 0, .int .i64 0, .int .i64 0, .int .i64 0] 48)).heap.size := by rw [World.size_alloc, World.size_alloc]; omega
  clear hs1 hb1 hF
  unfold spV
  obtain ⟨sb, hsb⟩ : ∃ x, W.heap.size = x := ⟨_, rfl⟩
  rw [hsb] at hs2 hr2 hb2 hlt hsz2
  go_enter Try.func35, Try.ntmps35
  go_wp2_with fail
  obtain ⟨W2, hW2⟩ : ∃ x, (W.alloc (.cells #[.int .i64 (s.a : Int), .int .i64 (s.b : Int), .int .i64 (s.i : Int), .int .i64 (s.o : Int)] 48)).alloc (.cells #[.int .i64 0, .int .i64 0, .int .i64 0, .int .i64 0] 48) = x := ⟨_, rfl⟩
  rw [hW2] at hs2 hr2 hb2 hf2 hsz2 ⊢
  clear hW2
  have hc2 := FBox.cells hf2
  have hp2 := SpBox.cells hs2
  have hSd : (fun w' => Below W2.heap.size W2 w' ∧ (w'.cell? ⟨fb, 0, none⟩ = some (.int .i64 n) ∧ w'.cell? ⟨fb, 1, none⟩ = some (.slice AP LP cP) ∧ w'.cell? ⟨fb, 2, none⟩ = some (.slice AT LT cT) ∧ w'.cell? ⟨fb, 3, none⟩ = some (.slice AI LI cI)) ∧ (w'.cell? ⟨sb, 0, none⟩ = some (.int .i64 (s.a : Int)) ∧ w'.cell? ⟨sb, 1, none⟩ = some (.int .i64 (s.b : Int)) ∧ w'.cell? ⟨sb, 2, none⟩ = some (.int .i64 (s.i : Int)) ∧ w'.cell? ⟨sb, 3, none⟩ = some (.int .i64 (s.o : Int)))) W2.drew := ⟨(Below.refl _ W2).drew, ⟨hc2.1, hc2.2.1, hc2.2.2.1, hc2.2.2.2.1⟩, hp2⟩
  refine wp_region_held_drew (S := (fun w' => Below W2.heap.size W2 w' ∧ (w'.cell? ⟨fb, 0, none⟩ = some (.int .i64 n) ∧ w'.cell? ⟨fb, 1, none⟩ = some (.slice AP LP cP) ∧ w'.cell? ⟨fb, 2, none⟩ = some (.slice AT LT cT) ∧ w'.cell? ⟨fb, 3, none⟩ = some (.slice AI LI cI)) ∧ (w'.cell? ⟨sb, 0, none⟩ = some (.int .i64 (s.a : Int)) ∧ w'.cell? ⟨sb, 1, none⟩ = some (.int .i64 (s.b : Int)) ∧ w'.cell? ⟨sb, 2, none⟩ = some (.int .i64 (s.i : Int)) ∧ w'.cell? ⟨sb, 3, none⟩ = some (.int .i64 (s.o : Int))))) (by kernel_rfl) hSd (fun hHeld => ?_)
  generalize W2.drew = wd at hHeld ⊢
  have hHeld : (fun w' => Below W2.heap.size W2 w' ∧ (w'.cell? ⟨fb, 0, none⟩ = some (.int .i64 n) ∧ w'.cell? ⟨fb, 1, none⟩ = some (.slice AP LP cP) ∧ w'.cell? ⟨fb, 2, none⟩ = some (.slice AT LT cT) ∧ w'.cell? ⟨fb, 3, none⟩ = some (.slice AI LI cI)) ∧ (w'.cell? ⟨sb, 0, none⟩ = some (.int .i64 (s.a : Int)) ∧ w'.cell? ⟨sb, 1, none⟩ = some (.int .i64 (s.b : Int)) ∧ w'.cell? ⟨sb, 2, none⟩ = some (.int .i64 (s.i : Int)) ∧ w'.cell? ⟨sb, 3, none⟩ = some (.int .i64 (s.o : Int)))) wd := hHeld
  refine tkH 0 ?_
  try first | simp only [pS, List.set] | simp only [pN]
  refine tkH 1 ?_
  try first | simp only [pS, List.set] | simp only [pN]
  refine tkH 2 ?_
  try first | simp only [pS, List.set] | simp only [pN]
  refine tkH 3 ?_
  try first | simp only [pS, List.set] | simp only [pN]
  refine tkH 4 ?_
  try first | simp only [pS, List.set] | simp only [pN]
  refine tkH 5 ?_
  try first | simp only [pS, List.set] | simp only [pN]
  refine tkH 6 ?_
  try first | simp only [pS, List.set] | simp only [pN]
  refine tkH 7 ?_
  try first | simp only [pS, List.set] | simp only [pN]
  refine tkH 8 ?_
  try first | simp only [pS, List.set] | simp only [pN]
  refine wpAnyH_take (i := 9) (oi := ?_) (v := undef) ?_ (by kernel_rfl) (by kernel_rfl) (by kernel_rfl) ?_ (Or.inr ⟨?_, rfl⟩) (by assumption) ?_
  rotate_left 1
  · (simp only [List.getElem?_toArray, List.getElem?_cons_succ, List.getElem?_cons_zero]; rfl)
  · first | exact fun _ _ _ h => h | exact fun _ _ _ h => by cases h.1
  · rfl
  try first | simp only [pS, List.set] | simp only [pN]
  refine wpAnyH_take (i := 10) (oi := ?_) (v := undef) ?_ (by kernel_rfl) (by kernel_rfl) (by kernel_rfl) ?_ (Or.inr ⟨?_, rfl⟩) (by assumption) ?_
  rotate_left 1
  · (simp only [List.getElem?_toArray, List.getElem?_cons_succ, List.getElem?_cons_zero]; rfl)
  · first | exact fun _ _ _ h => h | exact fun _ _ _ h => by cases h.1
  · rfl
  try first | simp only [pS, List.set] | simp only [pN]
  refine wpAnyH_take (i := 11) (oi := ?_) (v := undef) ?_ (by kernel_rfl) (by kernel_rfl) (by kernel_rfl) ?_ (Or.inr ⟨?_, rfl⟩) (by assumption) ?_
  rotate_left 1
  · (simp only [List.getElem?_toArray, List.getElem?_cons_succ, List.getElem?_cons_zero]; rfl)
  · first | exact fun _ _ _ h => h | exact fun _ _ _ h => by cases h.1
  · rfl
  try first | simp only [pS, List.set] | simp only [pN]
  refine wpAnyH_take (i := 12) (oi := ?_) (v := undef) ?_ (by kernel_rfl) (by kernel_rfl) (by kernel_rfl) ?_ (Or.inr ⟨?_, rfl⟩) (by assumption) ?_
  rotate_left 1
  · (simp only [List.getElem?_toArray, List.getElem?_cons_succ, List.getElem?_cons_zero]; rfl)
  · first | exact fun _ _ _ h => h | exact fun _ _ _ h => by cases h.1
  · rfl
  try first | simp only [pS, List.set] | simp only [pN]
  refine wpAnyH_take (i := 13) (oi := ?_) (v := undef) ?_ (by kernel_rfl) (by kernel_rfl) (by kernel_rfl) ?_ (Or.inr ⟨?_, rfl⟩) (by assumption) ?_
  rotate_left 1
  · (simp only [List.getElem?_toArray, List.getElem?_cons_succ, List.getElem?_cons_zero]; rfl)
  · first | exact fun _ _ _ h => h | exact fun _ _ _ h => by cases h.1
  · rfl
  try first | simp only [pS, List.set] | simp only [pN]
  refine wpAnyH_take (i := 14) (oi := ?_) (v := undef) ?_ (by kernel_rfl) (by kernel_rfl) (by kernel_rfl) ?_ (Or.inr ⟨?_, rfl⟩) (by assumption) ?_
  rotate_left 1
  · (simp only [List.getElem?_toArray, List.getElem?_cons_succ, List.getElem?_cons_zero]; rfl)
  · first | exact fun _ _ _ h => h | exact fun _ _ _ h => by cases h.1
  · rfl
  try first | simp only [pS, List.set] | simp only [pN]
  refine wpAnyH_take (i := 15) (oi := ?_) (v := undef) ?_ (by kernel_rfl) (by kernel_rfl) (by kernel_rfl) ?_ (Or.inr ⟨?_, rfl⟩) (by assumption) ?_
  rotate_left 1
  · (simp only [List.getElem?_toArray, List.getElem?_cons_succ, List.getElem?_cons_zero]; rfl)
  · first | exact fun _ _ _ h => h | exact fun _ _ _ h => by cases h.1
  · rfl
  try first | simp only [pS, List.set] | simp only [pN]
  refine wpAnyH_take (i := 16) (oi := ?_) (v := undef) ?_ (by kernel_rfl) (by kernel_rfl) (by kernel_rfl) ?_ (Or.inr ⟨?_, rfl⟩) (by assumption) ?_
  rotate_left 1
  · (simp only [List.getElem?_toArray, List.getElem?_cons_succ, List.getElem?_cons_zero]; rfl)
  · first | exact fun _ _ _ h => h | exact fun _ _ _ h => by cases h.1
  · rfl
  try first | simp only [pS, List.set] | simp only [pN]
  refine wpAnyH_take (i := 17) (oi := ?_) (v := undef) ?_ (by kernel_rfl) (by kernel_rfl) (by kernel_rfl) ?_ (Or.inr ⟨?_, rfl⟩) (by assumption) ?_
  rotate_left 1
  · (simp only [List.getElem?_toArray, List.getElem?_cons_succ, List.getElem?_cons_zero]; rfl)
  · first | exact fun _ _ _ h => h | exact fun _ _ _ h => by cases h.1
  · rfl
  try first | simp only [pS, List.set] | simp only [pN]
  refine wpAnyH_take (i := 18) (oi := ?_) (v := undef) ?_ (by kernel_rfl) (by kernel_rfl) (by kernel_rfl) ?_ (Or.inr ⟨?_, rfl⟩) (by assumption) ?_
  rotate_left 1
  · (simp only [List.getElem?_toArray, List.getElem?_cons_succ, List.getElem?_cons_zero]; rfl)
  · first | exact fun _ _ _ h => h | exact fun _ _ _ h => by cases h.1
  · rfl
  try first | simp only [pS, List.set] | simp only [pN]
  refine wpAnyH_take (i := 19) (oi := ?_) (v := undef) ?_ (by kernel_rfl) (by kernel_rfl) (by kernel_rfl) ?_ (Or.inr ⟨?_, rfl⟩) (by assumption) ?_
  rotate_left 1
  · (simp only [List.getElem?_toArray, List.getElem?_cons_succ, List.getElem?_cons_zero]; rfl)
  · first | exact fun _ _ _ h => h | exact fun _ _ _ h => by cases h.1
  · rfl
  try first | simp only [pS, List.set] | simp only [pN]
  refine wpAnyH_take (i := 20) (oi := ?_) (v := undef) ?_ (by kernel_rfl) (by kernel_rfl) (by kernel_rfl) ?_ (Or.inr ⟨?_, rfl⟩) (by assumption) ?_
  rotate_left 1
  · (simp only [List.getElem?_toArray, List.getElem?_cons_succ, List.getElem?_cons_zero]; rfl)
  · first | exact fun _ _ _ h => h | exact fun _ _ _ h => by cases h.1
  · rfl
  try first | simp only [pS, List.set] | simp only [pN]
  refine wpAnyH_take (i := 21) (oi := ?_) (v := undef) ?_ (by kernel_rfl) (by kernel_rfl) (by kernel_rfl) ?_ (Or.inr ⟨?_, rfl⟩) (by assumption) ?_
  rotate_left 1
  · (simp only [List.getElem?_toArray, List.getElem?_cons_succ, List.getElem?_cons_zero]; rfl)
  · first | exact fun _ _ _ h => h | exact fun _ _ _ h => by cases h.1
  · rfl
  try first | simp only [pS, List.set] | simp only [pN]
  refine wpAnyH_take (i := 22) (oi := ?_) (v := undef) ?_ (by kernel_rfl) (by kernel_rfl) (by kernel_rfl) ?_ (Or.inr ⟨?_, rfl⟩) (by assumption) ?_
  rotate_left 1
  · (simp only [List.getElem?_toArray, List.getElem?_cons_succ, List.getElem?_cons_zero]; rfl)
  · first | exact fun _ _ _ h => h | exact fun _ _ _ h => by cases h.1
  · rfl
  try first | simp only [pS, List.set] | simp only [pN]
  refine wpAnyH_take (i := 23) (oi := ?_) (v := undef) ?_ (by kernel_rfl) (by kernel_rfl) (by kernel_rfl) ?_ (Or.inr ⟨?_, rfl⟩) (by assumption) ?_
  rotate_left 1
  · (simp only [List.getElem?_toArray, List.getElem?_cons_succ, List.getElem?_cons_zero]; rfl)
  · first | exact fun _ _ _ h => h | exact fun _ _ _ h => by cases h.1
  · rfl
  try first | simp only [pS, List.set] | simp only [pN]
  refine wpAnyH_take (i := 24) (oi := ?_) (v := undef) ?_ (by kernel_rfl) (by kernel_rfl) (by kernel_rfl) ?_ (Or.inr ⟨?_, rfl⟩) (by assumption) ?_
  rotate_left 1
  · (simp only [List.getElem?_toArray, List.getElem?_cons_succ, List.getElem?_cons_zero]; rfl)
  · first | exact fun _ _ _ h => h | exact fun _ _ _ h => by cases h.1
  · rfl
  try first | simp only [pS, List.set] | simp only [pN]
  refine wpAnyH_take (i := 25) (oi := ?_) (v := undef) ?_ (by kernel_rfl) (by kernel_rfl) (by kernel_rfl) ?_ (Or.inr ⟨?_, rfl⟩) (by assumption) ?_
  rotate_left 1
  · (simp only [List.getElem?_toArray, List.getElem?_cons_succ, List.getElem?_cons_zero]; rfl)
  · first | exact fun _ _ _ h => h | exact fun _ _ _ h => by cases h.1
  · rfl
  try first | simp only [pS, List.set] | simp only [pN]
  refine tkH 26 ?_
  try first | simp only [pS, List.set] | simp only [pN]
  refine wpAnyH_done (by kernel_rfl) ?_ _
  have hR := row_kept hr2 hHeld.1
  have hB := hb2.trans (hHeld.1.mono (by omega))
  obtain ⟨c0, c1, c2, c3⟩ := hHeld.2.2
  have f0 := row_frozen hR 0
  have f1 := row_frozen hR 1
  have f2 := row_frozen hR 2
  have f3 := row_frozen hR 3
  have z0 := row_cell hR 0
  have z1 := row_cell hR 1
  have z2 := row_cell hR 2
  have z3 := row_cell hR 3
  simp at z0 z1 z2 z3
  clear hSd hc2 hp2
  have HH := Lib.hid hHeld
  clear hHeld
  go_wp2_with fail
  have hfin := sset4_row hR (.int .i64 (s.a : Int)) (.int .i64 (s.b : Int)) (.int .i64 (s.i : Int)) (.int .i64 (s.o : Int))
  refine bodyPost_ret (res_take _ _ (s := s) (ok := false) rfl rfl hfin) rfl ?_
  exact ⟨_, _, rfl, by simp, by rw [hsb]; exact sset4_below hB (by omega) _ _ _ _⟩

set_option maxRecDepth 100000 in
set_option maxHeartbeats 4000000 in
theorem ftake_1 {n : Int} {P T : List Cl} {s : Sp} (hs : Inv n P T s) (hP : P.length ≤ 60) (hT : T.length ≤ 60) {fb bm cP cT LI cI : Nat} {AP AT AI : Option Addr} {vE : Value} (hcP : P.length ≤ cP) (hcT : T.length ≤ cT) (W : World)
    (hF : FBox W fb n AP P.length cP AT T.length cT AI LI cI bm vE) (hlP : ClSl W W.heap.size AP P) (hlT : ClSl W W.heap.size AT T) {c : Cl} (hc : T[s.b]? = some c) (hm : mayB c (P.drop s.a) = false) :
    Calls Try.prog 35 #[.pointer (some ⟨fb, 0, none⟩), spV s] W (PutR (stepT P T s) W) := by
  have huse := And.intro hP (And.intro hT (And.intro hcP (And.intro hcT (And.intro hlP hlT))))
  clear huse
  obtain ⟨LP, hLP⟩ : ∃ x, P.length = x := ⟨_, rfl⟩
  obtain ⟨LT, hLT⟩ : ∃ x, T.length = x := ⟨_, rfl⟩
  have s1 := hs.a
  have s2 := hs.b
  have s3 := hs.oi
  have s4 : s.i ≤ 60 := by rw [hs.i]; exact Nat.le_trans List.countP_le_length (by rw [List.length_take]; omega)
  rw [hLP] at hF s1 hP hcP
  rw [hLT] at hF s2 hT hcT
  have HST := Lib.hid (show stepT P T s = (if (false) = true then some ⟨s.a, s.b, s.i, s.o⟩ else none) by unfold stepT; rw [hc]; simp [hm])
  have hlto : s.b < LT := by rw [← hLT]; exact get_lt hc
  obtain ⟨eb, eo, Ac, cc, hAP, hebl, hec, hcw, hcc1, hcc2⟩ := hlT s.b c hc
  have hsl := fun W => slice_calls AP LP cP s.a s1 W
  have htl := hlP.tail (c := cP) (n := s.a) (by rw [hLP]; exact hcP) (by rw [hLP]; exact s1)
  obtain ⟨A2, hA2⟩ : ∃ x, (if cP = s.a then AP else AP.map (·.add (s.a * 7))) = x := ⟨_, rfl⟩
  rw [hA2] at hsl htl
  have hmay := fun (W' : World) (hb : Below W.heap.size W W') => lmay_any c Ac A2 cc (cP - s.a) (P.drop s.a) W' (by rw [List.length_drop]; omega) (htl.below hb hb.size)
  rw [List.length_drop, hLP, hm] at hmay
  subst hAP
  have h0i : ((s.b : Int) == (LT : Int)) = false := by simp; omega
  have hltoi : (s.b : Int) < (LT : Int) := by omega
  have hlt2i : (s.a : Int) ≤ (LP : Int) := by omega
  unfold clV at hmay
  have HMAY := Lib.hid hmay
  have HCW := Lib.hid hcw
  clear hmay htl hcw hA2 hlP hlT hLP hLT hs hc hm
  have hb1 := (Below.refl W.heap.size W).alloc (Nat.le_refl _) (.cells #[.int .i64 (s.a : Int), .int .i64 (s.b : Int), .int .i64 (s.i : Int), .int .i64 (s.o : Int)] 48)
  have hb2 := hb1.alloc hb1.size (.cells #[.int .i64 0, .int .i64 0, .int .i64 0, .int .i64 0] 48)
  have hs1 := heap_alloc_new W (.cells #[.int .i64 (s.a : Int), .int .i64 (s.b : Int), .int .i64 (s.i : Int), .int .i64 (s.o : Int)] 48)
  have hs2 := row_kept hs1 ((Below.refl _ _).alloc (Nat.le_refl _) (.cells #[.int .i64 0, .int .i64 0, .int .i64 0, .int .i64 0] 48))
  have hr2 := heap_alloc_new (W.alloc (.cells #[.int .i64 (s.a : Int), .int .i64 (s.b : Int), .int .i64 (s.i : Int), .int .i64 (s.o : Int)] 48)) (.cells #[.int .i64 0, .int .i64 0, .int .i64 0, .int .i64 0] 48)
  have hf2 := row_kept hF hb2
  rw [World.size_alloc] at hr2
  have hlt := row_lt hF
  have hsz2 : W.heap.size + 2 ≤ ((W.alloc (.cells #[.int .i64 (s.a : Int), .int .i64 (s.b : Int), .int .i64 (s.i : Int), .int .i64 (s.o : Int)] 48)).alloc (.cells #[.int .i64 0, .int .i64 0, .int .i64 0, .int .i64 0] 48)).heap.size := by rw [World.size_alloc, World.size_alloc]; omega
  clear hs1 hb1 hF
  unfold spV
  obtain ⟨sb, hsb⟩ : ∃ x, W.heap.size = x := ⟨_, rfl⟩
  rw [hsb] at hs2 hr2 hb2 hlt hsz2
  have hebl : eb < sb := by omega
  go_enter Try.func35, Try.ntmps35
  go_wp2_with fail
  obtain ⟨W2, hW2⟩ : ∃ x, (W.alloc (.cells #[.int .i64 (s.a : Int), .int .i64 (s.b : Int), .int .i64 (s.i : Int), .int .i64 (s.o : Int)] 48)).alloc (.cells #[.int .i64 0, .int .i64 0, .int .i64 0, .int .i64 0] 48) = x := ⟨_, rfl⟩
  rw [hW2] at hs2 hr2 hb2 hf2 hsz2 ⊢
  clear hW2
  have hec2 := cl7_low hec hb2 hebl
  have hc2 := FBox.cells hf2
  have hp2 := SpBox.cells hs2
  clear hec
  have hSd : (fun w' => Below W2.heap.size W2 w' ∧ (w'.cell? ⟨fb, 0, none⟩ = some (.int .i64 n) ∧ w'.cell? ⟨fb, 1, none⟩ = some (.slice AP LP cP) ∧ w'.cell? ⟨fb, 2, none⟩ = some (.slice (some ⟨eb, eo, none⟩) LT cT) ∧ w'.cell? ⟨fb, 3, none⟩ = some (.slice AI LI cI)) ∧ (w'.cell? ⟨sb, 0, none⟩ = some (.int .i64 (s.a : Int)) ∧ w'.cell? ⟨sb, 1, none⟩ = some (.int .i64 (s.b : Int)) ∧ w'.cell? ⟨sb, 2, none⟩ = some (.int .i64 (s.i : Int)) ∧ w'.cell? ⟨sb, 3, none⟩ = some (.int .i64 (s.o : Int))) ∧ (w'.cell? ⟨eb, eo + s.b * 7, none⟩ = some (.int .i64 c.p) ∧ w'.cell? ⟨eb, eo + s.b * 7 + 1, none⟩ = some (.int .i64 c.o) ∧ w'.cell? ⟨eb, eo + s.b * 7 + 2, none⟩ = some (.int .i64 c.q) ∧ w'.cell? ⟨eb, eo + s.b * 7 + 3, none⟩ = some (.slice Ac c.r.length cc) ∧ w'.cell? ⟨eb, eo + s.b * 7 + 4, none⟩ = some (.int .i64 c.c) ∧ w'.cell? ⟨eb, eo + s.b * 7 + 5, none⟩ = some (.int .i64 c.b) ∧ w'.cell? ⟨eb, eo + s.b * 7 + 6, none⟩ = some (.int .i64 c.e))) W2.drew := ⟨(Below.refl _ W2).drew, ⟨hc2.1, hc2.2.1, hc2.2.2.1, hc2.2.2.2.1⟩, hp2, hec2⟩
  refine wp_region_held_drew (S := (fun w' => Below W2.heap.size W2 w' ∧ (w'.cell? ⟨fb, 0, none⟩ = some (.int .i64 n) ∧ w'.cell? ⟨fb, 1, none⟩ = some (.slice AP LP cP) ∧ w'.cell? ⟨fb, 2, none⟩ = some (.slice (some ⟨eb, eo, none⟩) LT cT) ∧ w'.cell? ⟨fb, 3, none⟩ = some (.slice AI LI cI)) ∧ (w'.cell? ⟨sb, 0, none⟩ = some (.int .i64 (s.a : Int)) ∧ w'.cell? ⟨sb, 1, none⟩ = some (.int .i64 (s.b : Int)) ∧ w'.cell? ⟨sb, 2, none⟩ = some (.int .i64 (s.i : Int)) ∧ w'.cell? ⟨sb, 3, none⟩ = some (.int .i64 (s.o : Int))) ∧ (w'.cell? ⟨eb, eo + s.b * 7, none⟩ = some (.int .i64 c.p) ∧ w'.cell? ⟨eb, eo + s.b * 7 + 1, none⟩ = some (.int .i64 c.o) ∧ w'.cell? ⟨eb, eo + s.b * 7 + 2, none⟩ = some (.int .i64 c.q) ∧ w'.cell? ⟨eb, eo + s.b * 7 + 3, none⟩ = some (.slice Ac c.r.length cc) ∧ w'.cell? ⟨eb, eo + s.b * 7 + 4, none⟩ = some (.int .i64 c.c) ∧ w'.cell? ⟨eb, eo + s.b * 7 + 5, none⟩ = some (.int .i64 c.b) ∧ w'.cell? ⟨eb, eo + s.b * 7 + 6, none⟩ = some (.int .i64 c.e)))) (by kernel_rfl) hSd (fun hHeld => ?_)
  generalize W2.drew = wd at hHeld ⊢
  have hHeld : (fun w' => Below W2.heap.size W2 w' ∧ (w'.cell? ⟨fb, 0, none⟩ = some (.int .i64 n) ∧ w'.cell? ⟨fb, 1, none⟩ = some (.slice AP LP cP) ∧ w'.cell? ⟨fb, 2, none⟩ = some (.slice (some ⟨eb, eo, none⟩) LT cT) ∧ w'.cell? ⟨fb, 3, none⟩ = some (.slice AI LI cI)) ∧ (w'.cell? ⟨sb, 0, none⟩ = some (.int .i64 (s.a : Int)) ∧ w'.cell? ⟨sb, 1, none⟩ = some (.int .i64 (s.b : Int)) ∧ w'.cell? ⟨sb, 2, none⟩ = some (.int .i64 (s.i : Int)) ∧ w'.cell? ⟨sb, 3, none⟩ = some (.int .i64 (s.o : Int))) ∧ (w'.cell? ⟨eb, eo + s.b * 7, none⟩ = some (.int .i64 c.p) ∧ w'.cell? ⟨eb, eo + s.b * 7 + 1, none⟩ = some (.int .i64 c.o) ∧ w'.cell? ⟨eb, eo + s.b * 7 + 2, none⟩ = some (.int .i64 c.q) ∧ w'.cell? ⟨eb, eo + s.b * 7 + 3, none⟩ = some (.slice Ac c.r.length cc) ∧ w'.cell? ⟨eb, eo + s.b * 7 + 4, none⟩ = some (.int .i64 c.c) ∧ w'.cell? ⟨eb, eo + s.b * 7 + 5, none⟩ = some (.int .i64 c.b) ∧ w'.cell? ⟨eb, eo + s.b * 7 + 6, none⟩ = some (.int .i64 c.e))) wd := hHeld
  refine tkH 0 ?_
  try first | simp only [pS, List.set] | simp only [pN]
  refine tkH 1 ?_
  try first | simp only [pS, List.set] | simp only [pN]
  refine tkH 2 ?_
  try first | simp only [pS, List.set] | simp only [pN]
  refine tkH 3 ?_
  try first | simp only [pS, List.set] | simp only [pN]
  refine tkH 4 ?_
  try first | simp only [pS, List.set] | simp only [pN]
  refine tkH 5 ?_
  try first | simp only [pS, List.set] | simp only [pN]
  refine tkH 6 ?_
  try first | simp only [pS, List.set] | simp only [pN]
  refine tkH 7 ?_
  try first | simp only [pS, List.set] | simp only [pN]
  refine tkH 8 ?_
  try first | simp only [pS, List.set] | simp only [pN]
  refine tkH 9 ?_
  try first | simp only [pS, List.set] | simp only [pN]
  refine tkH 10 ?_
  try first | simp only [pS, List.set] | simp only [pN]
  refine tkH 11 ?_
  try first | simp only [pS, List.set] | simp only [pN]
  refine tkH 12 ?_
  try first | simp only [pS, List.set] | simp only [pN]
  refine tkH 13 ?_
  try first | simp only [pS, List.set] | simp only [pN]
  refine tkH 14 ?_
  try first | simp only [pS, List.set] | simp only [pN]
  refine tkH 15 ?_
  try first | simp only [pS, List.set] | simp only [pN]
  refine tkH 16 ?_
  try first | simp only [pS, List.set] | simp only [pN]
  refine tkH 17 ?_
  try first | simp only [pS, List.set] | simp only [pN]
  refine tkH 18 ?_
  try first | simp only [pS, List.set] | simp only [pN]
  refine tkH 19 ?_
  try first | simp only [pS, List.set] | simp only [pN]
  refine tkH 20 ?_
  try first | simp only [pS, List.set] | simp only [pN]
  refine tkH 21 ?_
  try first | simp only [pS, List.set] | simp only [pN]
  refine tkH 22 ?_
  try first | simp only [pS, List.set] | simp only [pN]
  refine tkH 23 ?_
  try first | simp only [pS, List.set] | simp only [pN]
  refine wpAnyH_ready (rs := [24]) (by kernel_rfl) (by simp) ?_
  refine AllReadyH.cons (o := ?_) ?_ (fun K hK => ?_) AllReadyH.nil
  rotate_left
  · (simp only [List.getElem?_toArray, List.getElem?_cons_succ, List.getElem?_cons_zero]; rfl)
  go_simp
  go_at_call 48
  refine (HMAY.out _ (by rw [hsb]; exact hb2.trans (hHeld.1.mono (by omega)))).mono ?_
  rintro e wx ⟨rfl, hbx⟩
  have hSx : (fun w' => Below W2.heap.size W2 w' ∧ (w'.cell? ⟨fb, 0, none⟩ = some (.int .i64 n) ∧ w'.cell? ⟨fb, 1, none⟩ = some (.slice AP LP cP) ∧ w'.cell? ⟨fb, 2, none⟩ = some (.slice (some ⟨eb, eo, none⟩) LT cT) ∧ w'.cell? ⟨fb, 3, none⟩ = some (.slice AI LI cI)) ∧ (w'.cell? ⟨sb, 0, none⟩ = some (.int .i64 (s.a : Int)) ∧ w'.cell? ⟨sb, 1, none⟩ = some (.int .i64 (s.b : Int)) ∧ w'.cell? ⟨sb, 2, none⟩ = some (.int .i64 (s.i : Int)) ∧ w'.cell? ⟨sb, 3, none⟩ = some (.int .i64 (s.o : Int))) ∧ (w'.cell? ⟨eb, eo + s.b * 7, none⟩ = some (.int .i64 c.p) ∧ w'.cell? ⟨eb, eo + s.b * 7 + 1, none⟩ = some (.int .i64 c.o) ∧ w'.cell? ⟨eb, eo + s.b * 7 + 2, none⟩ = some (.int .i64 c.q) ∧ w'.cell? ⟨eb, eo + s.b * 7 + 3, none⟩ = some (.slice Ac c.r.length cc) ∧ w'.cell? ⟨eb, eo + s.b * 7 + 4, none⟩ = some (.int .i64 c.c) ∧ w'.cell? ⟨eb, eo + s.b * 7 + 5, none⟩ = some (.int .i64 c.b) ∧ w'.cell? ⟨eb, eo + s.b * 7 + 6, none⟩ = some (.int .i64 c.e))) wx := ⟨hHeld.1.trans (hbx.mono hHeld.1.size), f4_below hHeld.2.1 hbx, f4_below hHeld.2.2.1 hbx, cl7_below hHeld.2.2.2 hbx⟩
  refine hK.out _ _ hSx (fun hHeld => ?_)
  clear hK K
  try first | simp only [pS, List.set] | simp only [pN]
  refine tkH 25 ?_
  try first | simp only [pS, List.set] | simp only [pN]
  refine tkH 26 ?_
  try first | simp only [pS, List.set] | simp only [pN]
  refine wpAnyH_done (by kernel_rfl) ?_ _
  have hR := row_kept hr2 hHeld.1
  have hB := hb2.trans (hHeld.1.mono (by omega))
  obtain ⟨c0, c1, c2, c3⟩ := hHeld.2.2.1
  have f0 := row_frozen hR 0
  have f1 := row_frozen hR 1
  have f2 := row_frozen hR 2
  have f3 := row_frozen hR 3
  have z0 := row_cell hR 0
  have z1 := row_cell hR 1
  have z2 := row_cell hR 2
  have z3 := row_cell hR 3
  simp at z0 z1 z2 z3
  clear hSd hc2 hp2
  have HH := Lib.hid hHeld
  clear hHeld
  go_wp2_with fail
  have hfin := sset4_row hR (.int .i64 (s.a : Int)) (.int .i64 (s.b : Int)) (.int .i64 (s.i : Int)) (.int .i64 (s.o : Int))
  refine bodyPost_ret (res_take _ _ (s := s) (ok := false) rfl rfl hfin) rfl ?_
  exact ⟨_, _, rfl, HST.out, by rw [hsb]; exact sset4_below hB (by omega) _ _ _ _⟩

set_option maxRecDepth 100000 in
set_option maxHeartbeats 4000000 in
theorem ftake_2 {n : Int} {P T : List Cl} {s : Sp} (hs : Inv n P T s) (hP : P.length ≤ 60) (hT : T.length ≤ 60) {fb bm cP cT LI cI : Nat} {AP AT AI : Option Addr} {vE : Value} (hcP : P.length ≤ cP) (hcT : T.length ≤ cT) (W : World)
    (hF : FBox W fb n AP P.length cP AT T.length cT AI LI cI bm vE) (hlP : ClSl W W.heap.size AP P) (hlT : ClSl W W.heap.size AT T) {c : Cl} (hc : T[s.b]? = some c) (hm : mayB c (P.drop s.a) = true) (he : 0 ≤ c.e) (h2 : (c.c == 3) = true) :
    Calls Try.prog 35 #[.pointer (some ⟨fb, 0, none⟩), spV s] W (PutR (stepT P T s) W) := by
  have huse := And.intro hP (And.intro hT (And.intro hcP (And.intro hcT (And.intro hlP hlT))))
  clear huse
  obtain ⟨LP, hLP⟩ : ∃ x, P.length = x := ⟨_, rfl⟩
  obtain ⟨LT, hLT⟩ : ∃ x, T.length = x := ⟨_, rfl⟩
  have s1 := hs.a
  have s2 := hs.b
  have s3 := hs.oi
  have s4 : s.i ≤ 60 := by rw [hs.i]; exact Nat.le_trans List.countP_le_length (by rw [List.length_take]; omega)
  rw [hLP] at hF s1 hP hcP
  rw [hLT] at hF s2 hT hcT
  have HST := Lib.hid (show stepT P T s = (if ((((s.i : Int) - (s.o : Int)) == 0)) = true then some ⟨s.a, s.b + 1, s.i, s.o⟩ else none) by have hkk : (s.i = s.o) = (((s.i : Int) - (s.o : Int)) = 0) := propext (by omega); unfold stepT; rw [hc]; simp [hm, show emp c = true by simp [emp, opn]; exact ⟨he, by simpa using h2⟩, hkk])
  have hlto : s.b < LT := by rw [← hLT]; exact get_lt hc
  obtain ⟨eb, eo, Ac, cc, hAP, hebl, hec, hcw, hcc1, hcc2⟩ := hlT s.b c hc
  have hsl := fun W => slice_calls AP LP cP s.a s1 W
  have htl := hlP.tail (c := cP) (n := s.a) (by rw [hLP]; exact hcP) (by rw [hLP]; exact s1)
  obtain ⟨A2, hA2⟩ : ∃ x, (if cP = s.a then AP else AP.map (·.add (s.a * 7))) = x := ⟨_, rfl⟩
  rw [hA2] at hsl htl
  have hmay := fun (W' : World) (hb : Below W.heap.size W W') => lmay_any c Ac A2 cc (cP - s.a) (P.drop s.a) W' (by rw [List.length_drop]; omega) (htl.below hb hb.size)
  rw [List.length_drop, hLP, hm] at hmay
  subst hAP
  have h0i : ((s.b : Int) == (LT : Int)) = false := by simp; omega
  have hltoi : (s.b : Int) < (LT : Int) := by omega
  have hlt2i : (s.a : Int) ≤ (LP : Int) := by omega
  have hwr : IntKind.i64.wrap ((s.i : Int) - (s.o : Int)) = ((s.i : Int) - (s.o : Int)) := IntWalk.i64_in _ (by omega)
  unfold clV at hmay
  have HMAY := Lib.hid hmay
  have HCW := Lib.hid hcw
  clear hmay htl hcw hA2 hlP hlT hLP hLT hs hc hm
  have hb1 := (Below.refl W.heap.size W).alloc (Nat.le_refl _) (.cells #[.int .i64 (s.a : Int), .int .i64 (s.b : Int), .int .i64 (s.i : Int), .int .i64 (s.o : Int)] 48)
  have hb2 := hb1.alloc hb1.size (.cells #[.int .i64 0, .int .i64 0, .int .i64 0, .int .i64 0] 48)
  have hs1 := heap_alloc_new W (.cells #[.int .i64 (s.a : Int), .int .i64 (s.b : Int), .int .i64 (s.i : Int), .int .i64 (s.o : Int)] 48)
  have hs2 := row_kept hs1 ((Below.refl _ _).alloc (Nat.le_refl _) (.cells #[.int .i64 0, .int .i64 0, .int .i64 0, .int .i64 0] 48))
  have hr2 := heap_alloc_new (W.alloc (.cells #[.int .i64 (s.a : Int), .int .i64 (s.b : Int), .int .i64 (s.i : Int), .int .i64 (s.o : Int)] 48)) (.cells #[.int .i64 0, .int .i64 0, .int .i64 0, .int .i64 0] 48)
  have hf2 := row_kept hF hb2
  rw [World.size_alloc] at hr2
  have hlt := row_lt hF
  have hsz2 : W.heap.size + 2 ≤ ((W.alloc (.cells #[.int .i64 (s.a : Int), .int .i64 (s.b : Int), .int .i64 (s.i : Int), .int .i64 (s.o : Int)] 48)).alloc (.cells #[.int .i64 0, .int .i64 0, .int .i64 0, .int .i64 0] 48)).heap.size := by rw [World.size_alloc, World.size_alloc]; omega
  clear hs1 hb1 hF
  unfold spV
  obtain ⟨sb, hsb⟩ : ∃ x, W.heap.size = x := ⟨_, rfl⟩
  rw [hsb] at hs2 hr2 hb2 hlt hsz2
  have hebl : eb < sb := by omega
  go_enter Try.func35, Try.ntmps35
  go_wp2_with fail
  obtain ⟨W2, hW2⟩ : ∃ x, (W.alloc (.cells #[.int .i64 (s.a : Int), .int .i64 (s.b : Int), .int .i64 (s.i : Int), .int .i64 (s.o : Int)] 48)).alloc (.cells #[.int .i64 0, .int .i64 0, .int .i64 0, .int .i64 0] 48) = x := ⟨_, rfl⟩
  rw [hW2] at hs2 hr2 hb2 hf2 hsz2 ⊢
  clear hW2
  have hec2 := cl7_low hec hb2 hebl
  have hc2 := FBox.cells hf2
  have hp2 := SpBox.cells hs2
  clear hec
  have hSd : (fun w' => Below W2.heap.size W2 w' ∧ (w'.cell? ⟨fb, 0, none⟩ = some (.int .i64 n) ∧ w'.cell? ⟨fb, 1, none⟩ = some (.slice AP LP cP) ∧ w'.cell? ⟨fb, 2, none⟩ = some (.slice (some ⟨eb, eo, none⟩) LT cT) ∧ w'.cell? ⟨fb, 3, none⟩ = some (.slice AI LI cI)) ∧ (w'.cell? ⟨sb, 0, none⟩ = some (.int .i64 (s.a : Int)) ∧ w'.cell? ⟨sb, 1, none⟩ = some (.int .i64 (s.b : Int)) ∧ w'.cell? ⟨sb, 2, none⟩ = some (.int .i64 (s.i : Int)) ∧ w'.cell? ⟨sb, 3, none⟩ = some (.int .i64 (s.o : Int))) ∧ (w'.cell? ⟨eb, eo + s.b * 7, none⟩ = some (.int .i64 c.p) ∧ w'.cell? ⟨eb, eo + s.b * 7 + 1, none⟩ = some (.int .i64 c.o) ∧ w'.cell? ⟨eb, eo + s.b * 7 + 2, none⟩ = some (.int .i64 c.q) ∧ w'.cell? ⟨eb, eo + s.b * 7 + 3, none⟩ = some (.slice Ac c.r.length cc) ∧ w'.cell? ⟨eb, eo + s.b * 7 + 4, none⟩ = some (.int .i64 c.c) ∧ w'.cell? ⟨eb, eo + s.b * 7 + 5, none⟩ = some (.int .i64 c.b) ∧ w'.cell? ⟨eb, eo + s.b * 7 + 6, none⟩ = some (.int .i64 c.e))) W2.drew := ⟨(Below.refl _ W2).drew, ⟨hc2.1, hc2.2.1, hc2.2.2.1, hc2.2.2.2.1⟩, hp2, hec2⟩
  refine wp_region_held_drew (S := (fun w' => Below W2.heap.size W2 w' ∧ (w'.cell? ⟨fb, 0, none⟩ = some (.int .i64 n) ∧ w'.cell? ⟨fb, 1, none⟩ = some (.slice AP LP cP) ∧ w'.cell? ⟨fb, 2, none⟩ = some (.slice (some ⟨eb, eo, none⟩) LT cT) ∧ w'.cell? ⟨fb, 3, none⟩ = some (.slice AI LI cI)) ∧ (w'.cell? ⟨sb, 0, none⟩ = some (.int .i64 (s.a : Int)) ∧ w'.cell? ⟨sb, 1, none⟩ = some (.int .i64 (s.b : Int)) ∧ w'.cell? ⟨sb, 2, none⟩ = some (.int .i64 (s.i : Int)) ∧ w'.cell? ⟨sb, 3, none⟩ = some (.int .i64 (s.o : Int))) ∧ (w'.cell? ⟨eb, eo + s.b * 7, none⟩ = some (.int .i64 c.p) ∧ w'.cell? ⟨eb, eo + s.b * 7 + 1, none⟩ = some (.int .i64 c.o) ∧ w'.cell? ⟨eb, eo + s.b * 7 + 2, none⟩ = some (.int .i64 c.q) ∧ w'.cell? ⟨eb, eo + s.b * 7 + 3, none⟩ = some (.slice Ac c.r.length cc) ∧ w'.cell? ⟨eb, eo + s.b * 7 + 4, none⟩ = some (.int .i64 c.c) ∧ w'.cell? ⟨eb, eo + s.b * 7 + 5, none⟩ = some (.int .i64 c.b) ∧ w'.cell? ⟨eb, eo + s.b * 7 + 6, none⟩ = some (.int .i64 c.e)))) (by kernel_rfl) hSd (fun hHeld => ?_)
  generalize W2.drew = wd at hHeld ⊢
  have hHeld : (fun w' => Below W2.heap.size W2 w' ∧ (w'.cell? ⟨fb, 0, none⟩ = some (.int .i64 n) ∧ w'.cell? ⟨fb, 1, none⟩ = some (.slice AP LP cP) ∧ w'.cell? ⟨fb, 2, none⟩ = some (.slice (some ⟨eb, eo, none⟩) LT cT) ∧ w'.cell? ⟨fb, 3, none⟩ = some (.slice AI LI cI)) ∧ (w'.cell? ⟨sb, 0, none⟩ = some (.int .i64 (s.a : Int)) ∧ w'.cell? ⟨sb, 1, none⟩ = some (.int .i64 (s.b : Int)) ∧ w'.cell? ⟨sb, 2, none⟩ = some (.int .i64 (s.i : Int)) ∧ w'.cell? ⟨sb, 3, none⟩ = some (.int .i64 (s.o : Int))) ∧ (w'.cell? ⟨eb, eo + s.b * 7, none⟩ = some (.int .i64 c.p) ∧ w'.cell? ⟨eb, eo + s.b * 7 + 1, none⟩ = some (.int .i64 c.o) ∧ w'.cell? ⟨eb, eo + s.b * 7 + 2, none⟩ = some (.int .i64 c.q) ∧ w'.cell? ⟨eb, eo + s.b * 7 + 3, none⟩ = some (.slice Ac c.r.length cc) ∧ w'.cell? ⟨eb, eo + s.b * 7 + 4, none⟩ = some (.int .i64 c.c) ∧ w'.cell? ⟨eb, eo + s.b * 7 + 5, none⟩ = some (.int .i64 c.b) ∧ w'.cell? ⟨eb, eo + s.b * 7 + 6, none⟩ = some (.int .i64 c.e))) wd := hHeld
  refine tkH 0 ?_
  try first | simp only [pS, List.set] | simp only [pN]
  refine tkH 1 ?_
  try first | simp only [pS, List.set] | simp only [pN]
  refine tkH 2 ?_
  try first | simp only [pS, List.set] | simp only [pN]
  refine tkH 3 ?_
  try first | simp only [pS, List.set] | simp only [pN]
  refine tkH 4 ?_
  try first | simp only [pS, List.set] | simp only [pN]
  refine tkH 5 ?_
  try first | simp only [pS, List.set] | simp only [pN]
  refine tkH 6 ?_
  try first | simp only [pS, List.set] | simp only [pN]
  refine tkH 7 ?_
  try first | simp only [pS, List.set] | simp only [pN]
  refine tkH 8 ?_
  try first | simp only [pS, List.set] | simp only [pN]
  refine tkH 9 ?_
  try first | simp only [pS, List.set] | simp only [pN]
  refine tkH 10 ?_
  try first | simp only [pS, List.set] | simp only [pN]
  refine tkH 11 ?_
  try first | simp only [pS, List.set] | simp only [pN]
  refine tkH 12 ?_
  try first | simp only [pS, List.set] | simp only [pN]
  refine tkH 13 ?_
  try first | simp only [pS, List.set] | simp only [pN]
  refine tkH 14 ?_
  try first | simp only [pS, List.set] | simp only [pN]
  refine tkH 15 ?_
  try first | simp only [pS, List.set] | simp only [pN]
  refine tkH 16 ?_
  try first | simp only [pS, List.set] | simp only [pN]
  refine tkH 17 ?_
  try first | simp only [pS, List.set] | simp only [pN]
  refine tkH 18 ?_
  try first | simp only [pS, List.set] | simp only [pN]
  refine tkH 19 ?_
  try first | simp only [pS, List.set] | simp only [pN]
  refine tkH 20 ?_
  try first | simp only [pS, List.set] | simp only [pN]
  refine tkH 21 ?_
  try first | simp only [pS, List.set] | simp only [pN]
  refine tkH 22 ?_
  try first | simp only [pS, List.set] | simp only [pN]
  refine tkH 23 ?_
  try first | simp only [pS, List.set] | simp only [pN]
  refine wpAnyH_ready (rs := [24]) (by kernel_rfl) (by simp) ?_
  refine AllReadyH.cons (o := ?_) ?_ (fun K hK => ?_) AllReadyH.nil
  rotate_left
  · (simp only [List.getElem?_toArray, List.getElem?_cons_succ, List.getElem?_cons_zero]; rfl)
  go_simp
  go_at_call 48
  refine (HMAY.out _ (by rw [hsb]; exact hb2.trans (hHeld.1.mono (by omega)))).mono ?_
  rintro e wx ⟨rfl, hbx⟩
  have hSx : (fun w' => Below W2.heap.size W2 w' ∧ (w'.cell? ⟨fb, 0, none⟩ = some (.int .i64 n) ∧ w'.cell? ⟨fb, 1, none⟩ = some (.slice AP LP cP) ∧ w'.cell? ⟨fb, 2, none⟩ = some (.slice (some ⟨eb, eo, none⟩) LT cT) ∧ w'.cell? ⟨fb, 3, none⟩ = some (.slice AI LI cI)) ∧ (w'.cell? ⟨sb, 0, none⟩ = some (.int .i64 (s.a : Int)) ∧ w'.cell? ⟨sb, 1, none⟩ = some (.int .i64 (s.b : Int)) ∧ w'.cell? ⟨sb, 2, none⟩ = some (.int .i64 (s.i : Int)) ∧ w'.cell? ⟨sb, 3, none⟩ = some (.int .i64 (s.o : Int))) ∧ (w'.cell? ⟨eb, eo + s.b * 7, none⟩ = some (.int .i64 c.p) ∧ w'.cell? ⟨eb, eo + s.b * 7 + 1, none⟩ = some (.int .i64 c.o) ∧ w'.cell? ⟨eb, eo + s.b * 7 + 2, none⟩ = some (.int .i64 c.q) ∧ w'.cell? ⟨eb, eo + s.b * 7 + 3, none⟩ = some (.slice Ac c.r.length cc) ∧ w'.cell? ⟨eb, eo + s.b * 7 + 4, none⟩ = some (.int .i64 c.c) ∧ w'.cell? ⟨eb, eo + s.b * 7 + 5, none⟩ = some (.int .i64 c.b) ∧ w'.cell? ⟨eb, eo + s.b * 7 + 6, none⟩ = some (.int .i64 c.e))) wx := ⟨hHeld.1.trans (hbx.mono hHeld.1.size), f4_below hHeld.2.1 hbx, f4_below hHeld.2.2.1 hbx, cl7_below hHeld.2.2.2 hbx⟩
  refine hK.out _ _ hSx (fun hHeld => ?_)
  clear hK K
  try first | simp only [pS, List.set] | simp only [pN]
  refine tkH 25 ?_
  try first | simp only [pS, List.set] | simp only [pN]
  refine tkH 26 ?_
  try first | simp only [pS, List.set] | simp only [pN]
  refine wpAnyH_done (by kernel_rfl) ?_ _
  have hSB := row_kept hs2 hHeld.1
  have hR := row_kept hr2 hHeld.1
  have hB3 := hb2.trans (hHeld.1.mono (by omega))
  have hsx : sb + 2 ≤ wx.heap.size := Nat.le_trans hsz2 hHeld.1.size
  have hH3 := hHeld.2
  have HH := Lib.hid hHeld
  clear hSd hSx hHeld hs2 hr2 hb2 hf2 hc2 hp2 hec2 HMAY hsl hsz2
  obtain ⟨c0, c1, c2, c3⟩ := hH3.2.1
  go_wp2_with fail
  have hSd : (fun w' => Below wx.heap.size wx w' ∧ (w'.cell? ⟨fb, 0, none⟩ = some (.int .i64 n) ∧ w'.cell? ⟨fb, 1, none⟩ = some (.slice AP LP cP) ∧ w'.cell? ⟨fb, 2, none⟩ = some (.slice (some ⟨eb, eo, none⟩) LT cT) ∧ w'.cell? ⟨fb, 3, none⟩ = some (.slice AI LI cI)) ∧ (w'.cell? ⟨sb, 0, none⟩ = some (.int .i64 (s.a : Int)) ∧ w'.cell? ⟨sb, 1, none⟩ = some (.int .i64 (s.b : Int)) ∧ w'.cell? ⟨sb, 2, none⟩ = some (.int .i64 (s.i : Int)) ∧ w'.cell? ⟨sb, 3, none⟩ = some (.int .i64 (s.o : Int))) ∧ (w'.cell? ⟨eb, eo + s.b * 7, none⟩ = some (.int .i64 c.p) ∧ w'.cell? ⟨eb, eo + s.b * 7 + 1, none⟩ = some (.int .i64 c.o) ∧ w'.cell? ⟨eb, eo + s.b * 7 + 2, none⟩ = some (.int .i64 c.q) ∧ w'.cell? ⟨eb, eo + s.b * 7 + 3, none⟩ = some (.slice Ac c.r.length cc) ∧ w'.cell? ⟨eb, eo + s.b * 7 + 4, none⟩ = some (.int .i64 c.c) ∧ w'.cell? ⟨eb, eo + s.b * 7 + 5, none⟩ = some (.int .i64 c.b) ∧ w'.cell? ⟨eb, eo + s.b * 7 + 6, none⟩ = some (.int .i64 c.e))) wx.drew := ⟨(Below.refl _ wx).drew, hH3⟩
  refine wp_region_held_drew (S := (fun w' => Below wx.heap.size wx w' ∧ (w'.cell? ⟨fb, 0, none⟩ = some (.int .i64 n) ∧ w'.cell? ⟨fb, 1, none⟩ = some (.slice AP LP cP) ∧ w'.cell? ⟨fb, 2, none⟩ = some (.slice (some ⟨eb, eo, none⟩) LT cT) ∧ w'.cell? ⟨fb, 3, none⟩ = some (.slice AI LI cI)) ∧ (w'.cell? ⟨sb, 0, none⟩ = some (.int .i64 (s.a : Int)) ∧ w'.cell? ⟨sb, 1, none⟩ = some (.int .i64 (s.b : Int)) ∧ w'.cell? ⟨sb, 2, none⟩ = some (.int .i64 (s.i : Int)) ∧ w'.cell? ⟨sb, 3, none⟩ = some (.int .i64 (s.o : Int))) ∧ (w'.cell? ⟨eb, eo + s.b * 7, none⟩ = some (.int .i64 c.p) ∧ w'.cell? ⟨eb, eo + s.b * 7 + 1, none⟩ = some (.int .i64 c.o) ∧ w'.cell? ⟨eb, eo + s.b * 7 + 2, none⟩ = some (.int .i64 c.q) ∧ w'.cell? ⟨eb, eo + s.b * 7 + 3, none⟩ = some (.slice Ac c.r.length cc) ∧ w'.cell? ⟨eb, eo + s.b * 7 + 4, none⟩ = some (.int .i64 c.c) ∧ w'.cell? ⟨eb, eo + s.b * 7 + 5, none⟩ = some (.int .i64 c.b) ∧ w'.cell? ⟨eb, eo + s.b * 7 + 6, none⟩ = some (.int .i64 c.e)))) (by kernel_rfl) hSd (fun hHeld => ?_)
  generalize wx.drew = wd at hHeld ⊢
  have hHeld : (fun w' => Below wx.heap.size wx w' ∧ (w'.cell? ⟨fb, 0, none⟩ = some (.int .i64 n) ∧ w'.cell? ⟨fb, 1, none⟩ = some (.slice AP LP cP) ∧ w'.cell? ⟨fb, 2, none⟩ = some (.slice (some ⟨eb, eo, none⟩) LT cT) ∧ w'.cell? ⟨fb, 3, none⟩ = some (.slice AI LI cI)) ∧ (w'.cell? ⟨sb, 0, none⟩ = some (.int .i64 (s.a : Int)) ∧ w'.cell? ⟨sb, 1, none⟩ = some (.int .i64 (s.b : Int)) ∧ w'.cell? ⟨sb, 2, none⟩ = some (.int .i64 (s.i : Int)) ∧ w'.cell? ⟨sb, 3, none⟩ = some (.int .i64 (s.o : Int))) ∧ (w'.cell? ⟨eb, eo + s.b * 7, none⟩ = some (.int .i64 c.p) ∧ w'.cell? ⟨eb, eo + s.b * 7 + 1, none⟩ = some (.int .i64 c.o) ∧ w'.cell? ⟨eb, eo + s.b * 7 + 2, none⟩ = some (.int .i64 c.q) ∧ w'.cell? ⟨eb, eo + s.b * 7 + 3, none⟩ = some (.slice Ac c.r.length cc) ∧ w'.cell? ⟨eb, eo + s.b * 7 + 4, none⟩ = some (.int .i64 c.c) ∧ w'.cell? ⟨eb, eo + s.b * 7 + 5, none⟩ = some (.int .i64 c.b) ∧ w'.cell? ⟨eb, eo + s.b * 7 + 6, none⟩ = some (.int .i64 c.e))) wd := hHeld
  refine tkH 0 ?_
  try first | simp only [pS, List.set] | simp only [pN]
  refine tkH 1 ?_
  try first | simp only [pS, List.set] | simp only [pN]
  refine tkH 2 ?_
  try first | simp only [pS, List.set] | simp only [pN]
  refine tkH 3 ?_
  try first | simp only [pS, List.set] | simp only [pN]
  refine tkH 4 ?_
  try first | simp only [pS, List.set] | simp only [pN]
  refine tkH 5 ?_
  try first | simp only [pS, List.set] | simp only [pN]
  refine tkH 6 ?_
  try first | simp only [pS, List.set] | simp only [pN]
  refine tkH 7 ?_
  try first | simp only [pS, List.set] | simp only [pN]
  refine tkH 8 ?_
  try first | simp only [pS, List.set] | simp only [pN]
  refine tkH 9 ?_
  try first | simp only [pS, List.set] | simp only [pN]
  refine tkH 10 ?_
  try first | simp only [pS, List.set] | simp only [pN]
  refine tkH 11 ?_
  try first | simp only [pS, List.set] | simp only [pN]
  refine tkH 12 ?_
  try first | simp only [pS, List.set] | simp only [pN]
  refine wpAnyH_ready (rs := [13]) (by kernel_rfl) (by simp) ?_
  refine AllReadyH.cons (o := ?_) ?_ (fun K hK => ?_) AllReadyH.nil
  rotate_left
  · (simp only [List.getElem?_toArray, List.getElem?_cons_succ, List.getElem?_cons_zero]; rfl)
  go_simp
  have hcz := hHeld.1.size
  have hnew := heap_alloc_new wd (.cells #[.int .i64 0, .int .i64 0, .int .i64 0, .slice none 0 0, .int .i64 0, .int .i64 0, .int .i64 0] 32)
  have hba := (Below.refl wd.heap.size wd).alloc (Nat.le_refl _) (.cells #[.int .i64 0, .int .i64 0, .int .i64 0, .slice none 0 0, .int .i64 0, .int .i64 0, .int .i64 0] 32)
  have hSx : (fun w' => Below wx.heap.size wx w' ∧ (w'.cell? ⟨fb, 0, none⟩ = some (.int .i64 n) ∧ w'.cell? ⟨fb, 1, none⟩ = some (.slice AP LP cP) ∧ w'.cell? ⟨fb, 2, none⟩ = some (.slice (some ⟨eb, eo, none⟩) LT cT) ∧ w'.cell? ⟨fb, 3, none⟩ = some (.slice AI LI cI)) ∧ (w'.cell? ⟨sb, 0, none⟩ = some (.int .i64 (s.a : Int)) ∧ w'.cell? ⟨sb, 1, none⟩ = some (.int .i64 (s.b : Int)) ∧ w'.cell? ⟨sb, 2, none⟩ = some (.int .i64 (s.i : Int)) ∧ w'.cell? ⟨sb, 3, none⟩ = some (.int .i64 (s.o : Int))) ∧ (w'.cell? ⟨eb, eo + s.b * 7, none⟩ = some (.int .i64 c.p) ∧ w'.cell? ⟨eb, eo + s.b * 7 + 1, none⟩ = some (.int .i64 c.o) ∧ w'.cell? ⟨eb, eo + s.b * 7 + 2, none⟩ = some (.int .i64 c.q) ∧ w'.cell? ⟨eb, eo + s.b * 7 + 3, none⟩ = some (.slice Ac c.r.length cc) ∧ w'.cell? ⟨eb, eo + s.b * 7 + 4, none⟩ = some (.int .i64 c.c) ∧ w'.cell? ⟨eb, eo + s.b * 7 + 5, none⟩ = some (.int .i64 c.b) ∧ w'.cell? ⟨eb, eo + s.b * 7 + 6, none⟩ = some (.int .i64 c.e))) (wd.alloc (.cells #[.int .i64 0, .int .i64 0, .int .i64 0, .slice none 0 0, .int .i64 0, .int .i64 0, .int .i64 0] 32)) := ⟨hHeld.1.trans (hba.mono hHeld.1.size), f4_below hHeld.2.1 hba, f4_below hHeld.2.2.1 hba, cl7_below hHeld.2.2.2 hba⟩
  refine hK.out _ _ hSx (fun hHeld => ?_)
  clear hK K
  try first | simp only [pS, List.set] | simp only [pN]
  obtain ⟨wa, hwa⟩ : ∃ x, wd.alloc (.cells #[.int .i64 0, .int .i64 0, .int .i64 0, .slice none 0 0, .int .i64 0, .int .i64 0, .int .i64 0] 32) = x := ⟨_, rfl⟩
  obtain ⟨cb, hcb⟩ : ∃ x, wd.heap.size = x := ⟨_, rfl⟩
  rw [hwa] at hHeld hnew ⊢
  rw [hcb] at hnew hcz ⊢
  clear hwa hcb hba hSx
  have b0 := row_cell hnew 0
  have b1 := row_cell hnew 1
  have b2 := row_cell hnew 2
  have b3 := row_cell hnew 3
  have b4 := row_cell hnew 4
  have b5 := row_cell hnew 5
  have b6 := row_cell hnew 6
  simp at b0 b1 b2 b3 b4 b5 b6
  have f0 := row_frozen hnew 0
  have f1 := row_frozen hnew 1
  have f2 := row_frozen hnew 2
  have f3 := row_frozen hnew 3
  have f4 := row_frozen hnew 4
  have f5 := row_frozen hnew 5
  have f6 := row_frozen hnew 6
  refine wpAnyH_ready (rs := [14]) (by kernel_rfl) (by simp) ?_
  refine AllReadyH.cons (o := ?_) ?_ (fun K hK => ?_) AllReadyH.nil
  rotate_left
  · (simp only [List.getElem?_toArray, List.getElem?_cons_succ, List.getElem?_cons_zero]; rfl)
  go_simp
  have hset := cset7_row hnew (.int .i64 c.p) (.int .i64 c.o) (.int .i64 c.q) (.slice Ac c.r.length cc) (.int .i64 c.c) (.int .i64 c.b) (.int .i64 c.e)
  have hbs := cset7_below (Below.refl cb wa) (Nat.le_refl cb) (.int .i64 c.p) (.int .i64 c.o) (.int .i64 c.q) (.slice Ac c.r.length cc) (.int .i64 c.c) (.int .i64 c.b) (.int .i64 c.e)
  have hSx : (fun w' => Below wx.heap.size wx w' ∧ (w'.cell? ⟨fb, 0, none⟩ = some (.int .i64 n) ∧ w'.cell? ⟨fb, 1, none⟩ = some (.slice AP LP cP) ∧ w'.cell? ⟨fb, 2, none⟩ = some (.slice (some ⟨eb, eo, none⟩) LT cT) ∧ w'.cell? ⟨fb, 3, none⟩ = some (.slice AI LI cI)) ∧ (w'.cell? ⟨sb, 0, none⟩ = some (.int .i64 (s.a : Int)) ∧ w'.cell? ⟨sb, 1, none⟩ = some (.int .i64 (s.b : Int)) ∧ w'.cell? ⟨sb, 2, none⟩ = some (.int .i64 (s.i : Int)) ∧ w'.cell? ⟨sb, 3, none⟩ = some (.int .i64 (s.o : Int))) ∧ (w'.cell? ⟨eb, eo + s.b * 7, none⟩ = some (.int .i64 c.p) ∧ w'.cell? ⟨eb, eo + s.b * 7 + 1, none⟩ = some (.int .i64 c.o) ∧ w'.cell? ⟨eb, eo + s.b * 7 + 2, none⟩ = some (.int .i64 c.q) ∧ w'.cell? ⟨eb, eo + s.b * 7 + 3, none⟩ = some (.slice Ac c.r.length cc) ∧ w'.cell? ⟨eb, eo + s.b * 7 + 4, none⟩ = some (.int .i64 c.c) ∧ w'.cell? ⟨eb, eo + s.b * 7 + 5, none⟩ = some (.int .i64 c.b) ∧ w'.cell? ⟨eb, eo + s.b * 7 + 6, none⟩ = some (.int .i64 c.e))) (cset7 wa cb (.int .i64 c.p) (.int .i64 c.o) (.int .i64 c.q) (.slice Ac c.r.length cc) (.int .i64 c.c) (.int .i64 c.b) (.int .i64 c.e)) := ⟨hHeld.1.trans (hbs.mono hcz), f4_low hHeld.2.1 hbs (by omega), f4_low hHeld.2.2.1 hbs (by omega), cl7_low hHeld.2.2.2 hbs (by omega)⟩
  unfold cset7 at hset
  obtain ⟨wc, hwc⟩ : ∃ x, ((((((wa.setCell ⟨cb, 0, none⟩ (.int .i64 c.p)).setCell ⟨cb, 1, none⟩ (.int .i64 c.o)).setCell ⟨cb, 2, none⟩ (.int .i64 c.q)).setCell ⟨cb, 3, none⟩ (.slice Ac c.r.length cc)).setCell ⟨cb, 4, none⟩ (.int .i64 c.c)).setCell ⟨cb, 5, none⟩ (.int .i64 c.b)).setCell ⟨cb, 6, none⟩ (.int .i64 c.e) = x := ⟨_, rfl⟩
  have hSx2 : (fun w' => Below wx.heap.size wx w' ∧ (w'.cell? ⟨fb, 0, none⟩ = some (.int .i64 n) ∧ w'.cell? ⟨fb, 1, none⟩ = some (.slice AP LP cP) ∧ w'.cell? ⟨fb, 2, none⟩ = some (.slice (some ⟨eb, eo, none⟩) LT cT) ∧ w'.cell? ⟨fb, 3, none⟩ = some (.slice AI LI cI)) ∧ (w'.cell? ⟨sb, 0, none⟩ = some (.int .i64 (s.a : Int)) ∧ w'.cell? ⟨sb, 1, none⟩ = some (.int .i64 (s.b : Int)) ∧ w'.cell? ⟨sb, 2, none⟩ = some (.int .i64 (s.i : Int)) ∧ w'.cell? ⟨sb, 3, none⟩ = some (.int .i64 (s.o : Int))) ∧ (w'.cell? ⟨eb, eo + s.b * 7, none⟩ = some (.int .i64 c.p) ∧ w'.cell? ⟨eb, eo + s.b * 7 + 1, none⟩ = some (.int .i64 c.o) ∧ w'.cell? ⟨eb, eo + s.b * 7 + 2, none⟩ = some (.int .i64 c.q) ∧ w'.cell? ⟨eb, eo + s.b * 7 + 3, none⟩ = some (.slice Ac c.r.length cc) ∧ w'.cell? ⟨eb, eo + s.b * 7 + 4, none⟩ = some (.int .i64 c.c) ∧ w'.cell? ⟨eb, eo + s.b * 7 + 5, none⟩ = some (.int .i64 c.b) ∧ w'.cell? ⟨eb, eo + s.b * 7 + 6, none⟩ = some (.int .i64 c.e))) wc := by rw [← hwc]; exact hSx
  rw [hwc] at hset ⊢
  clear hwc hSx hbs
  have hSx := hSx2
  refine hK.out _ _ hSx (fun hHeld => ?_)
  clear hK K
  try first | simp only [pS, List.set] | simp only [pN]
  refine tkH 15 ?_
  try first | simp only [pS, List.set] | simp only [pN]
  refine wpAnyH_done (by kernel_rfl) ?_ _
  have hSc := row_kept hSB hHeld.1
  have hRc := row_kept hR hHeld.1
  have hBc := hB3.trans (hHeld.1.mono (by omega))
  have hFc := hHeld.2.1
  have hcs := row_lt hset
  clear hSd hSx hHeld hSx2 hH3 HH c0 c1 c2 c3 hSB hR hB3 hnew b0 b1 b2 b3 b4 b5 b6 f0 f1 f2 f3 f4 f5 f6
  have d0 := row_cell hset 0
  have d1 := row_cell hset 1
  have d2 := row_cell hset 2
  have d3 := row_cell hset 3
  have d4 := row_cell hset 4
  have d5 := row_cell hset 5
  have d6 := row_cell hset 6
  simp at d0 d1 d2 d3 d4 d5 d6
  have c0 := row_cell hSc 0
  have c1 := row_cell hSc 1
  have c2 := row_cell hSc 2
  have c3 := row_cell hSc 3
  simp at c0 c1 c2 c3
  have f0 := row_frozen hSc 0
  have f1 := row_frozen hSc 1
  have f2 := row_frozen hSc 2
  have f3 := row_frozen hSc 3
  have hcne : cb ≠ sb := by omega
  have hcne2 : sb ≠ cb := by omega
  have hfs : fb ≠ sb := by omega
  have hrs : sb + 1 ≠ sb := by omega
  have hcr : cb ≠ sb + 1 := by omega
  have g0 := row_frozen hRc 0
  have g1 := row_frozen hRc 1
  have g2 := row_frozen hRc 2
  have g3 := row_frozen hRc 3
  have z0 := row_cell hRc 0
  have z1 := row_cell hRc 1
  have z2 := row_cell hRc 2
  have z3 := row_cell hRc 3
  simp at z0 z1 z2 z3
  have hrs2 : sb ≠ sb + 1 := by omega
  have hRE : sb ≤ sb + 1 := by omega
  have hS4 : (wc.setCell ⟨sb, 1, none⟩ (.int .i64 ((s.b : Int) + 1))).heap[sb]? = some (.cells #[.int .i64 (s.a : Int), .int .i64 ((s.b : Int) + 1), .int .i64 (s.i : Int), .int .i64 (s.o : Int)] 48 (0, 0)) := by simpa using lrow_set wc sb _ _ 1 (.int .i64 ((s.b : Int) + 1)) hSc
  have hR4 := row_other hRc sb 1 (.int .i64 ((s.b : Int) + 1)) hrs
  have hF4 := f4_other (j := 1) (x := .int .i64 ((s.b : Int) + 1)) hFc hfs
  have hC4 := row_other hset sb 1 (.int .i64 ((s.b : Int) + 1)) hcne
  have hB4 := hBc.setCell (p := ⟨sb, 1, none⟩) (Nat.le_refl _) (.int .i64 ((s.b : Int) + 1))
  have HS := Lib.hid hS4
  have HR := Lib.hid hR4
  have HF := Lib.hid hF4
  have HC := Lib.hid hC4
  have HB := Lib.hid hB4
  clear hS4 hR4 hF4 hC4 hB4
  clear hSc hRc hFc hBc
  have HSET := Lib.hid hset
  clear hset
  go_wp2_with fail
  have hfin := sset4_row HR.out (.int .i64 (s.a : Int)) (.int .i64 ((s.b : Int) + 1)) (.int .i64 (s.i : Int)) (.int .i64 (s.o : Int))
  refine bodyPost_ret (res_take _ _ (s := ⟨s.a, s.b + 1, s.i, s.o⟩) (ok := (((s.i : Int) - (s.o : Int)) == 0)) rfl rfl hfin) rfl ?_
  exact ⟨_, _, rfl, HST.out, by rw [hsb]; exact sset4_below HB.out hRE _ _ _ _⟩

set_option maxRecDepth 100000 in
set_option maxHeartbeats 4000000 in
theorem ftake_3 {n : Int} {P T : List Cl} {s : Sp} (hs : Inv n P T s) (hP : P.length ≤ 60) (hT : T.length ≤ 60) {fb bm cP cT LI cI : Nat} {AP AT AI : Option Addr} {vE : Value} (hcP : P.length ≤ cP) (hcT : T.length ≤ cT) (W : World)
    (hF : FBox W fb n AP P.length cP AT T.length cT AI LI cI bm vE) (hlP : ClSl W W.heap.size AP P) (hlT : ClSl W W.heap.size AT T) {c : Cl} (hc : T[s.b]? = some c) (hm : mayB c (P.drop s.a) = true) (he : c.e < 0) (hk : s.i = s.o) :
    Calls Try.prog 35 #[.pointer (some ⟨fb, 0, none⟩), spV s] W (PutR (stepT P T s) W) := by
  have huse := And.intro hP (And.intro hT (And.intro hcP (And.intro hcT (And.intro hlP hlT))))
  clear huse
  obtain ⟨LP, hLP⟩ : ∃ x, P.length = x := ⟨_, rfl⟩
  obtain ⟨LT, hLT⟩ : ∃ x, T.length = x := ⟨_, rfl⟩
  have s1 := hs.a
  have s2 := hs.b
  have s3 := hs.oi
  have s4 : s.i ≤ 60 := by rw [hs.i]; exact Nat.le_trans List.countP_le_length (by rw [List.length_take]; omega)
  rw [hLP] at hF s1 hP hcP
  rw [hLT] at hF s2 hT hcT
  have HST := Lib.hid (show stepT P T s = (if (true) = true then some ⟨s.a, s.b + 1, s.i, s.o⟩ else none) by unfold stepT; rw [hc]; simp [hm, show emp c = false by simp [emp, opn, he], hk, opn, he])
  have hlto : s.b < LT := by rw [← hLT]; exact get_lt hc
  obtain ⟨eb, eo, Ac, cc, hAP, hebl, hec, hcw, hcc1, hcc2⟩ := hlT s.b c hc
  have hsl := fun W => slice_calls AP LP cP s.a s1 W
  have htl := hlP.tail (c := cP) (n := s.a) (by rw [hLP]; exact hcP) (by rw [hLP]; exact s1)
  obtain ⟨A2, hA2⟩ : ∃ x, (if cP = s.a then AP else AP.map (·.add (s.a * 7))) = x := ⟨_, rfl⟩
  rw [hA2] at hsl htl
  have hmay := fun (W' : World) (hb : Below W.heap.size W W') => lmay_any c Ac A2 cc (cP - s.a) (P.drop s.a) W' (by rw [List.length_drop]; omega) (htl.below hb hb.size)
  rw [List.length_drop, hLP, hm] at hmay
  subst hAP
  have h0i : ((s.b : Int) == (LT : Int)) = false := by simp; omega
  have hltoi : (s.b : Int) < (LT : Int) := by omega
  have hlt2i : (s.a : Int) ≤ (LP : Int) := by omega
  have hwr : IntKind.i64.wrap ((s.i : Int) - (s.o : Int)) = ((s.i : Int) - (s.o : Int)) := IntWalk.i64_in _ (by omega)
  have hz : (((s.i : Int) - (s.o : Int)) == 0) = true := by simp; omega
  clear hk
  unfold clV at hmay
  have HMAY := Lib.hid hmay
  have HCW := Lib.hid hcw
  clear hmay htl hcw hA2 hlP hlT hLP hLT hs hc hm
  have hb1 := (Below.refl W.heap.size W).alloc (Nat.le_refl _) (.cells #[.int .i64 (s.a : Int), .int .i64 (s.b : Int), .int .i64 (s.i : Int), .int .i64 (s.o : Int)] 48)
  have hb2 := hb1.alloc hb1.size (.cells #[.int .i64 0, .int .i64 0, .int .i64 0, .int .i64 0] 48)
  have hs1 := heap_alloc_new W (.cells #[.int .i64 (s.a : Int), .int .i64 (s.b : Int), .int .i64 (s.i : Int), .int .i64 (s.o : Int)] 48)
  have hs2 := row_kept hs1 ((Below.refl _ _).alloc (Nat.le_refl _) (.cells #[.int .i64 0, .int .i64 0, .int .i64 0, .int .i64 0] 48))
  have hr2 := heap_alloc_new (W.alloc (.cells #[.int .i64 (s.a : Int), .int .i64 (s.b : Int), .int .i64 (s.i : Int), .int .i64 (s.o : Int)] 48)) (.cells #[.int .i64 0, .int .i64 0, .int .i64 0, .int .i64 0] 48)
  have hf2 := row_kept hF hb2
  rw [World.size_alloc] at hr2
  have hlt := row_lt hF
  have hsz2 : W.heap.size + 2 ≤ ((W.alloc (.cells #[.int .i64 (s.a : Int), .int .i64 (s.b : Int), .int .i64 (s.i : Int), .int .i64 (s.o : Int)] 48)).alloc (.cells #[.int .i64 0, .int .i64 0, .int .i64 0, .int .i64 0] 48)).heap.size := by rw [World.size_alloc, World.size_alloc]; omega
  clear hs1 hb1 hF
  unfold spV
  obtain ⟨sb, hsb⟩ : ∃ x, W.heap.size = x := ⟨_, rfl⟩
  rw [hsb] at hs2 hr2 hb2 hlt hsz2
  have hebl : eb < sb := by omega
  go_enter Try.func35, Try.ntmps35
  go_wp2_with fail
  obtain ⟨W2, hW2⟩ : ∃ x, (W.alloc (.cells #[.int .i64 (s.a : Int), .int .i64 (s.b : Int), .int .i64 (s.i : Int), .int .i64 (s.o : Int)] 48)).alloc (.cells #[.int .i64 0, .int .i64 0, .int .i64 0, .int .i64 0] 48) = x := ⟨_, rfl⟩
  rw [hW2] at hs2 hr2 hb2 hf2 hsz2 ⊢
  clear hW2
  have hec2 := cl7_low hec hb2 hebl
  have hc2 := FBox.cells hf2
  have hp2 := SpBox.cells hs2
  clear hec
  have hSd : (fun w' => Below W2.heap.size W2 w' ∧ (w'.cell? ⟨fb, 0, none⟩ = some (.int .i64 n) ∧ w'.cell? ⟨fb, 1, none⟩ = some (.slice AP LP cP) ∧ w'.cell? ⟨fb, 2, none⟩ = some (.slice (some ⟨eb, eo, none⟩) LT cT) ∧ w'.cell? ⟨fb, 3, none⟩ = some (.slice AI LI cI)) ∧ (w'.cell? ⟨sb, 0, none⟩ = some (.int .i64 (s.a : Int)) ∧ w'.cell? ⟨sb, 1, none⟩ = some (.int .i64 (s.b : Int)) ∧ w'.cell? ⟨sb, 2, none⟩ = some (.int .i64 (s.i : Int)) ∧ w'.cell? ⟨sb, 3, none⟩ = some (.int .i64 (s.o : Int))) ∧ (w'.cell? ⟨eb, eo + s.b * 7, none⟩ = some (.int .i64 c.p) ∧ w'.cell? ⟨eb, eo + s.b * 7 + 1, none⟩ = some (.int .i64 c.o) ∧ w'.cell? ⟨eb, eo + s.b * 7 + 2, none⟩ = some (.int .i64 c.q) ∧ w'.cell? ⟨eb, eo + s.b * 7 + 3, none⟩ = some (.slice Ac c.r.length cc) ∧ w'.cell? ⟨eb, eo + s.b * 7 + 4, none⟩ = some (.int .i64 c.c) ∧ w'.cell? ⟨eb, eo + s.b * 7 + 5, none⟩ = some (.int .i64 c.b) ∧ w'.cell? ⟨eb, eo + s.b * 7 + 6, none⟩ = some (.int .i64 c.e))) W2.drew := ⟨(Below.refl _ W2).drew, ⟨hc2.1, hc2.2.1, hc2.2.2.1, hc2.2.2.2.1⟩, hp2, hec2⟩
  refine wp_region_held_drew (S := (fun w' => Below W2.heap.size W2 w' ∧ (w'.cell? ⟨fb, 0, none⟩ = some (.int .i64 n) ∧ w'.cell? ⟨fb, 1, none⟩ = some (.slice AP LP cP) ∧ w'.cell? ⟨fb, 2, none⟩ = some (.slice (some ⟨eb, eo, none⟩) LT cT) ∧ w'.cell? ⟨fb, 3, none⟩ = some (.slice AI LI cI)) ∧ (w'.cell? ⟨sb, 0, none⟩ = some (.int .i64 (s.a : Int)) ∧ w'.cell? ⟨sb, 1, none⟩ = some (.int .i64 (s.b : Int)) ∧ w'.cell? ⟨sb, 2, none⟩ = some (.int .i64 (s.i : Int)) ∧ w'.cell? ⟨sb, 3, none⟩ = some (.int .i64 (s.o : Int))) ∧ (w'.cell? ⟨eb, eo + s.b * 7, none⟩ = some (.int .i64 c.p) ∧ w'.cell? ⟨eb, eo + s.b * 7 + 1, none⟩ = some (.int .i64 c.o) ∧ w'.cell? ⟨eb, eo + s.b * 7 + 2, none⟩ = some (.int .i64 c.q) ∧ w'.cell? ⟨eb, eo + s.b * 7 + 3, none⟩ = some (.slice Ac c.r.length cc) ∧ w'.cell? ⟨eb, eo + s.b * 7 + 4, none⟩ = some (.int .i64 c.c) ∧ w'.cell? ⟨eb, eo + s.b * 7 + 5, none⟩ = some (.int .i64 c.b) ∧ w'.cell? ⟨eb, eo + s.b * 7 + 6, none⟩ = some (.int .i64 c.e)))) (by kernel_rfl) hSd (fun hHeld => ?_)
  generalize W2.drew = wd at hHeld ⊢
  have hHeld : (fun w' => Below W2.heap.size W2 w' ∧ (w'.cell? ⟨fb, 0, none⟩ = some (.int .i64 n) ∧ w'.cell? ⟨fb, 1, none⟩ = some (.slice AP LP cP) ∧ w'.cell? ⟨fb, 2, none⟩ = some (.slice (some ⟨eb, eo, none⟩) LT cT) ∧ w'.cell? ⟨fb, 3, none⟩ = some (.slice AI LI cI)) ∧ (w'.cell? ⟨sb, 0, none⟩ = some (.int .i64 (s.a : Int)) ∧ w'.cell? ⟨sb, 1, none⟩ = some (.int .i64 (s.b : Int)) ∧ w'.cell? ⟨sb, 2, none⟩ = some (.int .i64 (s.i : Int)) ∧ w'.cell? ⟨sb, 3, none⟩ = some (.int .i64 (s.o : Int))) ∧ (w'.cell? ⟨eb, eo + s.b * 7, none⟩ = some (.int .i64 c.p) ∧ w'.cell? ⟨eb, eo + s.b * 7 + 1, none⟩ = some (.int .i64 c.o) ∧ w'.cell? ⟨eb, eo + s.b * 7 + 2, none⟩ = some (.int .i64 c.q) ∧ w'.cell? ⟨eb, eo + s.b * 7 + 3, none⟩ = some (.slice Ac c.r.length cc) ∧ w'.cell? ⟨eb, eo + s.b * 7 + 4, none⟩ = some (.int .i64 c.c) ∧ w'.cell? ⟨eb, eo + s.b * 7 + 5, none⟩ = some (.int .i64 c.b) ∧ w'.cell? ⟨eb, eo + s.b * 7 + 6, none⟩ = some (.int .i64 c.e))) wd := hHeld
  refine tkH 0 ?_
  try first | simp only [pS, List.set] | simp only [pN]
  refine tkH 1 ?_
  try first | simp only [pS, List.set] | simp only [pN]
  refine tkH 2 ?_
  try first | simp only [pS, List.set] | simp only [pN]
  refine tkH 3 ?_
  try first | simp only [pS, List.set] | simp only [pN]
  refine tkH 4 ?_
  try first | simp only [pS, List.set] | simp only [pN]
  refine tkH 5 ?_
  try first | simp only [pS, List.set] | simp only [pN]
  refine tkH 6 ?_
  try first | simp only [pS, List.set] | simp only [pN]
  refine tkH 7 ?_
  try first | simp only [pS, List.set] | simp only [pN]
  refine tkH 8 ?_
  try first | simp only [pS, List.set] | simp only [pN]
  refine tkH 9 ?_
  try first | simp only [pS, List.set] | simp only [pN]
  refine tkH 10 ?_
  try first | simp only [pS, List.set] | simp only [pN]
  refine tkH 11 ?_
  try first | simp only [pS, List.set] | simp only [pN]
  refine tkH 12 ?_
  try first | simp only [pS, List.set] | simp only [pN]
  refine tkH 13 ?_
  try first | simp only [pS, List.set] | simp only [pN]
  refine tkH 14 ?_
  try first | simp only [pS, List.set] | simp only [pN]
  refine tkH 15 ?_
  try first | simp only [pS, List.set] | simp only [pN]
  refine tkH 16 ?_
  try first | simp only [pS, List.set] | simp only [pN]
  refine tkH 17 ?_
  try first | simp only [pS, List.set] | simp only [pN]
  refine tkH 18 ?_
  try first | simp only [pS, List.set] | simp only [pN]
  refine tkH 19 ?_
  try first | simp only [pS, List.set] | simp only [pN]
  refine tkH 20 ?_
  try first | simp only [pS, List.set] | simp only [pN]
  refine tkH 21 ?_
  try first | simp only [pS, List.set] | simp only [pN]
  refine tkH 22 ?_
  try first | simp only [pS, List.set] | simp only [pN]
  refine tkH 23 ?_
  try first | simp only [pS, List.set] | simp only [pN]
  refine wpAnyH_ready (rs := [24]) (by kernel_rfl) (by simp) ?_
  refine AllReadyH.cons (o := ?_) ?_ (fun K hK => ?_) AllReadyH.nil
  rotate_left
  · (simp only [List.getElem?_toArray, List.getElem?_cons_succ, List.getElem?_cons_zero]; rfl)
  go_simp
  go_at_call 48
  refine (HMAY.out _ (by rw [hsb]; exact hb2.trans (hHeld.1.mono (by omega)))).mono ?_
  rintro e wx ⟨rfl, hbx⟩
  have hSx : (fun w' => Below W2.heap.size W2 w' ∧ (w'.cell? ⟨fb, 0, none⟩ = some (.int .i64 n) ∧ w'.cell? ⟨fb, 1, none⟩ = some (.slice AP LP cP) ∧ w'.cell? ⟨fb, 2, none⟩ = some (.slice (some ⟨eb, eo, none⟩) LT cT) ∧ w'.cell? ⟨fb, 3, none⟩ = some (.slice AI LI cI)) ∧ (w'.cell? ⟨sb, 0, none⟩ = some (.int .i64 (s.a : Int)) ∧ w'.cell? ⟨sb, 1, none⟩ = some (.int .i64 (s.b : Int)) ∧ w'.cell? ⟨sb, 2, none⟩ = some (.int .i64 (s.i : Int)) ∧ w'.cell? ⟨sb, 3, none⟩ = some (.int .i64 (s.o : Int))) ∧ (w'.cell? ⟨eb, eo + s.b * 7, none⟩ = some (.int .i64 c.p) ∧ w'.cell? ⟨eb, eo + s.b * 7 + 1, none⟩ = some (.int .i64 c.o) ∧ w'.cell? ⟨eb, eo + s.b * 7 + 2, none⟩ = some (.int .i64 c.q) ∧ w'.cell? ⟨eb, eo + s.b * 7 + 3, none⟩ = some (.slice Ac c.r.length cc) ∧ w'.cell? ⟨eb, eo + s.b * 7 + 4, none⟩ = some (.int .i64 c.c) ∧ w'.cell? ⟨eb, eo + s.b * 7 + 5, none⟩ = some (.int .i64 c.b) ∧ w'.cell? ⟨eb, eo + s.b * 7 + 6, none⟩ = some (.int .i64 c.e))) wx := ⟨hHeld.1.trans (hbx.mono hHeld.1.size), f4_below hHeld.2.1 hbx, f4_below hHeld.2.2.1 hbx, cl7_below hHeld.2.2.2 hbx⟩
  refine hK.out _ _ hSx (fun hHeld => ?_)
  clear hK K
  try first | simp only [pS, List.set] | simp only [pN]
  refine tkH 25 ?_
  try first | simp only [pS, List.set] | simp only [pN]
  refine tkH 26 ?_
  try first | simp only [pS, List.set] | simp only [pN]
  refine wpAnyH_done (by kernel_rfl) ?_ _
  have hSB := row_kept hs2 hHeld.1
  have hR := row_kept hr2 hHeld.1
  have hB3 := hb2.trans (hHeld.1.mono (by omega))
  have hsx : sb + 2 ≤ wx.heap.size := Nat.le_trans hsz2 hHeld.1.size
  have hH3 := hHeld.2
  have HH := Lib.hid hHeld
  clear hSd hSx hHeld hs2 hr2 hb2 hf2 hc2 hp2 hec2 HMAY hsl hsz2
  obtain ⟨c0, c1, c2, c3⟩ := hH3.2.1
  go_wp2_with fail
  have hSd : (fun w' => Below wx.heap.size wx w' ∧ (w'.cell? ⟨fb, 0, none⟩ = some (.int .i64 n) ∧ w'.cell? ⟨fb, 1, none⟩ = some (.slice AP LP cP) ∧ w'.cell? ⟨fb, 2, none⟩ = some (.slice (some ⟨eb, eo, none⟩) LT cT) ∧ w'.cell? ⟨fb, 3, none⟩ = some (.slice AI LI cI)) ∧ (w'.cell? ⟨sb, 0, none⟩ = some (.int .i64 (s.a : Int)) ∧ w'.cell? ⟨sb, 1, none⟩ = some (.int .i64 (s.b : Int)) ∧ w'.cell? ⟨sb, 2, none⟩ = some (.int .i64 (s.i : Int)) ∧ w'.cell? ⟨sb, 3, none⟩ = some (.int .i64 (s.o : Int))) ∧ (w'.cell? ⟨eb, eo + s.b * 7, none⟩ = some (.int .i64 c.p) ∧ w'.cell? ⟨eb, eo + s.b * 7 + 1, none⟩ = some (.int .i64 c.o) ∧ w'.cell? ⟨eb, eo + s.b * 7 + 2, none⟩ = some (.int .i64 c.q) ∧ w'.cell? ⟨eb, eo + s.b * 7 + 3, none⟩ = some (.slice Ac c.r.length cc) ∧ w'.cell? ⟨eb, eo + s.b * 7 + 4, none⟩ = some (.int .i64 c.c) ∧ w'.cell? ⟨eb, eo + s.b * 7 + 5, none⟩ = some (.int .i64 c.b) ∧ w'.cell? ⟨eb, eo + s.b * 7 + 6, none⟩ = some (.int .i64 c.e))) wx.drew := ⟨(Below.refl _ wx).drew, hH3⟩
  refine wp_region_held_drew (S := (fun w' => Below wx.heap.size wx w' ∧ (w'.cell? ⟨fb, 0, none⟩ = some (.int .i64 n) ∧ w'.cell? ⟨fb, 1, none⟩ = some (.slice AP LP cP) ∧ w'.cell? ⟨fb, 2, none⟩ = some (.slice (some ⟨eb, eo, none⟩) LT cT) ∧ w'.cell? ⟨fb, 3, none⟩ = some (.slice AI LI cI)) ∧ (w'.cell? ⟨sb, 0, none⟩ = some (.int .i64 (s.a : Int)) ∧ w'.cell? ⟨sb, 1, none⟩ = some (.int .i64 (s.b : Int)) ∧ w'.cell? ⟨sb, 2, none⟩ = some (.int .i64 (s.i : Int)) ∧ w'.cell? ⟨sb, 3, none⟩ = some (.int .i64 (s.o : Int))) ∧ (w'.cell? ⟨eb, eo + s.b * 7, none⟩ = some (.int .i64 c.p) ∧ w'.cell? ⟨eb, eo + s.b * 7 + 1, none⟩ = some (.int .i64 c.o) ∧ w'.cell? ⟨eb, eo + s.b * 7 + 2, none⟩ = some (.int .i64 c.q) ∧ w'.cell? ⟨eb, eo + s.b * 7 + 3, none⟩ = some (.slice Ac c.r.length cc) ∧ w'.cell? ⟨eb, eo + s.b * 7 + 4, none⟩ = some (.int .i64 c.c) ∧ w'.cell? ⟨eb, eo + s.b * 7 + 5, none⟩ = some (.int .i64 c.b) ∧ w'.cell? ⟨eb, eo + s.b * 7 + 6, none⟩ = some (.int .i64 c.e)))) (by kernel_rfl) hSd (fun hHeld => ?_)
  generalize wx.drew = wd at hHeld ⊢
  have hHeld : (fun w' => Below wx.heap.size wx w' ∧ (w'.cell? ⟨fb, 0, none⟩ = some (.int .i64 n) ∧ w'.cell? ⟨fb, 1, none⟩ = some (.slice AP LP cP) ∧ w'.cell? ⟨fb, 2, none⟩ = some (.slice (some ⟨eb, eo, none⟩) LT cT) ∧ w'.cell? ⟨fb, 3, none⟩ = some (.slice AI LI cI)) ∧ (w'.cell? ⟨sb, 0, none⟩ = some (.int .i64 (s.a : Int)) ∧ w'.cell? ⟨sb, 1, none⟩ = some (.int .i64 (s.b : Int)) ∧ w'.cell? ⟨sb, 2, none⟩ = some (.int .i64 (s.i : Int)) ∧ w'.cell? ⟨sb, 3, none⟩ = some (.int .i64 (s.o : Int))) ∧ (w'.cell? ⟨eb, eo + s.b * 7, none⟩ = some (.int .i64 c.p) ∧ w'.cell? ⟨eb, eo + s.b * 7 + 1, none⟩ = some (.int .i64 c.o) ∧ w'.cell? ⟨eb, eo + s.b * 7 + 2, none⟩ = some (.int .i64 c.q) ∧ w'.cell? ⟨eb, eo + s.b * 7 + 3, none⟩ = some (.slice Ac c.r.length cc) ∧ w'.cell? ⟨eb, eo + s.b * 7 + 4, none⟩ = some (.int .i64 c.c) ∧ w'.cell? ⟨eb, eo + s.b * 7 + 5, none⟩ = some (.int .i64 c.b) ∧ w'.cell? ⟨eb, eo + s.b * 7 + 6, none⟩ = some (.int .i64 c.e))) wd := hHeld
  refine tkH 0 ?_
  try first | simp only [pS, List.set] | simp only [pN]
  refine tkH 1 ?_
  try first | simp only [pS, List.set] | simp only [pN]
  refine tkH 2 ?_
  try first | simp only [pS, List.set] | simp only [pN]
  refine tkH 3 ?_
  try first | simp only [pS, List.set] | simp only [pN]
  refine tkH 4 ?_
  try first | simp only [pS, List.set] | simp only [pN]
  refine tkH 5 ?_
  try first | simp only [pS, List.set] | simp only [pN]
  refine tkH 6 ?_
  try first | simp only [pS, List.set] | simp only [pN]
  refine tkH 7 ?_
  try first | simp only [pS, List.set] | simp only [pN]
  refine tkH 8 ?_
  try first | simp only [pS, List.set] | simp only [pN]
  refine tkH 9 ?_
  try first | simp only [pS, List.set] | simp only [pN]
  refine tkH 10 ?_
  try first | simp only [pS, List.set] | simp only [pN]
  refine tkH 11 ?_
  try first | simp only [pS, List.set] | simp only [pN]
  refine tkH 12 ?_
  try first | simp only [pS, List.set] | simp only [pN]
  refine wpAnyH_ready (rs := [13]) (by kernel_rfl) (by simp) ?_
  refine AllReadyH.cons (o := ?_) ?_ (fun K hK => ?_) AllReadyH.nil
  rotate_left
  · (simp only [List.getElem?_toArray, List.getElem?_cons_succ, List.getElem?_cons_zero]; rfl)
  go_simp
  have hcz := hHeld.1.size
  have hnew := heap_alloc_new wd (.cells #[.int .i64 0, .int .i64 0, .int .i64 0, .slice none 0 0, .int .i64 0, .int .i64 0, .int .i64 0] 32)
  have hba := (Below.refl wd.heap.size wd).alloc (Nat.le_refl _) (.cells #[.int .i64 0, .int .i64 0, .int .i64 0, .slice none 0 0, .int .i64 0, .int .i64 0, .int .i64 0] 32)
  have hSx : (fun w' => Below wx.heap.size wx w' ∧ (w'.cell? ⟨fb, 0, none⟩ = some (.int .i64 n) ∧ w'.cell? ⟨fb, 1, none⟩ = some (.slice AP LP cP) ∧ w'.cell? ⟨fb, 2, none⟩ = some (.slice (some ⟨eb, eo, none⟩) LT cT) ∧ w'.cell? ⟨fb, 3, none⟩ = some (.slice AI LI cI)) ∧ (w'.cell? ⟨sb, 0, none⟩ = some (.int .i64 (s.a : Int)) ∧ w'.cell? ⟨sb, 1, none⟩ = some (.int .i64 (s.b : Int)) ∧ w'.cell? ⟨sb, 2, none⟩ = some (.int .i64 (s.i : Int)) ∧ w'.cell? ⟨sb, 3, none⟩ = some (.int .i64 (s.o : Int))) ∧ (w'.cell? ⟨eb, eo + s.b * 7, none⟩ = some (.int .i64 c.p) ∧ w'.cell? ⟨eb, eo + s.b * 7 + 1, none⟩ = some (.int .i64 c.o) ∧ w'.cell? ⟨eb, eo + s.b * 7 + 2, none⟩ = some (.int .i64 c.q) ∧ w'.cell? ⟨eb, eo + s.b * 7 + 3, none⟩ = some (.slice Ac c.r.length cc) ∧ w'.cell? ⟨eb, eo + s.b * 7 + 4, none⟩ = some (.int .i64 c.c) ∧ w'.cell? ⟨eb, eo + s.b * 7 + 5, none⟩ = some (.int .i64 c.b) ∧ w'.cell? ⟨eb, eo + s.b * 7 + 6, none⟩ = some (.int .i64 c.e))) (wd.alloc (.cells #[.int .i64 0, .int .i64 0, .int .i64 0, .slice none 0 0, .int .i64 0, .int .i64 0, .int .i64 0] 32)) := ⟨hHeld.1.trans (hba.mono hHeld.1.size), f4_below hHeld.2.1 hba, f4_below hHeld.2.2.1 hba, cl7_below hHeld.2.2.2 hba⟩
  refine hK.out _ _ hSx (fun hHeld => ?_)
  clear hK K
  try first | simp only [pS, List.set] | simp only [pN]
  obtain ⟨wa, hwa⟩ : ∃ x, wd.alloc (.cells #[.int .i64 0, .int .i64 0, .int .i64 0, .slice none 0 0, .int .i64 0, .int .i64 0, .int .i64 0] 32) = x := ⟨_, rfl⟩
  obtain ⟨cb, hcb⟩ : ∃ x, wd.heap.size = x := ⟨_, rfl⟩
  rw [hwa] at hHeld hnew ⊢
  rw [hcb] at hnew hcz ⊢
  clear hwa hcb hba hSx
  have b0 := row_cell hnew 0
  have b1 := row_cell hnew 1
  have b2 := row_cell hnew 2
  have b3 := row_cell hnew 3
  have b4 := row_cell hnew 4
  have b5 := row_cell hnew 5
  have b6 := row_cell hnew 6
  simp at b0 b1 b2 b3 b4 b5 b6
  have f0 := row_frozen hnew 0
  have f1 := row_frozen hnew 1
  have f2 := row_frozen hnew 2
  have f3 := row_frozen hnew 3
  have f4 := row_frozen hnew 4
  have f5 := row_frozen hnew 5
  have f6 := row_frozen hnew 6
  refine wpAnyH_ready (rs := [14]) (by kernel_rfl) (by simp) ?_
  refine AllReadyH.cons (o := ?_) ?_ (fun K hK => ?_) AllReadyH.nil
  rotate_left
  · (simp only [List.getElem?_toArray, List.getElem?_cons_succ, List.getElem?_cons_zero]; rfl)
  go_simp
  have hset := cset7_row hnew (.int .i64 c.p) (.int .i64 c.o) (.int .i64 c.q) (.slice Ac c.r.length cc) (.int .i64 c.c) (.int .i64 c.b) (.int .i64 c.e)
  have hbs := cset7_below (Below.refl cb wa) (Nat.le_refl cb) (.int .i64 c.p) (.int .i64 c.o) (.int .i64 c.q) (.slice Ac c.r.length cc) (.int .i64 c.c) (.int .i64 c.b) (.int .i64 c.e)
  have hSx : (fun w' => Below wx.heap.size wx w' ∧ (w'.cell? ⟨fb, 0, none⟩ = some (.int .i64 n) ∧ w'.cell? ⟨fb, 1, none⟩ = some (.slice AP LP cP) ∧ w'.cell? ⟨fb, 2, none⟩ = some (.slice (some ⟨eb, eo, none⟩) LT cT) ∧ w'.cell? ⟨fb, 3, none⟩ = some (.slice AI LI cI)) ∧ (w'.cell? ⟨sb, 0, none⟩ = some (.int .i64 (s.a : Int)) ∧ w'.cell? ⟨sb, 1, none⟩ = some (.int .i64 (s.b : Int)) ∧ w'.cell? ⟨sb, 2, none⟩ = some (.int .i64 (s.i : Int)) ∧ w'.cell? ⟨sb, 3, none⟩ = some (.int .i64 (s.o : Int))) ∧ (w'.cell? ⟨eb, eo + s.b * 7, none⟩ = some (.int .i64 c.p) ∧ w'.cell? ⟨eb, eo + s.b * 7 + 1, none⟩ = some (.int .i64 c.o) ∧ w'.cell? ⟨eb, eo + s.b * 7 + 2, none⟩ = some (.int .i64 c.q) ∧ w'.cell? ⟨eb, eo + s.b * 7 + 3, none⟩ = some (.slice Ac c.r.length cc) ∧ w'.cell? ⟨eb, eo + s.b * 7 + 4, none⟩ = some (.int .i64 c.c) ∧ w'.cell? ⟨eb, eo + s.b * 7 + 5, none⟩ = some (.int .i64 c.b) ∧ w'.cell? ⟨eb, eo + s.b * 7 + 6, none⟩ = some (.int .i64 c.e))) (cset7 wa cb (.int .i64 c.p) (.int .i64 c.o) (.int .i64 c.q) (.slice Ac c.r.length cc) (.int .i64 c.c) (.int .i64 c.b) (.int .i64 c.e)) := ⟨hHeld.1.trans (hbs.mono hcz), f4_low hHeld.2.1 hbs (by omega), f4_low hHeld.2.2.1 hbs (by omega), cl7_low hHeld.2.2.2 hbs (by omega)⟩
  unfold cset7 at hset
  obtain ⟨wc, hwc⟩ : ∃ x, ((((((wa.setCell ⟨cb, 0, none⟩ (.int .i64 c.p)).setCell ⟨cb, 1, none⟩ (.int .i64 c.o)).setCell ⟨cb, 2, none⟩ (.int .i64 c.q)).setCell ⟨cb, 3, none⟩ (.slice Ac c.r.length cc)).setCell ⟨cb, 4, none⟩ (.int .i64 c.c)).setCell ⟨cb, 5, none⟩ (.int .i64 c.b)).setCell ⟨cb, 6, none⟩ (.int .i64 c.e) = x := ⟨_, rfl⟩
  have hSx2 : (fun w' => Below wx.heap.size wx w' ∧ (w'.cell? ⟨fb, 0, none⟩ = some (.int .i64 n) ∧ w'.cell? ⟨fb, 1, none⟩ = some (.slice AP LP cP) ∧ w'.cell? ⟨fb, 2, none⟩ = some (.slice (some ⟨eb, eo, none⟩) LT cT) ∧ w'.cell? ⟨fb, 3, none⟩ = some (.slice AI LI cI)) ∧ (w'.cell? ⟨sb, 0, none⟩ = some (.int .i64 (s.a : Int)) ∧ w'.cell? ⟨sb, 1, none⟩ = some (.int .i64 (s.b : Int)) ∧ w'.cell? ⟨sb, 2, none⟩ = some (.int .i64 (s.i : Int)) ∧ w'.cell? ⟨sb, 3, none⟩ = some (.int .i64 (s.o : Int))) ∧ (w'.cell? ⟨eb, eo + s.b * 7, none⟩ = some (.int .i64 c.p) ∧ w'.cell? ⟨eb, eo + s.b * 7 + 1, none⟩ = some (.int .i64 c.o) ∧ w'.cell? ⟨eb, eo + s.b * 7 + 2, none⟩ = some (.int .i64 c.q) ∧ w'.cell? ⟨eb, eo + s.b * 7 + 3, none⟩ = some (.slice Ac c.r.length cc) ∧ w'.cell? ⟨eb, eo + s.b * 7 + 4, none⟩ = some (.int .i64 c.c) ∧ w'.cell? ⟨eb, eo + s.b * 7 + 5, none⟩ = some (.int .i64 c.b) ∧ w'.cell? ⟨eb, eo + s.b * 7 + 6, none⟩ = some (.int .i64 c.e))) wc := by rw [← hwc]; exact hSx
  rw [hwc] at hset ⊢
  clear hwc hSx hbs
  have hSx := hSx2
  refine hK.out _ _ hSx (fun hHeld => ?_)
  clear hK K
  try first | simp only [pS, List.set] | simp only [pN]
  refine tkH 15 ?_
  try first | simp only [pS, List.set] | simp only [pN]
  refine wpAnyH_done (by kernel_rfl) ?_ _
  have hSc := row_kept hSB hHeld.1
  have hRc := row_kept hR hHeld.1
  have hBc := hB3.trans (hHeld.1.mono (by omega))
  have hFc := hHeld.2.1
  have hcs := row_lt hset
  clear hSd hSx hHeld hSx2 hH3 HH c0 c1 c2 c3 hSB hR hB3 hnew b0 b1 b2 b3 b4 b5 b6 f0 f1 f2 f3 f4 f5 f6
  have d0 := row_cell hset 0
  have d1 := row_cell hset 1
  have d2 := row_cell hset 2
  have d3 := row_cell hset 3
  have d4 := row_cell hset 4
  have d5 := row_cell hset 5
  have d6 := row_cell hset 6
  simp at d0 d1 d2 d3 d4 d5 d6
  have c0 := row_cell hSc 0
  have c1 := row_cell hSc 1
  have c2 := row_cell hSc 2
  have c3 := row_cell hSc 3
  simp at c0 c1 c2 c3
  have f0 := row_frozen hSc 0
  have f1 := row_frozen hSc 1
  have f2 := row_frozen hSc 2
  have f3 := row_frozen hSc 3
  have hcne : cb ≠ sb := by omega
  have hcne2 : sb ≠ cb := by omega
  have hfs : fb ≠ sb := by omega
  have hrs : sb + 1 ≠ sb := by omega
  have hcr : cb ≠ sb + 1 := by omega
  have hS4 : (wc.setCell ⟨sb, 1, none⟩ (.int .i64 ((s.b : Int) + 1))).heap[sb]? = some (.cells #[.int .i64 (s.a : Int), .int .i64 ((s.b : Int) + 1), .int .i64 (s.i : Int), .int .i64 (s.o : Int)] 48 (0, 0)) := by simpa using lrow_set wc sb _ _ 1 (.int .i64 ((s.b : Int) + 1)) hSc
  have hR4 := row_other hRc sb 1 (.int .i64 ((s.b : Int) + 1)) hrs
  have hF4 := f4_other (j := 1) (x := .int .i64 ((s.b : Int) + 1)) hFc hfs
  have hC4 := row_other hset sb 1 (.int .i64 ((s.b : Int) + 1)) hcne
  have hB4 := hBc.setCell (p := ⟨sb, 1, none⟩) (Nat.le_refl _) (.int .i64 ((s.b : Int) + 1))
  have HS := Lib.hid hS4
  have HR := Lib.hid hR4
  have HF := Lib.hid hF4
  have HC := Lib.hid hC4
  have HB := Lib.hid hB4
  clear hS4 hR4 hF4 hC4 hB4
  clear hSc hRc hFc hBc
  have HSET := Lib.hid hset
  clear hset
  go_wp2_with fail
  obtain ⟨w4, hw4⟩ : ∃ x, wc.setCell ⟨sb, 1, none⟩ (.int .i64 ((s.b : Int) + 1)) = x := ⟨_, rfl⟩
  have hS := HS.out
  have hR := HR.out
  have hF := HF.out
  have hC := HC.out
  have hB := HB.out
  rw [hw4] at hS hR hF hC hB ⊢
  clear hw4 HS HR HF HC HB HSET d0 d1 d2 d3 d4 d5 d6 c0 c1 c2 c3 f0 f1 f2 f3
  have hSd : (fun w' => Below sb W w' ∧ (w'.cell? ⟨fb, 0, none⟩ = some (.int .i64 n) ∧ w'.cell? ⟨fb, 1, none⟩ = some (.slice AP LP cP) ∧ w'.cell? ⟨fb, 2, none⟩ = some (.slice (some ⟨eb, eo, none⟩) LT cT) ∧ w'.cell? ⟨fb, 3, none⟩ = some (.slice AI LI cI)) ∧ (w'.cell? ⟨sb, 0, none⟩ = some (.int .i64 (s.a : Int)) ∧ w'.cell? ⟨sb, 1, none⟩ = some (.int .i64 ((s.b : Int) + 1)) ∧ w'.cell? ⟨sb, 2, none⟩ = some (.int .i64 (s.i : Int)) ∧ w'.cell? ⟨sb, 3, none⟩ = some (.int .i64 (s.o : Int))) ∧ w'.cell? ⟨cb, 6, none⟩ = some (.int .i64 c.e)) w4.drew := ⟨hB.drew, hF, SpC hS, row_cell hC 6⟩
  refine wp_region_held_drew (S := (fun w' => Below sb W w' ∧ (w'.cell? ⟨fb, 0, none⟩ = some (.int .i64 n) ∧ w'.cell? ⟨fb, 1, none⟩ = some (.slice AP LP cP) ∧ w'.cell? ⟨fb, 2, none⟩ = some (.slice (some ⟨eb, eo, none⟩) LT cT) ∧ w'.cell? ⟨fb, 3, none⟩ = some (.slice AI LI cI)) ∧ (w'.cell? ⟨sb, 0, none⟩ = some (.int .i64 (s.a : Int)) ∧ w'.cell? ⟨sb, 1, none⟩ = some (.int .i64 ((s.b : Int) + 1)) ∧ w'.cell? ⟨sb, 2, none⟩ = some (.int .i64 (s.i : Int)) ∧ w'.cell? ⟨sb, 3, none⟩ = some (.int .i64 (s.o : Int))) ∧ w'.cell? ⟨cb, 6, none⟩ = some (.int .i64 c.e))) (by kernel_rfl) hSd (fun hHeld => ?_)
  obtain ⟨wd, hwd⟩ : ∃ x, w4.drew = x := ⟨_, rfl⟩
  replace hR := (show wd.heap[sb + 1]? = w4.heap[sb + 1]? from by rw [← hwd]; rfl).trans hR
  rw [hwd] at hHeld ⊢
  clear hwd hSd hB hF hS
  have hHeld : (fun w' => Below sb W w' ∧ (w'.cell? ⟨fb, 0, none⟩ = some (.int .i64 n) ∧ w'.cell? ⟨fb, 1, none⟩ = some (.slice AP LP cP) ∧ w'.cell? ⟨fb, 2, none⟩ = some (.slice (some ⟨eb, eo, none⟩) LT cT) ∧ w'.cell? ⟨fb, 3, none⟩ = some (.slice AI LI cI)) ∧ (w'.cell? ⟨sb, 0, none⟩ = some (.int .i64 (s.a : Int)) ∧ w'.cell? ⟨sb, 1, none⟩ = some (.int .i64 ((s.b : Int) + 1)) ∧ w'.cell? ⟨sb, 2, none⟩ = some (.int .i64 (s.i : Int)) ∧ w'.cell? ⟨sb, 3, none⟩ = some (.int .i64 (s.o : Int))) ∧ w'.cell? ⟨cb, 6, none⟩ = some (.int .i64 c.e)) wd := hHeld
  refine tkH 0 ?_
  try first | simp only [pS, List.set] | simp only [pN]
  refine tkH 1 ?_
  try first | simp only [pS, List.set] | simp only [pN]
  refine tkH 2 ?_
  try first | simp only [pS, List.set] | simp only [pN]
  refine tkH 3 ?_
  try first | simp only [pS, List.set] | simp only [pN]
  have f0 := row_frozen hR 0
  have f1 := row_frozen hR 1
  have f2 := row_frozen hR 2
  have f3 := row_frozen hR 3
  have z0 := row_cell hR 0
  have z1 := row_cell hR 1
  have z2 := row_cell hR 2
  have z3 := row_cell hR 3
  simp at z0 z1 z2 z3
  refine wpAnyH_ready (rs := [4]) (by kernel_rfl) (by simp) ?_
  refine AllReadyH.cons (o := ?_) ?_ (fun K hK => ?_) AllReadyH.nil
  rotate_left
  · (simp only [List.getElem?_toArray, List.getElem?_cons_succ, List.getElem?_cons_zero]; rfl)
  go_simp
  have hfin := sset4_row hR (.int .i64 (s.a : Int)) (.int .i64 ((s.b : Int) + 1)) (.int .i64 (s.i : Int)) (.int .i64 (s.o : Int))
  have hSx : (fun w' => Below sb W w' ∧ (w'.cell? ⟨fb, 0, none⟩ = some (.int .i64 n) ∧ w'.cell? ⟨fb, 1, none⟩ = some (.slice AP LP cP) ∧ w'.cell? ⟨fb, 2, none⟩ = some (.slice (some ⟨eb, eo, none⟩) LT cT) ∧ w'.cell? ⟨fb, 3, none⟩ = some (.slice AI LI cI)) ∧ (w'.cell? ⟨sb, 0, none⟩ = some (.int .i64 (s.a : Int)) ∧ w'.cell? ⟨sb, 1, none⟩ = some (.int .i64 ((s.b : Int) + 1)) ∧ w'.cell? ⟨sb, 2, none⟩ = some (.int .i64 (s.i : Int)) ∧ w'.cell? ⟨sb, 3, none⟩ = some (.int .i64 (s.o : Int))) ∧ w'.cell? ⟨cb, 6, none⟩ = some (.int .i64 c.e)) (sset4 wd (sb + 1) (.int .i64 (s.a : Int)) (.int .i64 ((s.b : Int) + 1)) (.int .i64 (s.i : Int)) (.int .i64 (s.o : Int))) := ⟨sset4_below hHeld.1 (by omega) _ _ _ _, f4_sset hHeld.2.1 (by omega), f4_sset hHeld.2.2.1 (by omega), cell_sset hHeld.2.2.2 hcr⟩
  refine hK.out _ _ hSx (fun hHeld => ?_)
  clear hK K
  try first | simp only [pS, List.set] | simp only [pN]
  refine tkH 5 ?_
  try first | simp only [pS, List.set] | simp only [pN]
  refine wpAnyH_done (by kernel_rfl) ?_ _
  go_wp2_with fail
  refine bodyPost_ret (res_take _ _ (s := ⟨s.a, s.b + 1, s.i, s.o⟩) (ok := true) rfl rfl hfin) rfl ?_
  exact ⟨_, _, rfl, HST.out, by rw [hsb]; exact hHeld.1⟩

set_option maxRecDepth 100000 in
set_option maxHeartbeats 4000000 in
theorem ftake_4 {n : Int} {P T : List Cl} {s : Sp} (hs : Inv n P T s) (hP : P.length ≤ 60) (hT : T.length ≤ 60) {fb bm cP cT LI cI : Nat} {AP AT AI : Option Addr} {vE : Value} (hcP : P.length ≤ cP) (hcT : T.length ≤ cT) (W : World)
    (hF : FBox W fb n AP P.length cP AT T.length cT AI LI cI bm vE) (hlP : ClSl W W.heap.size AP P) (hlT : ClSl W W.heap.size AT T) {c : Cl} (hc : T[s.b]? = some c) (hm : mayB c (P.drop s.a) = true) (he : 0 ≤ c.e) (h2 : (c.c == 3) = false) (hk : s.i = s.o) :
    Calls Try.prog 35 #[.pointer (some ⟨fb, 0, none⟩), spV s] W (PutR (stepT P T s) W) := by
  have huse := And.intro hP (And.intro hT (And.intro hcP (And.intro hcT (And.intro hlP hlT))))
  clear huse
  obtain ⟨LP, hLP⟩ : ∃ x, P.length = x := ⟨_, rfl⟩
  obtain ⟨LT, hLT⟩ : ∃ x, T.length = x := ⟨_, rfl⟩
  have s1 := hs.a
  have s2 := hs.b
  have s3 := hs.oi
  have s4 : s.i ≤ 60 := by rw [hs.i]; exact Nat.le_trans List.countP_le_length (by rw [List.length_take]; omega)
  rw [hLP] at hF s1 hP hcP
  rw [hLT] at hF s2 hT hcT
  have HST := Lib.hid (show stepT P T s = (if (false) = true then some ⟨s.a, s.b + 1, s.i, s.o⟩ else none) by unfold stepT; rw [hc]; simp [hm, show emp c = false by simp [emp, h2], hk, show opn c = false by simp [opn]; omega])
  have hlto : s.b < LT := by rw [← hLT]; exact get_lt hc
  obtain ⟨eb, eo, Ac, cc, hAP, hebl, hec, hcw, hcc1, hcc2⟩ := hlT s.b c hc
  have hsl := fun W => slice_calls AP LP cP s.a s1 W
  have htl := hlP.tail (c := cP) (n := s.a) (by rw [hLP]; exact hcP) (by rw [hLP]; exact s1)
  obtain ⟨A2, hA2⟩ : ∃ x, (if cP = s.a then AP else AP.map (·.add (s.a * 7))) = x := ⟨_, rfl⟩
  rw [hA2] at hsl htl
  have hmay := fun (W' : World) (hb : Below W.heap.size W W') => lmay_any c Ac A2 cc (cP - s.a) (P.drop s.a) W' (by rw [List.length_drop]; omega) (htl.below hb hb.size)
  rw [List.length_drop, hLP, hm] at hmay
  subst hAP
  have h0i : ((s.b : Int) == (LT : Int)) = false := by simp; omega
  have hltoi : (s.b : Int) < (LT : Int) := by omega
  have hlt2i : (s.a : Int) ≤ (LP : Int) := by omega
  have hwr : IntKind.i64.wrap ((s.i : Int) - (s.o : Int)) = ((s.i : Int) - (s.o : Int)) := IntWalk.i64_in _ (by omega)
  have hz : (((s.i : Int) - (s.o : Int)) == 0) = true := by simp; omega
  clear hk
  have hen : decide (c.e < 0) = false := decide_eq_false (by omega)
  unfold clV at hmay
  have HMAY := Lib.hid hmay
  have HCW := Lib.hid hcw
  clear hmay htl hcw hA2 hlP hlT hLP hLT hs hc hm
  have hb1 := (Below.refl W.heap.size W).alloc (Nat.le_refl _) (.cells #[.int .i64 (s.a : Int), .int .i64 (s.b : Int), .int .i64 (s.i : Int), .int .i64 (s.o : Int)] 48)
  have hb2 := hb1.alloc hb1.size (.cells #[.int .i64 0, .int .i64 0, .int .i64 0, .int .i64 0] 48)
  have hs1 := heap_alloc_new W (.cells #[.int .i64 (s.a : Int), .int .i64 (s.b : Int), .int .i64 (s.i : Int), .int .i64 (s.o : Int)] 48)
  have hs2 := row_kept hs1 ((Below.refl _ _).alloc (Nat.le_refl _) (.cells #[.int .i64 0, .int .i64 0, .int .i64 0, .int .i64 0] 48))
  have hr2 := heap_alloc_new (W.alloc (.cells #[.int .i64 (s.a : Int), .int .i64 (s.b : Int), .int .i64 (s.i : Int), .int .i64 (s.o : Int)] 48)) (.cells #[.int .i64 0, .int .i64 0, .int .i64 0, .int .i64 0] 48)
  have hf2 := row_kept hF hb2
  rw [World.size_alloc] at hr2
  have hlt := row_lt hF
  have hsz2 : W.heap.size + 2 ≤ ((W.alloc (.cells #[.int .i64 (s.a : Int), .int .i64 (s.b : Int), .int .i64 (s.i : Int), .int .i64 (s.o : Int)] 48)).alloc (.cells #[.int .i64 0, .int .i64 0, .int .i64 0, .int .i64 0] 48)).heap.size := by rw [World.size_alloc, World.size_alloc]; omega
  clear hs1 hb1 hF
  unfold spV
  obtain ⟨sb, hsb⟩ : ∃ x, W.heap.size = x := ⟨_, rfl⟩
  rw [hsb] at hs2 hr2 hb2 hlt hsz2
  have hebl : eb < sb := by omega
  go_enter Try.func35, Try.ntmps35
  go_wp2_with fail
  obtain ⟨W2, hW2⟩ : ∃ x, (W.alloc (.cells #[.int .i64 (s.a : Int), .int .i64 (s.b : Int), .int .i64 (s.i : Int), .int .i64 (s.o : Int)] 48)).alloc (.cells #[.int .i64 0, .int .i64 0, .int .i64 0, .int .i64 0] 48) = x := ⟨_, rfl⟩
  rw [hW2] at hs2 hr2 hb2 hf2 hsz2 ⊢
  clear hW2
  have hec2 := cl7_low hec hb2 hebl
  have hc2 := FBox.cells hf2
  have hp2 := SpBox.cells hs2
  clear hec
  have hSd : (fun w' => Below W2.heap.size W2 w' ∧ (w'.cell? ⟨fb, 0, none⟩ = some (.int .i64 n) ∧ w'.cell? ⟨fb, 1, none⟩ = some (.slice AP LP cP) ∧ w'.cell? ⟨fb, 2, none⟩ = some (.slice (some ⟨eb, eo, none⟩) LT cT) ∧ w'.cell? ⟨fb, 3, none⟩ = some (.slice AI LI cI)) ∧ (w'.cell? ⟨sb, 0, none⟩ = some (.int .i64 (s.a : Int)) ∧ w'.cell? ⟨sb, 1, none⟩ = some (.int .i64 (s.b : Int)) ∧ w'.cell? ⟨sb, 2, none⟩ = some (.int .i64 (s.i : Int)) ∧ w'.cell? ⟨sb, 3, none⟩ = some (.int .i64 (s.o : Int))) ∧ (w'.cell? ⟨eb, eo + s.b * 7, none⟩ = some (.int .i64 c.p) ∧ w'.cell? ⟨eb, eo + s.b * 7 + 1, none⟩ = some (.int .i64 c.o) ∧ w'.cell? ⟨eb, eo + s.b * 7 + 2, none⟩ = some (.int .i64 c.q) ∧ w'.cell? ⟨eb, eo + s.b * 7 + 3, none⟩ = some (.slice Ac c.r.length cc) ∧ w'.cell? ⟨eb, eo + s.b * 7 + 4, none⟩ = some (.int .i64 c.c) ∧ w'.cell? ⟨eb, eo + s.b * 7 + 5, none⟩ = some (.int .i64 c.b) ∧ w'.cell? ⟨eb, eo + s.b * 7 + 6, none⟩ = some (.int .i64 c.e))) W2.drew := ⟨(Below.refl _ W2).drew, ⟨hc2.1, hc2.2.1, hc2.2.2.1, hc2.2.2.2.1⟩, hp2, hec2⟩
  refine wp_region_held_drew (S := (fun w' => Below W2.heap.size W2 w' ∧ (w'.cell? ⟨fb, 0, none⟩ = some (.int .i64 n) ∧ w'.cell? ⟨fb, 1, none⟩ = some (.slice AP LP cP) ∧ w'.cell? ⟨fb, 2, none⟩ = some (.slice (some ⟨eb, eo, none⟩) LT cT) ∧ w'.cell? ⟨fb, 3, none⟩ = some (.slice AI LI cI)) ∧ (w'.cell? ⟨sb, 0, none⟩ = some (.int .i64 (s.a : Int)) ∧ w'.cell? ⟨sb, 1, none⟩ = some (.int .i64 (s.b : Int)) ∧ w'.cell? ⟨sb, 2, none⟩ = some (.int .i64 (s.i : Int)) ∧ w'.cell? ⟨sb, 3, none⟩ = some (.int .i64 (s.o : Int))) ∧ (w'.cell? ⟨eb, eo + s.b * 7, none⟩ = some (.int .i64 c.p) ∧ w'.cell? ⟨eb, eo + s.b * 7 + 1, none⟩ = some (.int .i64 c.o) ∧ w'.cell? ⟨eb, eo + s.b * 7 + 2, none⟩ = some (.int .i64 c.q) ∧ w'.cell? ⟨eb, eo + s.b * 7 + 3, none⟩ = some (.slice Ac c.r.length cc) ∧ w'.cell? ⟨eb, eo + s.b * 7 + 4, none⟩ = some (.int .i64 c.c) ∧ w'.cell? ⟨eb, eo + s.b * 7 + 5, none⟩ = some (.int .i64 c.b) ∧ w'.cell? ⟨eb, eo + s.b * 7 + 6, none⟩ = some (.int .i64 c.e)))) (by kernel_rfl) hSd (fun hHeld => ?_)
  generalize W2.drew = wd at hHeld ⊢
  have hHeld : (fun w' => Below W2.heap.size W2 w' ∧ (w'.cell? ⟨fb, 0, none⟩ = some (.int .i64 n) ∧ w'.cell? ⟨fb, 1, none⟩ = some (.slice AP LP cP) ∧ w'.cell? ⟨fb, 2, none⟩ = some (.slice (some ⟨eb, eo, none⟩) LT cT) ∧ w'.cell? ⟨fb, 3, none⟩ = some (.slice AI LI cI)) ∧ (w'.cell? ⟨sb, 0, none⟩ = some (.int .i64 (s.a : Int)) ∧ w'.cell? ⟨sb, 1, none⟩ = some (.int .i64 (s.b : Int)) ∧ w'.cell? ⟨sb, 2, none⟩ = some (.int .i64 (s.i : Int)) ∧ w'.cell? ⟨sb, 3, none⟩ = some (.int .i64 (s.o : Int))) ∧ (w'.cell? ⟨eb, eo + s.b * 7, none⟩ = some (.int .i64 c.p) ∧ w'.cell? ⟨eb, eo + s.b * 7 + 1, none⟩ = some (.int .i64 c.o) ∧ w'.cell? ⟨eb, eo + s.b * 7 + 2, none⟩ = some (.int .i64 c.q) ∧ w'.cell? ⟨eb, eo + s.b * 7 + 3, none⟩ = some (.slice Ac c.r.length cc) ∧ w'.cell? ⟨eb, eo + s.b * 7 + 4, none⟩ = some (.int .i64 c.c) ∧ w'.cell? ⟨eb, eo + s.b * 7 + 5, none⟩ = some (.int .i64 c.b) ∧ w'.cell? ⟨eb, eo + s.b * 7 + 6, none⟩ = some (.int .i64 c.e))) wd := hHeld
  refine tkH 0 ?_
  try first | simp only [pS, List.set] | simp only [pN]
  refine tkH 1 ?_
  try first | simp only [pS, List.set] | simp only [pN]
  refine tkH 2 ?_
  try first | simp only [pS, List.set] | simp only [pN]
  refine tkH 3 ?_
  try first | simp only [pS, List.set] | simp only [pN]
  refine tkH 4 ?_
  try first | simp only [pS, List.set] | simp only [pN]
  refine tkH 5 ?_
  try first | simp only [pS, List.set] | simp only [pN]
  refine tkH 6 ?_
  try first | simp only [pS, List.set] | simp only [pN]
  refine tkH 7 ?_
  try first | simp only [pS, List.set] | simp only [pN]
  refine tkH 8 ?_
  try first | simp only [pS, List.set] | simp only [pN]
  refine tkH 9 ?_
  try first | simp only [pS, List.set] | simp only [pN]
  refine tkH 10 ?_
  try first | simp only [pS, List.set] | simp only [pN]
  refine tkH 11 ?_
  try first | simp only [pS, List.set] | simp only [pN]
  refine tkH 12 ?_
  try first | simp only [pS, List.set] | simp only [pN]
  refine tkH 13 ?_
  try first | simp only [pS, List.set] | simp only [pN]
  refine tkH 14 ?_
  try first | simp only [pS, List.set] | simp only [pN]
  refine tkH 15 ?_
  try first | simp only [pS, List.set] | simp only [pN]
  refine tkH 16 ?_
  try first | simp only [pS, List.set] | simp only [pN]
  refine tkH 17 ?_
  try first | simp only [pS, List.set] | simp only [pN]
  refine tkH 18 ?_
  try first | simp only [pS, List.set] | simp only [pN]
  refine tkH 19 ?_
  try first | simp only [pS, List.set] | simp only [pN]
  refine tkH 20 ?_
  try first | simp only [pS, List.set] | simp only [pN]
  refine tkH 21 ?_
  try first | simp only [pS, List.set] | simp only [pN]
  refine tkH 22 ?_
  try first | simp only [pS, List.set] | simp only [pN]
  refine tkH 23 ?_
  try first | simp only [pS, List.set] | simp only [pN]
  refine wpAnyH_ready (rs := [24]) (by kernel_rfl) (by simp) ?_
  refine AllReadyH.cons (o := ?_) ?_ (fun K hK => ?_) AllReadyH.nil
  rotate_left
  · (simp only [List.getElem?_toArray, List.getElem?_cons_succ, List.getElem?_cons_zero]; rfl)
  go_simp
  go_at_call 48
  refine (HMAY.out _ (by rw [hsb]; exact hb2.trans (hHeld.1.mono (by omega)))).mono ?_
  rintro e wx ⟨rfl, hbx⟩
  have hSx : (fun w' => Below W2.heap.size W2 w' ∧ (w'.cell? ⟨fb, 0, none⟩ = some (.int .i64 n) ∧ w'.cell? ⟨fb, 1, none⟩ = some (.slice AP LP cP) ∧ w'.cell? ⟨fb, 2, none⟩ = some (.slice (some ⟨eb, eo, none⟩) LT cT) ∧ w'.cell? ⟨fb, 3, none⟩ = some (.slice AI LI cI)) ∧ (w'.cell? ⟨sb, 0, none⟩ = some (.int .i64 (s.a : Int)) ∧ w'.cell? ⟨sb, 1, none⟩ = some (.int .i64 (s.b : Int)) ∧ w'.cell? ⟨sb, 2, none⟩ = some (.int .i64 (s.i : Int)) ∧ w'.cell? ⟨sb, 3, none⟩ = some (.int .i64 (s.o : Int))) ∧ (w'.cell? ⟨eb, eo + s.b * 7, none⟩ = some (.int .i64 c.p) ∧ w'.cell? ⟨eb, eo + s.b * 7 + 1, none⟩ = some (.int .i64 c.o) ∧ w'.cell? ⟨eb, eo + s.b * 7 + 2, none⟩ = some (.int .i64 c.q) ∧ w'.cell? ⟨eb, eo + s.b * 7 + 3, none⟩ = some (.slice Ac c.r.length cc) ∧ w'.cell? ⟨eb, eo + s.b * 7 + 4, none⟩ = some (.int .i64 c.c) ∧ w'.cell? ⟨eb, eo + s.b * 7 + 5, none⟩ = some (.int .i64 c.b) ∧ w'.cell? ⟨eb, eo + s.b * 7 + 6, none⟩ = some (.int .i64 c.e))) wx := ⟨hHeld.1.trans (hbx.mono hHeld.1.size), f4_below hHeld.2.1 hbx, f4_below hHeld.2.2.1 hbx, cl7_below hHeld.2.2.2 hbx⟩
  refine hK.out _ _ hSx (fun hHeld => ?_)
  clear hK K
  try first | simp only [pS, List.set] | simp only [pN]
  refine tkH 25 ?_
  try first | simp only [pS, List.set] | simp only [pN]
  refine tkH 26 ?_
  try first | simp only [pS, List.set] | simp only [pN]
  refine wpAnyH_done (by kernel_rfl) ?_ _
  have hSB := row_kept hs2 hHeld.1
  have hR := row_kept hr2 hHeld.1
  have hB3 := hb2.trans (hHeld.1.mono (by omega))
  have hsx : sb + 2 ≤ wx.heap.size := Nat.le_trans hsz2 hHeld.1.size
  have hH3 := hHeld.2
  have HH := Lib.hid hHeld
  clear hSd hSx hHeld hs2 hr2 hb2 hf2 hc2 hp2 hec2 HMAY hsl hsz2
  obtain ⟨c0, c1, c2, c3⟩ := hH3.2.1
  go_wp2_with fail
  have hSd : (fun w' => Below wx.heap.size wx w' ∧ (w'.cell? ⟨fb, 0, none⟩ = some (.int .i64 n) ∧ w'.cell? ⟨fb, 1, none⟩ = some (.slice AP LP cP) ∧ w'.cell? ⟨fb, 2, none⟩ = some (.slice (some ⟨eb, eo, none⟩) LT cT) ∧ w'.cell? ⟨fb, 3, none⟩ = some (.slice AI LI cI)) ∧ (w'.cell? ⟨sb, 0, none⟩ = some (.int .i64 (s.a : Int)) ∧ w'.cell? ⟨sb, 1, none⟩ = some (.int .i64 (s.b : Int)) ∧ w'.cell? ⟨sb, 2, none⟩ = some (.int .i64 (s.i : Int)) ∧ w'.cell? ⟨sb, 3, none⟩ = some (.int .i64 (s.o : Int))) ∧ (w'.cell? ⟨eb, eo + s.b * 7, none⟩ = some (.int .i64 c.p) ∧ w'.cell? ⟨eb, eo + s.b * 7 + 1, none⟩ = some (.int .i64 c.o) ∧ w'.cell? ⟨eb, eo + s.b * 7 + 2, none⟩ = some (.int .i64 c.q) ∧ w'.cell? ⟨eb, eo + s.b * 7 + 3, none⟩ = some (.slice Ac c.r.length cc) ∧ w'.cell? ⟨eb, eo + s.b * 7 + 4, none⟩ = some (.int .i64 c.c) ∧ w'.cell? ⟨eb, eo + s.b * 7 + 5, none⟩ = some (.int .i64 c.b) ∧ w'.cell? ⟨eb, eo + s.b * 7 + 6, none⟩ = some (.int .i64 c.e))) wx.drew := ⟨(Below.refl _ wx).drew, hH3⟩
  refine wp_region_held_drew (S := (fun w' => Below wx.heap.size wx w' ∧ (w'.cell? ⟨fb, 0, none⟩ = some (.int .i64 n) ∧ w'.cell? ⟨fb, 1, none⟩ = some (.slice AP LP cP) ∧ w'.cell? ⟨fb, 2, none⟩ = some (.slice (some ⟨eb, eo, none⟩) LT cT) ∧ w'.cell? ⟨fb, 3, none⟩ = some (.slice AI LI cI)) ∧ (w'.cell? ⟨sb, 0, none⟩ = some (.int .i64 (s.a : Int)) ∧ w'.cell? ⟨sb, 1, none⟩ = some (.int .i64 (s.b : Int)) ∧ w'.cell? ⟨sb, 2, none⟩ = some (.int .i64 (s.i : Int)) ∧ w'.cell? ⟨sb, 3, none⟩ = some (.int .i64 (s.o : Int))) ∧ (w'.cell? ⟨eb, eo + s.b * 7, none⟩ = some (.int .i64 c.p) ∧ w'.cell? ⟨eb, eo + s.b * 7 + 1, none⟩ = some (.int .i64 c.o) ∧ w'.cell? ⟨eb, eo + s.b * 7 + 2, none⟩ = some (.int .i64 c.q) ∧ w'.cell? ⟨eb, eo + s.b * 7 + 3, none⟩ = some (.slice Ac c.r.length cc) ∧ w'.cell? ⟨eb, eo + s.b * 7 + 4, none⟩ = some (.int .i64 c.c) ∧ w'.cell? ⟨eb, eo + s.b * 7 + 5, none⟩ = some (.int .i64 c.b) ∧ w'.cell? ⟨eb, eo + s.b * 7 + 6, none⟩ = some (.int .i64 c.e)))) (by kernel_rfl) hSd (fun hHeld => ?_)
  generalize wx.drew = wd at hHeld ⊢
  have hHeld : (fun w' => Below wx.heap.size wx w' ∧ (w'.cell? ⟨fb, 0, none⟩ = some (.int .i64 n) ∧ w'.cell? ⟨fb, 1, none⟩ = some (.slice AP LP cP) ∧ w'.cell? ⟨fb, 2, none⟩ = some (.slice (some ⟨eb, eo, none⟩) LT cT) ∧ w'.cell? ⟨fb, 3, none⟩ = some (.slice AI LI cI)) ∧ (w'.cell? ⟨sb, 0, none⟩ = some (.int .i64 (s.a : Int)) ∧ w'.cell? ⟨sb, 1, none⟩ = some (.int .i64 (s.b : Int)) ∧ w'.cell? ⟨sb, 2, none⟩ = some (.int .i64 (s.i : Int)) ∧ w'.cell? ⟨sb, 3, none⟩ = some (.int .i64 (s.o : Int))) ∧ (w'.cell? ⟨eb, eo + s.b * 7, none⟩ = some (.int .i64 c.p) ∧ w'.cell? ⟨eb, eo + s.b * 7 + 1, none⟩ = some (.int .i64 c.o) ∧ w'.cell? ⟨eb, eo + s.b * 7 + 2, none⟩ = some (.int .i64 c.q) ∧ w'.cell? ⟨eb, eo + s.b * 7 + 3, none⟩ = some (.slice Ac c.r.length cc) ∧ w'.cell? ⟨eb, eo + s.b * 7 + 4, none⟩ = some (.int .i64 c.c) ∧ w'.cell? ⟨eb, eo + s.b * 7 + 5, none⟩ = some (.int .i64 c.b) ∧ w'.cell? ⟨eb, eo + s.b * 7 + 6, none⟩ = some (.int .i64 c.e))) wd := hHeld
  refine tkH 0 ?_
  try first | simp only [pS, List.set] | simp only [pN]
  refine tkH 1 ?_
  try first | simp only [pS, List.set] | simp only [pN]
  refine tkH 2 ?_
  try first | simp only [pS, List.set] | simp only [pN]
  refine tkH 3 ?_
  try first | simp only [pS, List.set] | simp only [pN]
  refine tkH 4 ?_
  try first | simp only [pS, List.set] | simp only [pN]
  refine tkH 5 ?_
  try first | simp only [pS, List.set] | simp only [pN]
  refine tkH 6 ?_
  try first | simp only [pS, List.set] | simp only [pN]
  refine tkH 7 ?_
  try first | simp only [pS, List.set] | simp only [pN]
  refine tkH 8 ?_
  try first | simp only [pS, List.set] | simp only [pN]
  refine tkH 9 ?_
  try first | simp only [pS, List.set] | simp only [pN]
  refine tkH 10 ?_
  try first | simp only [pS, List.set] | simp only [pN]
  refine tkH 11 ?_
  try first | simp only [pS, List.set] | simp only [pN]
  refine tkH 12 ?_
  try first | simp only [pS, List.set] | simp only [pN]
  refine wpAnyH_ready (rs := [13]) (by kernel_rfl) (by simp) ?_
  refine AllReadyH.cons (o := ?_) ?_ (fun K hK => ?_) AllReadyH.nil
  rotate_left
  · (simp only [List.getElem?_toArray, List.getElem?_cons_succ, List.getElem?_cons_zero]; rfl)
  go_simp
  have hcz := hHeld.1.size
  have hnew := heap_alloc_new wd (.cells #[.int .i64 0, .int .i64 0, .int .i64 0, .slice none 0 0, .int .i64 0, .int .i64 0, .int .i64 0] 32)
  have hba := (Below.refl wd.heap.size wd).alloc (Nat.le_refl _) (.cells #[.int .i64 0, .int .i64 0, .int .i64 0, .slice none 0 0, .int .i64 0, .int .i64 0, .int .i64 0] 32)
  have hSx : (fun w' => Below wx.heap.size wx w' ∧ (w'.cell? ⟨fb, 0, none⟩ = some (.int .i64 n) ∧ w'.cell? ⟨fb, 1, none⟩ = some (.slice AP LP cP) ∧ w'.cell? ⟨fb, 2, none⟩ = some (.slice (some ⟨eb, eo, none⟩) LT cT) ∧ w'.cell? ⟨fb, 3, none⟩ = some (.slice AI LI cI)) ∧ (w'.cell? ⟨sb, 0, none⟩ = some (.int .i64 (s.a : Int)) ∧ w'.cell? ⟨sb, 1, none⟩ = some (.int .i64 (s.b : Int)) ∧ w'.cell? ⟨sb, 2, none⟩ = some (.int .i64 (s.i : Int)) ∧ w'.cell? ⟨sb, 3, none⟩ = some (.int .i64 (s.o : Int))) ∧ (w'.cell? ⟨eb, eo + s.b * 7, none⟩ = some (.int .i64 c.p) ∧ w'.cell? ⟨eb, eo + s.b * 7 + 1, none⟩ = some (.int .i64 c.o) ∧ w'.cell? ⟨eb, eo + s.b * 7 + 2, none⟩ = some (.int .i64 c.q) ∧ w'.cell? ⟨eb, eo + s.b * 7 + 3, none⟩ = some (.slice Ac c.r.length cc) ∧ w'.cell? ⟨eb, eo + s.b * 7 + 4, none⟩ = some (.int .i64 c.c) ∧ w'.cell? ⟨eb, eo + s.b * 7 + 5, none⟩ = some (.int .i64 c.b) ∧ w'.cell? ⟨eb, eo + s.b * 7 + 6, none⟩ = some (.int .i64 c.e))) (wd.alloc (.cells #[.int .i64 0, .int .i64 0, .int .i64 0, .slice none 0 0, .int .i64 0, .int .i64 0, .int .i64 0] 32)) := ⟨hHeld.1.trans (hba.mono hHeld.1.size), f4_below hHeld.2.1 hba, f4_below hHeld.2.2.1 hba, cl7_below hHeld.2.2.2 hba⟩
  refine hK.out _ _ hSx (fun hHeld => ?_)
  clear hK K
  try first | simp only [pS, List.set] | simp only [pN]
  obtain ⟨wa, hwa⟩ : ∃ x, wd.alloc (.cells #[.int .i64 0, .int .i64 0, .int .i64 0, .slice none 0 0, .int .i64 0, .int .i64 0, .int .i64 0] 32) = x := ⟨_, rfl⟩
  obtain ⟨cb, hcb⟩ : ∃ x, wd.heap.size = x := ⟨_, rfl⟩
  rw [hwa] at hHeld hnew ⊢
  rw [hcb] at hnew hcz ⊢
  clear hwa hcb hba hSx
  have b0 := row_cell hnew 0
  have b1 := row_cell hnew 1
  have b2 := row_cell hnew 2
  have b3 := row_cell hnew 3
  have b4 := row_cell hnew 4
  have b5 := row_cell hnew 5
  have b6 := row_cell hnew 6
  simp at b0 b1 b2 b3 b4 b5 b6
  have f0 := row_frozen hnew 0
  have f1 := row_frozen hnew 1
  have f2 := row_frozen hnew 2
  have f3 := row_frozen hnew 3
  have f4 := row_frozen hnew 4
  have f5 := row_frozen hnew 5
  have f6 := row_frozen hnew 6
  refine wpAnyH_ready (rs := [14]) (by kernel_rfl) (by simp) ?_
  refine AllReadyH.cons (o := ?_) ?_ (fun K hK => ?_) AllReadyH.nil
  rotate_left
  · (simp only [List.getElem?_toArray, List.getElem?_cons_succ, List.getElem?_cons_zero]; rfl)
  go_simp
  have hset := cset7_row hnew (.int .i64 c.p) (.int .i64 c.o) (.int .i64 c.q) (.slice Ac c.r.length cc) (.int .i64 c.c) (.int .i64 c.b) (.int .i64 c.e)
  have hbs := cset7_below (Below.refl cb wa) (Nat.le_refl cb) (.int .i64 c.p) (.int .i64 c.o) (.int .i64 c.q) (.slice Ac c.r.length cc) (.int .i64 c.c) (.int .i64 c.b) (.int .i64 c.e)
  have hSx : (fun w' => Below wx.heap.size wx w' ∧ (w'.cell? ⟨fb, 0, none⟩ = some (.int .i64 n) ∧ w'.cell? ⟨fb, 1, none⟩ = some (.slice AP LP cP) ∧ w'.cell? ⟨fb, 2, none⟩ = some (.slice (some ⟨eb, eo, none⟩) LT cT) ∧ w'.cell? ⟨fb, 3, none⟩ = some (.slice AI LI cI)) ∧ (w'.cell? ⟨sb, 0, none⟩ = some (.int .i64 (s.a : Int)) ∧ w'.cell? ⟨sb, 1, none⟩ = some (.int .i64 (s.b : Int)) ∧ w'.cell? ⟨sb, 2, none⟩ = some (.int .i64 (s.i : Int)) ∧ w'.cell? ⟨sb, 3, none⟩ = some (.int .i64 (s.o : Int))) ∧ (w'.cell? ⟨eb, eo + s.b * 7, none⟩ = some (.int .i64 c.p) ∧ w'.cell? ⟨eb, eo + s.b * 7 + 1, none⟩ = some (.int .i64 c.o) ∧ w'.cell? ⟨eb, eo + s.b * 7 + 2, none⟩ = some (.int .i64 c.q) ∧ w'.cell? ⟨eb, eo + s.b * 7 + 3, none⟩ = some (.slice Ac c.r.length cc) ∧ w'.cell? ⟨eb, eo + s.b * 7 + 4, none⟩ = some (.int .i64 c.c) ∧ w'.cell? ⟨eb, eo + s.b * 7 + 5, none⟩ = some (.int .i64 c.b) ∧ w'.cell? ⟨eb, eo + s.b * 7 + 6, none⟩ = some (.int .i64 c.e))) (cset7 wa cb (.int .i64 c.p) (.int .i64 c.o) (.int .i64 c.q) (.slice Ac c.r.length cc) (.int .i64 c.c) (.int .i64 c.b) (.int .i64 c.e)) := ⟨hHeld.1.trans (hbs.mono hcz), f4_low hHeld.2.1 hbs (by omega), f4_low hHeld.2.2.1 hbs (by omega), cl7_low hHeld.2.2.2 hbs (by omega)⟩
  unfold cset7 at hset
  obtain ⟨wc, hwc⟩ : ∃ x, ((((((wa.setCell ⟨cb, 0, none⟩ (.int .i64 c.p)).setCell ⟨cb, 1, none⟩ (.int .i64 c.o)).setCell ⟨cb, 2, none⟩ (.int .i64 c.q)).setCell ⟨cb, 3, none⟩ (.slice Ac c.r.length cc)).setCell ⟨cb, 4, none⟩ (.int .i64 c.c)).setCell ⟨cb, 5, none⟩ (.int .i64 c.b)).setCell ⟨cb, 6, none⟩ (.int .i64 c.e) = x := ⟨_, rfl⟩
  have hSx2 : (fun w' => Below wx.heap.size wx w' ∧ (w'.cell? ⟨fb, 0, none⟩ = some (.int .i64 n) ∧ w'.cell? ⟨fb, 1, none⟩ = some (.slice AP LP cP) ∧ w'.cell? ⟨fb, 2, none⟩ = some (.slice (some ⟨eb, eo, none⟩) LT cT) ∧ w'.cell? ⟨fb, 3, none⟩ = some (.slice AI LI cI)) ∧ (w'.cell? ⟨sb, 0, none⟩ = some (.int .i64 (s.a : Int)) ∧ w'.cell? ⟨sb, 1, none⟩ = some (.int .i64 (s.b : Int)) ∧ w'.cell? ⟨sb, 2, none⟩ = some (.int .i64 (s.i : Int)) ∧ w'.cell? ⟨sb, 3, none⟩ = some (.int .i64 (s.o : Int))) ∧ (w'.cell? ⟨eb, eo + s.b * 7, none⟩ = some (.int .i64 c.p) ∧ w'.cell? ⟨eb, eo + s.b * 7 + 1, none⟩ = some (.int .i64 c.o) ∧ w'.cell? ⟨eb, eo + s.b * 7 + 2, none⟩ = some (.int .i64 c.q) ∧ w'.cell? ⟨eb, eo + s.b * 7 + 3, none⟩ = some (.slice Ac c.r.length cc) ∧ w'.cell? ⟨eb, eo + s.b * 7 + 4, none⟩ = some (.int .i64 c.c) ∧ w'.cell? ⟨eb, eo + s.b * 7 + 5, none⟩ = some (.int .i64 c.b) ∧ w'.cell? ⟨eb, eo + s.b * 7 + 6, none⟩ = some (.int .i64 c.e))) wc := by rw [← hwc]; exact hSx
  rw [hwc] at hset ⊢
  clear hwc hSx hbs
  have hSx := hSx2
  refine hK.out _ _ hSx (fun hHeld => ?_)
  clear hK K
  try first | simp only [pS, List.set] | simp only [pN]
  refine tkH 15 ?_
  try first | simp only [pS, List.set] | simp only [pN]
  refine wpAnyH_done (by kernel_rfl) ?_ _
  have hSc := row_kept hSB hHeld.1
  have hRc := row_kept hR hHeld.1
  have hBc := hB3.trans (hHeld.1.mono (by omega))
  have hFc := hHeld.2.1
  have hcs := row_lt hset
  clear hSd hSx hHeld hSx2 hH3 HH c0 c1 c2 c3 hSB hR hB3 hnew b0 b1 b2 b3 b4 b5 b6 f0 f1 f2 f3 f4 f5 f6
  have d0 := row_cell hset 0
  have d1 := row_cell hset 1
  have d2 := row_cell hset 2
  have d3 := row_cell hset 3
  have d4 := row_cell hset 4
  have d5 := row_cell hset 5
  have d6 := row_cell hset 6
  simp at d0 d1 d2 d3 d4 d5 d6
  have c0 := row_cell hSc 0
  have c1 := row_cell hSc 1
  have c2 := row_cell hSc 2
  have c3 := row_cell hSc 3
  simp at c0 c1 c2 c3
  have f0 := row_frozen hSc 0
  have f1 := row_frozen hSc 1
  have f2 := row_frozen hSc 2
  have f3 := row_frozen hSc 3
  have hcne : cb ≠ sb := by omega
  have hcne2 : sb ≠ cb := by omega
  have hfs : fb ≠ sb := by omega
  have hrs : sb + 1 ≠ sb := by omega
  have hcr : cb ≠ sb + 1 := by omega
  have hS4 : (wc.setCell ⟨sb, 1, none⟩ (.int .i64 ((s.b : Int) + 1))).heap[sb]? = some (.cells #[.int .i64 (s.a : Int), .int .i64 ((s.b : Int) + 1), .int .i64 (s.i : Int), .int .i64 (s.o : Int)] 48 (0, 0)) := by simpa using lrow_set wc sb _ _ 1 (.int .i64 ((s.b : Int) + 1)) hSc
  have hR4 := row_other hRc sb 1 (.int .i64 ((s.b : Int) + 1)) hrs
  have hF4 := f4_other (j := 1) (x := .int .i64 ((s.b : Int) + 1)) hFc hfs
  have hC4 := row_other hset sb 1 (.int .i64 ((s.b : Int) + 1)) hcne
  have hB4 := hBc.setCell (p := ⟨sb, 1, none⟩) (Nat.le_refl _) (.int .i64 ((s.b : Int) + 1))
  have HS := Lib.hid hS4
  have HR := Lib.hid hR4
  have HF := Lib.hid hF4
  have HC := Lib.hid hC4
  have HB := Lib.hid hB4
  clear hS4 hR4 hF4 hC4 hB4
  clear hSc hRc hFc hBc
  have HSET := Lib.hid hset
  clear hset
  go_wp2_with fail
  obtain ⟨w4, hw4⟩ : ∃ x, wc.setCell ⟨sb, 1, none⟩ (.int .i64 ((s.b : Int) + 1)) = x := ⟨_, rfl⟩
  have hS := HS.out
  have hR := HR.out
  have hF := HF.out
  have hC := HC.out
  have hB := HB.out
  rw [hw4] at hS hR hF hC hB ⊢
  clear hw4 HS HR HF HC HB HSET d0 d1 d2 d3 d4 d5 d6 c0 c1 c2 c3 f0 f1 f2 f3
  have hSd : (fun w' => Below sb W w' ∧ (w'.cell? ⟨fb, 0, none⟩ = some (.int .i64 n) ∧ w'.cell? ⟨fb, 1, none⟩ = some (.slice AP LP cP) ∧ w'.cell? ⟨fb, 2, none⟩ = some (.slice (some ⟨eb, eo, none⟩) LT cT) ∧ w'.cell? ⟨fb, 3, none⟩ = some (.slice AI LI cI)) ∧ (w'.cell? ⟨sb, 0, none⟩ = some (.int .i64 (s.a : Int)) ∧ w'.cell? ⟨sb, 1, none⟩ = some (.int .i64 ((s.b : Int) + 1)) ∧ w'.cell? ⟨sb, 2, none⟩ = some (.int .i64 (s.i : Int)) ∧ w'.cell? ⟨sb, 3, none⟩ = some (.int .i64 (s.o : Int))) ∧ w'.cell? ⟨cb, 6, none⟩ = some (.int .i64 c.e)) w4.drew := ⟨hB.drew, hF, SpC hS, row_cell hC 6⟩
  refine wp_region_held_drew (S := (fun w' => Below sb W w' ∧ (w'.cell? ⟨fb, 0, none⟩ = some (.int .i64 n) ∧ w'.cell? ⟨fb, 1, none⟩ = some (.slice AP LP cP) ∧ w'.cell? ⟨fb, 2, none⟩ = some (.slice (some ⟨eb, eo, none⟩) LT cT) ∧ w'.cell? ⟨fb, 3, none⟩ = some (.slice AI LI cI)) ∧ (w'.cell? ⟨sb, 0, none⟩ = some (.int .i64 (s.a : Int)) ∧ w'.cell? ⟨sb, 1, none⟩ = some (.int .i64 ((s.b : Int) + 1)) ∧ w'.cell? ⟨sb, 2, none⟩ = some (.int .i64 (s.i : Int)) ∧ w'.cell? ⟨sb, 3, none⟩ = some (.int .i64 (s.o : Int))) ∧ w'.cell? ⟨cb, 6, none⟩ = some (.int .i64 c.e))) (by kernel_rfl) hSd (fun hHeld => ?_)
  obtain ⟨wd, hwd⟩ : ∃ x, w4.drew = x := ⟨_, rfl⟩
  replace hR := (show wd.heap[sb + 1]? = w4.heap[sb + 1]? from by rw [← hwd]; rfl).trans hR
  rw [hwd] at hHeld ⊢
  clear hwd hSd hB hF hS
  have hHeld : (fun w' => Below sb W w' ∧ (w'.cell? ⟨fb, 0, none⟩ = some (.int .i64 n) ∧ w'.cell? ⟨fb, 1, none⟩ = some (.slice AP LP cP) ∧ w'.cell? ⟨fb, 2, none⟩ = some (.slice (some ⟨eb, eo, none⟩) LT cT) ∧ w'.cell? ⟨fb, 3, none⟩ = some (.slice AI LI cI)) ∧ (w'.cell? ⟨sb, 0, none⟩ = some (.int .i64 (s.a : Int)) ∧ w'.cell? ⟨sb, 1, none⟩ = some (.int .i64 ((s.b : Int) + 1)) ∧ w'.cell? ⟨sb, 2, none⟩ = some (.int .i64 (s.i : Int)) ∧ w'.cell? ⟨sb, 3, none⟩ = some (.int .i64 (s.o : Int))) ∧ w'.cell? ⟨cb, 6, none⟩ = some (.int .i64 c.e)) wd := hHeld
  refine tkH 0 ?_
  try first | simp only [pS, List.set] | simp only [pN]
  refine tkH 1 ?_
  try first | simp only [pS, List.set] | simp only [pN]
  refine tkH 2 ?_
  try first | simp only [pS, List.set] | simp only [pN]
  refine tkH 3 ?_
  try first | simp only [pS, List.set] | simp only [pN]
  have f0 := row_frozen hR 0
  have f1 := row_frozen hR 1
  have f2 := row_frozen hR 2
  have f3 := row_frozen hR 3
  have z0 := row_cell hR 0
  have z1 := row_cell hR 1
  have z2 := row_cell hR 2
  have z3 := row_cell hR 3
  simp at z0 z1 z2 z3
  refine wpAnyH_ready (rs := [4]) (by kernel_rfl) (by simp) ?_
  refine AllReadyH.cons (o := ?_) ?_ (fun K hK => ?_) AllReadyH.nil
  rotate_left
  · (simp only [List.getElem?_toArray, List.getElem?_cons_succ, List.getElem?_cons_zero]; rfl)
  go_simp
  have hfin := sset4_row hR (.int .i64 (s.a : Int)) (.int .i64 ((s.b : Int) + 1)) (.int .i64 (s.i : Int)) (.int .i64 (s.o : Int))
  have hSx : (fun w' => Below sb W w' ∧ (w'.cell? ⟨fb, 0, none⟩ = some (.int .i64 n) ∧ w'.cell? ⟨fb, 1, none⟩ = some (.slice AP LP cP) ∧ w'.cell? ⟨fb, 2, none⟩ = some (.slice (some ⟨eb, eo, none⟩) LT cT) ∧ w'.cell? ⟨fb, 3, none⟩ = some (.slice AI LI cI)) ∧ (w'.cell? ⟨sb, 0, none⟩ = some (.int .i64 (s.a : Int)) ∧ w'.cell? ⟨sb, 1, none⟩ = some (.int .i64 ((s.b : Int) + 1)) ∧ w'.cell? ⟨sb, 2, none⟩ = some (.int .i64 (s.i : Int)) ∧ w'.cell? ⟨sb, 3, none⟩ = some (.int .i64 (s.o : Int))) ∧ w'.cell? ⟨cb, 6, none⟩ = some (.int .i64 c.e)) (sset4 wd (sb + 1) (.int .i64 (s.a : Int)) (.int .i64 ((s.b : Int) + 1)) (.int .i64 (s.i : Int)) (.int .i64 (s.o : Int))) := ⟨sset4_below hHeld.1 (by omega) _ _ _ _, f4_sset hHeld.2.1 (by omega), f4_sset hHeld.2.2.1 (by omega), cell_sset hHeld.2.2.2 hcr⟩
  refine hK.out _ _ hSx (fun hHeld => ?_)
  clear hK K
  try first | simp only [pS, List.set] | simp only [pN]
  refine tkH 5 ?_
  try first | simp only [pS, List.set] | simp only [pN]
  refine wpAnyH_done (by kernel_rfl) ?_ _
  go_wp2_with fail
  refine bodyPost_ret (res_take _ _ (s := ⟨s.a, s.b + 1, s.i, s.o⟩) (ok := false) rfl rfl hfin) rfl ?_
  exact ⟨_, _, rfl, HST.out, by rw [hsb]; exact hHeld.1⟩

set_option maxRecDepth 100000 in
set_option maxHeartbeats 4000000 in
theorem ftake_5 {n : Int} {P T : List Cl} {s : Sp} (hs : Inv n P T s) (hP : P.length ≤ 60) (hT : T.length ≤ 60) {fb bm cP cT LI cI : Nat} {AP AT AI : Option Addr} {vE : Value} (hcP : P.length ≤ cP) (hcT : T.length ≤ cT) (W : World)
    (hF : FBox W fb n AP P.length cP AT T.length cT AI LI cI bm vE) (hlP : ClSl W W.heap.size AP P) (hlT : ClSl W W.heap.size AT T) {c : Cl} (hc : T[s.b]? = some c) (hm : mayB c (P.drop s.a) = true) (he : c.e < 0) (hk : s.i ≠ s.o) :
    Calls Try.prog 35 #[.pointer (some ⟨fb, 0, none⟩), spV s] W (PutR (stepT P T s) W) := by
  have huse := And.intro hP (And.intro hT (And.intro hcP (And.intro hcT (And.intro hlP hlT))))
  clear huse
  obtain ⟨LP, hLP⟩ : ∃ x, P.length = x := ⟨_, rfl⟩
  obtain ⟨LT, hLT⟩ : ∃ x, T.length = x := ⟨_, rfl⟩
  have s1 := hs.a
  have s2 := hs.b
  have s3 := hs.oi
  have s4 : s.i ≤ 60 := by rw [hs.i]; exact Nat.le_trans List.countP_le_length (by rw [List.length_take]; omega)
  rw [hLP] at hF s1 hP hcP
  rw [hLT] at hF s2 hT hcT
  have HST := Lib.hid (show stepT P T s = (if (true) = true then some ⟨s.a, s.b + 1, s.i, s.o + 1⟩ else none) by unfold stepT; rw [hc]; simp [hm, show emp c = false by simp [emp, opn, he], hk, opn, he])
  have hlto : s.b < LT := by rw [← hLT]; exact get_lt hc
  obtain ⟨eb, eo, Ac, cc, hAP, hebl, hec, hcw, hcc1, hcc2⟩ := hlT s.b c hc
  have hsl := fun W => slice_calls AP LP cP s.a s1 W
  have htl := hlP.tail (c := cP) (n := s.a) (by rw [hLP]; exact hcP) (by rw [hLP]; exact s1)
  obtain ⟨A2, hA2⟩ : ∃ x, (if cP = s.a then AP else AP.map (·.add (s.a * 7))) = x := ⟨_, rfl⟩
  rw [hA2] at hsl htl
  have hmay := fun (W' : World) (hb : Below W.heap.size W W') => lmay_any c Ac A2 cc (cP - s.a) (P.drop s.a) W' (by rw [List.length_drop]; omega) (htl.below hb hb.size)
  rw [List.length_drop, hLP, hm] at hmay
  subst hAP
  have h0i : ((s.b : Int) == (LT : Int)) = false := by simp; omega
  have hltoi : (s.b : Int) < (LT : Int) := by omega
  have hlt2i : (s.a : Int) ≤ (LP : Int) := by omega
  have hwr : IntKind.i64.wrap ((s.i : Int) - (s.o : Int)) = ((s.i : Int) - (s.o : Int)) := IntWalk.i64_in _ (by omega)
  have hz : (((s.i : Int) - (s.o : Int)) == 0) = false := by simp; omega
  clear hk
  unfold clV at hmay
  have HMAY := Lib.hid hmay
  have HCW := Lib.hid hcw
  clear hmay htl hcw hA2 hlP hlT hLP hLT hs hc hm
  have hb1 := (Below.refl W.heap.size W).alloc (Nat.le_refl _) (.cells #[.int .i64 (s.a : Int), .int .i64 (s.b : Int), .int .i64 (s.i : Int), .int .i64 (s.o : Int)] 48)
  have hb2 := hb1.alloc hb1.size (.cells #[.int .i64 0, .int .i64 0, .int .i64 0, .int .i64 0] 48)
  have hs1 := heap_alloc_new W (.cells #[.int .i64 (s.a : Int), .int .i64 (s.b : Int), .int .i64 (s.i : Int), .int .i64 (s.o : Int)] 48)
  have hs2 := row_kept hs1 ((Below.refl _ _).alloc (Nat.le_refl _) (.cells #[.int .i64 0, .int .i64 0, .int .i64 0, .int .i64 0] 48))
  have hr2 := heap_alloc_new (W.alloc (.cells #[.int .i64 (s.a : Int), .int .i64 (s.b : Int), .int .i64 (s.i : Int), .int .i64 (s.o : Int)] 48)) (.cells #[.int .i64 0, .int .i64 0, .int .i64 0, .int .i64 0] 48)
  have hf2 := row_kept hF hb2
  rw [World.size_alloc] at hr2
  have hlt := row_lt hF
  have hsz2 : W.heap.size + 2 ≤ ((W.alloc (.cells #[.int .i64 (s.a : Int), .int .i64 (s.b : Int), .int .i64 (s.i : Int), .int .i64 (s.o : Int)] 48)).alloc (.cells #[.int .i64 0, .int .i64 0, .int .i64 0, .int .i64 0] 48)).heap.size := by rw [World.size_alloc, World.size_alloc]; omega
  clear hs1 hb1 hF
  unfold spV
  obtain ⟨sb, hsb⟩ : ∃ x, W.heap.size = x := ⟨_, rfl⟩
  rw [hsb] at hs2 hr2 hb2 hlt hsz2
  have hebl : eb < sb := by omega
  go_enter Try.func35, Try.ntmps35
  go_wp2_with fail
  obtain ⟨W2, hW2⟩ : ∃ x, (W.alloc (.cells #[.int .i64 (s.a : Int), .int .i64 (s.b : Int), .int .i64 (s.i : Int), .int .i64 (s.o : Int)] 48)).alloc (.cells #[.int .i64 0, .int .i64 0, .int .i64 0, .int .i64 0] 48) = x := ⟨_, rfl⟩
  rw [hW2] at hs2 hr2 hb2 hf2 hsz2 ⊢
  clear hW2
  have hec2 := cl7_low hec hb2 hebl
  have hc2 := FBox.cells hf2
  have hp2 := SpBox.cells hs2
  clear hec
  have hSd : (fun w' => Below W2.heap.size W2 w' ∧ (w'.cell? ⟨fb, 0, none⟩ = some (.int .i64 n) ∧ w'.cell? ⟨fb, 1, none⟩ = some (.slice AP LP cP) ∧ w'.cell? ⟨fb, 2, none⟩ = some (.slice (some ⟨eb, eo, none⟩) LT cT) ∧ w'.cell? ⟨fb, 3, none⟩ = some (.slice AI LI cI)) ∧ (w'.cell? ⟨sb, 0, none⟩ = some (.int .i64 (s.a : Int)) ∧ w'.cell? ⟨sb, 1, none⟩ = some (.int .i64 (s.b : Int)) ∧ w'.cell? ⟨sb, 2, none⟩ = some (.int .i64 (s.i : Int)) ∧ w'.cell? ⟨sb, 3, none⟩ = some (.int .i64 (s.o : Int))) ∧ (w'.cell? ⟨eb, eo + s.b * 7, none⟩ = some (.int .i64 c.p) ∧ w'.cell? ⟨eb, eo + s.b * 7 + 1, none⟩ = some (.int .i64 c.o) ∧ w'.cell? ⟨eb, eo + s.b * 7 + 2, none⟩ = some (.int .i64 c.q) ∧ w'.cell? ⟨eb, eo + s.b * 7 + 3, none⟩ = some (.slice Ac c.r.length cc) ∧ w'.cell? ⟨eb, eo + s.b * 7 + 4, none⟩ = some (.int .i64 c.c) ∧ w'.cell? ⟨eb, eo + s.b * 7 + 5, none⟩ = some (.int .i64 c.b) ∧ w'.cell? ⟨eb, eo + s.b * 7 + 6, none⟩ = some (.int .i64 c.e))) W2.drew := ⟨(Below.refl _ W2).drew, ⟨hc2.1, hc2.2.1, hc2.2.2.1, hc2.2.2.2.1⟩, hp2, hec2⟩
  refine wp_region_held_drew (S := (fun w' => Below W2.heap.size W2 w' ∧ (w'.cell? ⟨fb, 0, none⟩ = some (.int .i64 n) ∧ w'.cell? ⟨fb, 1, none⟩ = some (.slice AP LP cP) ∧ w'.cell? ⟨fb, 2, none⟩ = some (.slice (some ⟨eb, eo, none⟩) LT cT) ∧ w'.cell? ⟨fb, 3, none⟩ = some (.slice AI LI cI)) ∧ (w'.cell? ⟨sb, 0, none⟩ = some (.int .i64 (s.a : Int)) ∧ w'.cell? ⟨sb, 1, none⟩ = some (.int .i64 (s.b : Int)) ∧ w'.cell? ⟨sb, 2, none⟩ = some (.int .i64 (s.i : Int)) ∧ w'.cell? ⟨sb, 3, none⟩ = some (.int .i64 (s.o : Int))) ∧ (w'.cell? ⟨eb, eo + s.b * 7, none⟩ = some (.int .i64 c.p) ∧ w'.cell? ⟨eb, eo + s.b * 7 + 1, none⟩ = some (.int .i64 c.o) ∧ w'.cell? ⟨eb, eo + s.b * 7 + 2, none⟩ = some (.int .i64 c.q) ∧ w'.cell? ⟨eb, eo + s.b * 7 + 3, none⟩ = some (.slice Ac c.r.length cc) ∧ w'.cell? ⟨eb, eo + s.b * 7 + 4, none⟩ = some (.int .i64 c.c) ∧ w'.cell? ⟨eb, eo + s.b * 7 + 5, none⟩ = some (.int .i64 c.b) ∧ w'.cell? ⟨eb, eo + s.b * 7 + 6, none⟩ = some (.int .i64 c.e)))) (by kernel_rfl) hSd (fun hHeld => ?_)
  generalize W2.drew = wd at hHeld ⊢
  have hHeld : (fun w' => Below W2.heap.size W2 w' ∧ (w'.cell? ⟨fb, 0, none⟩ = some (.int .i64 n) ∧ w'.cell? ⟨fb, 1, none⟩ = some (.slice AP LP cP) ∧ w'.cell? ⟨fb, 2, none⟩ = some (.slice (some ⟨eb, eo, none⟩) LT cT) ∧ w'.cell? ⟨fb, 3, none⟩ = some (.slice AI LI cI)) ∧ (w'.cell? ⟨sb, 0, none⟩ = some (.int .i64 (s.a : Int)) ∧ w'.cell? ⟨sb, 1, none⟩ = some (.int .i64 (s.b : Int)) ∧ w'.cell? ⟨sb, 2, none⟩ = some (.int .i64 (s.i : Int)) ∧ w'.cell? ⟨sb, 3, none⟩ = some (.int .i64 (s.o : Int))) ∧ (w'.cell? ⟨eb, eo + s.b * 7, none⟩ = some (.int .i64 c.p) ∧ w'.cell? ⟨eb, eo + s.b * 7 + 1, none⟩ = some (.int .i64 c.o) ∧ w'.cell? ⟨eb, eo + s.b * 7 + 2, none⟩ = some (.int .i64 c.q) ∧ w'.cell? ⟨eb, eo + s.b * 7 + 3, none⟩ = some (.slice Ac c.r.length cc) ∧ w'.cell? ⟨eb, eo + s.b * 7 + 4, none⟩ = some (.int .i64 c.c) ∧ w'.cell? ⟨eb, eo + s.b * 7 + 5, none⟩ = some (.int .i64 c.b) ∧ w'.cell? ⟨eb, eo + s.b * 7 + 6, none⟩ = some (.int .i64 c.e))) wd := hHeld
  refine tkH 0 ?_
  try first | simp only [pS, List.set] | simp only [pN]
  refine tkH 1 ?_
  try first | simp only [pS, List.set] | simp only [pN]
  refine tkH 2 ?_
  try first | simp only [pS, List.set] | simp only [pN]
  refine tkH 3 ?_
  try first | simp only [pS, List.set] | simp only [pN]
  refine tkH 4 ?_
  try first | simp only [pS, List.set] | simp only [pN]
  refine tkH 5 ?_
  try first | simp only [pS, List.set] | simp only [pN]
  refine tkH 6 ?_
  try first | simp only [pS, List.set] | simp only [pN]
  refine tkH 7 ?_
  try first | simp only [pS, List.set] | simp only [pN]
  refine tkH 8 ?_
  try first | simp only [pS, List.set] | simp only [pN]
  refine tkH 9 ?_
  try first | simp only [pS, List.set] | simp only [pN]
  refine tkH 10 ?_
  try first | simp only [pS, List.set] | simp only [pN]
  refine tkH 11 ?_
  try first | simp only [pS, List.set] | simp only [pN]
  refine tkH 12 ?_
  try first | simp only [pS, List.set] | simp only [pN]
  refine tkH 13 ?_
  try first | simp only [pS, List.set] | simp only [pN]
  refine tkH 14 ?_
  try first | simp only [pS, List.set] | simp only [pN]
  refine tkH 15 ?_
  try first | simp only [pS, List.set] | simp only [pN]
  refine tkH 16 ?_
  try first | simp only [pS, List.set] | simp only [pN]
  refine tkH 17 ?_
  try first | simp only [pS, List.set] | simp only [pN]
  refine tkH 18 ?_
  try first | simp only [pS, List.set] | simp only [pN]
  refine tkH 19 ?_
  try first | simp only [pS, List.set] | simp only [pN]
  refine tkH 20 ?_
  try first | simp only [pS, List.set] | simp only [pN]
  refine tkH 21 ?_
  try first | simp only [pS, List.set] | simp only [pN]
  refine tkH 22 ?_
  try first | simp only [pS, List.set] | simp only [pN]
  refine tkH 23 ?_
  try first | simp only [pS, List.set] | simp only [pN]
  refine wpAnyH_ready (rs := [24]) (by kernel_rfl) (by simp) ?_
  refine AllReadyH.cons (o := ?_) ?_ (fun K hK => ?_) AllReadyH.nil
  rotate_left
  · (simp only [List.getElem?_toArray, List.getElem?_cons_succ, List.getElem?_cons_zero]; rfl)
  go_simp
  go_at_call 48
  refine (HMAY.out _ (by rw [hsb]; exact hb2.trans (hHeld.1.mono (by omega)))).mono ?_
  rintro e wx ⟨rfl, hbx⟩
  have hSx : (fun w' => Below W2.heap.size W2 w' ∧ (w'.cell? ⟨fb, 0, none⟩ = some (.int .i64 n) ∧ w'.cell? ⟨fb, 1, none⟩ = some (.slice AP LP cP) ∧ w'.cell? ⟨fb, 2, none⟩ = some (.slice (some ⟨eb, eo, none⟩) LT cT) ∧ w'.cell? ⟨fb, 3, none⟩ = some (.slice AI LI cI)) ∧ (w'.cell? ⟨sb, 0, none⟩ = some (.int .i64 (s.a : Int)) ∧ w'.cell? ⟨sb, 1, none⟩ = some (.int .i64 (s.b : Int)) ∧ w'.cell? ⟨sb, 2, none⟩ = some (.int .i64 (s.i : Int)) ∧ w'.cell? ⟨sb, 3, none⟩ = some (.int .i64 (s.o : Int))) ∧ (w'.cell? ⟨eb, eo + s.b * 7, none⟩ = some (.int .i64 c.p) ∧ w'.cell? ⟨eb, eo + s.b * 7 + 1, none⟩ = some (.int .i64 c.o) ∧ w'.cell? ⟨eb, eo + s.b * 7 + 2, none⟩ = some (.int .i64 c.q) ∧ w'.cell? ⟨eb, eo + s.b * 7 + 3, none⟩ = some (.slice Ac c.r.length cc) ∧ w'.cell? ⟨eb, eo + s.b * 7 + 4, none⟩ = some (.int .i64 c.c) ∧ w'.cell? ⟨eb, eo + s.b * 7 + 5, none⟩ = some (.int .i64 c.b) ∧ w'.cell? ⟨eb, eo + s.b * 7 + 6, none⟩ = some (.int .i64 c.e))) wx := ⟨hHeld.1.trans (hbx.mono hHeld.1.size), f4_below hHeld.2.1 hbx, f4_below hHeld.2.2.1 hbx, cl7_below hHeld.2.2.2 hbx⟩
  refine hK.out _ _ hSx (fun hHeld => ?_)
  clear hK K
  try first | simp only [pS, List.set] | simp only [pN]
  refine tkH 25 ?_
  try first | simp only [pS, List.set] | simp only [pN]
  refine tkH 26 ?_
  try first | simp only [pS, List.set] | simp only [pN]
  refine wpAnyH_done (by kernel_rfl) ?_ _
  have hSB := row_kept hs2 hHeld.1
  have hR := row_kept hr2 hHeld.1
  have hB3 := hb2.trans (hHeld.1.mono (by omega))
  have hsx : sb + 2 ≤ wx.heap.size := Nat.le_trans hsz2 hHeld.1.size
  have hH3 := hHeld.2
  have HH := Lib.hid hHeld
  clear hSd hSx hHeld hs2 hr2 hb2 hf2 hc2 hp2 hec2 HMAY hsl hsz2
  obtain ⟨c0, c1, c2, c3⟩ := hH3.2.1
  go_wp2_with fail
  have hSd : (fun w' => Below wx.heap.size wx w' ∧ (w'.cell? ⟨fb, 0, none⟩ = some (.int .i64 n) ∧ w'.cell? ⟨fb, 1, none⟩ = some (.slice AP LP cP) ∧ w'.cell? ⟨fb, 2, none⟩ = some (.slice (some ⟨eb, eo, none⟩) LT cT) ∧ w'.cell? ⟨fb, 3, none⟩ = some (.slice AI LI cI)) ∧ (w'.cell? ⟨sb, 0, none⟩ = some (.int .i64 (s.a : Int)) ∧ w'.cell? ⟨sb, 1, none⟩ = some (.int .i64 (s.b : Int)) ∧ w'.cell? ⟨sb, 2, none⟩ = some (.int .i64 (s.i : Int)) ∧ w'.cell? ⟨sb, 3, none⟩ = some (.int .i64 (s.o : Int))) ∧ (w'.cell? ⟨eb, eo + s.b * 7, none⟩ = some (.int .i64 c.p) ∧ w'.cell? ⟨eb, eo + s.b * 7 + 1, none⟩ = some (.int .i64 c.o) ∧ w'.cell? ⟨eb, eo + s.b * 7 + 2, none⟩ = some (.int .i64 c.q) ∧ w'.cell? ⟨eb, eo + s.b * 7 + 3, none⟩ = some (.slice Ac c.r.length cc) ∧ w'.cell? ⟨eb, eo + s.b * 7 + 4, none⟩ = some (.int .i64 c.c) ∧ w'.cell? ⟨eb, eo + s.b * 7 + 5, none⟩ = some (.int .i64 c.b) ∧ w'.cell? ⟨eb, eo + s.b * 7 + 6, none⟩ = some (.int .i64 c.e))) wx.drew := ⟨(Below.refl _ wx).drew, hH3⟩
  refine wp_region_held_drew (S := (fun w' => Below wx.heap.size wx w' ∧ (w'.cell? ⟨fb, 0, none⟩ = some (.int .i64 n) ∧ w'.cell? ⟨fb, 1, none⟩ = some (.slice AP LP cP) ∧ w'.cell? ⟨fb, 2, none⟩ = some (.slice (some ⟨eb, eo, none⟩) LT cT) ∧ w'.cell? ⟨fb, 3, none⟩ = some (.slice AI LI cI)) ∧ (w'.cell? ⟨sb, 0, none⟩ = some (.int .i64 (s.a : Int)) ∧ w'.cell? ⟨sb, 1, none⟩ = some (.int .i64 (s.b : Int)) ∧ w'.cell? ⟨sb, 2, none⟩ = some (.int .i64 (s.i : Int)) ∧ w'.cell? ⟨sb, 3, none⟩ = some (.int .i64 (s.o : Int))) ∧ (w'.cell? ⟨eb, eo + s.b * 7, none⟩ = some (.int .i64 c.p) ∧ w'.cell? ⟨eb, eo + s.b * 7 + 1, none⟩ = some (.int .i64 c.o) ∧ w'.cell? ⟨eb, eo + s.b * 7 + 2, none⟩ = some (.int .i64 c.q) ∧ w'.cell? ⟨eb, eo + s.b * 7 + 3, none⟩ = some (.slice Ac c.r.length cc) ∧ w'.cell? ⟨eb, eo + s.b * 7 + 4, none⟩ = some (.int .i64 c.c) ∧ w'.cell? ⟨eb, eo + s.b * 7 + 5, none⟩ = some (.int .i64 c.b) ∧ w'.cell? ⟨eb, eo + s.b * 7 + 6, none⟩ = some (.int .i64 c.e)))) (by kernel_rfl) hSd (fun hHeld => ?_)
  generalize wx.drew = wd at hHeld ⊢
  have hHeld : (fun w' => Below wx.heap.size wx w' ∧ (w'.cell? ⟨fb, 0, none⟩ = some (.int .i64 n) ∧ w'.cell? ⟨fb, 1, none⟩ = some (.slice AP LP cP) ∧ w'.cell? ⟨fb, 2, none⟩ = some (.slice (some ⟨eb, eo, none⟩) LT cT) ∧ w'.cell? ⟨fb, 3, none⟩ = some (.slice AI LI cI)) ∧ (w'.cell? ⟨sb, 0, none⟩ = some (.int .i64 (s.a : Int)) ∧ w'.cell? ⟨sb, 1, none⟩ = some (.int .i64 (s.b : Int)) ∧ w'.cell? ⟨sb, 2, none⟩ = some (.int .i64 (s.i : Int)) ∧ w'.cell? ⟨sb, 3, none⟩ = some (.int .i64 (s.o : Int))) ∧ (w'.cell? ⟨eb, eo + s.b * 7, none⟩ = some (.int .i64 c.p) ∧ w'.cell? ⟨eb, eo + s.b * 7 + 1, none⟩ = some (.int .i64 c.o) ∧ w'.cell? ⟨eb, eo + s.b * 7 + 2, none⟩ = some (.int .i64 c.q) ∧ w'.cell? ⟨eb, eo + s.b * 7 + 3, none⟩ = some (.slice Ac c.r.length cc) ∧ w'.cell? ⟨eb, eo + s.b * 7 + 4, none⟩ = some (.int .i64 c.c) ∧ w'.cell? ⟨eb, eo + s.b * 7 + 5, none⟩ = some (.int .i64 c.b) ∧ w'.cell? ⟨eb, eo + s.b * 7 + 6, none⟩ = some (.int .i64 c.e))) wd := hHeld
  refine tkH 0 ?_
  try first | simp only [pS, List.set] | simp only [pN]
  refine tkH 1 ?_
  try first | simp only [pS, List.set] | simp only [pN]
  refine tkH 2 ?_
  try first | simp only [pS, List.set] | simp only [pN]
  refine tkH 3 ?_
  try first | simp only [pS, List.set] | simp only [pN]
  refine tkH 4 ?_
  try first | simp only [pS, List.set] | simp only [pN]
  refine tkH 5 ?_
  try first | simp only [pS, List.set] | simp only [pN]
  refine tkH 6 ?_
  try first | simp only [pS, List.set] | simp only [pN]
  refine tkH 7 ?_
  try first | simp only [pS, List.set] | simp only [pN]
  refine tkH 8 ?_
  try first | simp only [pS, List.set] | simp only [pN]
  refine tkH 9 ?_
  try first | simp only [pS, List.set] | simp only [pN]
  refine tkH 10 ?_
  try first | simp only [pS, List.set] | simp only [pN]
  refine tkH 11 ?_
  try first | simp only [pS, List.set] | simp only [pN]
  refine tkH 12 ?_
  try first | simp only [pS, List.set] | simp only [pN]
  refine wpAnyH_ready (rs := [13]) (by kernel_rfl) (by simp) ?_
  refine AllReadyH.cons (o := ?_) ?_ (fun K hK => ?_) AllReadyH.nil
  rotate_left
  · (simp only [List.getElem?_toArray, List.getElem?_cons_succ, List.getElem?_cons_zero]; rfl)
  go_simp
  have hcz := hHeld.1.size
  have hnew := heap_alloc_new wd (.cells #[.int .i64 0, .int .i64 0, .int .i64 0, .slice none 0 0, .int .i64 0, .int .i64 0, .int .i64 0] 32)
  have hba := (Below.refl wd.heap.size wd).alloc (Nat.le_refl _) (.cells #[.int .i64 0, .int .i64 0, .int .i64 0, .slice none 0 0, .int .i64 0, .int .i64 0, .int .i64 0] 32)
  have hSx : (fun w' => Below wx.heap.size wx w' ∧ (w'.cell? ⟨fb, 0, none⟩ = some (.int .i64 n) ∧ w'.cell? ⟨fb, 1, none⟩ = some (.slice AP LP cP) ∧ w'.cell? ⟨fb, 2, none⟩ = some (.slice (some ⟨eb, eo, none⟩) LT cT) ∧ w'.cell? ⟨fb, 3, none⟩ = some (.slice AI LI cI)) ∧ (w'.cell? ⟨sb, 0, none⟩ = some (.int .i64 (s.a : Int)) ∧ w'.cell? ⟨sb, 1, none⟩ = some (.int .i64 (s.b : Int)) ∧ w'.cell? ⟨sb, 2, none⟩ = some (.int .i64 (s.i : Int)) ∧ w'.cell? ⟨sb, 3, none⟩ = some (.int .i64 (s.o : Int))) ∧ (w'.cell? ⟨eb, eo + s.b * 7, none⟩ = some (.int .i64 c.p) ∧ w'.cell? ⟨eb, eo + s.b * 7 + 1, none⟩ = some (.int .i64 c.o) ∧ w'.cell? ⟨eb, eo + s.b * 7 + 2, none⟩ = some (.int .i64 c.q) ∧ w'.cell? ⟨eb, eo + s.b * 7 + 3, none⟩ = some (.slice Ac c.r.length cc) ∧ w'.cell? ⟨eb, eo + s.b * 7 + 4, none⟩ = some (.int .i64 c.c) ∧ w'.cell? ⟨eb, eo + s.b * 7 + 5, none⟩ = some (.int .i64 c.b) ∧ w'.cell? ⟨eb, eo + s.b * 7 + 6, none⟩ = some (.int .i64 c.e))) (wd.alloc (.cells #[.int .i64 0, .int .i64 0, .int .i64 0, .slice none 0 0, .int .i64 0, .int .i64 0, .int .i64 0] 32)) := ⟨hHeld.1.trans (hba.mono hHeld.1.size), f4_below hHeld.2.1 hba, f4_below hHeld.2.2.1 hba, cl7_below hHeld.2.2.2 hba⟩
  refine hK.out _ _ hSx (fun hHeld => ?_)
  clear hK K
  try first | simp only [pS, List.set] | simp only [pN]
  obtain ⟨wa, hwa⟩ : ∃ x, wd.alloc (.cells #[.int .i64 0, .int .i64 0, .int .i64 0, .slice none 0 0, .int .i64 0, .int .i64 0, .int .i64 0] 32) = x := ⟨_, rfl⟩
  obtain ⟨cb, hcb⟩ : ∃ x, wd.heap.size = x := ⟨_, rfl⟩
  rw [hwa] at hHeld hnew ⊢
  rw [hcb] at hnew hcz ⊢
  clear hwa hcb hba hSx
  have b0 := row_cell hnew 0
  have b1 := row_cell hnew 1
  have b2 := row_cell hnew 2
  have b3 := row_cell hnew 3
  have b4 := row_cell hnew 4
  have b5 := row_cell hnew 5
  have b6 := row_cell hnew 6
  simp at b0 b1 b2 b3 b4 b5 b6
  have f0 := row_frozen hnew 0
  have f1 := row_frozen hnew 1
  have f2 := row_frozen hnew 2
  have f3 := row_frozen hnew 3
  have f4 := row_frozen hnew 4
  have f5 := row_frozen hnew 5
  have f6 := row_frozen hnew 6
  refine wpAnyH_ready (rs := [14]) (by kernel_rfl) (by simp) ?_
  refine AllReadyH.cons (o := ?_) ?_ (fun K hK => ?_) AllReadyH.nil
  rotate_left
  · (simp only [List.getElem?_toArray, List.getElem?_cons_succ, List.getElem?_cons_zero]; rfl)
  go_simp
  have hset := cset7_row hnew (.int .i64 c.p) (.int .i64 c.o) (.int .i64 c.q) (.slice Ac c.r.length cc) (.int .i64 c.c) (.int .i64 c.b) (.int .i64 c.e)
  have hbs := cset7_below (Below.refl cb wa) (Nat.le_refl cb) (.int .i64 c.p) (.int .i64 c.o) (.int .i64 c.q) (.slice Ac c.r.length cc) (.int .i64 c.c) (.int .i64 c.b) (.int .i64 c.e)
  have hSx : (fun w' => Below wx.heap.size wx w' ∧ (w'.cell? ⟨fb, 0, none⟩ = some (.int .i64 n) ∧ w'.cell? ⟨fb, 1, none⟩ = some (.slice AP LP cP) ∧ w'.cell? ⟨fb, 2, none⟩ = some (.slice (some ⟨eb, eo, none⟩) LT cT) ∧ w'.cell? ⟨fb, 3, none⟩ = some (.slice AI LI cI)) ∧ (w'.cell? ⟨sb, 0, none⟩ = some (.int .i64 (s.a : Int)) ∧ w'.cell? ⟨sb, 1, none⟩ = some (.int .i64 (s.b : Int)) ∧ w'.cell? ⟨sb, 2, none⟩ = some (.int .i64 (s.i : Int)) ∧ w'.cell? ⟨sb, 3, none⟩ = some (.int .i64 (s.o : Int))) ∧ (w'.cell? ⟨eb, eo + s.b * 7, none⟩ = some (.int .i64 c.p) ∧ w'.cell? ⟨eb, eo + s.b * 7 + 1, none⟩ = some (.int .i64 c.o) ∧ w'.cell? ⟨eb, eo + s.b * 7 + 2, none⟩ = some (.int .i64 c.q) ∧ w'.cell? ⟨eb, eo + s.b * 7 + 3, none⟩ = some (.slice Ac c.r.length cc) ∧ w'.cell? ⟨eb, eo + s.b * 7 + 4, none⟩ = some (.int .i64 c.c) ∧ w'.cell? ⟨eb, eo + s.b * 7 + 5, none⟩ = some (.int .i64 c.b) ∧ w'.cell? ⟨eb, eo + s.b * 7 + 6, none⟩ = some (.int .i64 c.e))) (cset7 wa cb (.int .i64 c.p) (.int .i64 c.o) (.int .i64 c.q) (.slice Ac c.r.length cc) (.int .i64 c.c) (.int .i64 c.b) (.int .i64 c.e)) := ⟨hHeld.1.trans (hbs.mono hcz), f4_low hHeld.2.1 hbs (by omega), f4_low hHeld.2.2.1 hbs (by omega), cl7_low hHeld.2.2.2 hbs (by omega)⟩
  unfold cset7 at hset
  obtain ⟨wc, hwc⟩ : ∃ x, ((((((wa.setCell ⟨cb, 0, none⟩ (.int .i64 c.p)).setCell ⟨cb, 1, none⟩ (.int .i64 c.o)).setCell ⟨cb, 2, none⟩ (.int .i64 c.q)).setCell ⟨cb, 3, none⟩ (.slice Ac c.r.length cc)).setCell ⟨cb, 4, none⟩ (.int .i64 c.c)).setCell ⟨cb, 5, none⟩ (.int .i64 c.b)).setCell ⟨cb, 6, none⟩ (.int .i64 c.e) = x := ⟨_, rfl⟩
  have hSx2 : (fun w' => Below wx.heap.size wx w' ∧ (w'.cell? ⟨fb, 0, none⟩ = some (.int .i64 n) ∧ w'.cell? ⟨fb, 1, none⟩ = some (.slice AP LP cP) ∧ w'.cell? ⟨fb, 2, none⟩ = some (.slice (some ⟨eb, eo, none⟩) LT cT) ∧ w'.cell? ⟨fb, 3, none⟩ = some (.slice AI LI cI)) ∧ (w'.cell? ⟨sb, 0, none⟩ = some (.int .i64 (s.a : Int)) ∧ w'.cell? ⟨sb, 1, none⟩ = some (.int .i64 (s.b : Int)) ∧ w'.cell? ⟨sb, 2, none⟩ = some (.int .i64 (s.i : Int)) ∧ w'.cell? ⟨sb, 3, none⟩ = some (.int .i64 (s.o : Int))) ∧ (w'.cell? ⟨eb, eo + s.b * 7, none⟩ = some (.int .i64 c.p) ∧ w'.cell? ⟨eb, eo + s.b * 7 + 1, none⟩ = some (.int .i64 c.o) ∧ w'.cell? ⟨eb, eo + s.b * 7 + 2, none⟩ = some (.int .i64 c.q) ∧ w'.cell? ⟨eb, eo + s.b * 7 + 3, none⟩ = some (.slice Ac c.r.length cc) ∧ w'.cell? ⟨eb, eo + s.b * 7 + 4, none⟩ = some (.int .i64 c.c) ∧ w'.cell? ⟨eb, eo + s.b * 7 + 5, none⟩ = some (.int .i64 c.b) ∧ w'.cell? ⟨eb, eo + s.b * 7 + 6, none⟩ = some (.int .i64 c.e))) wc := by rw [← hwc]; exact hSx
  rw [hwc] at hset ⊢
  clear hwc hSx hbs
  have hSx := hSx2
  refine hK.out _ _ hSx (fun hHeld => ?_)
  clear hK K
  try first | simp only [pS, List.set] | simp only [pN]
  refine tkH 15 ?_
  try first | simp only [pS, List.set] | simp only [pN]
  refine wpAnyH_done (by kernel_rfl) ?_ _
  have hSc := row_kept hSB hHeld.1
  have hRc := row_kept hR hHeld.1
  have hBc := hB3.trans (hHeld.1.mono (by omega))
  have hFc := hHeld.2.1
  have hcs := row_lt hset
  clear hSd hSx hHeld hSx2 hH3 HH c0 c1 c2 c3 hSB hR hB3 hnew b0 b1 b2 b3 b4 b5 b6 f0 f1 f2 f3 f4 f5 f6
  have d0 := row_cell hset 0
  have d1 := row_cell hset 1
  have d2 := row_cell hset 2
  have d3 := row_cell hset 3
  have d4 := row_cell hset 4
  have d5 := row_cell hset 5
  have d6 := row_cell hset 6
  simp at d0 d1 d2 d3 d4 d5 d6
  have c0 := row_cell hSc 0
  have c1 := row_cell hSc 1
  have c2 := row_cell hSc 2
  have c3 := row_cell hSc 3
  simp at c0 c1 c2 c3
  have f0 := row_frozen hSc 0
  have f1 := row_frozen hSc 1
  have f2 := row_frozen hSc 2
  have f3 := row_frozen hSc 3
  have hcne : cb ≠ sb := by omega
  have hcne2 : sb ≠ cb := by omega
  have hfs : fb ≠ sb := by omega
  have hrs : sb + 1 ≠ sb := by omega
  have hcr : cb ≠ sb + 1 := by omega
  have hS4 : (wc.setCell ⟨sb, 1, none⟩ (.int .i64 ((s.b : Int) + 1))).heap[sb]? = some (.cells #[.int .i64 (s.a : Int), .int .i64 ((s.b : Int) + 1), .int .i64 (s.i : Int), .int .i64 (s.o : Int)] 48 (0, 0)) := by simpa using lrow_set wc sb _ _ 1 (.int .i64 ((s.b : Int) + 1)) hSc
  have hR4 := row_other hRc sb 1 (.int .i64 ((s.b : Int) + 1)) hrs
  have hF4 := f4_other (j := 1) (x := .int .i64 ((s.b : Int) + 1)) hFc hfs
  have hC4 := row_other hset sb 1 (.int .i64 ((s.b : Int) + 1)) hcne
  have hB4 := hBc.setCell (p := ⟨sb, 1, none⟩) (Nat.le_refl _) (.int .i64 ((s.b : Int) + 1))
  have hS5 : ((wc.setCell ⟨sb, 1, none⟩ (.int .i64 ((s.b : Int) + 1))).setCell ⟨sb, 3, none⟩ (.int .i64 ((s.o : Int) + 1))).heap[sb]? = some (.cells #[.int .i64 (s.a : Int), .int .i64 ((s.b : Int) + 1), .int .i64 (s.i : Int), .int .i64 ((s.o : Int) + 1)] 48 (0, 0)) := by simpa using lrow_set _ sb _ _ 3 (.int .i64 ((s.o : Int) + 1)) hS4
  have hR5 := row_other hR4 sb 3 (.int .i64 ((s.o : Int) + 1)) hrs
  have hF5 := f4_other (j := 3) (x := .int .i64 ((s.o : Int) + 1)) hF4 hfs
  have hC5 := row_other hC4 sb 3 (.int .i64 ((s.o : Int) + 1)) hcne
  have hB5 := hB4.setCell (p := ⟨sb, 3, none⟩) (Nat.le_refl _) (.int .i64 ((s.o : Int) + 1))
  have HS := Lib.hid hS5
  have HR := Lib.hid hR5
  have HF := Lib.hid hF5
  have HC := Lib.hid hC5
  have HB := Lib.hid hB5
  clear hS4 hR4 hF4 hC4 hB4 hS5 hR5 hF5 hC5 hB5
  clear hSc hRc hFc hBc
  have HSET := Lib.hid hset
  clear hset
  go_wp2_with fail
  obtain ⟨w4, hw4⟩ : ∃ x, (wc.setCell ⟨sb, 1, none⟩ (.int .i64 ((s.b : Int) + 1))).setCell ⟨sb, 3, none⟩ (.int .i64 ((s.o : Int) + 1)) = x := ⟨_, rfl⟩
  have hS := HS.out
  have hR := HR.out
  have hF := HF.out
  have hC := HC.out
  have hB := HB.out
  rw [hw4] at hS hR hF hC hB ⊢
  clear hw4 HS HR HF HC HB HSET d0 d1 d2 d3 d4 d5 d6 c0 c1 c2 c3 f0 f1 f2 f3
  have hSd : (fun w' => Below sb W w' ∧ (w'.cell? ⟨fb, 0, none⟩ = some (.int .i64 n) ∧ w'.cell? ⟨fb, 1, none⟩ = some (.slice AP LP cP) ∧ w'.cell? ⟨fb, 2, none⟩ = some (.slice (some ⟨eb, eo, none⟩) LT cT) ∧ w'.cell? ⟨fb, 3, none⟩ = some (.slice AI LI cI)) ∧ (w'.cell? ⟨sb, 0, none⟩ = some (.int .i64 (s.a : Int)) ∧ w'.cell? ⟨sb, 1, none⟩ = some (.int .i64 ((s.b : Int) + 1)) ∧ w'.cell? ⟨sb, 2, none⟩ = some (.int .i64 (s.i : Int)) ∧ w'.cell? ⟨sb, 3, none⟩ = some (.int .i64 ((s.o : Int) + 1))) ∧ w'.cell? ⟨cb, 6, none⟩ = some (.int .i64 c.e)) w4.drew := ⟨hB.drew, hF, SpC hS, row_cell hC 6⟩
  refine wp_region_held_drew (S := (fun w' => Below sb W w' ∧ (w'.cell? ⟨fb, 0, none⟩ = some (.int .i64 n) ∧ w'.cell? ⟨fb, 1, none⟩ = some (.slice AP LP cP) ∧ w'.cell? ⟨fb, 2, none⟩ = some (.slice (some ⟨eb, eo, none⟩) LT cT) ∧ w'.cell? ⟨fb, 3, none⟩ = some (.slice AI LI cI)) ∧ (w'.cell? ⟨sb, 0, none⟩ = some (.int .i64 (s.a : Int)) ∧ w'.cell? ⟨sb, 1, none⟩ = some (.int .i64 ((s.b : Int) + 1)) ∧ w'.cell? ⟨sb, 2, none⟩ = some (.int .i64 (s.i : Int)) ∧ w'.cell? ⟨sb, 3, none⟩ = some (.int .i64 ((s.o : Int) + 1))) ∧ w'.cell? ⟨cb, 6, none⟩ = some (.int .i64 c.e))) (by kernel_rfl) hSd (fun hHeld => ?_)
  obtain ⟨wd, hwd⟩ : ∃ x, w4.drew = x := ⟨_, rfl⟩
  replace hR := (show wd.heap[sb + 1]? = w4.heap[sb + 1]? from by rw [← hwd]; rfl).trans hR
  rw [hwd] at hHeld ⊢
  clear hwd hSd hB hF hS
  have hHeld : (fun w' => Below sb W w' ∧ (w'.cell? ⟨fb, 0, none⟩ = some (.int .i64 n) ∧ w'.cell? ⟨fb, 1, none⟩ = some (.slice AP LP cP) ∧ w'.cell? ⟨fb, 2, none⟩ = some (.slice (some ⟨eb, eo, none⟩) LT cT) ∧ w'.cell? ⟨fb, 3, none⟩ = some (.slice AI LI cI)) ∧ (w'.cell? ⟨sb, 0, none⟩ = some (.int .i64 (s.a : Int)) ∧ w'.cell? ⟨sb, 1, none⟩ = some (.int .i64 ((s.b : Int) + 1)) ∧ w'.cell? ⟨sb, 2, none⟩ = some (.int .i64 (s.i : Int)) ∧ w'.cell? ⟨sb, 3, none⟩ = some (.int .i64 ((s.o : Int) + 1))) ∧ w'.cell? ⟨cb, 6, none⟩ = some (.int .i64 c.e)) wd := hHeld
  refine tkH 0 ?_
  try first | simp only [pS, List.set] | simp only [pN]
  refine tkH 1 ?_
  try first | simp only [pS, List.set] | simp only [pN]
  refine tkH 2 ?_
  try first | simp only [pS, List.set] | simp only [pN]
  refine tkH 3 ?_
  try first | simp only [pS, List.set] | simp only [pN]
  refine tkH 4 ?_
  try first | simp only [pS, List.set] | simp only [pN]
  refine wpAnyH_take (i := 5) (oi := ?_) (v := undef) ?_ (by kernel_rfl) (by kernel_rfl) (by kernel_rfl) ?_ (Or.inr ⟨?_, rfl⟩) (by assumption) ?_
  rotate_left 1
  · (simp only [List.getElem?_toArray, List.getElem?_cons_succ, List.getElem?_cons_zero]; rfl)
  · first | exact fun _ _ _ h => h | exact fun _ _ _ h => by cases h.1
  · rfl
  try first | simp only [pS, List.set] | simp only [pN]
  refine wpAnyH_take (i := 6) (oi := ?_) (v := undef) ?_ (by kernel_rfl) (by kernel_rfl) (by kernel_rfl) ?_ (Or.inr ⟨?_, rfl⟩) (by assumption) ?_
  rotate_left 1
  · (simp only [List.getElem?_toArray, List.getElem?_cons_succ, List.getElem?_cons_zero]; rfl)
  · first | exact fun _ _ _ h => h | exact fun _ _ _ h => by cases h.1
  · rfl
  try first | simp only [pS, List.set] | simp only [pN]
  refine wpAnyH_take (i := 7) (oi := ?_) (v := undef) ?_ (by kernel_rfl) (by kernel_rfl) (by kernel_rfl) ?_ (Or.inr ⟨?_, rfl⟩) (by assumption) ?_
  rotate_left 1
  · (simp only [List.getElem?_toArray, List.getElem?_cons_succ, List.getElem?_cons_zero]; rfl)
  · first | exact fun _ _ _ h => h | exact fun _ _ _ h => by cases h.1
  · rfl
  try first | simp only [pS, List.set] | simp only [pN]
  refine wpAnyH_take (i := 8) (oi := ?_) (v := undef) ?_ (by kernel_rfl) (by kernel_rfl) (by kernel_rfl) ?_ (Or.inr ⟨?_, rfl⟩) (by assumption) ?_
  rotate_left 1
  · (simp only [List.getElem?_toArray, List.getElem?_cons_succ, List.getElem?_cons_zero]; rfl)
  · first | exact fun _ _ _ h => h | exact fun _ _ _ h => by cases h.1
  · rfl
  try first | simp only [pS, List.set] | simp only [pN]
  refine wpAnyH_take (i := 9) (oi := ?_) (v := undef) ?_ (by kernel_rfl) (by kernel_rfl) (by kernel_rfl) ?_ (Or.inr ⟨?_, rfl⟩) (by assumption) ?_
  rotate_left 1
  · (simp only [List.getElem?_toArray, List.getElem?_cons_succ, List.getElem?_cons_zero]; rfl)
  · first | exact fun _ _ _ h => h | exact fun _ _ _ h => by cases h.1
  · rfl
  try first | simp only [pS, List.set] | simp only [pN]
  refine wpAnyH_take (i := 10) (oi := ?_) (v := undef) ?_ (by kernel_rfl) (by kernel_rfl) (by kernel_rfl) ?_ (Or.inr ⟨?_, rfl⟩) (by assumption) ?_
  rotate_left 1
  · (simp only [List.getElem?_toArray, List.getElem?_cons_succ, List.getElem?_cons_zero]; rfl)
  · first | exact fun _ _ _ h => h | exact fun _ _ _ h => by cases h.1
  · rfl
  try first | simp only [pS, List.set] | simp only [pN]
  refine wpAnyH_take (i := 11) (oi := ?_) (v := undef) ?_ (by kernel_rfl) (by kernel_rfl) (by kernel_rfl) ?_ (Or.inr ⟨?_, rfl⟩) (by assumption) ?_
  rotate_left 1
  · (simp only [List.getElem?_toArray, List.getElem?_cons_succ, List.getElem?_cons_zero]; rfl)
  · first | exact fun _ _ _ h => h | exact fun _ _ _ h => by cases h.1
  · rfl
  try first | simp only [pS, List.set] | simp only [pN]
  refine wpAnyH_take (i := 12) (oi := ?_) (v := undef) ?_ (by kernel_rfl) (by kernel_rfl) (by kernel_rfl) ?_ (Or.inr ⟨?_, rfl⟩) (by assumption) ?_
  rotate_left 1
  · (simp only [List.getElem?_toArray, List.getElem?_cons_succ, List.getElem?_cons_zero]; rfl)
  · first | exact fun _ _ _ h => h | exact fun _ _ _ h => by cases h.1
  · rfl
  try first | simp only [pS, List.set] | simp only [pN]
  refine wpAnyH_take (i := 13) (oi := ?_) (v := undef) ?_ (by kernel_rfl) (by kernel_rfl) (by kernel_rfl) ?_ (Or.inr ⟨?_, rfl⟩) (by assumption) ?_
  rotate_left 1
  · (simp only [List.getElem?_toArray, List.getElem?_cons_succ, List.getElem?_cons_zero]; rfl)
  · first | exact fun _ _ _ h => h | exact fun _ _ _ h => by cases h.1
  · rfl
  try first | simp only [pS, List.set] | simp only [pN]
  refine wpAnyH_take (i := 14) (oi := ?_) (v := undef) ?_ (by kernel_rfl) (by kernel_rfl) (by kernel_rfl) ?_ (Or.inr ⟨?_, rfl⟩) (by assumption) ?_
  rotate_left 1
  · (simp only [List.getElem?_toArray, List.getElem?_cons_succ, List.getElem?_cons_zero]; rfl)
  · first | exact fun _ _ _ h => h | exact fun _ _ _ h => by cases h.1
  · rfl
  try first | simp only [pS, List.set] | simp only [pN]
  refine wpAnyH_take (i := 15) (oi := ?_) (v := undef) ?_ (by kernel_rfl) (by kernel_rfl) (by kernel_rfl) ?_ (Or.inr ⟨?_, rfl⟩) (by assumption) ?_
  rotate_left 1
  · (simp only [List.getElem?_toArray, List.getElem?_cons_succ, List.getElem?_cons_zero]; rfl)
  · first | exact fun _ _ _ h => h | exact fun _ _ _ h => by cases h.1
  · rfl
  try first | simp only [pS, List.set] | simp only [pN]
  refine wpAnyH_take (i := 16) (oi := ?_) (v := undef) ?_ (by kernel_rfl) (by kernel_rfl) (by kernel_rfl) ?_ (Or.inr ⟨?_, rfl⟩) (by assumption) ?_
  rotate_left 1
  · (simp only [List.getElem?_toArray, List.getElem?_cons_succ, List.getElem?_cons_zero]; rfl)
  · first | exact fun _ _ _ h => h | exact fun _ _ _ h => by cases h.1
  · rfl
  try first | simp only [pS, List.set] | simp only [pN]
  refine tkH 17 ?_
  try first | simp only [pS, List.set] | simp only [pN]
  have f0 := row_frozen hR 0
  have f1 := row_frozen hR 1
  have f2 := row_frozen hR 2
  have f3 := row_frozen hR 3
  have z0 := row_cell hR 0
  have z1 := row_cell hR 1
  have z2 := row_cell hR 2
  have z3 := row_cell hR 3
  simp at z0 z1 z2 z3
  refine wpAnyH_ready (rs := [18]) (by kernel_rfl) (by simp) ?_
  refine AllReadyH.cons (o := ?_) ?_ (fun K hK => ?_) AllReadyH.nil
  rotate_left
  · (simp only [List.getElem?_toArray, List.getElem?_cons_succ, List.getElem?_cons_zero]; rfl)
  go_simp
  have hfin := sset4_row hR (.int .i64 (s.a : Int)) (.int .i64 ((s.b : Int) + 1)) (.int .i64 (s.i : Int)) (.int .i64 ((s.o : Int) + 1))
  have hSx : (fun w' => Below sb W w' ∧ (w'.cell? ⟨fb, 0, none⟩ = some (.int .i64 n) ∧ w'.cell? ⟨fb, 1, none⟩ = some (.slice AP LP cP) ∧ w'.cell? ⟨fb, 2, none⟩ = some (.slice (some ⟨eb, eo, none⟩) LT cT) ∧ w'.cell? ⟨fb, 3, none⟩ = some (.slice AI LI cI)) ∧ (w'.cell? ⟨sb, 0, none⟩ = some (.int .i64 (s.a : Int)) ∧ w'.cell? ⟨sb, 1, none⟩ = some (.int .i64 ((s.b : Int) + 1)) ∧ w'.cell? ⟨sb, 2, none⟩ = some (.int .i64 (s.i : Int)) ∧ w'.cell? ⟨sb, 3, none⟩ = some (.int .i64 ((s.o : Int) + 1))) ∧ w'.cell? ⟨cb, 6, none⟩ = some (.int .i64 c.e)) (sset4 wd (sb + 1) (.int .i64 (s.a : Int)) (.int .i64 ((s.b : Int) + 1)) (.int .i64 (s.i : Int)) (.int .i64 ((s.o : Int) + 1))) := ⟨sset4_below hHeld.1 (by omega) _ _ _ _, f4_sset hHeld.2.1 (by omega), f4_sset hHeld.2.2.1 (by omega), cell_sset hHeld.2.2.2 hcr⟩
  refine hK.out _ _ hSx (fun hHeld => ?_)
  clear hK K
  try first | simp only [pS, List.set] | simp only [pN]
  refine tkH 19 ?_
  try first | simp only [pS, List.set] | simp only [pN]
  refine wpAnyH_done (by kernel_rfl) ?_ _
  go_wp2_with fail
  refine bodyPost_ret (res_take _ _ (s := ⟨s.a, s.b + 1, s.i, s.o + 1⟩) (ok := true) rfl rfl hfin) rfl ?_
  exact ⟨_, _, rfl, HST.out, by rw [hsb]; exact hHeld.1⟩

set_option maxRecDepth 100000 in
set_option maxHeartbeats 4000000 in
theorem ftake_6 {n : Int} {P T : List Cl} {s : Sp} (hs : Inv n P T s) (hP : P.length ≤ 60) (hT : T.length ≤ 60) {fb bm cP cT LI cI : Nat} {AP AT AI : Option Addr} {vE : Value} (hcP : P.length ≤ cP) (hcT : T.length ≤ cT) (W : World)
    (hF : FBox W fb n AP P.length cP AT T.length cT AI LI cI bm vE) (hlP : ClSl W W.heap.size AP P) (hlT : ClSl W W.heap.size AT T) {c : Cl} (hc : T[s.b]? = some c) (hm : mayB c (P.drop s.a) = true) (he : 0 ≤ c.e) (h2 : (c.c == 3) = false) (hk : s.i ≠ s.o) {ib io ci : Nat} {Ai : Option Addr} {r0 : List Int} (hAI : AI = some ⟨ib, io, none⟩) (hI : W.cell? ⟨ib, io + s.o, none⟩ = some (.slice Ai r0.length ci)) (hri : Ws W W.heap.size Ai r0) (hri1 : r0.length ≤ ci) (hri2 : ci ≤ maxLen) (hr0 : (putI P)[s.o]? = some r0) (hoL : s.o < LI) :
    Calls Try.prog 35 #[.pointer (some ⟨fb, 0, none⟩), spV s] W (PutR (stepT P T s) W) := by
  have huse := And.intro hP (And.intro hT (And.intro hcP (And.intro hcT (And.intro hlP hlT))))
  clear huse
  obtain ⟨LP, hLP⟩ : ∃ x, P.length = x := ⟨_, rfl⟩
  obtain ⟨LT, hLT⟩ : ∃ x, T.length = x := ⟨_, rfl⟩
  have s1 := hs.a
  have s2 := hs.b
  have s3 := hs.oi
  have s4 : s.i ≤ 60 := by rw [hs.i]; exact Nat.le_trans List.countP_le_length (by rw [List.length_take]; omega)
  rw [hLP] at hF s1 hP hcP
  rw [hLT] at hF s2 hT hcT
  have HST := Lib.hid (show stepT P T s = (if (decide (c.r = r0)) = true then some ⟨s.a, s.b + 1, s.i, s.o + 1⟩ else none) by unfold stepT; rw [hc]; simp [hm, show emp c = false by simp [emp, h2], hk, show opn c = false by simp [opn]; omega, hr0, show (r0 == c.r) = decide (c.r = r0) by rw [Bool.eq_iff_iff]; simp; exact eq_comm])
  have hlto : s.b < LT := by rw [← hLT]; exact get_lt hc
  obtain ⟨eb, eo, Ac, cc, hAP, hebl, hec, hcw, hcc1, hcc2⟩ := hlT s.b c hc
  have hsl := fun W => slice_calls AP LP cP s.a s1 W
  have htl := hlP.tail (c := cP) (n := s.a) (by rw [hLP]; exact hcP) (by rw [hLP]; exact s1)
  obtain ⟨A2, hA2⟩ : ∃ x, (if cP = s.a then AP else AP.map (·.add (s.a * 7))) = x := ⟨_, rfl⟩
  rw [hA2] at hsl htl
  have hmay := fun (W' : World) (hb : Below W.heap.size W W') => lmay_any c Ac A2 cc (cP - s.a) (P.drop s.a) W' (by rw [List.length_drop]; omega) (htl.below hb hb.size)
  rw [List.length_drop, hLP, hm] at hmay
  subst hAP
  have h0i : ((s.b : Int) == (LT : Int)) = false := by simp; omega
  have hltoi : (s.b : Int) < (LT : Int) := by omega
  have hlt2i : (s.a : Int) ≤ (LP : Int) := by omega
  have hwr : IntKind.i64.wrap ((s.i : Int) - (s.o : Int)) = ((s.i : Int) - (s.o : Int)) := IntWalk.i64_in _ (by omega)
  have hz : (((s.i : Int) - (s.o : Int)) == 0) = false := by simp; omega
  clear hk
  have hsame := fun (W' : World) (hb : Below W.heap.size W W') => same_any Ac Ai cc ci c.r r0 W' (by unfold maxLen at hcc2; omega) (by unfold maxLen at hri2; omega) (hcw.below hb hb.size) (hri.below hb hb.size)
  have HSAME := Lib.hid hsame
  clear hsame hri
  have hib0 := cell_lt hI
  have hri2 := hri2
  have hen : decide (c.e < 0) = false := decide_eq_false (by omega)
  subst hAI
  have hoLi : (s.o : Int) < (LI : Int) := by omega
  have hwo : IntKind.i64.wrap ((s.o : Int) + 1 - 1) = (s.o : Int) := (IntWalk.i64_in _ (by omega)).trans (by omega)
  have hwo2 : IntKind.i64.wrap (s.o : Int) = (s.o : Int) := IntWalk.i64_in _ (by omega)
  unfold clV at hmay
  have HMAY := Lib.hid hmay
  have HCW := Lib.hid hcw
  clear hmay htl hcw hA2 hlP hlT hLP hLT hs hc hm
  have hb1 := (Below.refl W.heap.size W).alloc (Nat.le_refl _) (.cells #[.int .i64 (s.a : Int), .int .i64 (s.b : Int), .int .i64 (s.i : Int), .int .i64 (s.o : Int)] 48)
  have hb2 := hb1.alloc hb1.size (.cells #[.int .i64 0, .int .i64 0, .int .i64 0, .int .i64 0] 48)
  have hs1 := heap_alloc_new W (.cells #[.int .i64 (s.a : Int), .int .i64 (s.b : Int), .int .i64 (s.i : Int), .int .i64 (s.o : Int)] 48)
  have hs2 := row_kept hs1 ((Below.refl _ _).alloc (Nat.le_refl _) (.cells #[.int .i64 0, .int .i64 0, .int .i64 0, .int .i64 0] 48))
  have hr2 := heap_alloc_new (W.alloc (.cells #[.int .i64 (s.a : Int), .int .i64 (s.b : Int), .int .i64 (s.i : Int), .int .i64 (s.o : Int)] 48)) (.cells #[.int .i64 0, .int .i64 0, .int .i64 0, .int .i64 0] 48)
  have hf2 := row_kept hF hb2
  rw [World.size_alloc] at hr2
  have hlt := row_lt hF
  have hsz2 : W.heap.size + 2 ≤ ((W.alloc (.cells #[.int .i64 (s.a : Int), .int .i64 (s.b : Int), .int .i64 (s.i : Int), .int .i64 (s.o : Int)] 48)).alloc (.cells #[.int .i64 0, .int .i64 0, .int .i64 0, .int .i64 0] 48)).heap.size := by rw [World.size_alloc, World.size_alloc]; omega
  clear hs1 hb1 hF
  unfold spV
  obtain ⟨sb, hsb⟩ : ∃ x, W.heap.size = x := ⟨_, rfl⟩
  rw [hsb] at hs2 hr2 hb2 hlt hsz2
  have hebl : eb < sb := by omega
  have hib : ib < sb := by rw [← hsb]; exact hib0
  go_enter Try.func35, Try.ntmps35
  go_wp2_with fail
  obtain ⟨W2, hW2⟩ : ∃ x, (W.alloc (.cells #[.int .i64 (s.a : Int), .int .i64 (s.b : Int), .int .i64 (s.i : Int), .int .i64 (s.o : Int)] 48)).alloc (.cells #[.int .i64 0, .int .i64 0, .int .i64 0, .int .i64 0] 48) = x := ⟨_, rfl⟩
  rw [hW2] at hs2 hr2 hb2 hf2 hsz2 ⊢
  clear hW2
  have hec2 := cl7_low hec hb2 hebl
  have hc2 := FBox.cells hf2
  have hp2 := SpBox.cells hs2
  clear hec
  have hSd : (fun w' => Below W2.heap.size W2 w' ∧ (w'.cell? ⟨fb, 0, none⟩ = some (.int .i64 n) ∧ w'.cell? ⟨fb, 1, none⟩ = some (.slice AP LP cP) ∧ w'.cell? ⟨fb, 2, none⟩ = some (.slice (some ⟨eb, eo, none⟩) LT cT) ∧ w'.cell? ⟨fb, 3, none⟩ = some (.slice (some ⟨ib, io, none⟩) LI cI)) ∧ (w'.cell? ⟨sb, 0, none⟩ = some (.int .i64 (s.a : Int)) ∧ w'.cell? ⟨sb, 1, none⟩ = some (.int .i64 (s.b : Int)) ∧ w'.cell? ⟨sb, 2, none⟩ = some (.int .i64 (s.i : Int)) ∧ w'.cell? ⟨sb, 3, none⟩ = some (.int .i64 (s.o : Int))) ∧ (w'.cell? ⟨eb, eo + s.b * 7, none⟩ = some (.int .i64 c.p) ∧ w'.cell? ⟨eb, eo + s.b * 7 + 1, none⟩ = some (.int .i64 c.o) ∧ w'.cell? ⟨eb, eo + s.b * 7 + 2, none⟩ = some (.int .i64 c.q) ∧ w'.cell? ⟨eb, eo + s.b * 7 + 3, none⟩ = some (.slice Ac c.r.length cc) ∧ w'.cell? ⟨eb, eo + s.b * 7 + 4, none⟩ = some (.int .i64 c.c) ∧ w'.cell? ⟨eb, eo + s.b * 7 + 5, none⟩ = some (.int .i64 c.b) ∧ w'.cell? ⟨eb, eo + s.b * 7 + 6, none⟩ = some (.int .i64 c.e))) W2.drew := ⟨(Below.refl _ W2).drew, ⟨hc2.1, hc2.2.1, hc2.2.2.1, hc2.2.2.2.1⟩, hp2, hec2⟩
  refine wp_region_held_drew (S := (fun w' => Below W2.heap.size W2 w' ∧ (w'.cell? ⟨fb, 0, none⟩ = some (.int .i64 n) ∧ w'.cell? ⟨fb, 1, none⟩ = some (.slice AP LP cP) ∧ w'.cell? ⟨fb, 2, none⟩ = some (.slice (some ⟨eb, eo, none⟩) LT cT) ∧ w'.cell? ⟨fb, 3, none⟩ = some (.slice (some ⟨ib, io, none⟩) LI cI)) ∧ (w'.cell? ⟨sb, 0, none⟩ = some (.int .i64 (s.a : Int)) ∧ w'.cell? ⟨sb, 1, none⟩ = some (.int .i64 (s.b : Int)) ∧ w'.cell? ⟨sb, 2, none⟩ = some (.int .i64 (s.i : Int)) ∧ w'.cell? ⟨sb, 3, none⟩ = some (.int .i64 (s.o : Int))) ∧ (w'.cell? ⟨eb, eo + s.b * 7, none⟩ = some (.int .i64 c.p) ∧ w'.cell? ⟨eb, eo + s.b * 7 + 1, none⟩ = some (.int .i64 c.o) ∧ w'.cell? ⟨eb, eo + s.b * 7 + 2, none⟩ = some (.int .i64 c.q) ∧ w'.cell? ⟨eb, eo + s.b * 7 + 3, none⟩ = some (.slice Ac c.r.length cc) ∧ w'.cell? ⟨eb, eo + s.b * 7 + 4, none⟩ = some (.int .i64 c.c) ∧ w'.cell? ⟨eb, eo + s.b * 7 + 5, none⟩ = some (.int .i64 c.b) ∧ w'.cell? ⟨eb, eo + s.b * 7 + 6, none⟩ = some (.int .i64 c.e)))) (by kernel_rfl) hSd (fun hHeld => ?_)
  generalize W2.drew = wd at hHeld ⊢
  have hHeld : (fun w' => Below W2.heap.size W2 w' ∧ (w'.cell? ⟨fb, 0, none⟩ = some (.int .i64 n) ∧ w'.cell? ⟨fb, 1, none⟩ = some (.slice AP LP cP) ∧ w'.cell? ⟨fb, 2, none⟩ = some (.slice (some ⟨eb, eo, none⟩) LT cT) ∧ w'.cell? ⟨fb, 3, none⟩ = some (.slice (some ⟨ib, io, none⟩) LI cI)) ∧ (w'.cell? ⟨sb, 0, none⟩ = some (.int .i64 (s.a : Int)) ∧ w'.cell? ⟨sb, 1, none⟩ = some (.int .i64 (s.b : Int)) ∧ w'.cell? ⟨sb, 2, none⟩ = some (.int .i64 (s.i : Int)) ∧ w'.cell? ⟨sb, 3, none⟩ = some (.int .i64 (s.o : Int))) ∧ (w'.cell? ⟨eb, eo + s.b * 7, none⟩ = some (.int .i64 c.p) ∧ w'.cell? ⟨eb, eo + s.b * 7 + 1, none⟩ = some (.int .i64 c.o) ∧ w'.cell? ⟨eb, eo + s.b * 7 + 2, none⟩ = some (.int .i64 c.q) ∧ w'.cell? ⟨eb, eo + s.b * 7 + 3, none⟩ = some (.slice Ac c.r.length cc) ∧ w'.cell? ⟨eb, eo + s.b * 7 + 4, none⟩ = some (.int .i64 c.c) ∧ w'.cell? ⟨eb, eo + s.b * 7 + 5, none⟩ = some (.int .i64 c.b) ∧ w'.cell? ⟨eb, eo + s.b * 7 + 6, none⟩ = some (.int .i64 c.e))) wd := hHeld
  refine tkH 0 ?_
  try first | simp only [pS, List.set] | simp only [pN]
  refine tkH 1 ?_
  try first | simp only [pS, List.set] | simp only [pN]
  refine tkH 2 ?_
  try first | simp only [pS, List.set] | simp only [pN]
  refine tkH 3 ?_
  try first | simp only [pS, List.set] | simp only [pN]
  refine tkH 4 ?_
  try first | simp only [pS, List.set] | simp only [pN]
  refine tkH 5 ?_
  try first | simp only [pS, List.set] | simp only [pN]
  refine tkH 6 ?_
  try first | simp only [pS, List.set] | simp only [pN]
  refine tkH 7 ?_
  try first | simp only [pS, List.set] | simp only [pN]
  refine tkH 8 ?_
  try first | simp only [pS, List.set] | simp only [pN]
  refine tkH 9 ?_
  try first | simp only [pS, List.set] | simp only [pN]
  refine tkH 10 ?_
  try first | simp only [pS, List.set] | simp only [pN]
  refine tkH 11 ?_
  try first | simp only [pS, List.set] | simp only [pN]
  refine tkH 12 ?_
  try first | simp only [pS, List.set] | simp only [pN]
  refine tkH 13 ?_
  try first | simp only [pS, List.set] | simp only [pN]
  refine tkH 14 ?_
  try first | simp only [pS, List.set] | simp only [pN]
  refine tkH 15 ?_
  try first | simp only [pS, List.set] | simp only [pN]
  refine tkH 16 ?_
  try first | simp only [pS, List.set] | simp only [pN]
  refine tkH 17 ?_
  try first | simp only [pS, List.set] | simp only [pN]
  refine tkH 18 ?_
  try first | simp only [pS, List.set] | simp only [pN]
  refine tkH 19 ?_
  try first | simp only [pS, List.set] | simp only [pN]
  refine tkH 20 ?_
  try first | simp only [pS, List.set] | simp only [pN]
  refine tkH 21 ?_
  try first | simp only [pS, List.set] | simp only [pN]
  refine tkH 22 ?_
  try first | simp only [pS, List.set] | simp only [pN]
  refine tkH 23 ?_
  try first | simp only [pS, List.set] | simp only [pN]
  refine wpAnyH_ready (rs := [24]) (by kernel_rfl) (by simp) ?_
  refine AllReadyH.cons (o := ?_) ?_ (fun K hK => ?_) AllReadyH.nil
  rotate_left
  · (simp only [List.getElem?_toArray, List.getElem?_cons_succ, List.getElem?_cons_zero]; rfl)
  go_simp
  go_at_call 48
  refine (HMAY.out _ (by rw [hsb]; exact hb2.trans (hHeld.1.mono (by omega)))).mono ?_
  rintro e wx ⟨rfl, hbx⟩
  have hSx : (fun w' => Below W2.heap.size W2 w' ∧ (w'.cell? ⟨fb, 0, none⟩ = some (.int .i64 n) ∧ w'.cell? ⟨fb, 1, none⟩ = some (.slice AP LP cP) ∧ w'.cell? ⟨fb, 2, none⟩ = some (.slice (some ⟨eb, eo, none⟩) LT cT) ∧ w'.cell? ⟨fb, 3, none⟩ = some (.slice (some ⟨ib, io, none⟩) LI cI)) ∧ (w'.cell? ⟨sb, 0, none⟩ = some (.int .i64 (s.a : Int)) ∧ w'.cell? ⟨sb, 1, none⟩ = some (.int .i64 (s.b : Int)) ∧ w'.cell? ⟨sb, 2, none⟩ = some (.int .i64 (s.i : Int)) ∧ w'.cell? ⟨sb, 3, none⟩ = some (.int .i64 (s.o : Int))) ∧ (w'.cell? ⟨eb, eo + s.b * 7, none⟩ = some (.int .i64 c.p) ∧ w'.cell? ⟨eb, eo + s.b * 7 + 1, none⟩ = some (.int .i64 c.o) ∧ w'.cell? ⟨eb, eo + s.b * 7 + 2, none⟩ = some (.int .i64 c.q) ∧ w'.cell? ⟨eb, eo + s.b * 7 + 3, none⟩ = some (.slice Ac c.r.length cc) ∧ w'.cell? ⟨eb, eo + s.b * 7 + 4, none⟩ = some (.int .i64 c.c) ∧ w'.cell? ⟨eb, eo + s.b * 7 + 5, none⟩ = some (.int .i64 c.b) ∧ w'.cell? ⟨eb, eo + s.b * 7 + 6, none⟩ = some (.int .i64 c.e))) wx := ⟨hHeld.1.trans (hbx.mono hHeld.1.size), f4_below hHeld.2.1 hbx, f4_below hHeld.2.2.1 hbx, cl7_below hHeld.2.2.2 hbx⟩
  refine hK.out _ _ hSx (fun hHeld => ?_)
  clear hK K
  try first | simp only [pS, List.set] | simp only [pN]
  refine tkH 25 ?_
  try first | simp only [pS, List.set] | simp only [pN]
  refine tkH 26 ?_
  try first | simp only [pS, List.set] | simp only [pN]
  refine wpAnyH_done (by kernel_rfl) ?_ _
  have hSB := row_kept hs2 hHeld.1
  have hR := row_kept hr2 hHeld.1
  have hB3 := hb2.trans (hHeld.1.mono (by omega))
  have hsx : sb + 2 ≤ wx.heap.size := Nat.le_trans hsz2 hHeld.1.size
  have hH3 := hHeld.2
  have HH := Lib.hid hHeld
  clear hSd hSx hHeld hs2 hr2 hb2 hf2 hc2 hp2 hec2 HMAY hsl hsz2
  obtain ⟨c0, c1, c2, c3⟩ := hH3.2.1
  go_wp2_with fail
  have hSd : (fun w' => Below wx.heap.size wx w' ∧ (w'.cell? ⟨fb, 0, none⟩ = some (.int .i64 n) ∧ w'.cell? ⟨fb, 1, none⟩ = some (.slice AP LP cP) ∧ w'.cell? ⟨fb, 2, none⟩ = some (.slice (some ⟨eb, eo, none⟩) LT cT) ∧ w'.cell? ⟨fb, 3, none⟩ = some (.slice (some ⟨ib, io, none⟩) LI cI)) ∧ (w'.cell? ⟨sb, 0, none⟩ = some (.int .i64 (s.a : Int)) ∧ w'.cell? ⟨sb, 1, none⟩ = some (.int .i64 (s.b : Int)) ∧ w'.cell? ⟨sb, 2, none⟩ = some (.int .i64 (s.i : Int)) ∧ w'.cell? ⟨sb, 3, none⟩ = some (.int .i64 (s.o : Int))) ∧ (w'.cell? ⟨eb, eo + s.b * 7, none⟩ = some (.int .i64 c.p) ∧ w'.cell? ⟨eb, eo + s.b * 7 + 1, none⟩ = some (.int .i64 c.o) ∧ w'.cell? ⟨eb, eo + s.b * 7 + 2, none⟩ = some (.int .i64 c.q) ∧ w'.cell? ⟨eb, eo + s.b * 7 + 3, none⟩ = some (.slice Ac c.r.length cc) ∧ w'.cell? ⟨eb, eo + s.b * 7 + 4, none⟩ = some (.int .i64 c.c) ∧ w'.cell? ⟨eb, eo + s.b * 7 + 5, none⟩ = some (.int .i64 c.b) ∧ w'.cell? ⟨eb, eo + s.b * 7 + 6, none⟩ = some (.int .i64 c.e))) wx.drew := ⟨(Below.refl _ wx).drew, hH3⟩
  refine wp_region_held_drew (S := (fun w' => Below wx.heap.size wx w' ∧ (w'.cell? ⟨fb, 0, none⟩ = some (.int .i64 n) ∧ w'.cell? ⟨fb, 1, none⟩ = some (.slice AP LP cP) ∧ w'.cell? ⟨fb, 2, none⟩ = some (.slice (some ⟨eb, eo, none⟩) LT cT) ∧ w'.cell? ⟨fb, 3, none⟩ = some (.slice (some ⟨ib, io, none⟩) LI cI)) ∧ (w'.cell? ⟨sb, 0, none⟩ = some (.int .i64 (s.a : Int)) ∧ w'.cell? ⟨sb, 1, none⟩ = some (.int .i64 (s.b : Int)) ∧ w'.cell? ⟨sb, 2, none⟩ = some (.int .i64 (s.i : Int)) ∧ w'.cell? ⟨sb, 3, none⟩ = some (.int .i64 (s.o : Int))) ∧ (w'.cell? ⟨eb, eo + s.b * 7, none⟩ = some (.int .i64 c.p) ∧ w'.cell? ⟨eb, eo + s.b * 7 + 1, none⟩ = some (.int .i64 c.o) ∧ w'.cell? ⟨eb, eo + s.b * 7 + 2, none⟩ = some (.int .i64 c.q) ∧ w'.cell? ⟨eb, eo + s.b * 7 + 3, none⟩ = some (.slice Ac c.r.length cc) ∧ w'.cell? ⟨eb, eo + s.b * 7 + 4, none⟩ = some (.int .i64 c.c) ∧ w'.cell? ⟨eb, eo + s.b * 7 + 5, none⟩ = some (.int .i64 c.b) ∧ w'.cell? ⟨eb, eo + s.b * 7 + 6, none⟩ = some (.int .i64 c.e)))) (by kernel_rfl) hSd (fun hHeld => ?_)
  generalize wx.drew = wd at hHeld ⊢
  have hHeld : (fun w' => Below wx.heap.size wx w' ∧ (w'.cell? ⟨fb, 0, none⟩ = some (.int .i64 n) ∧ w'.cell? ⟨fb, 1, none⟩ = some (.slice AP LP cP) ∧ w'.cell? ⟨fb, 2, none⟩ = some (.slice (some ⟨eb, eo, none⟩) LT cT) ∧ w'.cell? ⟨fb, 3, none⟩ = some (.slice (some ⟨ib, io, none⟩) LI cI)) ∧ (w'.cell? ⟨sb, 0, none⟩ = some (.int .i64 (s.a : Int)) ∧ w'.cell? ⟨sb, 1, none⟩ = some (.int .i64 (s.b : Int)) ∧ w'.cell? ⟨sb, 2, none⟩ = some (.int .i64 (s.i : Int)) ∧ w'.cell? ⟨sb, 3, none⟩ = some (.int .i64 (s.o : Int))) ∧ (w'.cell? ⟨eb, eo + s.b * 7, none⟩ = some (.int .i64 c.p) ∧ w'.cell? ⟨eb, eo + s.b * 7 + 1, none⟩ = some (.int .i64 c.o) ∧ w'.cell? ⟨eb, eo + s.b * 7 + 2, none⟩ = some (.int .i64 c.q) ∧ w'.cell? ⟨eb, eo + s.b * 7 + 3, none⟩ = some (.slice Ac c.r.length cc) ∧ w'.cell? ⟨eb, eo + s.b * 7 + 4, none⟩ = some (.int .i64 c.c) ∧ w'.cell? ⟨eb, eo + s.b * 7 + 5, none⟩ = some (.int .i64 c.b) ∧ w'.cell? ⟨eb, eo + s.b * 7 + 6, none⟩ = some (.int .i64 c.e))) wd := hHeld
  refine tkH 0 ?_
  try first | simp only [pS, List.set] | simp only [pN]
  refine tkH 1 ?_
  try first | simp only [pS, List.set] | simp only [pN]
  refine tkH 2 ?_
  try first | simp only [pS, List.set] | simp only [pN]
  refine tkH 3 ?_
  try first | simp only [pS, List.set] | simp only [pN]
  refine tkH 4 ?_
  try first | simp only [pS, List.set] | simp only [pN]
  refine tkH 5 ?_
  try first | simp only [pS, List.set] | simp only [pN]
  refine tkH 6 ?_
  try first | simp only [pS, List.set] | simp only [pN]
  refine tkH 7 ?_
  try first | simp only [pS, List.set] | simp only [pN]
  refine tkH 8 ?_
  try first | simp only [pS, List.set] | simp only [pN]
  refine tkH 9 ?_
  try first | simp only [pS, List.set] | simp only [pN]
  refine tkH 10 ?_
  try first | simp only [pS, List.set] | simp only [pN]
  refine tkH 11 ?_
  try first | simp only [pS, List.set] | simp only [pN]
  refine tkH 12 ?_
  try first | simp only [pS, List.set] | simp only [pN]
  refine wpAnyH_ready (rs := [13]) (by kernel_rfl) (by simp) ?_
  refine AllReadyH.cons (o := ?_) ?_ (fun K hK => ?_) AllReadyH.nil
  rotate_left
  · (simp only [List.getElem?_toArray, List.getElem?_cons_succ, List.getElem?_cons_zero]; rfl)
  go_simp
  have hcz := hHeld.1.size
  have hnew := heap_alloc_new wd (.cells #[.int .i64 0, .int .i64 0, .int .i64 0, .slice none 0 0, .int .i64 0, .int .i64 0, .int .i64 0] 32)
  have hba := (Below.refl wd.heap.size wd).alloc (Nat.le_refl _) (.cells #[.int .i64 0, .int .i64 0, .int .i64 0, .slice none 0 0, .int .i64 0, .int .i64 0, .int .i64 0] 32)
  have hSx : (fun w' => Below wx.heap.size wx w' ∧ (w'.cell? ⟨fb, 0, none⟩ = some (.int .i64 n) ∧ w'.cell? ⟨fb, 1, none⟩ = some (.slice AP LP cP) ∧ w'.cell? ⟨fb, 2, none⟩ = some (.slice (some ⟨eb, eo, none⟩) LT cT) ∧ w'.cell? ⟨fb, 3, none⟩ = some (.slice (some ⟨ib, io, none⟩) LI cI)) ∧ (w'.cell? ⟨sb, 0, none⟩ = some (.int .i64 (s.a : Int)) ∧ w'.cell? ⟨sb, 1, none⟩ = some (.int .i64 (s.b : Int)) ∧ w'.cell? ⟨sb, 2, none⟩ = some (.int .i64 (s.i : Int)) ∧ w'.cell? ⟨sb, 3, none⟩ = some (.int .i64 (s.o : Int))) ∧ (w'.cell? ⟨eb, eo + s.b * 7, none⟩ = some (.int .i64 c.p) ∧ w'.cell? ⟨eb, eo + s.b * 7 + 1, none⟩ = some (.int .i64 c.o) ∧ w'.cell? ⟨eb, eo + s.b * 7 + 2, none⟩ = some (.int .i64 c.q) ∧ w'.cell? ⟨eb, eo + s.b * 7 + 3, none⟩ = some (.slice Ac c.r.length cc) ∧ w'.cell? ⟨eb, eo + s.b * 7 + 4, none⟩ = some (.int .i64 c.c) ∧ w'.cell? ⟨eb, eo + s.b * 7 + 5, none⟩ = some (.int .i64 c.b) ∧ w'.cell? ⟨eb, eo + s.b * 7 + 6, none⟩ = some (.int .i64 c.e))) (wd.alloc (.cells #[.int .i64 0, .int .i64 0, .int .i64 0, .slice none 0 0, .int .i64 0, .int .i64 0, .int .i64 0] 32)) := ⟨hHeld.1.trans (hba.mono hHeld.1.size), f4_below hHeld.2.1 hba, f4_below hHeld.2.2.1 hba, cl7_below hHeld.2.2.2 hba⟩
  refine hK.out _ _ hSx (fun hHeld => ?_)
  clear hK K
  try first | simp only [pS, List.set] | simp only [pN]
  obtain ⟨wa, hwa⟩ : ∃ x, wd.alloc (.cells #[.int .i64 0, .int .i64 0, .int .i64 0, .slice none 0 0, .int .i64 0, .int .i64 0, .int .i64 0] 32) = x := ⟨_, rfl⟩
  obtain ⟨cb, hcb⟩ : ∃ x, wd.heap.size = x := ⟨_, rfl⟩
  rw [hwa] at hHeld hnew ⊢
  rw [hcb] at hnew hcz ⊢
  clear hwa hcb hba hSx
  have b0 := row_cell hnew 0
  have b1 := row_cell hnew 1
  have b2 := row_cell hnew 2
  have b3 := row_cell hnew 3
  have b4 := row_cell hnew 4
  have b5 := row_cell hnew 5
  have b6 := row_cell hnew 6
  simp at b0 b1 b2 b3 b4 b5 b6
  have f0 := row_frozen hnew 0
  have f1 := row_frozen hnew 1
  have f2 := row_frozen hnew 2
  have f3 := row_frozen hnew 3
  have f4 := row_frozen hnew 4
  have f5 := row_frozen hnew 5
  have f6 := row_frozen hnew 6
  refine wpAnyH_ready (rs := [14]) (by kernel_rfl) (by simp) ?_
  refine AllReadyH.cons (o := ?_) ?_ (fun K hK => ?_) AllReadyH.nil
  rotate_left
  · (simp only [List.getElem?_toArray, List.getElem?_cons_succ, List.getElem?_cons_zero]; rfl)
  go_simp
  have hset := cset7_row hnew (.int .i64 c.p) (.int .i64 c.o) (.int .i64 c.q) (.slice Ac c.r.length cc) (.int .i64 c.c) (.int .i64 c.b) (.int .i64 c.e)
  have hbs := cset7_below (Below.refl cb wa) (Nat.le_refl cb) (.int .i64 c.p) (.int .i64 c.o) (.int .i64 c.q) (.slice Ac c.r.length cc) (.int .i64 c.c) (.int .i64 c.b) (.int .i64 c.e)
  have hSx : (fun w' => Below wx.heap.size wx w' ∧ (w'.cell? ⟨fb, 0, none⟩ = some (.int .i64 n) ∧ w'.cell? ⟨fb, 1, none⟩ = some (.slice AP LP cP) ∧ w'.cell? ⟨fb, 2, none⟩ = some (.slice (some ⟨eb, eo, none⟩) LT cT) ∧ w'.cell? ⟨fb, 3, none⟩ = some (.slice (some ⟨ib, io, none⟩) LI cI)) ∧ (w'.cell? ⟨sb, 0, none⟩ = some (.int .i64 (s.a : Int)) ∧ w'.cell? ⟨sb, 1, none⟩ = some (.int .i64 (s.b : Int)) ∧ w'.cell? ⟨sb, 2, none⟩ = some (.int .i64 (s.i : Int)) ∧ w'.cell? ⟨sb, 3, none⟩ = some (.int .i64 (s.o : Int))) ∧ (w'.cell? ⟨eb, eo + s.b * 7, none⟩ = some (.int .i64 c.p) ∧ w'.cell? ⟨eb, eo + s.b * 7 + 1, none⟩ = some (.int .i64 c.o) ∧ w'.cell? ⟨eb, eo + s.b * 7 + 2, none⟩ = some (.int .i64 c.q) ∧ w'.cell? ⟨eb, eo + s.b * 7 + 3, none⟩ = some (.slice Ac c.r.length cc) ∧ w'.cell? ⟨eb, eo + s.b * 7 + 4, none⟩ = some (.int .i64 c.c) ∧ w'.cell? ⟨eb, eo + s.b * 7 + 5, none⟩ = some (.int .i64 c.b) ∧ w'.cell? ⟨eb, eo + s.b * 7 + 6, none⟩ = some (.int .i64 c.e))) (cset7 wa cb (.int .i64 c.p) (.int .i64 c.o) (.int .i64 c.q) (.slice Ac c.r.length cc) (.int .i64 c.c) (.int .i64 c.b) (.int .i64 c.e)) := ⟨hHeld.1.trans (hbs.mono hcz), f4_low hHeld.2.1 hbs (by omega), f4_low hHeld.2.2.1 hbs (by omega), cl7_low hHeld.2.2.2 hbs (by omega)⟩
  unfold cset7 at hset
  obtain ⟨wc, hwc⟩ : ∃ x, ((((((wa.setCell ⟨cb, 0, none⟩ (.int .i64 c.p)).setCell ⟨cb, 1, none⟩ (.int .i64 c.o)).setCell ⟨cb, 2, none⟩ (.int .i64 c.q)).setCell ⟨cb, 3, none⟩ (.slice Ac c.r.length cc)).setCell ⟨cb, 4, none⟩ (.int .i64 c.c)).setCell ⟨cb, 5, none⟩ (.int .i64 c.b)).setCell ⟨cb, 6, none⟩ (.int .i64 c.e) = x := ⟨_, rfl⟩
  have hSx2 : (fun w' => Below wx.heap.size wx w' ∧ (w'.cell? ⟨fb, 0, none⟩ = some (.int .i64 n) ∧ w'.cell? ⟨fb, 1, none⟩ = some (.slice AP LP cP) ∧ w'.cell? ⟨fb, 2, none⟩ = some (.slice (some ⟨eb, eo, none⟩) LT cT) ∧ w'.cell? ⟨fb, 3, none⟩ = some (.slice (some ⟨ib, io, none⟩) LI cI)) ∧ (w'.cell? ⟨sb, 0, none⟩ = some (.int .i64 (s.a : Int)) ∧ w'.cell? ⟨sb, 1, none⟩ = some (.int .i64 (s.b : Int)) ∧ w'.cell? ⟨sb, 2, none⟩ = some (.int .i64 (s.i : Int)) ∧ w'.cell? ⟨sb, 3, none⟩ = some (.int .i64 (s.o : Int))) ∧ (w'.cell? ⟨eb, eo + s.b * 7, none⟩ = some (.int .i64 c.p) ∧ w'.cell? ⟨eb, eo + s.b * 7 + 1, none⟩ = some (.int .i64 c.o) ∧ w'.cell? ⟨eb, eo + s.b * 7 + 2, none⟩ = some (.int .i64 c.q) ∧ w'.cell? ⟨eb, eo + s.b * 7 + 3, none⟩ = some (.slice Ac c.r.length cc) ∧ w'.cell? ⟨eb, eo + s.b * 7 + 4, none⟩ = some (.int .i64 c.c) ∧ w'.cell? ⟨eb, eo + s.b * 7 + 5, none⟩ = some (.int .i64 c.b) ∧ w'.cell? ⟨eb, eo + s.b * 7 + 6, none⟩ = some (.int .i64 c.e))) wc := by rw [← hwc]; exact hSx
  rw [hwc] at hset ⊢
  clear hwc hSx hbs
  have hSx := hSx2
  refine hK.out _ _ hSx (fun hHeld => ?_)
  clear hK K
  try first | simp only [pS, List.set] | simp only [pN]
  refine tkH 15 ?_
  try first | simp only [pS, List.set] | simp only [pN]
  refine wpAnyH_done (by kernel_rfl) ?_ _
  have hSc := row_kept hSB hHeld.1
  have hRc := row_kept hR hHeld.1
  have hBc := hB3.trans (hHeld.1.mono (by omega))
  have hFc := hHeld.2.1
  have hcs := row_lt hset
  clear hSd hSx hHeld hSx2 hH3 HH c0 c1 c2 c3 hSB hR hB3 hnew b0 b1 b2 b3 b4 b5 b6 f0 f1 f2 f3 f4 f5 f6
  have d0 := row_cell hset 0
  have d1 := row_cell hset 1
  have d2 := row_cell hset 2
  have d3 := row_cell hset 3
  have d4 := row_cell hset 4
  have d5 := row_cell hset 5
  have d6 := row_cell hset 6
  simp at d0 d1 d2 d3 d4 d5 d6
  have c0 := row_cell hSc 0
  have c1 := row_cell hSc 1
  have c2 := row_cell hSc 2
  have c3 := row_cell hSc 3
  simp at c0 c1 c2 c3
  have f0 := row_frozen hSc 0
  have f1 := row_frozen hSc 1
  have f2 := row_frozen hSc 2
  have f3 := row_frozen hSc 3
  have hcne : cb ≠ sb := by omega
  have hcne2 : sb ≠ cb := by omega
  have hfs : fb ≠ sb := by omega
  have hrs : sb + 1 ≠ sb := by omega
  have hcr : cb ≠ sb + 1 := by omega
  have hS4 : (wc.setCell ⟨sb, 1, none⟩ (.int .i64 ((s.b : Int) + 1))).heap[sb]? = some (.cells #[.int .i64 (s.a : Int), .int .i64 ((s.b : Int) + 1), .int .i64 (s.i : Int), .int .i64 (s.o : Int)] 48 (0, 0)) := by simpa using lrow_set wc sb _ _ 1 (.int .i64 ((s.b : Int) + 1)) hSc
  have hR4 := row_other hRc sb 1 (.int .i64 ((s.b : Int) + 1)) hrs
  have hF4 := f4_other (j := 1) (x := .int .i64 ((s.b : Int) + 1)) hFc hfs
  have hC4 := row_other hset sb 1 (.int .i64 ((s.b : Int) + 1)) hcne
  have hB4 := hBc.setCell (p := ⟨sb, 1, none⟩) (Nat.le_refl _) (.int .i64 ((s.b : Int) + 1))
  have hS5 : ((wc.setCell ⟨sb, 1, none⟩ (.int .i64 ((s.b : Int) + 1))).setCell ⟨sb, 3, none⟩ (.int .i64 ((s.o : Int) + 1))).heap[sb]? = some (.cells #[.int .i64 (s.a : Int), .int .i64 ((s.b : Int) + 1), .int .i64 (s.i : Int), .int .i64 ((s.o : Int) + 1)] 48 (0, 0)) := by simpa using lrow_set _ sb _ _ 3 (.int .i64 ((s.o : Int) + 1)) hS4
  have hR5 := row_other hR4 sb 3 (.int .i64 ((s.o : Int) + 1)) hrs
  have hF5 := f4_other (j := 3) (x := .int .i64 ((s.o : Int) + 1)) hF4 hfs
  have hC5 := row_other hC4 sb 3 (.int .i64 ((s.o : Int) + 1)) hcne
  have hB5 := hB4.setCell (p := ⟨sb, 3, none⟩) (Nat.le_refl _) (.int .i64 ((s.o : Int) + 1))
  have HS := Lib.hid hS5
  have HR := Lib.hid hR5
  have HF := Lib.hid hF5
  have HC := Lib.hid hC5
  have HB := Lib.hid hB5
  clear hS4 hR4 hF4 hC4 hB4 hS5 hR5 hF5 hC5 hB5
  clear hSc hRc hFc hBc
  have HSET := Lib.hid hset
  clear hset
  go_wp2_with fail
  obtain ⟨w4, hw4⟩ : ∃ x, (wc.setCell ⟨sb, 1, none⟩ (.int .i64 ((s.b : Int) + 1))).setCell ⟨sb, 3, none⟩ (.int .i64 ((s.o : Int) + 1)) = x := ⟨_, rfl⟩
  have hS := HS.out
  have hR := HR.out
  have hF := HF.out
  have hC := HC.out
  have hB := HB.out
  rw [hw4] at hS hR hF hC hB ⊢
  clear hw4 HS HR HF HC HB HSET d0 d1 d2 d3 d4 d5 d6 c0 c1 c2 c3 f0 f1 f2 f3
  have hI4 := cell_low hI hB hib
  have hne0 : ib ≠ sb + 1 := by omega
  have hSd : (fun w' => Below sb W w' ∧ (w'.cell? ⟨fb, 0, none⟩ = some (.int .i64 n) ∧ w'.cell? ⟨fb, 1, none⟩ = some (.slice AP LP cP) ∧ w'.cell? ⟨fb, 2, none⟩ = some (.slice (some ⟨eb, eo, none⟩) LT cT) ∧ w'.cell? ⟨fb, 3, none⟩ = some (.slice (some ⟨ib, io, none⟩) LI cI)) ∧ (w'.cell? ⟨sb, 0, none⟩ = some (.int .i64 (s.a : Int)) ∧ w'.cell? ⟨sb, 1, none⟩ = some (.int .i64 ((s.b : Int) + 1)) ∧ w'.cell? ⟨sb, 2, none⟩ = some (.int .i64 (s.i : Int)) ∧ w'.cell? ⟨sb, 3, none⟩ = some (.int .i64 ((s.o : Int) + 1))) ∧ w'.cell? ⟨cb, 6, none⟩ = some (.int .i64 c.e) ∧ w'.cell? ⟨cb, 3, none⟩ = some (.slice Ac c.r.length cc) ∧ w'.cell? ⟨ib, io + s.o, none⟩ = some (.slice Ai r0.length ci)) w4.drew := ⟨hB.drew, hF, SpC hS, row_cell hC 6, row_cell hC 3, hI4⟩
  refine wp_region_held_drew (S := (fun w' => Below sb W w' ∧ (w'.cell? ⟨fb, 0, none⟩ = some (.int .i64 n) ∧ w'.cell? ⟨fb, 1, none⟩ = some (.slice AP LP cP) ∧ w'.cell? ⟨fb, 2, none⟩ = some (.slice (some ⟨eb, eo, none⟩) LT cT) ∧ w'.cell? ⟨fb, 3, none⟩ = some (.slice (some ⟨ib, io, none⟩) LI cI)) ∧ (w'.cell? ⟨sb, 0, none⟩ = some (.int .i64 (s.a : Int)) ∧ w'.cell? ⟨sb, 1, none⟩ = some (.int .i64 ((s.b : Int) + 1)) ∧ w'.cell? ⟨sb, 2, none⟩ = some (.int .i64 (s.i : Int)) ∧ w'.cell? ⟨sb, 3, none⟩ = some (.int .i64 ((s.o : Int) + 1))) ∧ w'.cell? ⟨cb, 6, none⟩ = some (.int .i64 c.e) ∧ w'.cell? ⟨cb, 3, none⟩ = some (.slice Ac c.r.length cc) ∧ w'.cell? ⟨ib, io + s.o, none⟩ = some (.slice Ai r0.length ci))) (by kernel_rfl) hSd (fun hHeld => ?_)
  obtain ⟨wd, hwd⟩ : ∃ x, w4.drew = x := ⟨_, rfl⟩
  replace hR := (show wd.heap[sb + 1]? = w4.heap[sb + 1]? from by rw [← hwd]; rfl).trans hR
  rw [hwd] at hHeld ⊢
  clear hwd hSd hB hF hS
  have hHeld : (fun w' => Below sb W w' ∧ (w'.cell? ⟨fb, 0, none⟩ = some (.int .i64 n) ∧ w'.cell? ⟨fb, 1, none⟩ = some (.slice AP LP cP) ∧ w'.cell? ⟨fb, 2, none⟩ = some (.slice (some ⟨eb, eo, none⟩) LT cT) ∧ w'.cell? ⟨fb, 3, none⟩ = some (.slice (some ⟨ib, io, none⟩) LI cI)) ∧ (w'.cell? ⟨sb, 0, none⟩ = some (.int .i64 (s.a : Int)) ∧ w'.cell? ⟨sb, 1, none⟩ = some (.int .i64 ((s.b : Int) + 1)) ∧ w'.cell? ⟨sb, 2, none⟩ = some (.int .i64 (s.i : Int)) ∧ w'.cell? ⟨sb, 3, none⟩ = some (.int .i64 ((s.o : Int) + 1))) ∧ w'.cell? ⟨cb, 6, none⟩ = some (.int .i64 c.e) ∧ w'.cell? ⟨cb, 3, none⟩ = some (.slice Ac c.r.length cc) ∧ w'.cell? ⟨ib, io + s.o, none⟩ = some (.slice Ai r0.length ci)) wd := hHeld
  refine tkH 0 ?_
  try first | simp only [pS, List.set] | simp only [pN]
  refine tkH 1 ?_
  try first | simp only [pS, List.set] | simp only [pN]
  refine tkH 2 ?_
  try first | simp only [pS, List.set] | simp only [pN]
  refine tkH 3 ?_
  try first | simp only [pS, List.set] | simp only [pN]
  refine tkH 4 ?_
  try first | simp only [pS, List.set] | simp only [pN]
  refine tkH 5 ?_
  try first | simp only [pS, List.set] | simp only [pN]
  refine tkH 6 ?_
  try first | simp only [pS, List.set] | simp only [pN]
  refine tkH 7 ?_
  try first | simp only [pS, List.set] | simp only [pN]
  refine tkH 8 ?_
  try first | simp only [pS, List.set] | simp only [pN]
  refine tkH 9 ?_
  try first | simp only [pS, List.set] | simp only [pN]
  refine tkH 10 ?_
  try first | simp only [pS, List.set] | simp only [pN]
  refine tkH 11 ?_
  try first | simp only [pS, List.set] | simp only [pN]
  refine tkH 12 ?_
  try first | simp only [pS, List.set] | simp only [pN]
  refine tkH 13 ?_
  try first | simp only [pS, List.set] | simp only [pN]
  refine tkH 14 ?_
  try first | simp only [pS, List.set] | simp only [pN]
  refine tkH 15 ?_
  try first | simp only [pS, List.set] | simp only [pN]
  refine wpAnyH_ready (rs := [16]) (by kernel_rfl) (by simp) ?_
  refine AllReadyH.cons (o := ?_) ?_ (fun K hK => ?_) AllReadyH.nil
  rotate_left
  · (simp only [List.getElem?_toArray, List.getElem?_cons_succ, List.getElem?_cons_zero]; rfl)
  go_simp
  go_at_call 25
  refine (HSAME.out _ (by rw [hsb]; exact hHeld.1)).mono ?_
  rintro e wx ⟨rfl, hbx⟩
  have hSx : (fun w' => Below sb W w' ∧ (w'.cell? ⟨fb, 0, none⟩ = some (.int .i64 n) ∧ w'.cell? ⟨fb, 1, none⟩ = some (.slice AP LP cP) ∧ w'.cell? ⟨fb, 2, none⟩ = some (.slice (some ⟨eb, eo, none⟩) LT cT) ∧ w'.cell? ⟨fb, 3, none⟩ = some (.slice (some ⟨ib, io, none⟩) LI cI)) ∧ (w'.cell? ⟨sb, 0, none⟩ = some (.int .i64 (s.a : Int)) ∧ w'.cell? ⟨sb, 1, none⟩ = some (.int .i64 ((s.b : Int) + 1)) ∧ w'.cell? ⟨sb, 2, none⟩ = some (.int .i64 (s.i : Int)) ∧ w'.cell? ⟨sb, 3, none⟩ = some (.int .i64 ((s.o : Int) + 1))) ∧ w'.cell? ⟨cb, 6, none⟩ = some (.int .i64 c.e) ∧ w'.cell? ⟨cb, 3, none⟩ = some (.slice Ac c.r.length cc) ∧ w'.cell? ⟨ib, io + s.o, none⟩ = some (.slice Ai r0.length ci)) wx := ⟨hHeld.1.trans (hbx.mono (by have := hHeld.1.size; omega)), f4_below hHeld.2.1 hbx, f4_below hHeld.2.2.1 hbx, cell_below hHeld.2.2.2.1 hbx, cell_below hHeld.2.2.2.2.1 hbx, cell_below hHeld.2.2.2.2.2 hbx⟩
  refine hK.out _ _ hSx (fun hHeld => ?_)
  clear hK K
  try first | simp only [pS, List.set] | simp only [pN]
  replace hR := row_kept hR hbx
  refine tkH 17 ?_
  try first | simp only [pS, List.set] | simp only [pN]
  have f0 := row_frozen hR 0
  have f1 := row_frozen hR 1
  have f2 := row_frozen hR 2
  have f3 := row_frozen hR 3
  have z0 := row_cell hR 0
  have z1 := row_cell hR 1
  have z2 := row_cell hR 2
  have z3 := row_cell hR 3
  simp at z0 z1 z2 z3
  refine wpAnyH_ready (rs := [18]) (by kernel_rfl) (by simp) ?_
  refine AllReadyH.cons (o := ?_) ?_ (fun K hK => ?_) AllReadyH.nil
  rotate_left
  · (simp only [List.getElem?_toArray, List.getElem?_cons_succ, List.getElem?_cons_zero]; rfl)
  go_simp
  have hfin := sset4_row hR (.int .i64 (s.a : Int)) (.int .i64 ((s.b : Int) + 1)) (.int .i64 (s.i : Int)) (.int .i64 ((s.o : Int) + 1))
  have hSx : (fun w' => Below sb W w' ∧ (w'.cell? ⟨fb, 0, none⟩ = some (.int .i64 n) ∧ w'.cell? ⟨fb, 1, none⟩ = some (.slice AP LP cP) ∧ w'.cell? ⟨fb, 2, none⟩ = some (.slice (some ⟨eb, eo, none⟩) LT cT) ∧ w'.cell? ⟨fb, 3, none⟩ = some (.slice (some ⟨ib, io, none⟩) LI cI)) ∧ (w'.cell? ⟨sb, 0, none⟩ = some (.int .i64 (s.a : Int)) ∧ w'.cell? ⟨sb, 1, none⟩ = some (.int .i64 ((s.b : Int) + 1)) ∧ w'.cell? ⟨sb, 2, none⟩ = some (.int .i64 (s.i : Int)) ∧ w'.cell? ⟨sb, 3, none⟩ = some (.int .i64 ((s.o : Int) + 1))) ∧ w'.cell? ⟨cb, 6, none⟩ = some (.int .i64 c.e) ∧ w'.cell? ⟨cb, 3, none⟩ = some (.slice Ac c.r.length cc) ∧ w'.cell? ⟨ib, io + s.o, none⟩ = some (.slice Ai r0.length ci)) (sset4 wx (sb + 1) (.int .i64 (s.a : Int)) (.int .i64 ((s.b : Int) + 1)) (.int .i64 (s.i : Int)) (.int .i64 ((s.o : Int) + 1))) := ⟨sset4_below hHeld.1 (by omega) _ _ _ _, f4_sset hHeld.2.1 (by omega), f4_sset hHeld.2.2.1 (by omega), cell_sset hHeld.2.2.2.1 hcr, cell_sset hHeld.2.2.2.2.1 hcr, cell_sset hHeld.2.2.2.2.2 hne0⟩
  refine hK.out _ _ hSx (fun hHeld => ?_)
  clear hK K
  try first | simp only [pS, List.set] | simp only [pN]
  refine tkH 19 ?_
  try first | simp only [pS, List.set] | simp only [pN]
  refine wpAnyH_done (by kernel_rfl) ?_ _
  go_wp2_with fail
  refine bodyPost_ret (res_take _ _ (s := ⟨s.a, s.b + 1, s.i, s.o + 1⟩) (ok := decide (c.r = r0)) rfl rfl hfin) rfl ?_
  exact ⟨_, _, rfl, HST.out, by rw [hsb]; exact hHeld.1⟩

end Go.Proofs.Ytgmmblknaeepbaa
