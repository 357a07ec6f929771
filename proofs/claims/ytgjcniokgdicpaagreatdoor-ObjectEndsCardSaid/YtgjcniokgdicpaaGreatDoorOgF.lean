/- A step is opened, or none can be made; what an operation tells. -/
import Derived.Test.YtgjcniokgdicpaaGreatDoorOgE
namespace Go.Proofs.YtgjcniokgdicpaaGreatDoor
open Go.RowKit
attribute [local go_sem] Oper.semAt_some

set_option maxRecDepth 100000 in
theorem region_g (a b : Int) (w : World) (ha : 0 ≤ a) (hb : 0 ≤ b) : Calls Tryz.prog 185 #[.agg #[.int .i64 a, .int .i64 b]] w fun e w' => e = .returned (.bool true) ∧ Below w.heap.size w w' := by
  have t1 : decide (0 ≤ a) = true := decide_eq_true ha
  have t2 : decide (0 ≤ b) = true := decide_eq_true hb
  go_enter Tryz.func185, Tryz.ntmps185
  go_wp2_with fail
  go_ret
  exact ⟨rfl, (Below.refl _ w).alloc (Nat.le_refl _) _⟩
set_option maxRecDepth 100000 in
set_option maxHeartbeats 1000000 in
theorem inside_g (n a b : Int) (w : World) (hn : 0 ≤ n) (hn2 : n ≤ 1000000000) (ha : 0 ≤ a) (ha2 : a < 9223372036854775808) (hb : 0 ≤ b) : Calls Tryz.prog 140 #[.int .i64 n, .agg #[.int .i64 a, .int .i64 b]] w fun e w' => e = .returned (.bool (decide (a ≤ n ∧ b ≤ n - a))) ∧ Below w.heap.size w w' := by
  have hr := Lib.hid fun W => region_g a b W ha hb
  have hB := (Below.refl w.heap.size w).alloc (Nat.le_refl _) (.cells #[.int .i64 a, .int .i64 b] 108)
  have hn' := RowB.new w #[.int .i64 a, .int .i64 b] 108
  obtain ⟨m, hm⟩ : ∃ m, w.heap.size = m := ⟨_, rfl⟩
  rw [hm] at hn'
  have HN := Lib.hid hn'
  have HB := Lib.hid hB
  clear hn' hB
  by_cases h1 : a ≤ n
  · by_cases h2 : b ≤ n - a
    · rw [decide_eq_true (And.intro h1 h2)]
      have d1 : decide (a ≤ n) = true := decide_eq_true h1
      have d2 : decide (b ≤ n - a) = true := decide_eq_true h2
      go_enter Tryz.func140, Tryz.ntmps140
      go_wp2_with fail
      refine (hr.out _).mono ?_
      rintro e w1 ⟨rfl, hb1⟩
      have hk := HN.out.kept hb1
      have c0 : w1.cell? ⟨m, 0, none⟩ = some (.int .i64 a) := hk.cell 0
      have c1 : w1.cell? ⟨m, 1, none⟩ = some (.int .i64 b) := hk.cell 1
      clear hk
      go_wp2_with fail
      go_ret
      exact ⟨rfl, HB.out.trans (hb1.mono HB.out.size)⟩
    · rw [decide_eq_false (fun h => h2 h.2)]
      have d1 : decide (a ≤ n) = true := decide_eq_true h1
      have d2 : decide (b ≤ n - a) = false := decide_eq_false h2
      clear h2
      go_enter Tryz.func140, Tryz.ntmps140
      go_wp2_with fail
      refine (hr.out _).mono ?_
      rintro e w1 ⟨rfl, hb1⟩
      have hk := HN.out.kept hb1
      have c0 : w1.cell? ⟨m, 0, none⟩ = some (.int .i64 a) := hk.cell 0
      have c1 : w1.cell? ⟨m, 1, none⟩ = some (.int .i64 b) := hk.cell 1
      clear hk
      go_wp2_with fail
      go_ret
      exact ⟨rfl, HB.out.trans (hb1.mono HB.out.size)⟩
  · rw [decide_eq_false (fun h => h1 h.1)]
    have d1 : decide (a ≤ n) = false := decide_eq_false h1
    clear h1
    go_enter Tryz.func140, Tryz.ntmps140
    go_wp2_with fail
    refine (hr.out _).mono ?_
    rintro e w1 ⟨rfl, hb1⟩
    have hk := HN.out.kept hb1
    have c0 : w1.cell? ⟨m, 0, none⟩ = some (.int .i64 a) := hk.cell 0
    have c1 : w1.cell? ⟨m, 1, none⟩ = some (.int .i64 b) := hk.cell 1
    clear hk
    go_wp2_with fail
    go_ret
    exact ⟨rfl, HB.out.trans (hb1.mono HB.out.size)⟩
section
variable (sb mb lb : Nat) (ty : TypeId) (o : Ob) (c : Kc) (rv mp : Value) (l : List Int)
theorem OpS.belo {w w' : World} {sb : Nat} {ty : TypeId} {o : Ob} {c : Kc} {rv mp : Value} (h : OpS w sb ty o c rv mp) (hb : Below w.heap.size w w') : OpS w' sb ty o c rv mp := h.tch (T := fun _ => False) (Tch.of_below _ hb) (fun h => h) (fun _ _ h => h)
theorem MemG.belo {w w' : World} {mb lb : Nat} {l : List Int} (h : MemG w mb lb l) (hb : Below w.heap.size w w') : MemG w' mb lb l := h.tch (T := fun _ => False) (Tch.of_below _ hb) (fun h => h) (fun h => h)
theorem can_eq (c : Kc) (l : List Int) (h : c.over = false) : c.can l = decide ((c.base : Int) ≤ (l.length : Int) ∧ (c.size : Int) ≤ (l.length : Int) - (c.base : Int)) := by
  unfold Kc.can
  rw [h, Bool.not_false, Bool.true_and, decide_eq_decide]
  omega
set_option maxRecDepth 100000 in
set_option maxHeartbeats 1000000 in
theorem open_no (w : World) (h : OpS w sb ty o c rv mp) (hm : MemG w mb lb l) (hp : ∃ q, mp = .pointer q) (hx : c.steps < 1000000) (hcan : c.can l = false) : Calls Tryz.prog 127 #[.pointer (some ⟨sb, 0, none⟩), .pointer (some ⟨mb, 0, none⟩)] w fun e w' => e = .returned (.bool false) ∧ Below w.heap.size w w' := by
  obtain ⟨q, rfl⟩ := hp
  have hbd := (Below.refl w.heap.size w).drew
  have hd := h.belo hbd
  have hmd := hm.belo hbd
  obtain ⟨u, hu, hr⟩ := hd.row
  obtain ⟨u0, hu0, hr0⟩ := h.row
  have c22 : w.drew.cell? ⟨sb, 22, none⟩ = some (.bool c.over) := (hr.cell 22).trans rfl
  have c18 : w.drew.cell? ⟨sb, 18, none⟩ = some (.int .i64 (c.base : Int)) := (hr.cell 18).trans rfl
  have c19 : w.drew.cell? ⟨sb, 19, none⟩ = some (.int .i64 (c.size : Int)) := (hr.cell 19).trans rfl
  have hln := hm.len
  have hb1 := h.fits.base1
  have hz1 := h.fits.size1
  have HL := Lib.hid fun W (hm : MemG W mb lb l) => mlen_g mb lb l W hm
  have HI := Lib.hid fun W => inside_g (l.length : Int) (c.base : Int) (c.size : Int) W (by omega) (by omega) (by omega) (by omega) (by omega)
  have HO := Lib.hid hd
  have HM := Lib.hid hmd
  have HB := Lib.hid hbd
  have HX := Lib.hid hx
  have hno : c.over = true ∨ c.over = false := by cases c.over <;> simp
  rcases hno with hov | hov
  · rw [hov] at c22
    clear hr hu hr0 hu0 h hm hd hmd hbd hcan hln hb1 hz1 hx hov
    go_enter Tryz.func127, Tryz.ntmps127
    go_wp2_with fail
    have hSd : (fun w' : World => Below w.heap.size w w' ∧ w'.cell? ⟨sb, 22, none⟩ = some (.bool true) ∧ w'.cell? ⟨sb, 18, none⟩ = some (.int .i64 (c.base : Int)) ∧ w'.cell? ⟨sb, 19, none⟩ = some (.int .i64 (c.size : Int))) w.drew := ⟨HB.out, c22, c18, c19⟩
    refine wp_region_held_drew (S := (fun w' : World => Below w.heap.size w w' ∧ w'.cell? ⟨sb, 22, none⟩ = some (.bool true) ∧ w'.cell? ⟨sb, 18, none⟩ = some (.int .i64 (c.base : Int)) ∧ w'.cell? ⟨sb, 19, none⟩ = some (.int .i64 (c.size : Int)))) (by kernel_rfl) hSd (fun hHeld => ?_)
    clear hSd
    generalize w.drew = wd at hHeld HO HM HB ⊢
    have hHeld : (fun w' : World => Below w.heap.size w w' ∧ w'.cell? ⟨sb, 22, none⟩ = some (.bool true) ∧ w'.cell? ⟨sb, 18, none⟩ = some (.int .i64 (c.base : Int)) ∧ w'.cell? ⟨sb, 19, none⟩ = some (.int .i64 (c.size : Int))) wd := hHeld
    refine tkH 0 ?_
    refine tkH 1 ?_
    refine tkH 2 ?_
    refine tkH 3 ?_
    refine tkH 4 ?_
    refine wpAnyH_take (i := 5) (oi := ?_) (v := undef) ?_ (by kernel_rfl) (by kernel_rfl) (by kernel_rfl) ?_ (Or.inr ⟨?_, rfl⟩) (by assumption) ?_
    rotate_left 1
    · (simp only [List.getElem?_toArray, List.getElem?_cons_succ, List.getElem?_cons_zero]; rfl)
    · first | exact fun _ _ _ h => h | exact fun _ _ _ h => by cases h.1
    · rfl
    try first | simp only [pS, List.set] | simp only [pN]
    refine wpAnyH_take (i := 6) (oi := ?_) (v := undef) ?_ (by kernel_rfl) (by kernel_rfl) (by kernel_rfl) ?_ (Or.inr ⟨?_, rfl⟩) (by assumption) ?_
    rotate_left 1
    · (simp only [List.getElem?_toArray, List.getElem?_cons_succ, List.getElem?_cons_zero]; rfl)
    · first | exact fun _ _ _ h => h | exact fun _ _ _ h => by cases h.1
    · rfl
    try first | simp only [pS, List.set] | simp only [pN]
    refine wpAnyH_take (i := 7) (oi := ?_) (v := undef) ?_ (by kernel_rfl) (by kernel_rfl) (by kernel_rfl) ?_ (Or.inr ⟨?_, rfl⟩) (by assumption) ?_
    rotate_left 1
    · (simp only [List.getElem?_toArray, List.getElem?_cons_succ, List.getElem?_cons_zero]; rfl)
    · first | exact fun _ _ _ h => h | exact fun _ _ _ h => by cases h.1
    · rfl
    try first | simp only [pS, List.set] | simp only [pN]
    refine wpAnyH_take (i := 8) (oi := ?_) (v := undef) ?_ (by kernel_rfl) (by kernel_rfl) (by kernel_rfl) ?_ (Or.inr ⟨?_, rfl⟩) (by assumption) ?_
    rotate_left 1
    · (simp only [List.getElem?_toArray, List.getElem?_cons_succ, List.getElem?_cons_zero]; rfl)
    · first | exact fun _ _ _ h => h | exact fun _ _ _ h => by cases h.1
    · rfl
    try first | simp only [pS, List.set] | simp only [pN]
    refine wpAnyH_take (i := 9) (oi := ?_) (v := undef) ?_ (by kernel_rfl) (by kernel_rfl) (by kernel_rfl) ?_ (Or.inr ⟨?_, rfl⟩) (by assumption) ?_
    rotate_left 1
    · (simp only [List.getElem?_toArray, List.getElem?_cons_succ, List.getElem?_cons_zero]; rfl)
    · first | exact fun _ _ _ h => h | exact fun _ _ _ h => by cases h.1
    · rfl
    try first | simp only [pS, List.set] | simp only [pN]
    refine wpAnyH_take (i := 10) (oi := ?_) (v := undef) ?_ (by kernel_rfl) (by kernel_rfl) (by kernel_rfl) ?_ (Or.inr ⟨?_, rfl⟩) (by assumption) ?_
    rotate_left 1
    · (simp only [List.getElem?_toArray, List.getElem?_cons_succ, List.getElem?_cons_zero]; rfl)
    · first | exact fun _ _ _ h => h | exact fun _ _ _ h => by cases h.1
    · rfl
    try first | simp only [pS, List.set] | simp only [pN]
    refine wpAnyH_take (i := 11) (oi := ?_) (v := undef) ?_ (by kernel_rfl) (by kernel_rfl) (by kernel_rfl) ?_ (Or.inr ⟨?_, rfl⟩) (by assumption) ?_
    rotate_left 1
    · (simp only [List.getElem?_toArray, List.getElem?_cons_succ, List.getElem?_cons_zero]; rfl)
    · first | exact fun _ _ _ h => h | exact fun _ _ _ h => by cases h.1
    · rfl
    try first | simp only [pS, List.set] | simp only [pN]
    refine wpAnyH_take (i := 12) (oi := ?_) (v := undef) ?_ (by kernel_rfl) (by kernel_rfl) (by kernel_rfl) ?_ (Or.inr ⟨?_, rfl⟩) (by assumption) ?_
    rotate_left 1
    · (simp only [List.getElem?_toArray, List.getElem?_cons_succ, List.getElem?_cons_zero]; rfl)
    · first | exact fun _ _ _ h => h | exact fun _ _ _ h => by cases h.1
    · rfl
    try first | simp only [pS, List.set] | simp only [pN]
    refine wpAnyH_take (i := 13) (oi := ?_) (v := undef) ?_ (by kernel_rfl) (by kernel_rfl) (by kernel_rfl) ?_ (Or.inr ⟨?_, rfl⟩) (by assumption) ?_
    rotate_left 1
    · (simp only [List.getElem?_toArray, List.getElem?_cons_succ, List.getElem?_cons_zero]; rfl)
    · first | exact fun _ _ _ h => h | exact fun _ _ _ h => by cases h.1
    · rfl
    try first | simp only [pS, List.set] | simp only [pN]
    refine wpAnyH_take (i := 14) (oi := ?_) (v := undef) ?_ (by kernel_rfl) (by kernel_rfl) (by kernel_rfl) ?_ (Or.inr ⟨?_, rfl⟩) (by assumption) ?_
    rotate_left 1
    · (simp only [List.getElem?_toArray, List.getElem?_cons_succ, List.getElem?_cons_zero]; rfl)
    · first | exact fun _ _ _ h => h | exact fun _ _ _ h => by cases h.1
    · rfl
    try first | simp only [pS, List.set] | simp only [pN]
    refine wpAnyH_take (i := 15) (oi := ?_) (v := undef) ?_ (by kernel_rfl) (by kernel_rfl) (by kernel_rfl) ?_ (Or.inr ⟨?_, rfl⟩) (by assumption) ?_
    rotate_left 1
    · (simp only [List.getElem?_toArray, List.getElem?_cons_succ, List.getElem?_cons_zero]; rfl)
    · first | exact fun _ _ _ h => h | exact fun _ _ _ h => by cases h.1
    · rfl
    try first | simp only [pS, List.set] | simp only [pN]
    refine wpAnyH_take (i := 16) (oi := ?_) (v := undef) ?_ (by kernel_rfl) (by kernel_rfl) (by kernel_rfl) ?_ (Or.inr ⟨?_, rfl⟩) (by assumption) ?_
    rotate_left 1
    · (simp only [List.getElem?_toArray, List.getElem?_cons_succ, List.getElem?_cons_zero]; rfl)
    · first | exact fun _ _ _ h => h | exact fun _ _ _ h => by cases h.1
    · rfl
    try first | simp only [pS, List.set] | simp only [pN]
    refine wpAnyH_take (i := 17) (oi := ?_) (v := undef) ?_ (by kernel_rfl) (by kernel_rfl) (by kernel_rfl) ?_ (Or.inr ⟨?_, rfl⟩) (by assumption) ?_
    rotate_left 1
    · (simp only [List.getElem?_toArray, List.getElem?_cons_succ, List.getElem?_cons_zero]; rfl)
    · first | exact fun _ _ _ h => h | exact fun _ _ _ h => by cases h.1
    · rfl
    try first | simp only [pS, List.set] | simp only [pN]
    refine tkH 18 ?_
    refine wpAnyH_done (by kernel_rfl) ?_ _
    go_wp2_with fail
    go_ret
    exact ⟨rfl, hHeld.1⟩
  · have hin : decide ((c.base : Int) ≤ (l.length : Int) ∧ (c.size : Int) ≤ (l.length : Int) - (c.base : Int)) = false := by rw [← can_eq c l hov]; exact hcan
    rw [hov] at c22
    rw [hin] at HI
    clear hr hu hr0 hu0 h hm hd hmd hbd hcan hln hb1 hz1 hx hov hin
    go_enter Tryz.func127, Tryz.ntmps127
    go_wp2_with fail
    have hSd : (fun w' : World => Below w.heap.size w w' ∧ w'.cell? ⟨sb, 22, none⟩ = some (.bool false) ∧ w'.cell? ⟨sb, 18, none⟩ = some (.int .i64 (c.base : Int)) ∧ w'.cell? ⟨sb, 19, none⟩ = some (.int .i64 (c.size : Int))) w.drew := ⟨HB.out, c22, c18, c19⟩
    refine wp_region_held_drew (S := (fun w' : World => Below w.heap.size w w' ∧ w'.cell? ⟨sb, 22, none⟩ = some (.bool false) ∧ w'.cell? ⟨sb, 18, none⟩ = some (.int .i64 (c.base : Int)) ∧ w'.cell? ⟨sb, 19, none⟩ = some (.int .i64 (c.size : Int)))) (by kernel_rfl) hSd (fun hHeld => ?_)
    clear hSd
    generalize w.drew = wd at hHeld HO HM HB ⊢
    have hHeld : (fun w' : World => Below w.heap.size w w' ∧ w'.cell? ⟨sb, 22, none⟩ = some (.bool false) ∧ w'.cell? ⟨sb, 18, none⟩ = some (.int .i64 (c.base : Int)) ∧ w'.cell? ⟨sb, 19, none⟩ = some (.int .i64 (c.size : Int))) wd := hHeld
    refine tkH 0 ?_
    refine tkH 1 ?_
    refine tkH 2 ?_
    refine tkH 3 ?_
    refine tkH 4 ?_
    refine tkH 5 ?_
    refine tkH 7 ?_
    refine tkH 8 ?_
    refine tkH 9 ?_
    refine tkH 10 ?_
    refine tkH 11 ?_
    refine tkH 12 ?_
    refine tkH 13 ?_
    refine tkH 14 ?_
    refine tkH 15 ?_
    refine clH 6 (fun K hK => ?_)
    go_simp
    go_at_call 104
    refine (HL.out _ HM.out).mono ?_
    rintro ex wx ⟨rfl, rfl⟩
    have hSx : (fun w' : World => Below w.heap.size w w' ∧ w'.cell? ⟨sb, 22, none⟩ = some (.bool false) ∧ w'.cell? ⟨sb, 18, none⟩ = some (.int .i64 (c.base : Int)) ∧ w'.cell? ⟨sb, 19, none⟩ = some (.int .i64 (c.size : Int))) _ := hHeld
    refine hK.out _ _ hSx (fun hHeld => ?_)
    clear hK K
    try first | simp only [pS, List.set] | simp only [pN]
    refine clH 16 (fun K hK => ?_)
    go_simp
    go_at_call 140
    refine (HI.out _).mono ?_
    rintro ex wy ⟨rfl, hbx⟩
    have hSx : (fun w' : World => Below w.heap.size w w' ∧ w'.cell? ⟨sb, 22, none⟩ = some (.bool false) ∧ w'.cell? ⟨sb, 18, none⟩ = some (.int .i64 (c.base : Int)) ∧ w'.cell? ⟨sb, 19, none⟩ = some (.int .i64 (c.size : Int))) wy := ⟨hHeld.1.trans (hbx.mono hHeld.1.size), (hbx.cell (p := ⟨sb, 22, none⟩) (cell_lt hHeld.2.1)).trans hHeld.2.1, (hbx.cell (p := ⟨sb, 18, none⟩) (cell_lt hHeld.2.2.1)).trans hHeld.2.2.1, (hbx.cell (p := ⟨sb, 19, none⟩) (cell_lt hHeld.2.2.2)).trans hHeld.2.2.2⟩
    refine hK.out _ _ hSx (fun hHeld => ?_)
    clear hK K
    try first | simp only [pS, List.set] | simp only [pN]
    refine tkH 17 ?_
    refine tkH 18 ?_
    refine wpAnyH_done (by kernel_rfl) ?_ _
    go_wp2_with fail
    go_ret
    exact ⟨rfl, hHeld.1⟩
set_option maxRecDepth 100000 in
set_option maxHeartbeats 1000000 in
theorem open_yes (w : World) (h : OpS w sb ty o c rv mp) (hm : MemG w mb lb l) (hp : ∃ q, mp = .pointer q) (hx : c.steps < 1000000) (hcan : c.can l = true) (s1 : sb ≠ mb) (s2 : sb ≠ lb) (s3 : rv.ownBlock ≠ some mb) (s4 : rv.ownBlock ≠ some lb) : Calls Tryz.prog 127 #[.pointer (some ⟨sb, 0, none⟩), .pointer (some ⟨mb, 0, none⟩)] w fun e w' => DidK sb mb lb ty o w rv { c with steps := c.steps + 1 } l (.bool true) e w' := by
  obtain ⟨q, rfl⟩ := hp
  have hbd := (Below.refl w.heap.size w).drew
  have hd := h.belo hbd
  have hmd := hm.belo hbd
  obtain ⟨u, hu, hr⟩ := hd.row
  obtain ⟨u0, hu0, hr0⟩ := h.row
  have c22 : w.drew.cell? ⟨sb, 22, none⟩ = some (.bool c.over) := (hr.cell 22).trans rfl
  have c18 : w.drew.cell? ⟨sb, 18, none⟩ = some (.int .i64 (c.base : Int)) := (hr.cell 18).trans rfl
  have c19 : w.drew.cell? ⟨sb, 19, none⟩ = some (.int .i64 (c.size : Int)) := (hr.cell 19).trans rfl
  have hln := hm.len
  have hb1 := h.fits.base1
  have hz1 := h.fits.size1
  have HL := Lib.hid fun W (hm : MemG W mb lb l) => mlen_g mb lb l W hm
  have HI := Lib.hid fun W => inside_g (l.length : Int) (c.base : Int) (c.size : Int) W (by omega) (by omega) (by omega) (by omega) (by omega)
  have HO := Lib.hid hd
  have HM := Lib.hid hmd
  have HB := Lib.hid hbd
  have HX := Lib.hid hx
  have hov : c.over = false := by
    unfold Kc.can at hcan
    cases ho : c.over with
    | false => rfl
    | true => rw [ho] at hcan; cases hcan
  have hin : decide ((c.base : Int) ≤ (l.length : Int) ∧ (c.size : Int) ≤ (l.length : Int) - (c.base : Int)) = true := by rw [← can_eq c l hov]; exact hcan
  rw [hov] at c22
  rw [hin] at HI
  clear hr hu hr0 hu0 h hm hd hmd hbd hcan hln hb1 hz1 hx hov hin
  go_enter Tryz.func127, Tryz.ntmps127
  go_wp2_with fail
  have hSd : (fun w' : World => Below w.heap.size w w' ∧ w'.cell? ⟨sb, 22, none⟩ = some (.bool false) ∧ w'.cell? ⟨sb, 18, none⟩ = some (.int .i64 (c.base : Int)) ∧ w'.cell? ⟨sb, 19, none⟩ = some (.int .i64 (c.size : Int))) w.drew := ⟨HB.out, c22, c18, c19⟩
  refine wp_region_held_drew (S := (fun w' : World => Below w.heap.size w w' ∧ w'.cell? ⟨sb, 22, none⟩ = some (.bool false) ∧ w'.cell? ⟨sb, 18, none⟩ = some (.int .i64 (c.base : Int)) ∧ w'.cell? ⟨sb, 19, none⟩ = some (.int .i64 (c.size : Int)))) (by kernel_rfl) hSd (fun hHeld => ?_)
  clear hSd
  generalize w.drew = wd at hHeld HO HM HB ⊢
  have hHeld : (fun w' : World => Below w.heap.size w w' ∧ w'.cell? ⟨sb, 22, none⟩ = some (.bool false) ∧ w'.cell? ⟨sb, 18, none⟩ = some (.int .i64 (c.base : Int)) ∧ w'.cell? ⟨sb, 19, none⟩ = some (.int .i64 (c.size : Int))) wd := hHeld
  refine tkH 0 ?_
  refine tkH 1 ?_
  refine tkH 2 ?_
  refine tkH 3 ?_
  refine tkH 4 ?_
  refine tkH 5 ?_
  refine tkH 7 ?_
  refine tkH 8 ?_
  refine tkH 9 ?_
  refine tkH 10 ?_
  refine tkH 11 ?_
  refine tkH 12 ?_
  refine tkH 13 ?_
  refine tkH 14 ?_
  refine tkH 15 ?_
  refine clH 6 (fun K hK => ?_)
  go_simp
  go_at_call 104
  refine (HL.out _ HM.out).mono ?_
  rintro ex wx ⟨rfl, rfl⟩
  have hSx : (fun w' : World => Below w.heap.size w w' ∧ w'.cell? ⟨sb, 22, none⟩ = some (.bool false) ∧ w'.cell? ⟨sb, 18, none⟩ = some (.int .i64 (c.base : Int)) ∧ w'.cell? ⟨sb, 19, none⟩ = some (.int .i64 (c.size : Int))) _ := hHeld
  refine hK.out _ _ hSx (fun hHeld => ?_)
  clear hK K
  try first | simp only [pS, List.set] | simp only [pN]
  refine clH 16 (fun K hK => ?_)
  go_simp
  go_at_call 140
  refine (HI.out _).mono ?_
  rintro ex wy ⟨rfl, hbx⟩
  have hSx : (fun w' : World => Below w.heap.size w w' ∧ w'.cell? ⟨sb, 22, none⟩ = some (.bool false) ∧ w'.cell? ⟨sb, 18, none⟩ = some (.int .i64 (c.base : Int)) ∧ w'.cell? ⟨sb, 19, none⟩ = some (.int .i64 (c.size : Int))) wy := ⟨hHeld.1.trans (hbx.mono hHeld.1.size), (hbx.cell (p := ⟨sb, 22, none⟩) (cell_lt hHeld.2.1)).trans hHeld.2.1, (hbx.cell (p := ⟨sb, 18, none⟩) (cell_lt hHeld.2.2.1)).trans hHeld.2.2.1, (hbx.cell (p := ⟨sb, 19, none⟩) (cell_lt hHeld.2.2.2)).trans hHeld.2.2.2⟩
  refine hK.out _ _ hSx (fun hHeld => ?_)
  clear hK K
  try first | simp only [pS, List.set] | simp only [pN]
  refine tkH 17 ?_
  refine tkH 18 ?_
  refine wpAnyH_done (by kernel_rfl) ?_ _
  have hbw := hHeld.1
  have ho1 := HO.out
  have hbwd : Below wx.heap.size wx wy := hbx
  have ho2 := ho1.belo hbwd
  have hm2 := HM.out.belo hbwd
  obtain ⟨u, hu, hr⟩ := ho2.row
  have c17 : wy.cell? ⟨sb, 17, none⟩ = some (.pointer q) := (hr.cell 17).trans rfl
  have f17 := hr.frozen 17
  have f21 := hr.frozen 21
  have c21 : wy.cell? ⟨sb, 21, none⟩ = some (.int .i64 (c.steps : Int)) := (hr.cell 21).trans rfl
  have hr2 := (hr.set 17 (.pointer (some ⟨mb, 0, none⟩))).set 21 (.int .i64 ((c.steps : Int) + 1))
  have ht : Tch (fun b => b = sb) wy ((wy.setCell ⟨sb, 17, none⟩ (.pointer (some ⟨mb, 0, none⟩))).setCell ⟨sb, 21, none⟩ (.int .i64 ((c.steps : Int) + 1))) := ((Tch.refl (fun b => b = sb) wy).set (b := sb) rfl 17 _).set (b := sb) rfl 21 _
  have hf := ho2.fits
  have hst : (0 : Int) ≤ (c.steps : Int) := by omega
  have hst2 : (c.steps : Int) ≤ 1000000 := by have := HX.out; omega
  have HS : Hid (St ((wy.setCell ⟨sb, 17, none⟩ (.pointer (some ⟨mb, 0, none⟩))).setCell ⟨sb, 21, none⟩ (.int .i64 ((c.steps : Int) + 1))) sb mb lb ty o { c with steps := c.steps + 1 } rv l) := Lib.hid ⟨⟨⟨u, hu, hr2⟩, own_tch ho2.rc ht (fun b hb e => ho2.sep (by rw [hb, e])), ho2.w32, ⟨hf.kd, hf.wd, hf.sl, hf.cap, hf.nr, hf.wd1, hf.nr1, hf.sl1, hf.cap1, hf.rd1, hf.base1, hf.size1, hf.i1, hf.tr1, (by have := HX.out; show c.steps + 1 ≤ 1000000; omega), hf.A0, hf.A1, hf.B0, hf.B1⟩, ho2.sep⟩, hm2.tch ht (fun e => s1 e.symm) (fun e => s2 e.symm), s1, s2, s3, s4⟩
  have HT := Lib.hid ((Mv.below (sb := sb) (mb := mb) (lb := lb) hbw rv).trans (Mv.own ht (.inl rfl)))
  clear hHeld hSx hbw ho1 hbwd ho2 hm2 hr hu hr2 ht hf hbx HX
  go_wp2_with fail
  go_ret
  exact ⟨rfl, HS.out, HT.out⟩
end

end Go.Proofs.YtgjcniokgdicpaaGreatDoor
