/- Texts joined: A queue's calls: which may be; which may come ahead of others. A queue's calls: whether all that ended has come. A queue's calls: which may come ahead of others. -/
import Derived.Test.YtgmmblknaeepbaaZa
import Derived.Deep.RegionWith
namespace Go.Proofs.Ytgmmblknaeepbaa
open Go.RowKit

set_option maxRecDepth 100000 in
set_option maxHeartbeats 2000000 in
theorem lfits_any (x : Cl) (A : Option Addr) (c : Nat) (w : World) : Calls Try.prog 19 #[clV x A c] w fun r w' => r = .returned (.bool (lfB x)) ∧ Below w.heap.size w w' := by
  obtain ⟨p, o, q, r, cc, b, e⟩ := x
  unfold clV
  simp only
  have hr : lfB ⟨p, o, q, r, cc, b, e⟩ = (q == 3 && (decide (e < 0) || cc == 0 || cc == 2) || q == 4 && (decide (e < 0) || cc == 0 || cc == 3)) := rfl
  rw [hr]
  clear hr
  go_enter Try.func19, Try.ntmps19
  go_wp2_with fail
  all_goals
    go_ret
    refine ⟨ret_bool ?_, (Below.refl _ w).alloc (Nat.le_refl _) _⟩
    first
      | (simp [*] <;> omega)
      | (have hq : q = 3 := by simpa using ‹(q == 3) = true›
         subst hq; simp)
      | (have hq : q = 3 := by simpa using ‹(q == 3) = true›
         subst hq; simp [*])

end Go.Proofs.Ytgmmblknaeepbaa

namespace Go.Proofs.Ytgmmblknaeepbaa
open Go.RowKit

set_option maxRecDepth 100000 in
theorem done1_any (x : Cl) (A : Option Addr) (c : Nat) (w : World) : Calls Try.prog 47 #[clV x A c] w fun e w' => e = .returned (.bool (decide (0 ≤ x.e))) ∧ Below w.heap.size w w' := by
  unfold clV
  go_enter Try.func47, Try.ntmps47
  go_wp2_with fail
  go_ret
  exact ⟨by first | rfl | exact ret_bool (by simp), (Below.refl _ w).alloc (Nat.le_refl _) _⟩

def IdxR (l : List Cl) (e : Ending) : Prop := ∃ z : Int, e = .returned (.int .i64 z) ∧ decide (0 ≤ z) = !allOpn l
theorem opn_snoc {l : List Cl} {k : Nat} {x : Cl} (h : l[k]? = some x) (hall : allOpn (l.take k) = true) (hx : x.e < 0) : allOpn (l.take (k + 1)) = true := by
  rw [take_snoc h]
  unfold allOpn at *
  rw [List.all_append, hall]
  simp [opn, hx]
theorem opn_no {l : List Cl} {k : Nat} {x : Cl} (h : l[k]? = some x) (hx : 0 ≤ x.e) : allOpn l = false := by
  unfold allOpn
  rw [List.all_eq_false]
  exact ⟨x, List.mem_of_getElem? h, by simp [opn]; omega⟩
set_option maxRecDepth 100000 in
set_option maxHeartbeats 1000000 in
theorem idx_any (A : Option Addr) (c : Nat) (l : List Cl) (w : World) (hn : l.length ≤ 1000) (hl : ClSl w w.heap.size A l) :
    Calls Try.prog 63 #[.slice A l.length c, .func (.func 47) #[] #[]] w fun e w' => IdxR l e ∧ Below w.heap.size w w' := by
  go_enter Try.func63, Try.ntmps63
  go_wp2_with fail
  go_loopw [5, 8] (fun _ j wr => ∃ k : Nat, k ≤ l.length ∧ j = .int .i64 k ∧ allOpn (l.take k) = true ∧ Below w.heap.size w wr) (fun _ j _ => l.length - (intOf j).toNat)
  case atStart => exact ⟨0, Nat.zero_le _, rfl, rfl, Below.refl _ _⟩
  case round =>
    obtain ⟨k, hk, rfl, hall, hb⟩ := hrel
    by_cases hlt : k < l.length
    · obtain ⟨x, hx⟩ := get_some hlt
      obtain ⟨b, off, Ax, cx, rfl, hlb, ⟨h0, h1, h2, h3, h4, h5, h6⟩, _, hc1, hc2⟩ := (hl.below hb (Nat.le_refl _)) k x hx
      have hd := done1_any x Ax cx wr
      unfold clV at hd
      have hb' := Lib.hid hb
      have hbs := hb.size
      by_cases he : 0 ≤ x.e
      · have hno := Lib.hid (opn_no hx he)
        rw [decide_eq_true he] at hd
        have hd' := Lib.hid hd
        clear hd hx hall hb
        go_wp2_with fail
        refine hd'.out.mono ?_
        rintro e w1 ⟨rfl, hb1⟩
        go_wp2_with fail
        go_ret
        exact ⟨⟨_, rfl, by rw [hno.out]; simp⟩, hb'.out.trans (hb1.mono hbs)⟩
      · have hyes := Lib.hid (opn_snoc hx hall (by omega))
        rw [decide_eq_false he] at hd
        have hd' := Lib.hid hd
        clear hd hx hall hb
        go_wp2_with fail
        refine hd'.out.mono ?_
        rintro e w1 ⟨rfl, hb1⟩
        go_wp2_with fail
        go_roundw
        case rel => exact ⟨k + 1, by omega, by go_num, hyes.out, hb'.out.trans (hb1.mono hbs)⟩
        case measure => simp [intOf]; omega
    · have ht := take_all hlt
      rw [ht] at hall
      have hall' := Lib.hid hall
      clear hall ht
      go_wp2_with fail
      go_ret
      exact ⟨⟨_, rfl, by rw [hall'.out]; rfl⟩, hb⟩

set_option maxRecDepth 100000 in
theorem cont_any (A : Option Addr) (c : Nat) (l : List Cl) (w : World) (hn : l.length ≤ 1000) (hl : ClSl w w.heap.size A l) :
    Calls Try.prog 46 #[.slice A l.length c, .func (.func 47) #[] #[]] w fun e w' => e = .returned (.bool (!allOpn l)) ∧ Below w.heap.size w w' := by
  have h := Lib.hid (idx_any A c l w hn hl)
  clear hl
  obtain ⟨b, hb⟩ : ∃ b, (!allOpn l) = b := ⟨_, rfl⟩
  have hb' := Lib.hid hb
  rw [hb]
  clear hb
  go_enter Try.func46, Try.ntmps46
  go_wp2_with fail
  refine h.out.mono ?_
  rintro e w1 ⟨⟨z, rfl, hz⟩, hb1⟩
  have hz' := Lib.hid hz
  clear hz
  go_wp2_with fail
  go_ret
  exact ⟨ret_bool (by rw [← hb'.out, ← hz'.out]), hb1⟩

/-- A slice's tail, at the slice operation. -/
theorem slice_tail (t e : TypeId) (size : Nat) (P : Program) (ht : P.underlying t = some (.slice e)) (he : P.elem t = e) (hs : ∀ W, (sizeOf e).run P W = .ok size W) (A : Option Addr) (M c n : Nat) (h : n ≤ M) (W : World) :
    (Instr.sliceAt t (.slice A M c) (some (.int .i64 (n : Int))) none none).run P W = .ok (.slice (if c = n then A else A.map (·.add (n * size))) (M - n) (c - n)) W := by
  have ht' : P.underlying t = some (.slice (P.elem t)) := by rw [he]; exact ht
  rw [run_sliceAt_slice W t _ _ _ _ ht', run_slice_l W t A M c ht' .i64 (n : Int) (by omega) (by omega), he, hs]
  simp [Result.andThen, sliced]

set_option maxRecDepth 100000 in
set_option maxHeartbeats 1000000 in
theorem done_any (A : Option Addr) (c : Nat) (l : List Cl) (n : Nat) (w : World) (hn : l.length ≤ 1000) (hc : l.length ≤ c) (hnl : n ≤ l.length) (hl : ClSl w w.heap.size A l) :
    Calls Try.prog 33 #[.slice A l.length c, .int .i64 (n : Int)] w fun e w' => e = .returned (.bool (allOpn (l.drop n))) ∧ Below w.heap.size w w' := by
  have hsl := fun W => slice_tail 22 32 7 Try.prog Try.underlying22 (by kernel_rfl) (fun W => by kernel_rfl) A l.length c n hnl W
  obtain ⟨A2, hA2⟩ : ∃ A2, (if c = n then A else A.map (·.add (n * 7))) = A2 := ⟨_, rfl⟩
  have hdr : ClSl w w.heap.size A2 (l.drop n) := by
    intro k x hk
    rw [List.getElem?_drop] at hk
    obtain ⟨b, off, Ar, cr, hA, hlt, hcl, hr⟩ := hl _ x hk
    have := get_lt hk
    rw [if_neg (by omega), hA] at hA2
    have e : ∀ j, off + n * 7 + k * 7 + j = off + (n + k) * 7 + j := fun j => by omega
    refine ⟨b, off + n * 7, Ar, cr, by rw [← hA2]; simp [Addr.add_lit], hlt, ?_, hr⟩
    rw [show off + n * 7 + k * 7 = off + (n + k) * 7 by omega]
    exact hcl
  rw [hA2] at hsl
  have hct := cont_any A2 (c - n) (l.drop n) w (by rw [List.length_drop]; omega) hdr
  rw [List.length_drop] at hct
  obtain ⟨b, hb⟩ : ∃ b, allOpn (l.drop n) = b := ⟨_, rfl⟩
  rw [hb] at hct ⊢
  have hct' := Lib.hid hct
  clear hdr hct hA2 hb hl
  have n0 : (0 : Int) ≤ (n : Int) := by omega
  have n1 : (n : Int) ≤ (l.length : Int) := by omega
  go_enter Try.func33, Try.ntmps33
  go_wp2_with fail
  refine hct'.out.mono ?_
  rintro e w1 ⟨rfl, hb1⟩
  go_wp2_with fail
  go_ret
  exact ⟨ret_bool (by simp), hb1⟩

end Go.Proofs.Ytgmmblknaeepbaa

namespace Go.Proofs.Ytgmmblknaeepbaa
open Go.RowKit
attribute [local go_sem] Oper.semAt_some

theorem cell_below {w w' : World} {b o : Nat} {v : Value} (h : w.cell? ⟨b, o, none⟩ = some v) (hb : Below w.heap.size w w') : w'.cell? ⟨b, o, none⟩ = some v := (hb.cell (p := ⟨b, o, none⟩) (cell_lt h)).trans h
theorem cl7_below {w w' : World} {b off : Nat} {v0 v1 v2 v3 v4 v5 v6 : Value} (h : w.cell? ⟨b, off, none⟩ = some (v0) ∧ w.cell? ⟨b, off + 1, none⟩ = some (v1) ∧ w.cell? ⟨b, off + 2, none⟩ = some (v2) ∧ w.cell? ⟨b, off + 3, none⟩ = some (v3) ∧ w.cell? ⟨b, off + 4, none⟩ = some (v4) ∧ w.cell? ⟨b, off + 5, none⟩ = some (v5) ∧ w.cell? ⟨b, off + 6, none⟩ = some (v6)) (hb : Below w.heap.size w w') : w'.cell? ⟨b, off, none⟩ = some (v0) ∧ w'.cell? ⟨b, off + 1, none⟩ = some (v1) ∧ w'.cell? ⟨b, off + 2, none⟩ = some (v2) ∧ w'.cell? ⟨b, off + 3, none⟩ = some (v3) ∧ w'.cell? ⟨b, off + 4, none⟩ = some (v4) ∧ w'.cell? ⟨b, off + 5, none⟩ = some (v5) ∧ w'.cell? ⟨b, off + 6, none⟩ = some (v6) :=
  ⟨cell_below h.1 hb, cell_below h.2.1 hb, cell_below h.2.2.1 hb, cell_below h.2.2.2.1 hb, cell_below h.2.2.2.2.1 hb, cell_below h.2.2.2.2.2.1 hb, cell_below h.2.2.2.2.2.2 hb⟩
theorem cl7_below' {w w' : World} {b : Nat} {v0 v1 v2 v3 v4 v5 v6 : Value} (h : w.cell? ⟨b, 0, none⟩ = some (v0) ∧ w.cell? ⟨b, 1, none⟩ = some (v1) ∧ w.cell? ⟨b, 2, none⟩ = some (v2) ∧ w.cell? ⟨b, 3, none⟩ = some (v3) ∧ w.cell? ⟨b, 4, none⟩ = some (v4) ∧ w.cell? ⟨b, 5, none⟩ = some (v5) ∧ w.cell? ⟨b, 6, none⟩ = some (v6)) (hb : Below w.heap.size w w') : w'.cell? ⟨b, 0, none⟩ = some (v0) ∧ w'.cell? ⟨b, 1, none⟩ = some (v1) ∧ w'.cell? ⟨b, 2, none⟩ = some (v2) ∧ w'.cell? ⟨b, 3, none⟩ = some (v3) ∧ w'.cell? ⟨b, 4, none⟩ = some (v4) ∧ w'.cell? ⟨b, 5, none⟩ = some (v5) ∧ w'.cell? ⟨b, 6, none⟩ = some (v6) :=
  ⟨cell_below h.1 hb, cell_below h.2.1 hb, cell_below h.2.2.1 hb, cell_below h.2.2.2.1 hb, cell_below h.2.2.2.2.1 hb, cell_below h.2.2.2.2.2.1 hb, cell_below h.2.2.2.2.2.2 hb⟩

set_option maxRecDepth 100000 in
set_option maxHeartbeats 2000000 in
theorem lmay_any (x : Cl) (A A' : Option Addr) (c c' : Nat) (l : List Cl) (w : World) (hn : l.length ≤ 1000) (hl : ClSl w w.heap.size A' l) : Calls Try.prog 48 #[clV x A c, .slice A' l.length c'] w fun r w' => r = .returned (.bool (mayB x l)) ∧ Below w.heap.size w w' := by
  cases l with
  | nil =>
    unfold clV
    simp only [List.length_nil]
    go_enter Try.func48, Try.ntmps48
    go_wp2_with fail
    go_region
    go_wp2_with fail
    go_ret
    exact ⟨rfl, ((Below.refl _ w).alloc (Nat.le_refl _) _).drew⟩
  | cons d ds =>
    have hB1 := (Below.refl _ w).alloc (Nat.le_refl _) (.cells #[.int .i64 x.p, .int .i64 x.o, .int .i64 x.q, .slice A x.r.length c, .int .i64 x.c, .int .i64 x.b, .int .i64 x.e] 32)
    obtain ⟨b, off, Ax, cx, rfl, hlb, hd7, _, hc1, hc2⟩ := (hl.below hB1 hB1.size) 0 d rfl
    have hx7 := (ClBox.new w x A c).cells
    have hbe := fun W => hbefore_any d x Ax A cx c W
    have hr : mayB x (d :: ds) = !befB d x := rfl
    rw [hr]
    simp only [Nat.zero_mul, Nat.add_zero] at hd7
    obtain ⟨M, hM⟩ : ∃ M, (d :: ds).length = M := ⟨_, rfl⟩
    have hM0 : 0 < M := by rw [← hM]; simp
    have hMi : (0 : Int) < (M : Int) := by omega
    have hg : ((M : Int) == 0) = false := by simp; omega
    rw [hM]
    clear hM hn hl
    obtain ⟨v, hv⟩ : ∃ v, befB d x = v := ⟨_, rfl⟩
    rw [hv] at hbe ⊢
    clear hv
    unfold clV at hbe ⊢
    have hbe2 := Lib.hid hbe
    clear hbe
    obtain ⟨nb, hnb⟩ : ∃ n, w.heap.size = n := ⟨_, rfl⟩
    rw [hnb] at hx7 hB1 ⊢
    go_enter Try.func48, Try.ntmps48
    go_wp2_with fail
    obtain ⟨W1, hW1⟩ : ∃ W1, w.alloc (.cells #[.int .i64 x.p, .int .i64 x.o, .int .i64 x.q, .slice A x.r.length c, .int .i64 x.c, .int .i64 x.b, .int .i64 x.e] 32) = W1 := ⟨_, rfl⟩
    rw [hW1] at hx7 hB1 hd7 ⊢
    clear hnb hW1
    have hSd : (fun w' => Below W1.heap.size W1 w' ∧ (w'.cell? ⟨b, off, none⟩ = some (.int .i64 d.p) ∧ w'.cell? ⟨b, off + 1, none⟩ = some (.int .i64 d.o) ∧ w'.cell? ⟨b, off + 2, none⟩ = some (.int .i64 d.q) ∧ w'.cell? ⟨b, off + 3, none⟩ = some (.slice Ax d.r.length cx) ∧ w'.cell? ⟨b, off + 4, none⟩ = some (.int .i64 d.c) ∧ w'.cell? ⟨b, off + 5, none⟩ = some (.int .i64 d.b) ∧ w'.cell? ⟨b, off + 6, none⟩ = some (.int .i64 d.e)) ∧ (w'.cell? ⟨nb, 0, none⟩ = some (.int .i64 x.p) ∧ w'.cell? ⟨nb, 1, none⟩ = some (.int .i64 x.o) ∧ w'.cell? ⟨nb, 2, none⟩ = some (.int .i64 x.q) ∧ w'.cell? ⟨nb, 3, none⟩ = some (.slice A x.r.length c) ∧ w'.cell? ⟨nb, 4, none⟩ = some (.int .i64 x.c) ∧ w'.cell? ⟨nb, 5, none⟩ = some (.int .i64 x.b) ∧ w'.cell? ⟨nb, 6, none⟩ = some (.int .i64 x.e))) W1.drew := ⟨(Below.refl _ W1).drew, hd7, hx7⟩
    refine wp_region_held_drew (S := (fun w' => Below W1.heap.size W1 w' ∧ (w'.cell? ⟨b, off, none⟩ = some (.int .i64 d.p) ∧ w'.cell? ⟨b, off + 1, none⟩ = some (.int .i64 d.o) ∧ w'.cell? ⟨b, off + 2, none⟩ = some (.int .i64 d.q) ∧ w'.cell? ⟨b, off + 3, none⟩ = some (.slice Ax d.r.length cx) ∧ w'.cell? ⟨b, off + 4, none⟩ = some (.int .i64 d.c) ∧ w'.cell? ⟨b, off + 5, none⟩ = some (.int .i64 d.b) ∧ w'.cell? ⟨b, off + 6, none⟩ = some (.int .i64 d.e)) ∧ (w'.cell? ⟨nb, 0, none⟩ = some (.int .i64 x.p) ∧ w'.cell? ⟨nb, 1, none⟩ = some (.int .i64 x.o) ∧ w'.cell? ⟨nb, 2, none⟩ = some (.int .i64 x.q) ∧ w'.cell? ⟨nb, 3, none⟩ = some (.slice A x.r.length c) ∧ w'.cell? ⟨nb, 4, none⟩ = some (.int .i64 x.c) ∧ w'.cell? ⟨nb, 5, none⟩ = some (.int .i64 x.b) ∧ w'.cell? ⟨nb, 6, none⟩ = some (.int .i64 x.e)))) (by kernel_rfl) hSd (fun hHeld => ?_)
    generalize W1.drew = wd at hHeld ⊢
    have hHeld : (fun w' => Below W1.heap.size W1 w' ∧ (w'.cell? ⟨b, off, none⟩ = some (.int .i64 d.p) ∧ w'.cell? ⟨b, off + 1, none⟩ = some (.int .i64 d.o) ∧ w'.cell? ⟨b, off + 2, none⟩ = some (.int .i64 d.q) ∧ w'.cell? ⟨b, off + 3, none⟩ = some (.slice Ax d.r.length cx) ∧ w'.cell? ⟨b, off + 4, none⟩ = some (.int .i64 d.c) ∧ w'.cell? ⟨b, off + 5, none⟩ = some (.int .i64 d.b) ∧ w'.cell? ⟨b, off + 6, none⟩ = some (.int .i64 d.e)) ∧ (w'.cell? ⟨nb, 0, none⟩ = some (.int .i64 x.p) ∧ w'.cell? ⟨nb, 1, none⟩ = some (.int .i64 x.o) ∧ w'.cell? ⟨nb, 2, none⟩ = some (.int .i64 x.q) ∧ w'.cell? ⟨nb, 3, none⟩ = some (.slice A x.r.length c) ∧ w'.cell? ⟨nb, 4, none⟩ = some (.int .i64 x.c) ∧ w'.cell? ⟨nb, 5, none⟩ = some (.int .i64 x.b) ∧ w'.cell? ⟨nb, 6, none⟩ = some (.int .i64 x.e))) wd := hHeld
    refine tkH 0 ?_
    try first | simp only [pS, List.set] | simp only [pN]
    refine tkH 1 ?_
    try first | simp only [pS, List.set] | simp only [pN]
    refine tkH 2 ?_
    try first | simp only [pS, List.set] | simp only [pN]
    refine tkH 3 ?_
    try first | simp only [pS, List.set] | simp only [pN]
    refine tkH 4 ?_
    try first | simp only [pS, List.set] | simp only [pN]
    refine tkH 5 ?_
    try first | simp only [pS, List.set] | simp only [pN]
    refine tkH 6 ?_
    try first | simp only [pS, List.set] | simp only [pN]
    refine tkH 7 ?_
    try first | simp only [pS, List.set] | simp only [pN]
    refine wpAnyH_ready (rs := [8]) (by kernel_rfl) (by simp) ?_
    refine AllReadyH.cons (o := ?_) ?_ (fun K hK => ?_) AllReadyH.nil
    rotate_left
    · (simp only [List.getElem?_toArray, List.getElem?_cons_succ, List.getElem?_cons_zero]; rfl)
    go_simp
    go_at_call 31
    refine (hbe2.out _).mono ?_
    rintro e wx ⟨rfl, hbx⟩
    have hSx : (fun w' => Below W1.heap.size W1 w' ∧ (w'.cell? ⟨b, off, none⟩ = some (.int .i64 d.p) ∧ w'.cell? ⟨b, off + 1, none⟩ = some (.int .i64 d.o) ∧ w'.cell? ⟨b, off + 2, none⟩ = some (.int .i64 d.q) ∧ w'.cell? ⟨b, off + 3, none⟩ = some (.slice Ax d.r.length cx) ∧ w'.cell? ⟨b, off + 4, none⟩ = some (.int .i64 d.c) ∧ w'.cell? ⟨b, off + 5, none⟩ = some (.int .i64 d.b) ∧ w'.cell? ⟨b, off + 6, none⟩ = some (.int .i64 d.e)) ∧ (w'.cell? ⟨nb, 0, none⟩ = some (.int .i64 x.p) ∧ w'.cell? ⟨nb, 1, none⟩ = some (.int .i64 x.o) ∧ w'.cell? ⟨nb, 2, none⟩ = some (.int .i64 x.q) ∧ w'.cell? ⟨nb, 3, none⟩ = some (.slice A x.r.length c) ∧ w'.cell? ⟨nb, 4, none⟩ = some (.int .i64 x.c) ∧ w'.cell? ⟨nb, 5, none⟩ = some (.int .i64 x.b) ∧ w'.cell? ⟨nb, 6, none⟩ = some (.int .i64 x.e))) wx := ⟨hHeld.1.trans (hbx.mono hHeld.1.size), cl7_below hHeld.2.1 hbx, cl7_below' hHeld.2.2 hbx⟩
    refine hK.out _ _ hSx (fun hHeld => ?_)
    clear hK K
    try first | simp only [pS, List.set] | simp only [pN]
    refine tkH 9 ?_
    try first | simp only [pS, List.set] | simp only [pN]
    refine tkH 10 ?_
    try first | simp only [pS, List.set] | simp only [pN]
    refine tkH 11 ?_
    try first | simp only [pS, List.set] | simp only [pN]
    refine wpAnyH_done (by kernel_rfl) ?_ _
    have HB2 := Lib.hid (hB1.trans (hHeld.1.mono (Nat.le_of_lt (cell_lt hx7.1))))
    clear hSd hHeld hSx hB1 hd7 hx7
    go_wp2_with fail
    go_ret
    exact ⟨rfl, HB2.out⟩

end Go.Proofs.Ytgmmblknaeepbaa
