/- Histories: a call's line. -/
import Derived.Test.YtkcdmonmgnmojaaDoorHis3
import Derived.Test.YtkcdmonmgnmojaaDoorHLnP
import Derived.Test.YtkcdmonmgnmojaaDoorItoa
import Derived.Test.YtkcdmonmgnmojaaDoorShow
import Derived.Test.YtkcdmonmgnmojaaDoorStrTy
import Derived.Deep.RegionHeld3
namespace Go.Proofs.YtkcdmonmgnmojaaDoor
open Go.RowKit

def itS (n : Int) : ByteArray := numS n.toNat
theorem ito_any (n : Int) (w : World) (h0 : 0 ≤ n) (h1 : n ≤ 9223372036854775807) (hT : Tab w) :
    Calls Tryd.prog 62 #[.int .i64 n] w fun e w' => e = .returned (.string (itS n)) ∧ Below w.heap.size w w' := itoa_any n w h0 h1 hT
def opsA : Array Value := #[.string ⟨#[]⟩, .string ⟨#[114, 101, 97, 100]⟩, .string ⟨#[119, 114, 105, 116, 101]⟩, .string ⟨#[112, 117, 116]⟩, .string ⟨#[116, 97, 107, 101]⟩]
def codesA : Array Value := #[.string ⟨#[103, 111, 111, 100]⟩, .string ⟨#[114, 101, 116, 114, 121]⟩, .string ⟨#[102, 117, 108, 108]⟩, .string ⟨#[101, 109, 112, 116, 121]⟩]
theorem ops_any (w : World) : Calls Tryd.prog 63 #[] w fun e w' => e = .returned (.agg opsA) ∧ Below w.heap.size w w' := by
  go_enter Tryd.func63, Tryd.ntmps63
  go_wp2_with fail
  refine bodyPost_ret (v := .agg opsA) (by simp [results, go_sem]; rfl) rfl ?_
  exact ⟨rfl, (Below.refl _ w).alloc (Nat.le_refl _) _⟩
theorem codes_any (w : World) : Calls Tryd.prog 64 #[] w fun e w' => e = .returned (.agg codesA) ∧ Below w.heap.size w w' := by
  go_enter Tryd.func64, Tryd.ntmps64
  go_wp2_with fail
  refine bodyPost_ret (v := .agg codesA) (by simp [results, go_sem]; rfl) rfl ?_
  exact ⟨rfl, (Below.refl _ w).alloc (Nat.le_refl _) _⟩
theorem op_at {q : Int} (h : 1 ≤ q ∧ q ≤ 4) (W : World) : (Instr.index 96 (.agg opsA) (.int .i64 q)).run Tryd.prog W = .ok (.string (opS q)) W := by
  have : q = 1 ∨ q = 2 ∨ q = 3 ∨ q = 4 := by omega
  rcases this with rfl | rfl | rfl | rfl <;> (simp [Instr.index, opsA, go_sem] <;> rfl)
theorem code_at {c : Int} (h : 0 ≤ c ∧ c ≤ 3) (W : World) : (Instr.index 98 (.agg codesA) (.int .i64 c)).run Tryd.prog W = .ok (.string (codeS c)) W := by
  have : c = 0 ∨ c = 1 ∨ c = 2 ∨ c = 3 := by omega
  rcases this with rfl | rfl | rfl | rfl <;> (simp [Instr.index, codesA, go_sem] <;> rfl)

/-- What the region of history.Line keeps. -/
def HLt (w2 : World) (n : Nat) (x : Cl) (A : Option Addr) (c : Nat) (w' : World) : Prop :=
  Below w2.heap.size w2 w' ∧ Tab w' ∧ n < w'.heap.size ∧ w'.cell? ⟨n, 0, none⟩ = some (.int .i64 x.p) ∧ w'.cell? ⟨n, 1, none⟩ = some (.int .i64 x.o) ∧ w'.cell? ⟨n, 2, none⟩ = some (.int .i64 x.q) ∧ w'.cell? ⟨n, 3, none⟩ = some (.slice A x.r.length c) ∧ w'.cell? ⟨n, 4, none⟩ = some (.int .i64 x.c) ∧ w'.cell? ⟨n, 5, none⟩ = some (.int .i64 x.b)
section
variable {w2 w w' : World} {n : Nat} {x : Cl} {A : Option Addr} {c : Nat}
theorem HLt.below (h : HLt w2 n x A c w) (hb : Below w.heap.size w w') : HLt w2 n x A c w' := by
  obtain ⟨h1, h2, h3, a0, a1, a2, a3, a4, a5⟩ := h
  have hk : ∀ {i : Nat} {u : Value}, w.cell? ⟨n, i, none⟩ = some u → w'.cell? ⟨n, i, none⟩ = some u := fun {i u} hc => (hb.cell (p := ⟨n, i, none⟩) (cell_lt hc)).trans hc
  exact ⟨h1.trans (hb.mono h1.size), h2.below hb, Nat.lt_of_lt_of_le h3 hb.size, hk a0, hk a1, hk a2, hk a3, hk a4, hk a5⟩
theorem HLt.tab (h : HLt w2 n x A c w) : Tab w := h.2.1
theorem HLt.drew (h : HLt w2 n x A c w) : HLt w2 n x A c w.drew := h.below (Below.refl _ w).drew
theorem HLt.alloc (h : HLt w2 n x A c w) (o : Obj) : HLt w2 n x A c (w.alloc o) := h.below ((Below.refl _ w).alloc (Nat.le_refl _) o)
end

theorem join_own (base : Nat) (v : Value) (w : World) (l : List ByteArray) (J : List UInt8) (hJ : Lib.join (l.map (·.data.toList)) [32] = J) (hne : l ≠ []) (hl : l.length ≤ 1000) (hlen : J.length ≤ 1000000) (h : Own strs 9 base w v l) :
    Calls Tryd.prog 41 #[v, .string ⟨#[32]⟩] w fun e w' => e = .returned (.string ⟨J.toArray⟩) ∧ Below w.heap.size w w' := by
  obtain ⟨A', c', rfl, hcl, hn, hsl⟩ := h.sl
  obtain ⟨s0, t, rfl⟩ := List.exists_cons_of_ne_nil hne
  obtain ⟨bk, o, rfl, hbk, _⟩ := hsl 0 s0 rfl
  have hcells : ∀ (j : Nat) x, (s0 :: t)[j]? = some x → w.cell? ⟨bk, o + j, none⟩ = some (.string x) := by
    intro j x hx
    obtain ⟨b1, o1, e1, _, hc1⟩ := hsl j x hx
    injection e1 with e1
    injection e1 with e1 e2
    subst e1 e2
    have := hc1 0 _ rfl
    simpa [strs, Enc.of1] using this
  have hcon := Tryd.strings_Join bk o c' (s0 :: t) ⟨#[32]⟩ w hcells hbk (by omega) hcl.1 (by rw [show (⟨#[32]⟩ : ByteArray).data.toList = [32] from rfl, hJ]; omega)
  rw [show (⟨#[32]⟩ : ByteArray).data.toList = [32] from rfl, hJ] at hcon
  exact hcon

theorem recT_show (l : List Int) : showS l = recT l := rfl
theorem endS_num {e : Int} (h : 0 ≤ e) : itS e = endS e := by
  unfold endS endW
  rw [if_pos h]
  rfl
theorem endS_none : endS (-1) = ⟨#[45]⟩ := rfl

set_option maxRecDepth 100000 in
set_option maxHeartbeats 4000000 in
theorem hline_no (x : Cl) (A : Option Addr) (c : Nat) (w : World) (h : clB x = false) : Calls Tryd.prog 28 #[clV x A c] w fun r w' => r = .returned (.tuple #[.string ⟨#[]⟩, .bool false]) ∧ Below w.heap.size w w' := by
  have hr := fun W => hright_any x A c W
  rw [h] at hr
  obtain ⟨p, o, q, r, cc, b, e⟩ := x
  unfold clV at hr ⊢
  simp only at hr ⊢
  have hr' := Lib.hid hr
  clear hr h
  have hB0 := (Below.refl w.heap.size w).alloc (Nat.le_refl _) (.cells #[.int .i64 p, .int .i64 o, .int .i64 q, .slice A r.length c, .int .i64 cc, .int .i64 b, .int .i64 e] 45)
  go_enter Tryd.func28, Tryd.ntmps28
  go_wp2_with fail
  refine (hr'.out _).mono ?_
  rintro e w0 ⟨rfl, hb0⟩
  go_wp2_with fail
  go_ret2
  exact ⟨rfl, hB0.trans (hb0.mono hB0.size)⟩

set_option maxRecDepth 100000 in
set_option maxHeartbeats 4000000 in
theorem hline_a (p o q : Int) (r : List Int) (cc b e : Int) (A : Option Addr) (c : Nat) (w : World) (h : clB ⟨p, o, q, r, cc, b, e⟩ = true) (he : 0 ≤ e) (hrr : r ≠ []) (hA : Ws w w.heap.size A r) (hT : Tab w) :
    Calls Tryd.prog 28 #[.agg #[.int .i64 p, .int .i64 o, .int .i64 q, .slice A r.length c, .int .i64 cc, .int .i64 b, .int .i64 e]] w fun r' w' => r' = .returned (.tuple #[.string (lineHS ⟨p, o, q, r, cc, b, e⟩), .bool true]) ∧ Below w.heap.size w w' := by
  have hr := fun W => hright_any ⟨p, o, q, r, cc, b, e⟩ A c W
  rw [h] at hr
  unfold clV at hr
  simp only at hr
  have hlen : (lineH ⟨p, o, q, r, cc, b, e⟩).length ≤ 1000 := by
    have := lineH_len h (fun z hz => by
      obtain ⟨i, hi⟩ := List.getElem?_of_mem hz
      exact (hA.get hi).1.2)
    omega
  obtain ⟨bp, bo, bb, bq, bc, be, br⟩ := clB_iff.1 h
  simp only at bp bo bb bq bc be br
  clear h
  have hJ := line_rec (x := ⟨p, o, q, r, cc, b, e⟩) hrr
  unfold sixB at hJ
  simp only at hJ
  have bp1 := bp.1
  have bo1 := bo.1
  have bb1 := bb.1
  have bp2 : p ≤ 9223372036854775807 := by omega
  have bo2 : o ≤ 9223372036854775807 := by omega
  have bb2 : b ≤ 9223372036854775807 := by omega
  have hi1 := op_at bq
  have hi2 := code_at bc
  have i4 := fun (W : World) (hW : Tab W) => ito_any e W he (by omega) hW
  rw [endS_num he] at i4
  obtain ⟨E, hE⟩ : ∃ E, endS e = E := ⟨_, rfl⟩
  rw [hE] at i4 hJ
  have he1 : decide (0 ≤ e) = true := decide_eq_true he
  change Lib.join (List.map (fun x => x.data.toList) (itS p :: itS o :: opS q :: itS b :: _)) [32] = _ at hJ
  obtain ⟨S2, hS2⟩ : ∃ S, opS q = S := ⟨_, rfl⟩
  obtain ⟨S5, hS5⟩ : ∃ S, codeS cc = S := ⟨_, rfl⟩
  rw [hS2] at hi1
  rw [hS5] at hi2
  rw [hS2, hS5] at hJ
  have hsw : decide (0 < r.length) = true := by
    rw [decide_eq_true_iff]
    rcases r with _ | ⟨a, t⟩
    · exact absurd rfl hrr
    · simp
  have hsh := fun (W : World) (hb : Below w.heap.size w W) (hW : Tab W) => show_any A c r W (by omega) (hA.below hb hb.size) hW
  have hshE : showS r = recT r := rfl
  rw [hshE] at hsh
  obtain ⟨R, hR⟩ : ∃ R, recT r = R := ⟨_, rfl⟩
  rw [hR] at hsh hJ
  have hsh' := Lib.hid hsh
  have hrr' := Lib.hid hrr
  clear hsh hshE hR hrr
  have hJ' := Lib.hid hJ
  have hlen' := Lib.hid hlen
  have i4' := Lib.hid i4
  clear i4
  have he' := Lib.hid he
  have hbnd := Lib.hid (And.intro bp (And.intro bo (And.intro bb (And.intro bq (And.intro bc (And.intro be br))))))
  have hr' := Lib.hid hr
  have hbx := Lib.hid (ClBox.new w ⟨p, o, q, r, cc, b, e⟩ A c)
  have hB0 := (Below.refl w.heap.size w).alloc (Nat.le_refl _) (.cells #[.int .i64 p, .int .i64 o, .int .i64 q, .slice A r.length c, .int .i64 cc, .int .i64 b, .int .i64 e] 45)
  clear hr hJ hlen he bp bo bb bq bc be br hE hS2 hS5
  go_enter Tryd.func28, Tryd.ntmps28
  go_wp2_with fail
  refine (hr'.out _).mono ?_
  rintro ex w0 ⟨rfl, hb0⟩
  have hbx0 := ClBox.kept (x := ⟨p, o, q, r, cc, b, e⟩) hbx.out hb0
  have hB1 := hB0.trans (hb0.mono hB0.size)
  obtain ⟨n, hn⟩ : ∃ n, w.heap.size = n := ⟨_, rfl⟩
  have hT0 := (hT.below (hB0.mono (Nat.le_refl _))).below hb0
  rw [hn] at hbx0 ⊢
  obtain ⟨d0, d1, d2, d3, d4, d5, d6⟩ := hbx0.cells
  simp only at d0 d1 d2 d3 d4 d5 d6
  clear hr' hbx hb0 hB0
  go_wp2_with fail
  refine (i4'.out _ hT0).mono ?_
  rintro ex w1 ⟨rfl, hb1⟩
  have hbx1 := hbx0.kept hb1
  have hB2 := hB1.trans (hb1.mono hB1.size)
  have hT1 := hT0.below hb1
  clear d0 d1 d2 d3 d4 d5 d6 hT0 hbx0 hB1 hb1
  obtain ⟨d0, d1, d2, d3, d4, d5, d6⟩ := hbx1.cells
  simp only at d0 d1 d2 d3 d4 d5 d6
  go_wp2_with fail
  have hSd : HLt w1 n ⟨p, o, q, r, cc, b, e⟩ A c w1.drew := HLt.drew ⟨Below.refl _ _, hT1, hbx1.lt, d0, d1, d2, d3, d4, d5⟩
  clear hT1 hbx1
  go_region_held3 (fun w' => Below w1.heap.size w1 w' ∧ Tab w' ∧ n < w'.heap.size ∧ w'.cell? ⟨n, 0, none⟩ = some (.int .i64 p) ∧ w'.cell? ⟨n, 1, none⟩ = some (.int .i64 o) ∧ w'.cell? ⟨n, 2, none⟩ = some (.int .i64 q) ∧ w'.cell? ⟨n, 3, none⟩ = some (.slice A r.length c) ∧ w'.cell? ⟨n, 4, none⟩ = some (.int .i64 cc) ∧ w'.cell? ⟨n, 5, none⟩ = some (.int .i64 b))
    (first | exact hSd | assumption | exact HLt.alloc (w2 := w1) (n := n) (x := ⟨p, o, q, r, cc, b, e⟩) (A := A) (c := c) (by assumption) _)
    (first
      | (go_at_call 62; refine (ito_any _ _ (by assumption) (by assumption) (HLt.tab (w2 := w1) (n := n) (x := ⟨p, o, q, r, cc, b, e⟩) (A := A) (c := c) (by assumption))).mono ?_; rintro ex wx ⟨rfl, hbx⟩; have hSx := HLt.below (w2 := w1) (n := n) (x := ⟨p, o, q, r, cc, b, e⟩) (A := A) (c := c) (by assumption) hbx)
      | (go_at_call 63; refine (ops_any _).mono ?_; rintro ex wx ⟨rfl, hbx⟩; have hSx := HLt.below (w2 := w1) (n := n) (x := ⟨p, o, q, r, cc, b, e⟩) (A := A) (c := c) (by assumption) hbx)
      | (go_at_call 64; refine (codes_any _).mono ?_; rintro ex wx ⟨rfl, hbx⟩; have hSx := HLt.below (w2 := w1) (n := n) (x := ⟨p, o, q, r, cc, b, e⟩) (A := A) (c := c) (by assumption) hbx))
  all_goals
    have hBx := hB2.trans (hSx.1.mono hB2.size)
    have hwz : n ≠ wx.heap.size := Nat.ne_of_lt hSx.2.2.1
    have hBy := hBx.alloc hBx.size (.cells #[.string (itS p), .string (itS o), .string S2, .string (itS b), .string E, .string S5] 9)
    have hown : Own strs 9 w.heap.size (wx.alloc (.cells #[.string (itS p), .string (itS o), .string S2, .string (itS b), .string E, .string S5] 9)) (.slice (some ⟨wx.heap.size, 0, none⟩) 6 6) [itS p, itS o, S2, itS b, E, S5] :=
      World.ownsRow_lit (e := 9) (base := w.heap.size) (size := 1) wx #[.string (itS p), .string (itS o), .string S2, .string (itS b), .string E, .string S5] 6 hBx.size (by first | decide | rfl | omega) rfl
    have hAx := hA.below hBy hBy.size
    have hTx := hSx.tab.below ((Below.refl _ wx).alloc (Nat.le_refl _) (.cells #[.string (itS p), .string (itS o), .string S2, .string (itS b), .string E, .string S5] 9))
    obtain ⟨_, _, _, e0, e1, e2, e3, e4, e5⟩ := hSx
    have hown' := Lib.hid hown
    have hBy' := Lib.hid hBy
    have hbs := hBx.size
    clear hSd hBx hB2 hown hBy d0 d1 d2 d3 d4 d5 d6 hi1 hi2
    go_wp2_with fail
    refine (hsh'.out _ hBy'.out hTx).mono ?_
    rintro ex w5 ⟨rfl, hb5⟩
    have hown5 := Lib.hid (hown'.out.below hb5 (Nat.le_refl _))
    have hB5 := hBy'.out.trans (hb5.mono hBy'.out.size)
    have hbs5 := hB5.size
    go_wp2_with (first
        | (at_builtin; refine wpList_app1 rfl _ _ 60 rfl strTy w.heap.size hown5.out rfl rfl rfl rfl (by first | decide | (simp only [List.length_cons, List.length_nil]; unfold maxLen; omega)) (by first | decide | (simp only [List.length_cons, List.length_nil]; omega)) (by omega) ?_; intro v' w6 hown6 hbel6 _)
        | (go_at_call 41; refine (join_own w.heap.size v' w6 ([itS p, itS o, S2, itS b, E, S5] ++ [R]) _ hJ'.out (by simp) (by simp) (by have := hlen'.out; omega) (Own.app (l := [itS p, itS o, S2, itS b, E, S5]) (x := R) hown6 rfl)).mono ?_; rintro ex w7 ⟨rfl, hb7⟩))
    have hB6 := hB5.trans hbel6
    go_wp2_with fail
    go_ret2
    exact ⟨rfl, by first | exact hB6.trans (hb7.mono hB6.size) | (rw [← hn]; exact hB6.trans (hb7.mono hB6.size))⟩

set_option maxRecDepth 100000 in
set_option maxHeartbeats 4000000 in
theorem hline_b (p o q : Int) (r : List Int) (cc b e : Int) (A : Option Addr) (c : Nat) (w : World) (h : clB ⟨p, o, q, r, cc, b, e⟩ = true) (he : 0 ≤ e) (hrr : r = []) (hA : Ws w w.heap.size A r) (hT : Tab w) :
    Calls Tryd.prog 28 #[.agg #[.int .i64 p, .int .i64 o, .int .i64 q, .slice A r.length c, .int .i64 cc, .int .i64 b, .int .i64 e]] w fun r' w' => r' = .returned (.tuple #[.string (lineHS ⟨p, o, q, r, cc, b, e⟩), .bool true]) ∧ Below w.heap.size w w' := by
  have hr := fun W => hright_any ⟨p, o, q, r, cc, b, e⟩ A c W
  rw [h] at hr
  unfold clV at hr
  simp only at hr
  have hlen : (lineH ⟨p, o, q, r, cc, b, e⟩).length ≤ 1000 := by
    have := lineH_len h (fun z hz => by
      obtain ⟨i, hi⟩ := List.getElem?_of_mem hz
      exact (hA.get hi).1.2)
    omega
  obtain ⟨bp, bo, bb, bq, bc, be, br⟩ := clB_iff.1 h
  simp only at bp bo bb bq bc be br
  clear h
  have hJ := line_six (x := ⟨p, o, q, r, cc, b, e⟩) hrr
  unfold sixB at hJ
  simp only at hJ
  have bp1 := bp.1
  have bo1 := bo.1
  have bb1 := bb.1
  have bp2 : p ≤ 9223372036854775807 := by omega
  have bo2 : o ≤ 9223372036854775807 := by omega
  have bb2 : b ≤ 9223372036854775807 := by omega
  have hi1 := op_at bq
  have hi2 := code_at bc
  have i4 := fun (W : World) (hW : Tab W) => ito_any e W he (by omega) hW
  rw [endS_num he] at i4
  obtain ⟨E, hE⟩ : ∃ E, endS e = E := ⟨_, rfl⟩
  rw [hE] at i4 hJ
  have he1 : decide (0 ≤ e) = true := decide_eq_true he
  change Lib.join (List.map (fun x => x.data.toList) (itS p :: itS o :: opS q :: itS b :: _)) [32] = _ at hJ
  obtain ⟨S2, hS2⟩ : ∃ S, opS q = S := ⟨_, rfl⟩
  obtain ⟨S5, hS5⟩ : ∃ S, codeS cc = S := ⟨_, rfl⟩
  rw [hS2] at hi1
  rw [hS5] at hi2
  rw [hS2, hS5] at hJ
  have hsw : decide (0 < r.length) = false := by rw [hrr]; rfl
  have hrr' := Lib.hid hrr
  clear hrr
  have hJ' := Lib.hid hJ
  have hlen' := Lib.hid hlen
  have i4' := Lib.hid i4
  clear i4
  have he' := Lib.hid he
  have hbnd := Lib.hid (And.intro bp (And.intro bo (And.intro bb (And.intro bq (And.intro bc (And.intro be br))))))
  have hr' := Lib.hid hr
  have hbx := Lib.hid (ClBox.new w ⟨p, o, q, r, cc, b, e⟩ A c)
  have hB0 := (Below.refl w.heap.size w).alloc (Nat.le_refl _) (.cells #[.int .i64 p, .int .i64 o, .int .i64 q, .slice A r.length c, .int .i64 cc, .int .i64 b, .int .i64 e] 45)
  clear hr hJ hlen he bp bo bb bq bc be br hE hS2 hS5
  go_enter Tryd.func28, Tryd.ntmps28
  go_wp2_with fail
  refine (hr'.out _).mono ?_
  rintro ex w0 ⟨rfl, hb0⟩
  have hbx0 := ClBox.kept (x := ⟨p, o, q, r, cc, b, e⟩) hbx.out hb0
  have hB1 := hB0.trans (hb0.mono hB0.size)
  obtain ⟨n, hn⟩ : ∃ n, w.heap.size = n := ⟨_, rfl⟩
  have hT0 := (hT.below (hB0.mono (Nat.le_refl _))).below hb0
  rw [hn] at hbx0 ⊢
  obtain ⟨d0, d1, d2, d3, d4, d5, d6⟩ := hbx0.cells
  simp only at d0 d1 d2 d3 d4 d5 d6
  clear hr' hbx hb0 hB0
  go_wp2_with fail
  refine (i4'.out _ hT0).mono ?_
  rintro ex w1 ⟨rfl, hb1⟩
  have hbx1 := hbx0.kept hb1
  have hB2 := hB1.trans (hb1.mono hB1.size)
  have hT1 := hT0.below hb1
  clear d0 d1 d2 d3 d4 d5 d6 hT0 hbx0 hB1 hb1
  obtain ⟨d0, d1, d2, d3, d4, d5, d6⟩ := hbx1.cells
  simp only at d0 d1 d2 d3 d4 d5 d6
  go_wp2_with fail
  have hSd : HLt w1 n ⟨p, o, q, r, cc, b, e⟩ A c w1.drew := HLt.drew ⟨Below.refl _ _, hT1, hbx1.lt, d0, d1, d2, d3, d4, d5⟩
  clear hT1 hbx1
  go_region_held3 (fun w' => Below w1.heap.size w1 w' ∧ Tab w' ∧ n < w'.heap.size ∧ w'.cell? ⟨n, 0, none⟩ = some (.int .i64 p) ∧ w'.cell? ⟨n, 1, none⟩ = some (.int .i64 o) ∧ w'.cell? ⟨n, 2, none⟩ = some (.int .i64 q) ∧ w'.cell? ⟨n, 3, none⟩ = some (.slice A r.length c) ∧ w'.cell? ⟨n, 4, none⟩ = some (.int .i64 cc) ∧ w'.cell? ⟨n, 5, none⟩ = some (.int .i64 b))
    (first | exact hSd | assumption | exact HLt.alloc (w2 := w1) (n := n) (x := ⟨p, o, q, r, cc, b, e⟩) (A := A) (c := c) (by assumption) _)
    (first
      | (go_at_call 62; refine (ito_any _ _ (by assumption) (by assumption) (HLt.tab (w2 := w1) (n := n) (x := ⟨p, o, q, r, cc, b, e⟩) (A := A) (c := c) (by assumption))).mono ?_; rintro ex wx ⟨rfl, hbx⟩; have hSx := HLt.below (w2 := w1) (n := n) (x := ⟨p, o, q, r, cc, b, e⟩) (A := A) (c := c) (by assumption) hbx)
      | (go_at_call 63; refine (ops_any _).mono ?_; rintro ex wx ⟨rfl, hbx⟩; have hSx := HLt.below (w2 := w1) (n := n) (x := ⟨p, o, q, r, cc, b, e⟩) (A := A) (c := c) (by assumption) hbx)
      | (go_at_call 64; refine (codes_any _).mono ?_; rintro ex wx ⟨rfl, hbx⟩; have hSx := HLt.below (w2 := w1) (n := n) (x := ⟨p, o, q, r, cc, b, e⟩) (A := A) (c := c) (by assumption) hbx))
  all_goals
    have hBx := hB2.trans (hSx.1.mono hB2.size)
    have hwz : n ≠ wx.heap.size := Nat.ne_of_lt hSx.2.2.1
    have hBy := hBx.alloc hBx.size (.cells #[.string (itS p), .string (itS o), .string S2, .string (itS b), .string E, .string S5] 9)
    have hown : Own strs 9 w.heap.size (wx.alloc (.cells #[.string (itS p), .string (itS o), .string S2, .string (itS b), .string E, .string S5] 9)) (.slice (some ⟨wx.heap.size, 0, none⟩) 6 6) [itS p, itS o, S2, itS b, E, S5] :=
      World.ownsRow_lit (e := 9) (base := w.heap.size) (size := 1) wx #[.string (itS p), .string (itS o), .string S2, .string (itS b), .string E, .string S5] 6 hBx.size (by first | decide | rfl | omega) rfl
    have hAx := hA.below hBy hBy.size
    have hTx := hSx.tab.below ((Below.refl _ wx).alloc (Nat.le_refl _) (.cells #[.string (itS p), .string (itS o), .string S2, .string (itS b), .string E, .string S5] 9))
    obtain ⟨_, _, _, e0, e1, e2, e3, e4, e5⟩ := hSx
    have hown' := Lib.hid hown
    have hBy' := Lib.hid hBy
    have hbs := hBx.size
    clear hSd hBx hB2 hown hBy d0 d1 d2 d3 d4 d5 d6 hi1 hi2
    go_wp2_with fail
    refine (join_own w.heap.size _ _ [itS p, itS o, S2, itS b, E, S5] _ hJ'.out (by simp) (by simp) (by have := hlen'.out; omega) hown'.out).mono ?_
    rintro ex w7 ⟨rfl, hb7⟩
    go_wp2_with fail
    go_ret2
    exact ⟨rfl, by first | exact hBy'.out.trans (hb7.mono hBy'.out.size) | (rw [← hn]; exact hBy'.out.trans (hb7.mono hBy'.out.size))⟩

set_option maxRecDepth 100000 in
set_option maxHeartbeats 4000000 in
theorem hline_c (p o q : Int) (r : List Int) (cc b e : Int) (A : Option Addr) (c : Nat) (w : World) (h : clB ⟨p, o, q, r, cc, b, e⟩ = true) (he : e = -1) (hrr : r ≠ []) (hA : Ws w w.heap.size A r) (hT : Tab w) :
    Calls Tryd.prog 28 #[.agg #[.int .i64 p, .int .i64 o, .int .i64 q, .slice A r.length c, .int .i64 cc, .int .i64 b, .int .i64 e]] w fun r' w' => r' = .returned (.tuple #[.string (lineHS ⟨p, o, q, r, cc, b, e⟩), .bool true]) ∧ Below w.heap.size w w' := by
  have hr := fun W => hright_any ⟨p, o, q, r, cc, b, e⟩ A c W
  rw [h] at hr
  unfold clV at hr
  simp only at hr
  have hlen : (lineH ⟨p, o, q, r, cc, b, e⟩).length ≤ 1000 := by
    have := lineH_len h (fun z hz => by
      obtain ⟨i, hi⟩ := List.getElem?_of_mem hz
      exact (hA.get hi).1.2)
    omega
  obtain ⟨bp, bo, bb, bq, bc, be, br⟩ := clB_iff.1 h
  simp only at bp bo bb bq bc be br
  clear h
  have hJ := line_rec (x := ⟨p, o, q, r, cc, b, e⟩) hrr
  unfold sixB at hJ
  simp only at hJ
  have bp1 := bp.1
  have bo1 := bo.1
  have bb1 := bb.1
  have bp2 : p ≤ 9223372036854775807 := by omega
  have bo2 : o ≤ 9223372036854775807 := by omega
  have bb2 : b ≤ 9223372036854775807 := by omega
  have hi1 := op_at bq
  have hi2 := code_at bc
  have hE : endS e = ⟨#[45]⟩ := by rw [he]; rfl
  rw [hE] at hJ
  have he1 : decide (0 ≤ e) = false := by rw [decide_eq_false_iff_not]; omega
  change Lib.join (List.map (fun x => x.data.toList) (itS p :: itS o :: opS q :: itS b :: _)) [32] = _ at hJ
  obtain ⟨S2, hS2⟩ : ∃ S, opS q = S := ⟨_, rfl⟩
  obtain ⟨S5, hS5⟩ : ∃ S, codeS cc = S := ⟨_, rfl⟩
  rw [hS2] at hi1
  rw [hS5] at hi2
  rw [hS2, hS5] at hJ
  have hsw : decide (0 < r.length) = true := by
    rw [decide_eq_true_iff]
    rcases r with _ | ⟨a, t⟩
    · exact absurd rfl hrr
    · simp
  have hsh := fun (W : World) (hb : Below w.heap.size w W) (hW : Tab W) => show_any A c r W (by omega) (hA.below hb hb.size) hW
  have hshE : showS r = recT r := rfl
  rw [hshE] at hsh
  obtain ⟨R, hR⟩ : ∃ R, recT r = R := ⟨_, rfl⟩
  rw [hR] at hsh hJ
  have hsh' := Lib.hid hsh
  have hrr' := Lib.hid hrr
  clear hsh hshE hR hrr
  have hJ' := Lib.hid hJ
  have hlen' := Lib.hid hlen
  have he' := Lib.hid he
  have hbnd := Lib.hid (And.intro bp (And.intro bo (And.intro bb (And.intro bq (And.intro bc (And.intro be br))))))
  have hr' := Lib.hid hr
  have hbx := Lib.hid (ClBox.new w ⟨p, o, q, r, cc, b, e⟩ A c)
  have hB0 := (Below.refl w.heap.size w).alloc (Nat.le_refl _) (.cells #[.int .i64 p, .int .i64 o, .int .i64 q, .slice A r.length c, .int .i64 cc, .int .i64 b, .int .i64 e] 45)
  clear hr hJ hlen he bp bo bb bq bc be br hE hS2 hS5
  go_enter Tryd.func28, Tryd.ntmps28
  go_wp2_with fail
  refine (hr'.out _).mono ?_
  rintro ex w0 ⟨rfl, hb0⟩
  have hbx0 := ClBox.kept (x := ⟨p, o, q, r, cc, b, e⟩) hbx.out hb0
  have hB1 := hB0.trans (hb0.mono hB0.size)
  obtain ⟨n, hn⟩ : ∃ n, w.heap.size = n := ⟨_, rfl⟩
  have hT0 := (hT.below (hB0.mono (Nat.le_refl _))).below hb0
  rw [hn] at hbx0 ⊢
  obtain ⟨d0, d1, d2, d3, d4, d5, d6⟩ := hbx0.cells
  simp only at d0 d1 d2 d3 d4 d5 d6
  clear hr' hbx hb0 hB0
  have hbx1 := hbx0
  have hB2 := hB1
  have hT1 := hT0
  go_wp2_with fail
  have hSd : HLt w0 n ⟨p, o, q, r, cc, b, e⟩ A c w0.drew := HLt.drew ⟨Below.refl _ _, hT1, hbx1.lt, d0, d1, d2, d3, d4, d5⟩
  clear hT1 hbx1
  go_region_held3 (fun w' => Below w0.heap.size w0 w' ∧ Tab w' ∧ n < w'.heap.size ∧ w'.cell? ⟨n, 0, none⟩ = some (.int .i64 p) ∧ w'.cell? ⟨n, 1, none⟩ = some (.int .i64 o) ∧ w'.cell? ⟨n, 2, none⟩ = some (.int .i64 q) ∧ w'.cell? ⟨n, 3, none⟩ = some (.slice A r.length c) ∧ w'.cell? ⟨n, 4, none⟩ = some (.int .i64 cc) ∧ w'.cell? ⟨n, 5, none⟩ = some (.int .i64 b))
    (first | exact hSd | assumption | exact HLt.alloc (w2 := w0) (n := n) (x := ⟨p, o, q, r, cc, b, e⟩) (A := A) (c := c) (by assumption) _)
    (first
      | (go_at_call 62; refine (ito_any _ _ (by assumption) (by assumption) (HLt.tab (w2 := w0) (n := n) (x := ⟨p, o, q, r, cc, b, e⟩) (A := A) (c := c) (by assumption))).mono ?_; rintro ex wx ⟨rfl, hbx⟩; have hSx := HLt.below (w2 := w0) (n := n) (x := ⟨p, o, q, r, cc, b, e⟩) (A := A) (c := c) (by assumption) hbx)
      | (go_at_call 63; refine (ops_any _).mono ?_; rintro ex wx ⟨rfl, hbx⟩; have hSx := HLt.below (w2 := w0) (n := n) (x := ⟨p, o, q, r, cc, b, e⟩) (A := A) (c := c) (by assumption) hbx)
      | (go_at_call 64; refine (codes_any _).mono ?_; rintro ex wx ⟨rfl, hbx⟩; have hSx := HLt.below (w2 := w0) (n := n) (x := ⟨p, o, q, r, cc, b, e⟩) (A := A) (c := c) (by assumption) hbx))
  all_goals
    have hBx := hB2.trans (hSx.1.mono hB2.size)
    have hwz : n ≠ wx.heap.size := Nat.ne_of_lt hSx.2.2.1
    have hBy := hBx.alloc hBx.size (.cells #[.string (itS p), .string (itS o), .string S2, .string (itS b), .string ⟨#[45]⟩, .string S5] 9)
    have hown : Own strs 9 w.heap.size (wx.alloc (.cells #[.string (itS p), .string (itS o), .string S2, .string (itS b), .string ⟨#[45]⟩, .string S5] 9)) (.slice (some ⟨wx.heap.size, 0, none⟩) 6 6) [itS p, itS o, S2, itS b, ⟨#[45]⟩, S5] :=
      World.ownsRow_lit (e := 9) (base := w.heap.size) (size := 1) wx #[.string (itS p), .string (itS o), .string S2, .string (itS b), .string ⟨#[45]⟩, .string S5] 6 hBx.size (by first | decide | rfl | omega) rfl
    have hAx := hA.below hBy hBy.size
    have hTx := hSx.tab.below ((Below.refl _ wx).alloc (Nat.le_refl _) (.cells #[.string (itS p), .string (itS o), .string S2, .string (itS b), .string ⟨#[45]⟩, .string S5] 9))
    obtain ⟨_, _, _, e0, e1, e2, e3, e4, e5⟩ := hSx
    have hown' := Lib.hid hown
    have hBy' := Lib.hid hBy
    have hbs := hBx.size
    clear hSd hBx hB2 hown hBy d0 d1 d2 d3 d4 d5 d6 hi1 hi2
    go_wp2_with fail
    refine (hsh'.out _ hBy'.out hTx).mono ?_
    rintro ex w5 ⟨rfl, hb5⟩
    have hown5 := Lib.hid (hown'.out.below hb5 (Nat.le_refl _))
    have hB5 := hBy'.out.trans (hb5.mono hBy'.out.size)
    have hbs5 := hB5.size
    go_wp2_with (first
        | (at_builtin; refine wpList_app1 rfl _ _ 60 rfl strTy w.heap.size hown5.out rfl rfl rfl rfl (by first | decide | (simp only [List.length_cons, List.length_nil]; unfold maxLen; omega)) (by first | decide | (simp only [List.length_cons, List.length_nil]; omega)) (by omega) ?_; intro v' w6 hown6 hbel6 _)
        | (go_at_call 41; refine (join_own w.heap.size v' w6 ([itS p, itS o, S2, itS b, ⟨#[45]⟩, S5] ++ [R]) _ hJ'.out (by simp) (by simp) (by have := hlen'.out; omega) (Own.app (l := [itS p, itS o, S2, itS b, ⟨#[45]⟩, S5]) (x := R) hown6 rfl)).mono ?_; rintro ex w7 ⟨rfl, hb7⟩))
    have hB6 := hB5.trans hbel6
    go_wp2_with fail
    go_ret2
    exact ⟨rfl, by first | exact hB6.trans (hb7.mono hB6.size) | (rw [← hn]; exact hB6.trans (hb7.mono hB6.size))⟩

set_option maxRecDepth 100000 in
set_option maxHeartbeats 4000000 in
theorem hline_d (p o q : Int) (r : List Int) (cc b e : Int) (A : Option Addr) (c : Nat) (w : World) (h : clB ⟨p, o, q, r, cc, b, e⟩ = true) (he : e = -1) (hrr : r = []) (hA : Ws w w.heap.size A r) (hT : Tab w) :
    Calls Tryd.prog 28 #[.agg #[.int .i64 p, .int .i64 o, .int .i64 q, .slice A r.length c, .int .i64 cc, .int .i64 b, .int .i64 e]] w fun r' w' => r' = .returned (.tuple #[.string (lineHS ⟨p, o, q, r, cc, b, e⟩), .bool true]) ∧ Below w.heap.size w w' := by
  have hr := fun W => hright_any ⟨p, o, q, r, cc, b, e⟩ A c W
  rw [h] at hr
  unfold clV at hr
  simp only at hr
  have hlen : (lineH ⟨p, o, q, r, cc, b, e⟩).length ≤ 1000 := by
    have := lineH_len h (fun z hz => by
      obtain ⟨i, hi⟩ := List.getElem?_of_mem hz
      exact (hA.get hi).1.2)
    omega
  obtain ⟨bp, bo, bb, bq, bc, be, br⟩ := clB_iff.1 h
  simp only at bp bo bb bq bc be br
  clear h
  have hJ := line_six (x := ⟨p, o, q, r, cc, b, e⟩) hrr
  unfold sixB at hJ
  simp only at hJ
  have bp1 := bp.1
  have bo1 := bo.1
  have bb1 := bb.1
  have bp2 : p ≤ 9223372036854775807 := by omega
  have bo2 : o ≤ 9223372036854775807 := by omega
  have bb2 : b ≤ 9223372036854775807 := by omega
  have hi1 := op_at bq
  have hi2 := code_at bc
  have hE : endS e = ⟨#[45]⟩ := by rw [he]; rfl
  rw [hE] at hJ
  have he1 : decide (0 ≤ e) = false := by rw [decide_eq_false_iff_not]; omega
  change Lib.join (List.map (fun x => x.data.toList) (itS p :: itS o :: opS q :: itS b :: _)) [32] = _ at hJ
  obtain ⟨S2, hS2⟩ : ∃ S, opS q = S := ⟨_, rfl⟩
  obtain ⟨S5, hS5⟩ : ∃ S, codeS cc = S := ⟨_, rfl⟩
  rw [hS2] at hi1
  rw [hS5] at hi2
  rw [hS2, hS5] at hJ
  have hsw : decide (0 < r.length) = false := by rw [hrr]; rfl
  have hrr' := Lib.hid hrr
  clear hrr
  have hJ' := Lib.hid hJ
  have hlen' := Lib.hid hlen
  have he' := Lib.hid he
  have hbnd := Lib.hid (And.intro bp (And.intro bo (And.intro bb (And.intro bq (And.intro bc (And.intro be br))))))
  have hr' := Lib.hid hr
  have hbx := Lib.hid (ClBox.new w ⟨p, o, q, r, cc, b, e⟩ A c)
  have hB0 := (Below.refl w.heap.size w).alloc (Nat.le_refl _) (.cells #[.int .i64 p, .int .i64 o, .int .i64 q, .slice A r.length c, .int .i64 cc, .int .i64 b, .int .i64 e] 45)
  clear hr hJ hlen he bp bo bb bq bc be br hE hS2 hS5
  go_enter Tryd.func28, Tryd.ntmps28
  go_wp2_with fail
  refine (hr'.out _).mono ?_
  rintro ex w0 ⟨rfl, hb0⟩
  have hbx0 := ClBox.kept (x := ⟨p, o, q, r, cc, b, e⟩) hbx.out hb0
  have hB1 := hB0.trans (hb0.mono hB0.size)
  obtain ⟨n, hn⟩ : ∃ n, w.heap.size = n := ⟨_, rfl⟩
  have hT0 := (hT.below (hB0.mono (Nat.le_refl _))).below hb0
  rw [hn] at hbx0 ⊢
  obtain ⟨d0, d1, d2, d3, d4, d5, d6⟩ := hbx0.cells
  simp only at d0 d1 d2 d3 d4 d5 d6
  clear hr' hbx hb0 hB0
  have hbx1 := hbx0
  have hB2 := hB1
  have hT1 := hT0
  go_wp2_with fail
  have hSd : HLt w0 n ⟨p, o, q, r, cc, b, e⟩ A c w0.drew := HLt.drew ⟨Below.refl _ _, hT1, hbx1.lt, d0, d1, d2, d3, d4, d5⟩
  clear hT1 hbx1
  go_region_held3 (fun w' => Below w0.heap.size w0 w' ∧ Tab w' ∧ n < w'.heap.size ∧ w'.cell? ⟨n, 0, none⟩ = some (.int .i64 p) ∧ w'.cell? ⟨n, 1, none⟩ = some (.int .i64 o) ∧ w'.cell? ⟨n, 2, none⟩ = some (.int .i64 q) ∧ w'.cell? ⟨n, 3, none⟩ = some (.slice A r.length c) ∧ w'.cell? ⟨n, 4, none⟩ = some (.int .i64 cc) ∧ w'.cell? ⟨n, 5, none⟩ = some (.int .i64 b))
    (first | exact hSd | assumption | exact HLt.alloc (w2 := w0) (n := n) (x := ⟨p, o, q, r, cc, b, e⟩) (A := A) (c := c) (by assumption) _)
    (first
      | (go_at_call 62; refine (ito_any _ _ (by assumption) (by assumption) (HLt.tab (w2 := w0) (n := n) (x := ⟨p, o, q, r, cc, b, e⟩) (A := A) (c := c) (by assumption))).mono ?_; rintro ex wx ⟨rfl, hbx⟩; have hSx := HLt.below (w2 := w0) (n := n) (x := ⟨p, o, q, r, cc, b, e⟩) (A := A) (c := c) (by assumption) hbx)
      | (go_at_call 63; refine (ops_any _).mono ?_; rintro ex wx ⟨rfl, hbx⟩; have hSx := HLt.below (w2 := w0) (n := n) (x := ⟨p, o, q, r, cc, b, e⟩) (A := A) (c := c) (by assumption) hbx)
      | (go_at_call 64; refine (codes_any _).mono ?_; rintro ex wx ⟨rfl, hbx⟩; have hSx := HLt.below (w2 := w0) (n := n) (x := ⟨p, o, q, r, cc, b, e⟩) (A := A) (c := c) (by assumption) hbx))
  all_goals
    have hBx := hB2.trans (hSx.1.mono hB2.size)
    have hwz : n ≠ wx.heap.size := Nat.ne_of_lt hSx.2.2.1
    have hBy := hBx.alloc hBx.size (.cells #[.string (itS p), .string (itS o), .string S2, .string (itS b), .string ⟨#[45]⟩, .string S5] 9)
    have hown : Own strs 9 w.heap.size (wx.alloc (.cells #[.string (itS p), .string (itS o), .string S2, .string (itS b), .string ⟨#[45]⟩, .string S5] 9)) (.slice (some ⟨wx.heap.size, 0, none⟩) 6 6) [itS p, itS o, S2, itS b, ⟨#[45]⟩, S5] :=
      World.ownsRow_lit (e := 9) (base := w.heap.size) (size := 1) wx #[.string (itS p), .string (itS o), .string S2, .string (itS b), .string ⟨#[45]⟩, .string S5] 6 hBx.size (by first | decide | rfl | omega) rfl
    have hAx := hA.below hBy hBy.size
    have hTx := hSx.tab.below ((Below.refl _ wx).alloc (Nat.le_refl _) (.cells #[.string (itS p), .string (itS o), .string S2, .string (itS b), .string ⟨#[45]⟩, .string S5] 9))
    obtain ⟨_, _, _, e0, e1, e2, e3, e4, e5⟩ := hSx
    have hown' := Lib.hid hown
    have hBy' := Lib.hid hBy
    have hbs := hBx.size
    clear hSd hBx hB2 hown hBy d0 d1 d2 d3 d4 d5 d6 hi1 hi2
    go_wp2_with fail
    refine (join_own w.heap.size _ _ [itS p, itS o, S2, itS b, ⟨#[45]⟩, S5] _ hJ'.out (by simp) (by simp) (by have := hlen'.out; omega) hown'.out).mono ?_
    rintro ex w7 ⟨rfl, hb7⟩
    go_wp2_with fail
    go_ret2
    exact ⟨rfl, by first | exact hBy'.out.trans (hb7.mono hBy'.out.size) | (rw [← hn]; exact hBy'.out.trans (hb7.mono hBy'.out.size))⟩

theorem hline_yes (x : Cl) (A : Option Addr) (c : Nat) (w : World) (h : clB x = true) (hA : Ws w w.heap.size A x.r) (hT : Tab w) :
    Calls Tryd.prog 28 #[clV x A c] w fun r' w' => r' = .returned (.tuple #[.string (lineHS x), .bool true]) ∧ Below w.heap.size w w' := by
  obtain ⟨p, o, q, r, cc, b, e⟩ := x
  have be := (clB_iff.1 h).e
  simp only at be hA
  by_cases hr : r = []
  · by_cases he : 0 ≤ e
    · exact hline_b p o q r cc b e A c w h he hr hA hT
    · exact hline_d p o q r cc b e A c w h (by omega) hr hA hT
  · by_cases he : 0 ≤ e
    · exact hline_a p o q r cc b e A c w h he hr hA hT
    · exact hline_c p o q r cc b e A c w h (by omega) hr hA hT

end Go.Proofs.YtkcdmonmgnmojaaDoor
