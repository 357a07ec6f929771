/- Histories: a call's line, at the chapter's example. -/
import Derived.Test.YtopclkkkchhgiaaDoorHis5
import Derived.Test.YtopclkkkchhgiaaDoorItoa
import Derived.Test.YtopclkkkchhgiaaDoorShow
import Derived.Test.YtopclkkkchhgiaaDoorStrTy
import Derived.Deep.RegionHeld3
namespace Go.Proofs.YtopclkkkchhgiaaDoor
open Go.RowKit

def exC : Cl := ⟨2, 0, 1, [7, 8], 0, 5, 9⟩
def itS (n : Int) : ByteArray := numS n.toNat
theorem ito_any (n : Int) (w : World) (h0 : 0 ≤ n) (h1 : n ≤ 9223372036854775807) (hT : Tab w) :
    Calls Tryd.prog 33 #[.int .i64 n] w fun e w' => e = .returned (.string (itS n)) ∧ Below w.heap.size w w' := itoa_any n w h0 h1 hT
def opsA : Array Value := #[.string ⟨#[]⟩, .string ⟨#[114, 101, 97, 100]⟩, .string ⟨#[119, 114, 105, 116, 101]⟩, .string ⟨#[112, 117, 116]⟩, .string ⟨#[116, 97, 107, 101]⟩]
def codesA : Array Value := #[.string ⟨#[103, 111, 111, 100]⟩, .string ⟨#[114, 101, 116, 114, 121]⟩, .string ⟨#[102, 117, 108, 108]⟩, .string ⟨#[101, 109, 112, 116, 121]⟩]
theorem ops_any (w : World) : Calls Tryd.prog 62 #[] w fun e w' => e = .returned (.agg opsA) ∧ Below w.heap.size w w' := by
  go_enter Tryd.func62, Tryd.ntmps62
  go_wp2_with fail
  refine bodyPost_ret (v := .agg opsA) (by simp [results, go_sem]; rfl) rfl ?_
  exact ⟨rfl, (Below.refl _ w).alloc (Nat.le_refl _) _⟩
theorem codes_any (w : World) : Calls Tryd.prog 63 #[] w fun e w' => e = .returned (.agg codesA) ∧ Below w.heap.size w w' := by
  go_enter Tryd.func63, Tryd.ntmps63
  go_wp2_with fail
  refine bodyPost_ret (v := .agg codesA) (by simp [results, go_sem]; rfl) rfl ?_
  exact ⟨rfl, (Below.refl _ w).alloc (Nat.le_refl _) _⟩
theorem op_at (W : World) : (Instr.index 90 (.agg opsA) (.int .i64 1)).run Tryd.prog W = .ok (.string ⟨#[114, 101, 97, 100]⟩) W := by
  simp [Instr.index, opsA, go_sem] <;> rfl
theorem code_at (W : World) : (Instr.index 92 (.agg codesA) (.int .i64 0)).run Tryd.prog W = .ok (.string ⟨#[103, 111, 111, 100]⟩) W := by
  simp [Instr.index, codesA, go_sem] <;> rfl

def exT : List ByteArray := [itS 2, itS 0, ⟨#[114, 101, 97, 100]⟩, itS 5, itS 9, ⟨#[103, 111, 111, 100]⟩, showS [7, 8]]
theorem ex_join : Lib.join (exT.map (·.data.toList)) [32] = [50, 32, 48, 32, 114, 101, 97, 100, 32, 53, 32, 57, 32, 103, 111, 111, 100, 32, 55, 32, 56] := by
  unfold exT itS numS showS showL
  simp only [List.map_cons, List.map_nil]
  rw [show Int.toNat 2 = 2 from rfl, show Int.toNat 0 = 0 from rfl, show Int.toNat 5 = 5 from rfl, show Int.toNat 9 = 9 from rfl, show Int.toNat 7 = 7 from rfl, show Int.toNat 8 = 8 from rfl, dd_small (show (2 : Nat) < 10 by omega), dd_small (show (0 : Nat) < 10 by omega), dd_small (show (5 : Nat) < 10 by omega), dd_small (show (9 : Nat) < 10 by omega), dd_small (show (7 : Nat) < 10 by omega), dd_small (show (8 : Nat) < 10 by omega)]
  rfl

/-- What the region of history.Line keeps. -/
def HLt (w2 : World) (n : Nat) (A : Option Addr) (c : Nat) (w' : World) : Prop :=
  Below w2.heap.size w2 w' ∧ Tab w' ∧ n < w'.heap.size ∧ w'.cell? ⟨n, 0, none⟩ = some (.int .i64 2) ∧ w'.cell? ⟨n, 1, none⟩ = some (.int .i64 0) ∧ w'.cell? ⟨n, 2, none⟩ = some (.int .i64 1) ∧ w'.cell? ⟨n, 3, none⟩ = some (.slice A 2 c) ∧ w'.cell? ⟨n, 4, none⟩ = some (.int .i64 0) ∧ w'.cell? ⟨n, 5, none⟩ = some (.int .i64 5)
section
variable {w2 w w' : World} {n : Nat} {A : Option Addr} {c : Nat}
theorem HLt.below (h : HLt w2 n A c w) (hb : Below w.heap.size w w') : HLt w2 n A c w' := by
  obtain ⟨h1, h2, h3, a0, a1, a2, a3, a4, a5⟩ := h
  have hk : ∀ {i : Nat} {u : Value}, w.cell? ⟨n, i, none⟩ = some u → w'.cell? ⟨n, i, none⟩ = some u := fun {i u} hc => (hb.cell (p := ⟨n, i, none⟩) (cell_lt hc)).trans hc
  exact ⟨h1.trans (hb.mono h1.size), h2.below hb, Nat.lt_of_lt_of_le h3 hb.size, hk a0, hk a1, hk a2, hk a3, hk a4, hk a5⟩
theorem HLt.tab (h : HLt w2 n A c w) : Tab w := h.2.1
theorem HLt.drew (h : HLt w2 n A c w) : HLt w2 n A c w.drew := h.below (Below.refl _ w).drew
theorem HLt.alloc (h : HLt w2 n A c w) (o : Obj) : HLt w2 n A c (w.alloc o) := h.below ((Below.refl _ w).alloc (Nat.le_refl _) o)
end

theorem join_own (base : Nat) (v : Value) (w : World) (h : Own strs 9 base w v exT) : Calls Tryd.prog 34 #[v, .string ⟨#[32]⟩] w fun e w' => e = .returned (.string ⟨#[50, 32, 48, 32, 114, 101, 97, 100, 32, 53, 32, 57, 32, 103, 111, 111, 100, 32, 55, 32, 56]⟩) ∧ Below w.heap.size w w' := by
  obtain ⟨A', c', rfl, hcl, hne, hsl⟩ := h.sl
  obtain ⟨bk, o, rfl, hbk, _⟩ := hsl 0 (itS 2) rfl
  have hcells : ∀ (j : Nat) x, exT[j]? = some x → w.cell? ⟨bk, o + j, none⟩ = some (.string x) := by
    intro j x hx
    obtain ⟨b1, o1, e1, _, hc1⟩ := hsl j x hx
    injection e1 with e1
    injection e1 with e1 e2
    subst e1 e2
    have := hc1 0 _ rfl
    simpa [strs, Enc.of1] using this
  have hcon := Tryd.strings_Join bk o c' exT ⟨#[32]⟩ w hcells hbk (by decide) hcl.1 (by rw [show (⟨#[32]⟩ : ByteArray).data.toList = [32] from rfl, ex_join]; decide)
  rw [show (⟨#[32]⟩ : ByteArray).data.toList = [32] from rfl, ex_join] at hcon
  exact hcon

set_option maxRecDepth 100000 in
set_option maxHeartbeats 4000000 in
theorem hline_ex (A : Option Addr) (c : Nat) (w : World) (hA : Ws w w.heap.size A [7, 8]) (hT : Tab w) : Calls Tryd.prog 49 #[.agg #[.int .i64 2, .int .i64 0, .int .i64 1, .slice A 2 c, .int .i64 0, .int .i64 5, .int .i64 9]] w fun r w' => r = .returned (.tuple #[.string ⟨#[50, 32, 48, 32, 114, 101, 97, 100, 32, 53, 32, 57, 32, 103, 111, 111, 100, 32, 55, 32, 56]⟩, .bool true]) ∧ Below w.heap.size w w' := by
  have hr := fun W => hright_any exC A c W
  unfold clV at hr
  rw [show clB exC = true by decide] at hr
  simp only [exC, List.length_cons, List.length_nil, Nat.zero_add] at hr
  have hr' := Lib.hid hr
  clear hr
  have hbx := ClBox.new w exC A c
  unfold exC at hbx
  have hbx' := Lib.hid hbx
  have hB0 := (Below.refl w.heap.size w).alloc (Nat.le_refl _) (.cells #[.int .i64 2, .int .i64 0, .int .i64 1, .slice A 2 c, .int .i64 0, .int .i64 5, .int .i64 9] 47)
  clear hbx
  go_enter Tryd.func49, Tryd.ntmps49
  go_wp2_with fail
  refine (hr'.out _).mono ?_
  rintro e w0 ⟨rfl, hb0⟩
  have hbx0 := ClBox.kept (x := ⟨2, 0, 1, [7, 8], 0, 5, 9⟩) hbx'.out hb0
  have hB1 := hB0.trans (hb0.mono hB0.size)
  obtain ⟨n, hn⟩ : ∃ n, w.heap.size = n := ⟨_, rfl⟩
  have hT0 := (hT.below (hB0.mono (Nat.le_refl _))).below hb0
  rw [hn] at hbx0 ⊢
  obtain ⟨d0, d1, d2, d3, d4, d5, d6⟩ := hbx0.cells
  simp only at d0 d1 d2 d3 d4 d5 d6
  clear hr' hbx' hb0 hB0
  go_wp2_with fail
  refine (ito_any 9 _ (by omega) (by omega) hT0).mono ?_
  rintro e w1 ⟨rfl, hb1⟩
  have hbx1 := hbx0.kept hb1
  have hB2 := hB1.trans (hb1.mono hB1.size)
  have hT1 := hT0.below hb1
  clear d0 d1 d2 d3 d4 d5 d6 hT0 hbx0 hB1 hb1
  obtain ⟨d0, d1, d2, d3, d4, d5, d6⟩ := hbx1.cells
  simp only [List.length_cons, List.length_nil, Nat.zero_add, Nat.reduceAdd] at d0 d1 d2 d3 d4 d5 d6
  go_wp2_with fail
  have hSd : HLt w1 n A c w1.drew := HLt.drew ⟨Below.refl _ _, hT1, hbx1.lt, d0, d1, d2, d3, d4, d5⟩
  have hi1 := op_at
  have hi2 := code_at
  clear hT1 hbx1
  go_region_held3 (fun w' => Below w1.heap.size w1 w' ∧ Tab w' ∧ n < w'.heap.size ∧ w'.cell? ⟨n, 0, none⟩ = some (.int .i64 2) ∧ w'.cell? ⟨n, 1, none⟩ = some (.int .i64 0) ∧ w'.cell? ⟨n, 2, none⟩ = some (.int .i64 1) ∧ w'.cell? ⟨n, 3, none⟩ = some (.slice A 2 c) ∧ w'.cell? ⟨n, 4, none⟩ = some (.int .i64 0) ∧ w'.cell? ⟨n, 5, none⟩ = some (.int .i64 5))
    (first | exact hSd | assumption | exact HLt.alloc (w2 := w1) (n := n) (A := A) (c := c) (by assumption) _)
    (first
      | (go_at_call 33; refine (ito_any _ _ (by omega) (by omega) (HLt.tab (w2 := w1) (n := n) (A := A) (c := c) (by assumption))).mono ?_; rintro e wx ⟨rfl, hbx⟩; have hSx := HLt.below (w2 := w1) (n := n) (A := A) (c := c) (by assumption) hbx)
      | (go_at_call 62; refine (ops_any _).mono ?_; rintro e wx ⟨rfl, hbx⟩; have hSx := HLt.below (w2 := w1) (n := n) (A := A) (c := c) (by assumption) hbx)
      | (go_at_call 63; refine (codes_any _).mono ?_; rintro e wx ⟨rfl, hbx⟩; have hSx := HLt.below (w2 := w1) (n := n) (A := A) (c := c) (by assumption) hbx))
  all_goals
    have hBx := hB2.trans (hSx.1.mono hB2.size)
    have hwz : n ≠ wx.heap.size := Nat.ne_of_lt hSx.2.2.1
    have hBy := hBx.alloc hBx.size (.cells #[.string (itS 2), .string (itS 0), .string ⟨#[114, 101, 97, 100]⟩, .string (itS 5), .string (itS 9), .string ⟨#[103, 111, 111, 100]⟩] 9)
    have hown : Own strs 9 w.heap.size (wx.alloc (.cells #[.string (itS 2), .string (itS 0), .string ⟨#[114, 101, 97, 100]⟩, .string (itS 5), .string (itS 9), .string ⟨#[103, 111, 111, 100]⟩] 9)) (.slice (some ⟨wx.heap.size, 0, none⟩) 6 6) [itS 2, itS 0, ⟨#[114, 101, 97, 100]⟩, itS 5, itS 9, ⟨#[103, 111, 111, 100]⟩] :=
      World.ownsRow_lit (e := 9) (base := w.heap.size) (size := 1) wx #[.string (itS 2), .string (itS 0), .string ⟨#[114, 101, 97, 100]⟩, .string (itS 5), .string (itS 9), .string ⟨#[103, 111, 111, 100]⟩] 6 hBx.size (by decide) rfl
    have hAx := hA.below hBy hBy.size
    have hTx := hSx.tab.below ((Below.refl _ wx).alloc (Nat.le_refl _) (.cells #[.string (itS 2), .string (itS 0), .string ⟨#[114, 101, 97, 100]⟩, .string (itS 5), .string (itS 9), .string ⟨#[103, 111, 111, 100]⟩] 9))
    obtain ⟨_, _, _, e0, e1, e2, e3, e4, e5⟩ := hSx
    have hown' := Lib.hid hown
    have hBy' := Lib.hid hBy
    have hbs := hBx.size
    clear hSd hBx hB2 hown hBy d0 d1 d2 d3 d4 d5 d6 hi1 hi2
    go_wp2_with fail
    refine (show_any A c [7, 8] _ (by decide) hAx hTx).mono ?_
    rintro e w5 ⟨rfl, hb5⟩
    have hown5 := Lib.hid (hown'.out.below hb5 (Nat.le_refl _))
    have hB5 := hBy'.out.trans (hb5.mono hBy'.out.size)
    have hbs5 := hB5.size
    go_wp2_with (first
        | (at_builtin; refine wpList_app1 rfl _ _ 54 rfl strTy w.heap.size hown5.out rfl rfl rfl rfl (by decide) (by decide) (by omega) ?_; intro v' w6 hown6 hbel6 _)
        | (go_at_call 34; refine (join_own w.heap.size v' w6 (Own.app (l := [itS 2, itS 0, ⟨#[114, 101, 97, 100]⟩, itS 5, itS 9, ⟨#[103, 111, 111, 100]⟩]) (x := showS [7, 8]) hown6 rfl)).mono ?_; rintro e w7 ⟨rfl, hb7⟩))
    have hB6 := hB5.trans hbel6
    go_wp2_with fail
    go_ret2
    exact ⟨rfl, by first | exact hB6.trans (hb7.mono hB6.size) | (rw [← hn]; exact hB6.trans (hb7.mono hB6.size))⟩

end Go.Proofs.YtopclkkkchhgiaaDoor
