/- trace.Print, and the reference's: events' text. The law AsmTexts, walked. The law AsmBack, walked. -/
import Derived.Test.YtkcdmonmgnmojaaDoorAsmM1
import Derived.Test.YtkcdmonmgnmojaaDoorAsmL
import Derived.Test.YtkcdmonmgnmojaaDoorAsmV5
import Derived.Test.YtkcdmonmgnmojaaDoorAsmM2
import Derived.Test.YtkcdmonmgnmojaaDoorAsmM3
import Derived.Test.YtkcdmonmgnmojaaDoorAsmAw
namespace Go.Proofs.YtkcdmonmgnmojaaDoor
open Go.RowKit

def textS (l : List Ins) : ByteArray := ⟨(textOf l).toArray⟩
def printS (l : List Ins) : ByteArray := if okAll l = true then textS l else ⟨#[]⟩
theorem okAll_snoc {l : List Ins} {k : Nat} {e : Ins} (h : l[k]? = some e) : okAll (l.take (k + 1)) = (okAll (l.take k) && insB e) := by
  rw [take_snoc h]
  unfold okAll
  rw [List.all_append]
  simp
theorem okAll_no {l : List Ins} {k : Nat} {e : Ins} (h : l[k]? = some e) (he : insB e = false) : okAll l = false := by
  unfold okAll
  rw [List.all_eq_false]
  exact ⟨e, List.mem_of_getElem? h, by rw [he]; simp⟩
theorem textOf_take {l : List Ins} {k : Nat} {e : Ins} (h : l[k]? = some e) : textOf (l.take (k + 1)) = textOf (l.take k) ++ (lineL e ++ [10]) := by rw [take_snoc h, textOf_snoc]
theorem textOf_len (l : List Ins) (h : okAll l = true) (hk : ∀ e ∈ l, e.ok) : (textOf l).length ≤ 64 * l.length := by
  induction l with
  | nil => simp [textOf]
  | cons e l ih =>
    unfold okAll at h ih
    rw [List.all_cons, Bool.and_eq_true] at h
    have h1 := lineL_len h.1 (hk e (by simp))
    have h2 := ih h.2 (fun x hx => hk x (by simp [hx]))
    have : textOf (e :: l) = lineL e ++ [10] ++ textOf l := by simp [textOf]
    rw [this]
    simp only [List.length_append, List.length_cons, List.length_nil]
    omega
theorem lineS_size {e : Ins} (h : insB e = true) (hk : e.ok) : (lineS e).size ≤ 63 := by
  have h1 := lineL_len h hk
  have : (lineS e).size = (lineL e).length := by simp [lineS, ByteArray.size]
  omega

set_option maxRecDepth 100000 in
set_option maxHeartbeats 2000000 in
theorem rprint_any (A : Option Addr) (c : Nat) (l : List Ins) (w : World) (hn : l.length ≤ 3000) (hl : InSl w w.heap.size A l) :
    Calls Tryd.prog 17 #[.slice A l.length c] w fun e w' => e = .returned (.tuple #[.string (printS l), .bool (okAll l)]) ∧ Below w.heap.size w w' := by
  go_enter Tryd.func17, Tryd.ntmps17
  go_wp2_with fail
  go_loopw [4, 9] (fun s j wr => ∃ k : Nat, k ≤ l.length ∧ j = .int .i64 k ∧ s = .string ⟨(textOf (l.take k)).toArray⟩ ∧ okAll (l.take k) = true ∧ Below w.heap.size w wr) (fun _ j _ => l.length - (intOf j).toNat)
  case atStart => exact ⟨0, Nat.zero_le _, rfl, rfl, rfl, Below.refl _ _⟩
  case round =>
    obtain ⟨k, hk, rfl, rfl, hok, hb⟩ := hrel
    by_cases hlt : k < l.length
    · obtain ⟨e, he⟩ := get_some hlt
      obtain ⟨hke, b, off, rfl, hlb, h0, h1, h2, h3, h4⟩ := (hl.below hb (Nat.le_refl _)).get he
      have hsz := textOf_len (l.take k) hok (fun x hx => hl.2 x (List.mem_of_mem_take hx))
      rw [List.length_take] at hsz
      obtain ⟨S, hS⟩ : ∃ S : ByteArray, (⟨(textOf (l.take k)).toArray⟩ : ByteArray) = S := ⟨_, rfl⟩
      have hSs : S.size ≤ 64 * 3000 := by
        rw [← hS]
        have : (⟨(textOf (l.take k)).toArray⟩ : ByteArray).size = (textOf (l.take k)).length := by simp [ByteArray.size]
        omega
      have hrr := fun W => rright_any e W
      have hln := fun W h => rline_any e W h hke
      have hbx := InBox.new wr e
      have hB1 := hb.alloc hb.size (.cells #[.int .i64 e.op, .int .i64 e.a, .int .i64 e.b, .int .i64 e.c, .int .u32 e.n] 24)
      have hsz1 : w.heap.size ≤ (wr.alloc (.cells #[.int .i64 e.op, .int .i64 e.a, .int .i64 e.b, .int .i64 e.c, .int .u32 e.n] 24)).heap.size := hB1.size
      obtain ⟨nb, hnb⟩ : ∃ x, wr.heap.size = x := ⟨_, rfl⟩
      have hS' := Lib.hid hS
      have he' := Lib.hid he
      have hok' := Lib.hid hok
      rw [hS]
      clear hS he hok hsz
      rcases hq : insB e with _ | _
      · rw [hq] at hrr
        have hno := Lib.hid (okAll_no he'.out hq)
        have hrr' := Lib.hid hrr
        clear hrr hln hq
        go_wp2_with fail
        refine (hrr'.out _).mono ?_
        rintro e1 w1 ⟨rfl, hb1⟩
        go_wp2_with fail
        go_ret2
        exact ⟨by unfold printS; rw [hno.out]; rfl, hB1.trans (hb1.mono hsz1)⟩
      · have hR := hq
        have hD := lineS_size hR hke
        have hln' := Lib.hid (fun W => hln W hR)
        rw [hq] at hrr
        have hq' := Lib.hid hq
        have hrr' := Lib.hid hrr
        obtain ⟨D, hDe⟩ : ∃ D, lineS e = D := ⟨_, rfl⟩
        rw [hDe] at hln' hD
        have hDe' := Lib.hid hDe
        clear hrr hln hq hR hDe
        have z1 : ¬ 9223372036854775807 < S.size + D.size := by omega
        have z2 : ¬ 9223372036854775807 < S.size + D.size + 1 := by omega
        go_wp2_with fail
        refine (hrr'.out _).mono ?_
        rintro e1 w1 ⟨rfl, hb1⟩
        have hbx1 := hbx.kept hb1
        have hB2 := hB1.trans (hb1.mono hsz1)
        rw [hnb] at hbx1
        obtain ⟨c0, c1, c2, c3, c4⟩ := hbx1.cells
        clear hbx hbx1 hb1 hB1 hsz1
        go_wp2_with fail
        refine (hln'.out _).mono ?_
        rintro e2 w2 ⟨rfl, hb2⟩
        go_wp2_with fail
        go_roundw
        case rel => exact ⟨k + 1, by omega, by go_num, by
            rw [textOf_take he'.out, ← hS'.out, ← hDe'.out]
            refine congrArg Value.string (ByteArray.ext ?_)
            simp [lineS], by rw [okAll_snoc he'.out, hok'.out, hq'.out]; rfl, hB2.trans (hb2.mono hB2.size)⟩
        case measure => simp [intOf]; omega
    · have ht := take_all hlt
      rw [ht] at hok ⊢
      have hok' := Lib.hid hok
      clear hok
      go_wp2_with fail
      go_ret2
      exact ⟨by unfold printS textS; rw [hok'.out]; rfl, hb⟩

theorem builder_kept {B b : Nat} {bs : List Value} {w w' : World} (h : Lib.IsBuilder 81 5 B b bs w) (hb : Below w.heap.size w w') : Lib.IsBuilder 81 5 B b bs w' := by
  have key : ∀ p, Lib.BuilderAt 81 5 B b p bs w → Lib.BuilderAt 81 5 B b p bs w' := fun p ⟨h1, v, h2, h3, h4⟩ =>
    ⟨h1, v, (hb.block b (Array.getElem?_eq_some_iff.1 h2).1).trans h2, (by
      refine ⟨h3.1, ?_⟩
      rcases h3.2 with h5 | ⟨g, cap, cur, hv, hg, hh, r⟩
      · exact .inl h5
      · exact .inr ⟨g, cap, cur, hv, hg, (hb.block g (Array.getElem?_eq_some_iff.1 hh).1).trans hh, r⟩), h4⟩
  rcases h with h | h
  · exact .inl (key _ h)
  · exact .inr (key _ h)
theorem builder_new (w : World) : Lib.IsBuilder 81 5 w.heap.size w.heap.size [] (w.alloc (.cells #[.pointer none, .slice none 0 0] 81)) :=
  .inl ⟨Nat.le_refl _, .slice none 0 0, heap_alloc_new w _, World.ownsRow_nil _ _ _ _, by simp [Value.ownBlock]⟩
theorem str_bytes (l : List UInt8) (s : ByteArray) : Lib.byteCells l ++ Lib.strCells s = Lib.byteCells (l ++ s.data.toList) := by rw [Lib.byteCells_append]; rfl

set_option maxRecDepth 100000 in
set_option maxHeartbeats 2000000 in
theorem print_any (A : Option Addr) (c : Nat) (l : List Ins) (w : World) (hn : l.length ≤ 3000) (hl : InSl w w.heap.size A l) (hT : Tab w) :
    Calls Tryd.prog 16 #[.slice A l.length c] w fun e w' => e = .returned (.tuple #[.string (printS l), .bool (okAll l)]) ∧ Below w.heap.size w w' := by
  have hbn := Lib.hid (builder_new w)
  have hb0 := Lib.hid ((Below.refl w.heap.size w).alloc (Nat.le_refl _) (.cells #[.pointer none, .slice none 0 0] 81))
  obtain ⟨B, hB⟩ : ∃ x, w.heap.size = x := ⟨_, rfl⟩
  go_enter Tryd.func16, Tryd.ntmps16
  go_wp2_with fail
  go_loopw [11] (fun j wr => ∃ k : Nat, k ≤ l.length ∧ j = .int .i64 k ∧ Lib.IsBuilder 81 5 B B (Lib.byteCells (textOf (l.take k))) wr ∧ okAll (l.take k) = true ∧ Below w.heap.size w wr) (fun j _ => l.length - (intOf j).toNat)
  case atStart => exact ⟨0, Nat.zero_le _, rfl, by rw [← hB]; exact hbn.out, rfl, hb0.out⟩
  case round =>
    obtain ⟨k, hk, rfl, hbld, hok, hb⟩ := hrel
    by_cases hlt : k < l.length
    · obtain ⟨e, he⟩ := get_some hlt
      obtain ⟨hke, b, off, rfl, hlb, h0, h1, h2, h3, h4⟩ := (hl.below hb (Nat.le_refl _)).get he
      have hsz := textOf_len (l.take k) hok (fun x hx => hl.2 x (List.mem_of_mem_take hx))
      rw [List.length_take] at hsz
      have hB1 := hb.alloc hb.size (.cells #[.int .i64 e.op, .int .i64 e.a, .int .i64 e.b, .int .i64 e.c, .int .u32 e.n] 24)
      have hln := line_any e hke (wr.alloc (.cells #[.int .i64 e.op, .int .i64 e.a, .int .i64 e.b, .int .i64 e.c, .int .u32 e.n] 24)) (hT.below hB1)
      have hbld1 := builder_kept hbld ((Below.refl _ wr).alloc (Nat.le_refl _) (.cells #[.int .i64 e.op, .int .i64 e.a, .int .i64 e.b, .int .i64 e.c, .int .u32 e.n] 24))
      have hsz1 : w.heap.size ≤ (wr.alloc (.cells #[.int .i64 e.op, .int .i64 e.a, .int .i64 e.b, .int .i64 e.c, .int .u32 e.n] 24)).heap.size := hB1.size
      have hbld' := Lib.hid hbld1
      have he' := Lib.hid he
      have hok' := Lib.hid hok
      clear he hok hbld hbld1
      rcases hq : insB e with _ | _
      · rw [hq, if_neg (by decide)] at hln
        have hno := Lib.hid (okAll_no he'.out hq)
        have hln' := Lib.hid hln
        clear hln hq
        go_wp2_with fail
        refine hln'.out.mono ?_
        rintro e1 w1 ⟨rfl, hb1⟩
        go_wp2_with fail
        go_ret2
        exact ⟨by unfold printS; rw [hno.out]; rfl, hB1.trans (hb1.mono hsz1)⟩
      · have hR := hq
        have hD := lineS_size hR hke
        rw [hq, if_pos rfl] at hln
        have hq' := Lib.hid hq
        obtain ⟨D, hDe⟩ : ∃ D, lineS e = D := ⟨_, rfl⟩
        rw [hDe] at hln hD
        have hDe' := Lib.hid hDe
        have hln' := Lib.hid hln
        clear hln hq hR hDe
        have z2 : ¬ 9223372036854775807 < D.size + 1 := by omega
        have z3 : ¬ 9223372036854775807 ≤ D.size := by omega
        have hDn : (D ++ (⟨#[10]⟩ : ByteArray)).size = D.size + 1 := by rw [ByteArray.size_append]; rfl
        go_wp2_with fail
        refine hln'.out.mono ?_
        rintro e1 w1 ⟨rfl, hb1⟩
        have hbld2 := builder_kept hbld'.out hb1
        have hB2 := hB1.trans (hb1.mono hsz1)
        have hwr := write_any B B (Lib.byteCells (textOf (l.take k))) (D ++ ⟨#[10]⟩) w1 hbld2 (by rw [Lib.byteCells_length, hDn]; omega) (by rw [← hB]; exact hB2.size)
        have hwr' := Lib.hid hwr
        clear hb1 hB1 hsz1 hwr hbld2
        go_wp2_with fail
        refine hwr'.out.mono ?_
        rintro e2 w2 ⟨rfl, hbld3, hb2⟩
        have hb3 := Lib.hid hbld3
        clear hbld3
        go_wp2_with fail
        go_roundw
        case rel => exact ⟨k + 1, by omega, by go_num, by
            have h := hb3.out
            rw [str_bytes] at h
            rw [textOf_take he'.out]
            have e3 : (D ++ (⟨#[10]⟩ : ByteArray)).data.toList = lineL e ++ [10] := by rw [← hDe'.out]; simp [lineS]
            rw [e3] at h
            exact h, by rw [okAll_snoc he'.out, hok'.out, hq'.out]; rfl, hB2.trans (by rw [hB]; exact hb2)⟩
        case measure => simp [intOf]; omega
    · have ht := take_all hlt
      rw [ht] at hok hbld
      have hok' := Lib.hid hok
      have hst := Lib.hid (Tryd.Builder_String_any B B (textOf l) wr hbld (by rw [← hB]; exact hb.size))
      clear hok hbld
      go_wp2_with fail
      refine hst.out.mono ?_
      rintro e2 w2 ⟨rfl, hb2⟩
      go_wp2_with fail
      go_ret2
      exact ⟨by unfold printS textS; rw [hok'.out]; rfl, hb.trans (by rw [hB]; exact hb2)⟩

end Go.Proofs.YtkcdmonmgnmojaaDoor

namespace Go.Proofs.YtkcdmonmgnmojaaDoor
open Go.RowKit

theorem lns_mem (l : List UInt8) : ∀ x ∈ lns l, x.length ≤ l.length := by
  induction l with
  | nil => intro x hx; cases hx
  | cons a l ih =>
    intro x hx
    have hh : ((lns l).headD []).length ≤ l.length := by
      cases h : lns l with
      | nil => simp
      | cons y r => exact ih y (by rw [h]; simp)
    unfold lns at hx
    split at hx
    · rcases List.mem_cons.1 hx with rfl | hx
      · simp
      · have := ih x hx
        rw [List.length_cons]; omega
    · rcases List.mem_cons.1 hx with rfl | hx
      · simp only [List.length_cons]; omega
      · have := ih x (List.mem_of_mem_tail hx)
        rw [List.length_cons]; omega
theorem textOf_ge (l : List Ins) : l.length ≤ (textOf l).length := by
  induction l with
  | nil => simp
  | cons e l ih =>
    have : textOf (e :: l) = lineL e ++ [10] ++ textOf l := by simp [textOf]
    rw [this]
    simp only [List.length_append, List.length_cons, List.length_nil]
    omega
theorem parse_len (l : List UInt8) : (parseE l).evs.length ≤ l.length := by
  rcases parse_back l with ⟨_, _, h⟩ | ⟨_, h⟩
  · have := textOf_ge (parseE l).evs
    rw [h] at this
    exact this
  · rw [h]; simp

theorem texts_big (A : Option Addr) (n c : Nat) (s : ByteArray) (w : World) (hn : 100 < n ∨ 2000 < s.size) (hT : Tab w) (hM : Mx w) :
    Calls Tryd.prog 5 #[.slice A n c, .string s] w fun e w' => e = .returned (.bool true) ∧ Below w.heap.size w w' := by
  rcases t1 : decide ((100 : Int) < (n : Int)) with _ | _
  · have t2 : decide ((2000 : Int) < (s.size : Int)) = true := by
      have := of_decide_eq_false t1
      rw [decide_eq_true_iff]; omega
    go_enter Tryd.func5, Tryd.ntmps5
    go_wp2_with (go_at_call 9; refine (awake_any _ hT hM).mono ?_; rintro e w1 ⟨rfl, hb⟩)
    go_ret
    exact ⟨rfl, hb⟩
  · go_enter Tryd.func5, Tryd.ntmps5
    go_wp2_with (go_at_call 9; refine (awake_any _ hT hM).mono ?_; rintro e w1 ⟨rfl, hb⟩)
    go_ret
    exact ⟨rfl, hb⟩

set_option maxRecDepth 100000 in
set_option maxHeartbeats 4000000 in
theorem texts_small (A : Option Addr) (c : Nat) (l : List Ins) (s : ByteArray) (w : World) (hn : l.length ≤ 100) (hs : s.size ≤ 2000) (hl : InSl w w.heap.size A l) (hT : Tab w) (hM : Mx w) :
    Calls Tryd.prog 5 #[.slice A l.length c, .string s] w fun e w' => e = .returned (.bool true) ∧ Below w.heap.size w w' := by
  have t1 : decide ((100 : Int) < (l.length : Int)) = false := by rw [decide_eq_false_iff_not]; omega
  have t2 : decide ((2000 : Int) < (s.size : Int)) = false := by rw [decide_eq_false_iff_not]; omega
  have hlen : s.data.toList.length = s.size := Array.length_toList
  have h1 := fun W hl hT => print_any A c l W (by omega) hl hT
  have h2 := fun W hl => rprint_any A c l W (by omega) hl
  have h3 := fun W hT hM => parse_any s W (by omega) (fun x hx => by have := lns_mem _ x hx; omega) hT hM
  have h4 := fun W => aparse9_any s W (by omega) (fun x hx => by have := pcs_le9 10 _ x hx; omega)
  have hpl := parse_len s.data.toList
  obtain ⟨G, hG⟩ : ∃ g, parseE s.data.toList = g := ⟨_, rfl⟩
  rw [hG] at h3 h4 hpl
  obtain ⟨evs, at_, er⟩ := G
  simp only at h3 h4 hpl
  obtain ⟨S, hS⟩ : ∃ x, printS l = x := ⟨_, rfl⟩
  obtain ⟨q, hq⟩ : ∃ x, okAll l = x := ⟨_, rfl⟩
  rw [hS, hq] at h1 h2
  have H1 := Lib.hid h1
  have H2 := Lib.hid h2
  have H3 := Lib.hid h3
  have H4 := Lib.hid h4
  have hev : evs.length ≤ 100000 := by omega
  clear h1 h2 h3 h4 hG hS hq hpl hlen
  go_enter Tryd.func5, Tryd.ntmps5
  go_wp2_with fail
  refine (H1.out _ hl hT).mono ?_
  rintro e w1 ⟨rfl, hb1⟩
  go_wp2_with fail
  refine (H2.out _ (hl.below hb1 hb1.size)).mono ?_
  rintro e w2 ⟨rfl, hb2⟩
  have hB2 := hb1.trans (hb2.mono hb1.size)
  clear hb1 hb2
  go_wp2_with fail
  refine (H3.out _ (hT.below hB2) (hM.below hB2)).mono ?_
  rintro e w3 ⟨v3, rfl, hown3, hb3⟩
  have hB3 := hB2.trans (hb3.mono hB2.size)
  obtain ⟨A3, c3, rfl, _, hs3⟩ := hown3.sl
  clear hb3 hB2 hown3
  go_wp2_with fail
  refine (H4.out _).mono ?_
  rintro e w4 ⟨v4, rfl, hown4, hb4⟩
  have hB4 := hB3.trans (hb4.mono hB3.size)
  obtain ⟨A4, c4, rfl, _, hs4⟩ := hown4.sl
  have hs3' := hs3.below hb4 hb4.size
  clear hb4 hB3 hown4 hs3
  rcases q with _ | _
  all_goals
    go_wp2_with fail
    refine (code_any A3 A4 c3 c4 evs evs w4 hev hev hs3' hs4).mono ?_
    rintro e w5 ⟨rfl, hb5⟩
    rw [decide_eq_true (rfl : evs = evs)]
    have hB5 := hB4.trans (hb5.mono hB4.size)
    go_wp2_with fail
    refine (awake_any w5 (hT.below hB5) (hM.below hB5)).mono ?_
    rintro e w6 ⟨rfl, hb6⟩
    go_wp2_with fail
    go_ret
    exact ⟨rfl, hB5.trans (hb6.mono hB5.size)⟩

end Go.Proofs.YtkcdmonmgnmojaaDoor

namespace Go.Proofs.YtkcdmonmgnmojaaDoor
open Go.RowKit

theorem lns_text (l : List Ins) : lns (textOf l) = l.map fun e => lineL e ++ [10] := by
  induction l with
  | nil => rfl
  | cons e l ih =>
    have : textOf (e :: l) = lineL e ++ [10] ++ textOf l := by simp [textOf]
    rw [this, lns_line _ _ (lineL_no e), ih]
    rfl
theorem text_lines (l : List Ins) (h : okAll l = true) (hk : ∀ e ∈ l, e.ok) : ∀ x ∈ lns (textOf l), x.length ≤ 3000 := by
  intro x hx
  rw [lns_text] at hx
  obtain ⟨e, he, rfl⟩ := List.mem_map.1 hx
  have := lineL_len (List.all_eq_true.1 h e he) (hk e he)
  rw [List.length_append, List.length_singleton]
  omega
theorem print_size (l : List Ins) (h : l.length ≤ 100) (hk : ∀ e ∈ l, e.ok) : (printS l).size ≤ 65536 := by
  unfold printS
  split
  · rename_i hok
    have h1 := textOf_len l hok hk
    have : (textS l).size = (textOf l).length := by simp [textS, ByteArray.size]
    omega
  · show (0 : Nat) ≤ _; omega
theorem print_lines (l : List Ins) (hk : ∀ e ∈ l, e.ok) : ∀ x ∈ lns (printS l).data.toList, x.length ≤ 3000 := by
  unfold printS
  split
  · rename_i hok
    exact text_lines l hok hk
  · intro x hx; cases hx
theorem print_parse (l : List Ins) (hk : ∀ e ∈ l, e.ok) : (okAll l = true ∧ parseE (printS l).data.toList = ⟨l, 0, 0⟩) ∨ (okAll l = false ∧ parseE (printS l).data.toList = ⟨[], 0, 0⟩) := by
  rcases h : okAll l with _ | _
  · refine .inr ⟨rfl, ?_⟩
    unfold printS
    rw [h]
    rfl
  · refine .inl ⟨rfl, ?_⟩
    unfold printS
    rw [if_pos h]
    exact text_back l h hk
theorem read_empty : readX [] = Ins.zero ∧ readOk [] = false := by
  rcases read_cases [] with ⟨e, h, -, -, h1, h2⟩ | ⟨_, h2, h3⟩
  · exfalso
    have hl := (readI_some h).2.1
    have := kind_word _ (ins_bd h1 h2).1
    have hp := line_pcs e
    rw [hl] at hp
    have hw : (shOf e.op).w = [] := by
      have h5 : partsL e = (shOf e.op).w :: (opsL e).map partL := rfl
      rw [h5] at hp
      injection hp with hp _
      exact hp.symm
    have hne := op_all (P := fun op => (shOf op).w ≠ []) (by decide) _ (ins_bd h1 h2).1
    exact hne hw
  · exact ⟨h3, h2⟩

theorem back_big (A : Option Addr) (n c : Nat) (s : ByteArray) (w : World) (hn : 100 < n ∨ 2000 < s.size) (hT : Tab w) (hM : Mx w) :
    Calls Tryd.prog 6 #[.slice A n c, .string s] w fun e w' => e = .returned (.bool true) ∧ Below w.heap.size w w' := by
  rcases t1 : decide ((100 : Int) < (n : Int)) with _ | _
  · have t2 : decide ((2000 : Int) < (s.size : Int)) = true := by
      have := of_decide_eq_false t1
      rw [decide_eq_true_iff]; omega
    go_enter Tryd.func6, Tryd.ntmps6
    go_wp2_with (go_at_call 9; refine (awake_any _ hT hM).mono ?_; rintro e w1 ⟨rfl, hb⟩)
    go_ret
    exact ⟨rfl, hb⟩
  · go_enter Tryd.func6, Tryd.ntmps6
    go_wp2_with (go_at_call 9; refine (awake_any _ hT hM).mono ?_; rintro e w1 ⟨rfl, hb⟩)
    go_ret
    exact ⟨rfl, hb⟩

set_option maxRecDepth 100000 in
set_option maxHeartbeats 4000000 in
theorem back_small (A : Option Addr) (c : Nat) (l : List Ins) (s : ByteArray) (w : World) (hn : l.length ≤ 100) (hs : s.size ≤ 2000) (hl : InSl w w.heap.size A l) (hT : Tab w) (hM : Mx w) :
    Calls Tryd.prog 6 #[.slice A l.length c, .string s] w fun e w' => e = .returned (.bool true) ∧ Below w.heap.size w w' := by
  have t1 : decide ((100 : Int) < (l.length : Int)) = false := by rw [decide_eq_false_iff_not]; omega
  have t2 : decide ((2000 : Int) < (s.size : Int)) = false := by rw [decide_eq_false_iff_not]; omega
  have hlen : s.data.toList.length = s.size := Array.length_toList
  have h1 := fun W hl hT => print_any A c l W (by omega) hl hT
  have h2 := fun W hT hM => parse_any (printS l) W (print_size l hn hl.2) (print_lines l hl.2) hT hM
  have h3 := fun W hT hM => parse_any s W (by omega) (fun x hx => by have := lns_mem _ x hx; omega) hT hM
  have hpl := parse_len s.data.toList
  have hpb := parse_back s.data.toList
  have hpp := print_parse l hl.2
  obtain ⟨G, hG⟩ : ∃ g, parseE s.data.toList = g := ⟨_, rfl⟩
  rw [hG] at h3 hpl hpb
  obtain ⟨evs, at_, er⟩ := G
  simp only at h3 hpl hpb
  have h4 := fun W A c hl hT => print_any A c evs W (by omega) hl hT
  obtain ⟨S, hS⟩ : ∃ x, printS l = x := ⟨_, rfl⟩
  rw [hS] at h1 h2 hpp
  have hend : (er = 0 ∧ okAll evs = true ∧ ((printS evs).toList == s.toList) = true) ∨ ((er == 0) = false ∧ (er != 0) = true ∧ evs = []) := by
    rcases hpb with ⟨g1, g2, g3⟩ | ⟨g1, g2⟩
    · refine .inl ⟨g1, g2, ?_⟩
      unfold printS
      rw [if_pos g2, ByteArray.toList_eq, ByteArray.toList_eq, ← g3]
      simp [textS]
    · exact .inr ⟨by rw [beq_eq_false_iff_ne]; exact g1, by simp [g1], g2⟩
  have H1 := Lib.hid h1
  have H2 := Lib.hid h2
  have H3 := Lib.hid h3
  have H4 := Lib.hid h4
  have HE := Lib.hid hend
  have HP := Lib.hid hpp
  have hev : evs.length ≤ 100000 := by omega
  clear h1 h2 h3 h4 hG hS hpl hlen hpb hpp hend
  go_enter Tryd.func6, Tryd.ntmps6
  go_wp2_with fail
  go_loopw [5, 33] (fun q j wr => ∃ k : Nat, k ≤ l.length ∧ j = .int .i64 k ∧ q = .bool (okAll (l.take k)) ∧ Below w.heap.size w wr) (fun _ j _ => l.length - (intOf j).toNat)
  case atStart => exact ⟨0, Nat.zero_le _, rfl, rfl, Below.refl _ _⟩
  case round =>
    obtain ⟨k, hk, rfl, rfl, hb⟩ := hrel
    by_cases hlt : k < l.length
    · have hltI : (k : Int) < (l.length : Int) := by omega
      have hltD : decide ((k : Int) < (l.length : Int)) = true := decide_eq_true hltI
      obtain ⟨e, he⟩ := get_some hlt
      obtain ⟨hke, b, off, rfl, hlb, g0, g1, g2, g3, g4⟩ := (hl.below hb (Nat.le_refl _)).get he
      have hB1 := hb.alloc hb.size (.cells #[.int .i64 e.op, .int .i64 e.a, .int .i64 e.b, .int .i64 e.c, .int .u32 e.n] 24)
      have hsn := okAll_snoc he
      have hbx := InBox.new wr e
      have hln := line_any e hke (wr.alloc (.cells #[.int .i64 e.op, .int .i64 e.a, .int .i64 e.b, .int .i64 e.c, .int .u32 e.n] 24)) (hT.below hB1)
      have hrr := fun W => rright_any e W
      have hB1' := Lib.hid hB1
      have hq0 : okAll (l.take k) = true ∨ okAll (l.take k) = false := by cases okAll (l.take k) <;> simp
      rcases hq : insB e with _ | _
      · rw [hq, if_neg (by decide)] at hln
        rw [hq] at hrr hsn
        rw [Bool.and_false] at hsn
        have hrd := fun W hT hM => aread_any ⟨#[]⟩ W (by decide) hT hM
        rw [show (⟨#[]⟩ : ByteArray).data.toList = [] from rfl, read_empty.1, read_empty.2] at hrd
        obtain ⟨op, a, bb, c2, m⟩ := e
        unfold insV at hln hrr hrd
        simp only [Ins.zero] at hln hrr hrd hbx hB1'
        have hln' := Lib.hid hln
        have hrr' := Lib.hid hrr
        have hrd' := Lib.hid hrd
        have hsn' := Lib.hid hsn
        have hbx' := Lib.hid hbx
        clear hln hrr hrd hsn hq he hB1 hbx hke
        rcases hq0 with hq0 | hq0
        all_goals
          rw [hq0]
          go_wp2_with fail
          refine (hln'.out).mono ?_
          rintro e1 w1 ⟨rfl, hb1⟩
          have hB2 := hB1'.out.trans (hb1.mono hB1'.out.size)
          have hbx1 := hbx'.out.kept hb1
          go_wp2_with fail
          refine (hrd'.out _ (hT.below hB2) (hM.below hB2)).mono ?_
          rintro e2 w2 ⟨rfl, hb2⟩
          have hB3 := hB2.trans (hb2.mono hB2.size)
          have hbx2 := hbx1.kept hb2
          obtain ⟨nb, hnb⟩ : ∃ n, wr.heap.size = n := ⟨_, rfl⟩
          rw [hnb] at hbx2 ⊢
          have hlt2 := hbx2.lt
          have hne2 : nb ≠ w2.heap.size := by omega
          obtain ⟨d0, d1, d2, d3, d4⟩ := hbx2.cells
          have hB4 := hB3.alloc hB3.size (.cells #[.int .i64 0, .int .i64 0, .int .i64 0, .int .i64 0, .int .u32 0] 24)
          have hB4' := Lib.hid hB4
          clear hB4
          go_wp2_with fail
          refine (hrr'.out _).mono ?_
          rintro e3 w3 ⟨rfl, hb3⟩
          have hB5 := hB4'.out.trans (hb3.mono hB4'.out.size)
          go_wp2_with fail
          go_roundw
          case rel => exact ⟨k + 1, by omega, by go_num, by rw [hsn'.out], hB5⟩
          case measure => simp [intOf]; omega
      · rw [hq, if_pos rfl] at hln
        rw [hq, Bool.and_true] at hsn
        have hrd := fun W hT hM => aread_any (lineS e) W (by have := lineL_len hq hke; simp [lineS, ByteArray.size]; omega) hT hM
        have hri := read_line hq hke
        have hx1 : readX (lineL e) = e := by unfold readX; rw [hri]; rfl
        have hx2 : readOk (lineL e) = true := by unfold readOk; rw [hri]; rfl
        rw [show (lineS e).data.toList = lineL e from rfl, hx1, hx2] at hrd
        obtain ⟨LS, hLS⟩ : ∃ x, lineS e = x := ⟨_, rfl⟩
        rw [hLS] at hln hrd
        obtain ⟨op, a, bb, c2, m⟩ := e
        unfold insV at hln hrd
        simp only at hln hrd hbx hB1'
        have hln' := Lib.hid hln
        have hrd' := Lib.hid hrd
        have hsn' := Lib.hid hsn
        have hbx' := Lib.hid hbx
        clear hln hrr hrd hsn hq he hB1 hbx hke hri hx1 hx2 hLS
        rcases hq0 with hq0 | hq0
        all_goals
          rw [hq0]
          go_wp2_with fail
          refine (hln'.out).mono ?_
          rintro e1 w1 ⟨rfl, hb1⟩
          have hB2 := hB1'.out.trans (hb1.mono hB1'.out.size)
          have hbx1 := hbx'.out.kept hb1
          go_wp2_with fail
          refine (hrd'.out _ (hT.below hB2) (hM.below hB2)).mono ?_
          rintro e2 w2 ⟨rfl, hb2⟩
          have hB3 := hB2.trans (hb2.mono hB2.size)
          have hbx2 := hbx1.kept hb2
          obtain ⟨nb, hnb⟩ : ∃ n, wr.heap.size = n := ⟨_, rfl⟩
          rw [hnb] at hbx2 ⊢
          have hlt2 := hbx2.lt
          have hne2 : nb ≠ w2.heap.size := by omega
          obtain ⟨d0, d1, d2, d3, d4⟩ := hbx2.cells
          have hB4 := hB3.alloc hB3.size (.cells #[.int .i64 op, .int .i64 a, .int .i64 bb, .int .i64 c2, .int .u32 m] 24)
          have hB4' := Lib.hid hB4
          clear hB4
          go_wp2_with fail
          go_roundw
          case rel => exact ⟨k + 1, by omega, by go_num, by rw [hsn'.out, hq0], hB4'.out⟩
          case measure => simp [intOf]; omega
    · have ht := take_all hlt
      rw [ht]
      go_wp2_with fail
      refine (H1.out _ (hl.below hb hb.size) (hT.below hb)).mono ?_
      rintro e w1 ⟨rfl, hb1⟩
      have hB1 := hb.trans (hb1.mono hb.size)
      clear hb1
      go_wp2_with fail
      refine (H2.out _ (hT.below hB1) (hM.below hB1)).mono ?_
      rintro e w2 ⟨v2, rfl, hown2, hb2⟩
      have hB2 := hB1.trans (hb2.mono hB1.size)
      clear hb2
      rcases HP.out with ⟨p1, p2⟩ | ⟨p1, p2⟩
      · rw [p1, p2]
        rw [p2] at hown2
        obtain ⟨A2, c2, rfl, _, hs2⟩ := hown2.sl
        clear p1 p2 hown2
        go_wp2_with fail
        refine (code_any A2 A c2 c l l w2 (by omega) (by omega) hs2 (hl.below hB2 hB2.size)).mono ?_
        rintro e w3 ⟨rfl, hb3⟩
        rw [decide_eq_true (rfl : l = l)]
        have hB3 := hB2.trans (hb3.mono hB2.size)
        clear hs2 hb3
        go_wp2_with fail
        refine (H3.out _ (hT.below hB3) (hM.below hB3)).mono ?_
        rintro e w4 ⟨v4, rfl, hown4, hb4⟩
        have hB4 := hB3.trans (hb4.mono hB3.size)
        obtain ⟨A4, c4, rfl, _, hs4⟩ := hown4.sl
        clear hb4 hown4
        go_wp2_with fail
        refine (H4.out _ A4 c4 hs4 (hT.below hB4)).mono ?_
        rintro e w5 ⟨rfl, hb5⟩
        have hB5 := hB4.trans (hb5.mono hB4.size)
        clear hb5 hs4
        obtain ⟨U, hU⟩ : ∃ x, printS evs = x := ⟨_, rfl⟩
        rcases HE.out with ⟨z0, o1, o2⟩ | ⟨z1, z2, z3⟩
        · subst z0
          rw [hU] at o2
          rw [o1, hU]
          clear o1 hU
          go_wp2_with fail
          refine (awake_any w5 (hT.below hB5) (hM.below hB5)).mono ?_
          rintro e w6 ⟨rfl, hb6⟩
          go_wp2_with fail
          go_ret
          exact ⟨rfl, hB5.trans (hb6.mono hB5.size)⟩
        · rw [hU, z3]
          clear hU z3
          go_wp2_with fail
          refine (awake_any w5 (hT.below hB5) (hM.below hB5)).mono ?_
          rintro e w6 ⟨rfl, hb6⟩
          go_wp2_with fail
          go_ret
          exact ⟨rfl, hB5.trans (hb6.mono hB5.size)⟩
      · rw [p1, p2]
        obtain ⟨A2, c2, rfl, _, _⟩ := hown2.sl
        clear p1 p2 hown2
        go_wp2_with fail
        refine (H3.out _ (hT.below hB2) (hM.below hB2)).mono ?_
        rintro e w4 ⟨v4, rfl, hown4, hb4⟩
        have hB4 := hB2.trans (hb4.mono hB2.size)
        obtain ⟨A4, c4, rfl, _, hs4⟩ := hown4.sl
        clear hb4 hown4
        go_wp2_with fail
        refine (H4.out _ A4 c4 hs4 (hT.below hB4)).mono ?_
        rintro e w5 ⟨rfl, hb5⟩
        have hB5 := hB4.trans (hb5.mono hB4.size)
        clear hb5 hs4
        obtain ⟨U, hU⟩ : ∃ x, printS evs = x := ⟨_, rfl⟩
        rcases HE.out with ⟨z0, o1, o2⟩ | ⟨z1, z2, z3⟩
        · subst z0
          rw [hU] at o2
          rw [o1, hU]
          clear o1 hU
          go_wp2_with fail
          refine (awake_any w5 (hT.below hB5) (hM.below hB5)).mono ?_
          rintro e w6 ⟨rfl, hb6⟩
          go_wp2_with fail
          go_ret
          exact ⟨rfl, hB5.trans (hb6.mono hB5.size)⟩
        · rw [hU, z3]
          clear hU z3
          go_wp2_with fail
          refine (awake_any w5 (hT.below hB5) (hM.below hB5)).mono ?_
          rintro e w6 ⟨rfl, hb6⟩
          go_wp2_with fail
          go_ret
          exact ⟨rfl, hB5.trans (hb6.mono hB5.size)⟩

end Go.Proofs.YtkcdmonmgnmojaaDoor
