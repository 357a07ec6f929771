/- trace.Print, and the reference's: events' text. The law AsmTexts, walked. -/
import Derived.Test.YtkcdmonmgnmojaaDoorAsmM1
import Derived.Test.YtkcdmonmgnmojaaDoorAsmL
import Derived.Test.YtkcdmonmgnmojaaDoorAsmV5
import Derived.Test.YtkcdmonmgnmojaaDoorAsmM2
import Derived.Test.YtkcdmonmgnmojaaDoorAsmM3
import Derived.Test.YtkcdmonmgnmojaaDoorAsmAw
namespace Go.Proofs.YtkcdmonmgnmojaaDoor
open Go.RowKit

def textS (l : List Ins) : ByteArray := ⟨(textOf l).toArray⟩
def printS (l : List Ins) : ByteArray := if okAll l = true then textS l else ⟨#[]⟩
theorem okAll_snoc {l : List Ins} {k : Nat} {e : Ins} (h : l[k]? = some e) : okAll (l.take (k + 1)) = (okAll (l.take k) && insB e) := by
  rw [take_snoc h]
  unfold okAll
  rw [List.all_append]
  simp
theorem okAll_no {l : List Ins} {k : Nat} {e : Ins} (h : l[k]? = some e) (he : insB e = false) : okAll l = false := by
  unfold okAll
  rw [List.all_eq_false]
  exact ⟨e, List.mem_of_getElem? h, by rw [he]; simp⟩
theorem textOf_take {l : List Ins} {k : Nat} {e : Ins} (h : l[k]? = some e) : textOf (l.take (k + 1)) = textOf (l.take k) ++ (lineL e ++ [10]) := by rw [take_snoc h, textOf_snoc]
theorem textOf_len (l : List Ins) (h : okAll l = true) (hk : ∀ e ∈ l, e.ok) : (textOf l).length ≤ 64 * l.length := by
  induction l with
  | nil => simp [textOf]
  | cons e l ih =>
    unfold okAll at h ih
    rw [List.all_cons, Bool.and_eq_true] at h
    have h1 := lineL_len h.1 (hk e (by simp))
    have h2 := ih h.2 (fun x hx => hk x (by simp [hx]))
    have : textOf (e :: l) = lineL e ++ [10] ++ textOf l := by simp [textOf]
    rw [this]
    simp only [List.length_append, List.length_cons, List.length_nil]
    omega
theorem lineS_size {e : Ins} (h : insB e = true) (hk : e.ok) : (lineS e).size ≤ 63 := by
  have h1 := lineL_len h hk
  have : (lineS e).size = (lineL e).length := by simp [lineS, ByteArray.size]
  omega

set_option maxRecDepth 100000 in
set_option maxHeartbeats 2000000 in
theorem rprint_any (A : Option Addr) (c : Nat) (l : List Ins) (w : World) (hn : l.length ≤ 3000) (hl : InSl w w.heap.size A l) :
    Calls Tryd.prog 17 #[.slice A l.length c] w fun e w' => e = .returned (.tuple #[.string (printS l), .bool (okAll l)]) ∧ Below w.heap.size w w' := by
  go_enter Tryd.func17, Tryd.ntmps17
  go_wp2_with fail
  go_loopw [4, 9] (fun s j wr => ∃ k : Nat, k ≤ l.length ∧ j = .int .i64 k ∧ s = .string ⟨(textOf (l.take k)).toArray⟩ ∧ okAll (l.take k) = true ∧ Below w.heap.size w wr) (fun _ j _ => l.length - (intOf j).toNat)
  case atStart => exact ⟨0, Nat.zero_le _, rfl, rfl, rfl, Below.refl _ _⟩
  case round =>
    obtain ⟨k, hk, rfl, rfl, hok, hb⟩ := hrel
    by_cases hlt : k < l.length
    · obtain ⟨e, he⟩ := get_some hlt
      obtain ⟨hke, b, off, rfl, hlb, h0, h1, h2, h3, h4⟩ := (hl.below hb (Nat.le_refl _)).get he
      have hsz := textOf_len (l.take k) hok (fun x hx => hl.2 x (List.mem_of_mem_take hx))
      rw [List.length_take] at hsz
      obtain ⟨S, hS⟩ : ∃ S : ByteArray, (⟨(textOf (l.take k)).toArray⟩ : ByteArray) = S := ⟨_, rfl⟩
      have hSs : S.size ≤ 64 * 3000 := by
        rw [← hS]
        have : (⟨(textOf (l.take k)).toArray⟩ : ByteArray).size = (textOf (l.take k)).length := by simp [ByteArray.size]
        omega
      have hrr := fun W => rright_any e W
      have hln := fun W h => rline_any e W h hke
      have hbx := InBox.new wr e
      have hB1 := hb.alloc hb.size (.cells #[.int .i64 e.op, .int .i64 e.a, .int .i64 e.b, .int .i64 e.c, .int .u32 e.n] 24)
      have hsz1 : w.heap.size ≤ (wr.alloc (.cells #[.int .i64 e.op, .int .i64 e.a, .int .i64 e.b, .int .i64 e.c, .int .u32 e.n] 24)).heap.size := hB1.size
      obtain ⟨nb, hnb⟩ : ∃ x, wr.heap.size = x := ⟨_, rfl⟩
      have hS' := Lib.hid hS
      have he' := Lib.hid he
      have hok' := Lib.hid hok
      rw [hS]
      clear hS he hok hsz
      rcases hq : insB e with _ | _
      · rw [hq] at hrr
        have hno := Lib.hid (okAll_no he'.out hq)
        have hrr' := Lib.hid hrr
        clear hrr hln hq
        go_wp2_with fail
        refine (hrr'.out _).mono ?_
        rintro e1 w1 ⟨rfl, hb1⟩
        go_wp2_with fail
        go_ret2
        exact ⟨by unfold printS; rw [hno.out]; rfl, hB1.trans (hb1.mono hsz1)⟩
      · have hR := hq
        have hD := lineS_size hR hke
        have hln' := Lib.hid (fun W => hln W hR)
        rw [hq] at hrr
        have hq' := Lib.hid hq
        have hrr' := Lib.hid hrr
        obtain ⟨D, hDe⟩ : ∃ D, lineS e = D := ⟨_, rfl⟩
        rw [hDe] at hln' hD
        have hDe' := Lib.hid hDe
        clear hrr hln hq hR hDe
        have z1 : ¬ 9223372036854775807 < S.size + D.size := by omega
        have z2 : ¬ 9223372036854775807 < S.size + D.size + 1 := by omega
        go_wp2_with fail
        refine (hrr'.out _).mono ?_
        rintro e1 w1 ⟨rfl, hb1⟩
        have hbx1 := hbx.kept hb1
        have hB2 := hB1.trans (hb1.mono hsz1)
        rw [hnb] at hbx1
        obtain ⟨c0, c1, c2, c3, c4⟩ := hbx1.cells
        clear hbx hbx1 hb1 hB1 hsz1
        go_wp2_with fail
        refine (hln'.out _).mono ?_
        rintro e2 w2 ⟨rfl, hb2⟩
        go_wp2_with fail
        go_roundw
        case rel => exact ⟨k + 1, by omega, by go_num, by
            rw [textOf_take he'.out, ← hS'.out, ← hDe'.out]
            refine congrArg Value.string (ByteArray.ext ?_)
            simp [lineS], by rw [okAll_snoc he'.out, hok'.out, hq'.out]; rfl, hB2.trans (hb2.mono hB2.size)⟩
        case measure => simp [intOf]; omega
    · have ht := take_all hlt
      rw [ht] at hok ⊢
      have hok' := Lib.hid hok
      clear hok
      go_wp2_with fail
      go_ret2
      exact ⟨by unfold printS textS; rw [hok'.out]; rfl, hb⟩

theorem builder_kept {B b : Nat} {bs : List Value} {w w' : World} (h : Lib.IsBuilder 81 5 B b bs w) (hb : Below w.heap.size w w') : Lib.IsBuilder 81 5 B b bs w' := by
  have key : ∀ p, Lib.BuilderAt 81 5 B b p bs w → Lib.BuilderAt 81 5 B b p bs w' := fun p ⟨h1, v, h2, h3, h4⟩ =>
    ⟨h1, v, (hb.block b (Array.getElem?_eq_some_iff.1 h2).1).trans h2, (by
      refine ⟨h3.1, ?_⟩
      rcases h3.2 with h5 | ⟨g, cap, cur, hv, hg, hh, r⟩
      · exact .inl h5
      · exact .inr ⟨g, cap, cur, hv, hg, (hb.block g (Array.getElem?_eq_some_iff.1 hh).1).trans hh, r⟩), h4⟩
  rcases h with h | h
  · exact .inl (key _ h)
  · exact .inr (key _ h)
theorem builder_new (w : World) : Lib.IsBuilder 81 5 w.heap.size w.heap.size [] (w.alloc (.cells #[.pointer none, .slice none 0 0] 81)) :=
  .inl ⟨Nat.le_refl _, .slice none 0 0, heap_alloc_new w _, World.ownsRow_nil _ _ _ _, by simp [Value.ownBlock]⟩
theorem str_bytes (l : List UInt8) (s : ByteArray) : Lib.byteCells l ++ Lib.strCells s = Lib.byteCells (l ++ s.data.toList) := by rw [Lib.byteCells_append]; rfl

set_option maxRecDepth 100000 in
set_option maxHeartbeats 2000000 in
theorem print_any (A : Option Addr) (c : Nat) (l : List Ins) (w : World) (hn : l.length ≤ 3000) (hl : InSl w w.heap.size A l) (hT : Tab w) :
    Calls Tryd.prog 16 #[.slice A l.length c] w fun e w' => e = .returned (.tuple #[.string (printS l), .bool (okAll l)]) ∧ Below w.heap.size w w' := by
  have hbn := Lib.hid (builder_new w)
  have hb0 := Lib.hid ((Below.refl w.heap.size w).alloc (Nat.le_refl _) (.cells #[.pointer none, .slice none 0 0] 81))
  obtain ⟨B, hB⟩ : ∃ x, w.heap.size = x := ⟨_, rfl⟩
  go_enter Tryd.func16, Tryd.ntmps16
  go_wp2_with fail
  go_loopw [11] (fun j wr => ∃ k : Nat, k ≤ l.length ∧ j = .int .i64 k ∧ Lib.IsBuilder 81 5 B B (Lib.byteCells (textOf (l.take k))) wr ∧ okAll (l.take k) = true ∧ Below w.heap.size w wr) (fun j _ => l.length - (intOf j).toNat)
  case atStart => exact ⟨0, Nat.zero_le _, rfl, by rw [← hB]; exact hbn.out, rfl, hb0.out⟩
  case round =>
    obtain ⟨k, hk, rfl, hbld, hok, hb⟩ := hrel
    by_cases hlt : k < l.length
    · obtain ⟨e, he⟩ := get_some hlt
      obtain ⟨hke, b, off, rfl, hlb, h0, h1, h2, h3, h4⟩ := (hl.below hb (Nat.le_refl _)).get he
      have hsz := textOf_len (l.take k) hok (fun x hx => hl.2 x (List.mem_of_mem_take hx))
      rw [List.length_take] at hsz
      have hB1 := hb.alloc hb.size (.cells #[.int .i64 e.op, .int .i64 e.a, .int .i64 e.b, .int .i64 e.c, .int .u32 e.n] 24)
      have hln := line_any e hke (wr.alloc (.cells #[.int .i64 e.op, .int .i64 e.a, .int .i64 e.b, .int .i64 e.c, .int .u32 e.n] 24)) (hT.below hB1)
      have hbld1 := builder_kept hbld ((Below.refl _ wr).alloc (Nat.le_refl _) (.cells #[.int .i64 e.op, .int .i64 e.a, .int .i64 e.b, .int .i64 e.c, .int .u32 e.n] 24))
      have hsz1 : w.heap.size ≤ (wr.alloc (.cells #[.int .i64 e.op, .int .i64 e.a, .int .i64 e.b, .int .i64 e.c, .int .u32 e.n] 24)).heap.size := hB1.size
      have hbld' := Lib.hid hbld1
      have he' := Lib.hid he
      have hok' := Lib.hid hok
      clear he hok hbld hbld1
      rcases hq : insB e with _ | _
      · rw [hq, if_neg (by decide)] at hln
        have hno := Lib.hid (okAll_no he'.out hq)
        have hln' := Lib.hid hln
        clear hln hq
        go_wp2_with fail
        refine hln'.out.mono ?_
        rintro e1 w1 ⟨rfl, hb1⟩
        go_wp2_with fail
        go_ret2
        exact ⟨by unfold printS; rw [hno.out]; rfl, hB1.trans (hb1.mono hsz1)⟩
      · have hR := hq
        have hD := lineS_size hR hke
        rw [hq, if_pos rfl] at hln
        have hq' := Lib.hid hq
        obtain ⟨D, hDe⟩ : ∃ D, lineS e = D := ⟨_, rfl⟩
        rw [hDe] at hln hD
        have hDe' := Lib.hid hDe
        have hln' := Lib.hid hln
        clear hln hq hR hDe
        have z2 : ¬ 9223372036854775807 < D.size + 1 := by omega
        have z3 : ¬ 9223372036854775807 ≤ D.size := by omega
        have hDn : (D ++ (⟨#[10]⟩ : ByteArray)).size = D.size + 1 := by rw [ByteArray.size_append]; rfl
        go_wp2_with fail
        refine hln'.out.mono ?_
        rintro e1 w1 ⟨rfl, hb1⟩
        have hbld2 := builder_kept hbld'.out hb1
        have hB2 := hB1.trans (hb1.mono hsz1)
        have hwr := write_any B B (Lib.byteCells (textOf (l.take k))) (D ++ ⟨#[10]⟩) w1 hbld2 (by rw [Lib.byteCells_length, hDn]; omega) (by rw [← hB]; exact hB2.size)
        have hwr' := Lib.hid hwr
        clear hb1 hB1 hsz1 hwr hbld2
        go_wp2_with fail
        refine hwr'.out.mono ?_
        rintro e2 w2 ⟨rfl, hbld3, hb2⟩
        have hb3 := Lib.hid hbld3
        clear hbld3
        go_wp2_with fail
        go_roundw
        case rel => exact ⟨k + 1, by omega, by go_num, by
            have h := hb3.out
            rw [str_bytes] at h
            rw [textOf_take he'.out]
            have e3 : (D ++ (⟨#[10]⟩ : ByteArray)).data.toList = lineL e ++ [10] := by rw [← hDe'.out]; simp [lineS]
            rw [e3] at h
            exact h, by rw [okAll_snoc he'.out, hok'.out, hq'.out]; rfl, hB2.trans (by rw [hB]; exact hb2)⟩
        case measure => simp [intOf]; omega
    · have ht := take_all hlt
      rw [ht] at hok hbld
      have hok' := Lib.hid hok
      have hst := Lib.hid (Tryd.Builder_String_any B B (textOf l) wr hbld (by rw [← hB]; exact hb.size))
      clear hok hbld
      go_wp2_with fail
      refine hst.out.mono ?_
      rintro e2 w2 ⟨rfl, hb2⟩
      go_wp2_with fail
      go_ret2
      exact ⟨by unfold printS textS; rw [hok'.out]; rfl, hb.trans (by rw [hB]; exact hb2)⟩

end Go.Proofs.YtkcdmonmgnmojaaDoor

namespace Go.Proofs.YtkcdmonmgnmojaaDoor
open Go.RowKit

theorem lns_mem (l : List UInt8) : ∀ x ∈ lns l, x.length ≤ l.length := by
  induction l with
  | nil => intro x hx; cases hx
  | cons a l ih =>
    intro x hx
    have hh : ((lns l).headD []).length ≤ l.length := by
      cases h : lns l with
      | nil => simp
      | cons y r => exact ih y (by rw [h]; simp)
    unfold lns at hx
    split at hx
    · rcases List.mem_cons.1 hx with rfl | hx
      · simp
      · have := ih x hx
        rw [List.length_cons]; omega
    · rcases List.mem_cons.1 hx with rfl | hx
      · simp only [List.length_cons]; omega
      · have := ih x (List.mem_of_mem_tail hx)
        rw [List.length_cons]; omega
theorem textOf_ge (l : List Ins) : l.length ≤ (textOf l).length := by
  induction l with
  | nil => simp
  | cons e l ih =>
    have : textOf (e :: l) = lineL e ++ [10] ++ textOf l := by simp [textOf]
    rw [this]
    simp only [List.length_append, List.length_cons, List.length_nil]
    omega
theorem parse_len (l : List UInt8) : (parseE l).evs.length ≤ l.length := by
  rcases parse_back l with ⟨_, _, h⟩ | ⟨_, h⟩
  · have := textOf_ge (parseE l).evs
    rw [h] at this
    exact this
  · rw [h]; simp

theorem texts_big (A : Option Addr) (n c : Nat) (s : ByteArray) (w : World) (hn : 100 < n ∨ 2000 < s.size) (hT : Tab w) (hM : Mx w) :
    Calls Tryd.prog 5 #[.slice A n c, .string s] w fun e w' => e = .returned (.bool true) ∧ Below w.heap.size w w' := by
  rcases t1 : decide ((100 : Int) < (n : Int)) with _ | _
  · have t2 : decide ((2000 : Int) < (s.size : Int)) = true := by
      have := of_decide_eq_false t1
      rw [decide_eq_true_iff]; omega
    go_enter Tryd.func5, Tryd.ntmps5
    go_wp2_with (go_at_call 9; refine (awake_any _ hT hM).mono ?_; rintro e w1 ⟨rfl, hb⟩)
    go_ret
    exact ⟨rfl, hb⟩
  · go_enter Tryd.func5, Tryd.ntmps5
    go_wp2_with (go_at_call 9; refine (awake_any _ hT hM).mono ?_; rintro e w1 ⟨rfl, hb⟩)
    go_ret
    exact ⟨rfl, hb⟩

set_option maxRecDepth 100000 in
set_option maxHeartbeats 4000000 in
theorem texts_small (A : Option Addr) (c : Nat) (l : List Ins) (s : ByteArray) (w : World) (hn : l.length ≤ 100) (hs : s.size ≤ 2000) (hl : InSl w w.heap.size A l) (hT : Tab w) (hM : Mx w) :
    Calls Tryd.prog 5 #[.slice A l.length c, .string s] w fun e w' => e = .returned (.bool true) ∧ Below w.heap.size w w' := by
  have t1 : decide ((100 : Int) < (l.length : Int)) = false := by rw [decide_eq_false_iff_not]; omega
  have t2 : decide ((2000 : Int) < (s.size : Int)) = false := by rw [decide_eq_false_iff_not]; omega
  have hlen : s.data.toList.length = s.size := Array.length_toList
  have h1 := fun W hl hT => print_any A c l W (by omega) hl hT
  have h2 := fun W hl => rprint_any A c l W (by omega) hl
  have h3 := fun W hT hM => parse_any s W (by omega) (fun x hx => by have := lns_mem _ x hx; omega) hT hM
  have h4 := fun W => aparse9_any s W (by omega) (fun x hx => by have := pcs_le9 10 _ x hx; omega)
  have hpl := parse_len s.data.toList
  obtain ⟨G, hG⟩ : ∃ g, parseE s.data.toList = g := ⟨_, rfl⟩
  rw [hG] at h3 h4 hpl
  obtain ⟨evs, at_, er⟩ := G
  simp only at h3 h4 hpl
  obtain ⟨S, hS⟩ : ∃ x, printS l = x := ⟨_, rfl⟩
  obtain ⟨q, hq⟩ : ∃ x, okAll l = x := ⟨_, rfl⟩
  rw [hS, hq] at h1 h2
  have H1 := Lib.hid h1
  have H2 := Lib.hid h2
  have H3 := Lib.hid h3
  have H4 := Lib.hid h4
  have hev : evs.length ≤ 100000 := by omega
  clear h1 h2 h3 h4 hG hS hq hpl hlen
  go_enter Tryd.func5, Tryd.ntmps5
  go_wp2_with fail
  refine (H1.out _ hl hT).mono ?_
  rintro e w1 ⟨rfl, hb1⟩
  go_wp2_with fail
  refine (H2.out _ (hl.below hb1 hb1.size)).mono ?_
  rintro e w2 ⟨rfl, hb2⟩
  have hB2 := hb1.trans (hb2.mono hb1.size)
  clear hb1 hb2
  go_wp2_with fail
  refine (H3.out _ (hT.below hB2) (hM.below hB2)).mono ?_
  rintro e w3 ⟨v3, rfl, hown3, hb3⟩
  have hB3 := hB2.trans (hb3.mono hB2.size)
  obtain ⟨A3, c3, rfl, _, hs3⟩ := hown3.sl
  clear hb3 hB2 hown3
  go_wp2_with fail
  refine (H4.out _).mono ?_
  rintro e w4 ⟨v4, rfl, hown4, hb4⟩
  have hB4 := hB3.trans (hb4.mono hB3.size)
  obtain ⟨A4, c4, rfl, _, hs4⟩ := hown4.sl
  have hs3' := hs3.below hb4 hb4.size
  clear hb4 hB3 hown4 hs3
  rcases q with _ | _
  all_goals
    go_wp2_with fail
    refine (code_any A3 A4 c3 c4 evs evs w4 hev hev hs3' hs4).mono ?_
    rintro e w5 ⟨rfl, hb5⟩
    rw [decide_eq_true (rfl : evs = evs)]
    have hB5 := hB4.trans (hb5.mono hB4.size)
    go_wp2_with fail
    refine (awake_any w5 (hT.below hB5) (hM.below hB5)).mono ?_
    rintro e w6 ⟨rfl, hb6⟩
    go_wp2_with fail
    go_ret
    exact ⟨rfl, hB5.trans (hb6.mono hB5.size)⟩

end Go.Proofs.YtkcdmonmgnmojaaDoor
