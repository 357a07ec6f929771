/- trace.Print, and the reference's: events' text. -/
import Derived.Test.YtopclkkkchhgiaaDoorTrOf
import Derived.Test.YtopclkkkchhgiaaDoorTrPr
import Derived.Test.YtopclkkkchhgiaaDoorTrLine
import Derived.Test.YtopclkkkchhgiaaDoorTrRLine
import Derived.Test.YtopclkkkchhgiaaDoorBuilder
namespace Go.Proofs.YtopclkkkchhgiaaDoor
open Go.RowKit

def textS (l : List Ev) : ByteArray := ⟨(textOf l).toArray⟩
def printS (l : List Ev) : ByteArray := if okAll l = true then textS l else ⟨#[]⟩
theorem okAll_snoc {l : List Ev} {k : Nat} {e : Ev} (h : l[k]? = some e) : okAll (l.take (k + 1)) = (okAll (l.take k) && evB e) := by
  rw [take_snoc h]
  unfold okAll
  rw [List.all_append]
  simp
theorem okAll_no {l : List Ev} {k : Nat} {e : Ev} (h : l[k]? = some e) (he : evB e = false) : okAll l = false := by
  unfold okAll
  rw [List.all_eq_false]
  exact ⟨e, List.mem_of_getElem? h, by rw [he]; simp⟩
theorem textOf_take {l : List Ev} {k : Nat} {e : Ev} (h : l[k]? = some e) : textOf (l.take (k + 1)) = textOf (l.take k) ++ (evLine e ++ [10]) := by rw [take_snoc h, textOf_snoc]
theorem textOf_len (l : List Ev) (h : okAll l = true) : (textOf l).length ≤ 64 * l.length := by
  induction l with
  | nil => simp [textOf]
  | cons e l ih =>
    unfold okAll at h ih
    rw [List.all_cons, Bool.and_eq_true] at h
    have h1 := evLine_len (evB_iff.1 h.1)
    have h2 := ih h.2
    have : textOf (e :: l) = evLine e ++ [10] ++ textOf l := by simp [textOf]
    rw [this]
    simp only [List.length_append, List.length_cons, List.length_nil]
    omega
theorem evLineS_size {e : Ev} (h : EvR e) : (evLineS e).size ≤ 63 := by
  have h1 := evLine_len h
  have : (evLineS e).size = (evLine e).length := by simp [evLineS, ByteArray.size]
  omega

set_option maxRecDepth 100000 in
set_option maxHeartbeats 2000000 in
theorem rprint_any (A : Option Addr) (c : Nat) (l : List Ev) (w : World) (hn : l.length ≤ 3000) (hl : EvSl w w.heap.size A l) :
    Calls Tryd.prog 21 #[.slice A l.length c] w fun e w' => e = .returned (.tuple #[.string (printS l), .bool (okAll l)]) ∧ Below w.heap.size w w' := by
  go_enter Tryd.func21, Tryd.ntmps21
  go_wp2_with fail
  go_loopw [4, 9] (fun s j wr => ∃ k : Nat, k ≤ l.length ∧ j = .int .i64 k ∧ s = .string ⟨(textOf (l.take k)).toArray⟩ ∧ okAll (l.take k) = true ∧ Below w.heap.size w wr) (fun _ j _ => l.length - (intOf j).toNat)
  case atStart => exact ⟨0, Nat.zero_le _, rfl, rfl, rfl, Below.refl _ _⟩
  case round =>
    obtain ⟨k, hk, rfl, rfl, hok, hb⟩ := hrel
    by_cases hlt : k < l.length
    · obtain ⟨e, he⟩ := get_some hlt
      obtain ⟨_, b, off, rfl, hlb, h0, h1, h2, h3, h4⟩ := (hl.below hb (Nat.le_refl _)).get he
      have hsz := textOf_len (l.take k) hok
      rw [List.length_take] at hsz
      obtain ⟨S, hS⟩ : ∃ S : ByteArray, (⟨(textOf (l.take k)).toArray⟩ : ByteArray) = S := ⟨_, rfl⟩
      have hSs : S.size ≤ 64 * 3000 := by
        rw [← hS]
        have : (⟨(textOf (l.take k)).toArray⟩ : ByteArray).size = (textOf (l.take k)).length := by simp [ByteArray.size]
        omega
      have hrr := fun W => rright_any e W
      have hln := fun W h => rline_any e W h
      have hbx := EvBox.new wr e
      have hB1 := hb.alloc hb.size (.cells #[.int .i64 e.t, .int .i64 e.k, .int .i64 e.p, .int .i64 e.a, .int .i64 e.b] 23)
      have hsz1 : w.heap.size ≤ (wr.alloc (.cells #[.int .i64 e.t, .int .i64 e.k, .int .i64 e.p, .int .i64 e.a, .int .i64 e.b] 23)).heap.size := hB1.size
      obtain ⟨nb, hnb⟩ : ∃ x, wr.heap.size = x := ⟨_, rfl⟩
      have hS' := Lib.hid hS
      have he' := Lib.hid he
      have hok' := Lib.hid hok
      rw [hS]
      clear hS he hok hsz
      rcases hq : evB e with _ | _
      · rw [hq] at hrr
        have hno := Lib.hid (okAll_no he'.out hq)
        have hrr' := Lib.hid hrr
        clear hrr hln hq
        go_wp2_with fail
        refine (hrr'.out _).mono ?_
        rintro e1 w1 ⟨rfl, hb1⟩
        go_wp2_with fail
        go_ret2
        exact ⟨by unfold printS; rw [hno.out]; rfl, hB1.trans (hb1.mono hsz1)⟩
      · have hR := evB_iff.1 hq
        have hD := evLineS_size hR
        have hln' := Lib.hid (fun W => hln W hR)
        rw [hq] at hrr
        have hq' := Lib.hid hq
        have hrr' := Lib.hid hrr
        obtain ⟨D, hDe⟩ : ∃ D, evLineS e = D := ⟨_, rfl⟩
        rw [hDe] at hln' hD
        have hDe' := Lib.hid hDe
        clear hrr hln hq hR hDe
        have z1 : ¬ 9223372036854775807 < S.size + D.size := by omega
        have z2 : ¬ 9223372036854775807 < S.size + D.size + 1 := by omega
        go_wp2_with fail
        refine (hrr'.out _).mono ?_
        rintro e1 w1 ⟨rfl, hb1⟩
        have hbx1 := hbx.kept hb1
        have hB2 := hB1.trans (hb1.mono hsz1)
        rw [hnb] at hbx1
        obtain ⟨c0, c1, c2, c3, c4⟩ := hbx1.cells
        clear hbx hbx1 hb1 hB1 hsz1
        go_wp2_with fail
        refine (hln'.out _).mono ?_
        rintro e2 w2 ⟨rfl, hb2⟩
        go_wp2_with fail
        go_roundw
        case rel => exact ⟨k + 1, by omega, by go_num, by
            rw [textOf_take he'.out, ← hS'.out, ← hDe'.out]
            refine congrArg Value.string (ByteArray.ext ?_)
            simp [evLineS], by rw [okAll_snoc he'.out, hok'.out, hq'.out]; rfl, hB2.trans (hb2.mono hB2.size)⟩
        case measure => simp [intOf]; omega
    · have ht := take_all hlt
      rw [ht] at hok ⊢
      have hok' := Lib.hid hok
      clear hok
      go_wp2_with fail
      go_ret2
      exact ⟨by unfold printS textS; rw [hok'.out]; rfl, hb⟩

theorem builder_kept {B b : Nat} {bs : List Value} {w w' : World} (h : Lib.IsBuilder 69 5 B b bs w) (hb : Below w.heap.size w w') : Lib.IsBuilder 69 5 B b bs w' := by
  have key : ∀ p, Lib.BuilderAt 69 5 B b p bs w → Lib.BuilderAt 69 5 B b p bs w' := fun p ⟨h1, v, h2, h3, h4⟩ =>
    ⟨h1, v, (hb.block b (Array.getElem?_eq_some_iff.1 h2).1).trans h2, (by
      refine ⟨h3.1, ?_⟩
      rcases h3.2 with h5 | ⟨g, cap, cur, hv, hg, hh, r⟩
      · exact .inl h5
      · exact .inr ⟨g, cap, cur, hv, hg, (hb.block g (Array.getElem?_eq_some_iff.1 hh).1).trans hh, r⟩), h4⟩
  rcases h with h | h
  · exact .inl (key _ h)
  · exact .inr (key _ h)
theorem builder_new (w : World) : Lib.IsBuilder 69 5 w.heap.size w.heap.size [] (w.alloc (.cells #[.pointer none, .slice none 0 0] 69)) :=
  .inl ⟨Nat.le_refl _, .slice none 0 0, heap_alloc_new w _, World.ownsRow_nil _ _ _ _, by simp [Value.ownBlock]⟩
theorem str_bytes (l : List UInt8) (s : ByteArray) : Lib.byteCells l ++ Lib.strCells s = Lib.byteCells (l ++ s.data.toList) := by rw [Lib.byteCells_append]; rfl

set_option maxRecDepth 100000 in
set_option maxHeartbeats 2000000 in
theorem print_any (A : Option Addr) (c : Nat) (l : List Ev) (w : World) (hn : l.length ≤ 3000) (hl : EvSl w w.heap.size A l) (hT : Tab w) :
    Calls Tryd.prog 20 #[.slice A l.length c] w fun e w' => e = .returned (.tuple #[.string (printS l), .bool (okAll l)]) ∧ Below w.heap.size w w' := by
  have hbn := Lib.hid (builder_new w)
  have hb0 := Lib.hid ((Below.refl w.heap.size w).alloc (Nat.le_refl _) (.cells #[.pointer none, .slice none 0 0] 69))
  obtain ⟨B, hB⟩ : ∃ x, w.heap.size = x := ⟨_, rfl⟩
  go_enter Tryd.func20, Tryd.ntmps20
  go_wp2_with fail
  go_loopw [11] (fun j wr => ∃ k : Nat, k ≤ l.length ∧ j = .int .i64 k ∧ Lib.IsBuilder 69 5 B B (Lib.byteCells (textOf (l.take k))) wr ∧ okAll (l.take k) = true ∧ Below w.heap.size w wr) (fun j _ => l.length - (intOf j).toNat)
  case atStart => exact ⟨0, Nat.zero_le _, rfl, by rw [← hB]; exact hbn.out, rfl, hb0.out⟩
  case round =>
    obtain ⟨k, hk, rfl, hbld, hok, hb⟩ := hrel
    by_cases hlt : k < l.length
    · obtain ⟨e, he⟩ := get_some hlt
      obtain ⟨_, b, off, rfl, hlb, h0, h1, h2, h3, h4⟩ := (hl.below hb (Nat.le_refl _)).get he
      have hsz := textOf_len (l.take k) hok
      rw [List.length_take] at hsz
      have hB1 := hb.alloc hb.size (.cells #[.int .i64 e.t, .int .i64 e.k, .int .i64 e.p, .int .i64 e.a, .int .i64 e.b] 23)
      have hln := line_any e (wr.alloc (.cells #[.int .i64 e.t, .int .i64 e.k, .int .i64 e.p, .int .i64 e.a, .int .i64 e.b] 23)) (hT.below hB1)
      have hbld1 := builder_kept hbld ((Below.refl _ wr).alloc (Nat.le_refl _) (.cells #[.int .i64 e.t, .int .i64 e.k, .int .i64 e.p, .int .i64 e.a, .int .i64 e.b] 23))
      have hsz1 : w.heap.size ≤ (wr.alloc (.cells #[.int .i64 e.t, .int .i64 e.k, .int .i64 e.p, .int .i64 e.a, .int .i64 e.b] 23)).heap.size := hB1.size
      have hbld' := Lib.hid hbld1
      have he' := Lib.hid he
      have hok' := Lib.hid hok
      clear he hok hbld hbld1
      rcases hq : evB e with _ | _
      · rw [hq] at hln
        have hno := Lib.hid (okAll_no he'.out hq)
        have hln' := Lib.hid hln
        clear hln hq
        go_wp2_with fail
        refine hln'.out.mono ?_
        rintro e1 w1 ⟨rfl, hb1⟩
        go_wp2_with fail
        go_ret2
        exact ⟨by unfold printS; rw [hno.out]; rfl, hB1.trans (hb1.mono hsz1)⟩
      · have hR := evB_iff.1 hq
        have hD := evLineS_size hR
        rw [hq, show lineR e = evLineS e from if_pos hq] at hln
        have hq' := Lib.hid hq
        obtain ⟨D, hDe⟩ : ∃ D, evLineS e = D := ⟨_, rfl⟩
        rw [hDe] at hln hD
        have hDe' := Lib.hid hDe
        have hln' := Lib.hid hln
        clear hln hq hR hDe
        have z2 : ¬ 9223372036854775807 < D.size + 1 := by omega
        have z3 : ¬ 9223372036854775807 ≤ D.size := by omega
        have hDn : (D ++ (⟨#[10]⟩ : ByteArray)).size = D.size + 1 := by rw [ByteArray.size_append]; rfl
        go_wp2_with fail
        refine hln'.out.mono ?_
        rintro e1 w1 ⟨rfl, hb1⟩
        have hbld2 := builder_kept hbld'.out hb1
        have hB2 := hB1.trans (hb1.mono hsz1)
        have hwr := write_any B B (Lib.byteCells (textOf (l.take k))) (D ++ ⟨#[10]⟩) w1 hbld2 (by rw [Lib.byteCells_length, hDn]; omega) (by rw [← hB]; exact hB2.size)
        have hwr' := Lib.hid hwr
        clear hb1 hB1 hsz1 hwr hbld2
        go_wp2_with fail
        refine hwr'.out.mono ?_
        rintro e2 w2 ⟨rfl, hbld3, hb2⟩
        have hb3 := Lib.hid hbld3
        clear hbld3
        go_wp2_with fail
        go_roundw
        case rel => exact ⟨k + 1, by omega, by go_num, by
            have h := hb3.out
            rw [str_bytes] at h
            rw [textOf_take he'.out]
            have e3 : (D ++ (⟨#[10]⟩ : ByteArray)).data.toList = evLine e ++ [10] := by rw [← hDe'.out]; simp [evLineS]
            rw [e3] at h
            exact h, by rw [okAll_snoc he'.out, hok'.out, hq'.out]; rfl, hB2.trans (by rw [hB]; exact hb2)⟩
        case measure => simp [intOf]; omega
    · have ht := take_all hlt
      rw [ht] at hok hbld
      have hok' := Lib.hid hok
      have hst := Lib.hid (Tryd.Builder_String_any B B (textOf l) wr hbld (by rw [← hB]; exact hb.size))
      clear hok hbld
      go_wp2_with fail
      refine hst.out.mono ?_
      rintro e2 w2 ⟨rfl, hb2⟩
      go_wp2_with fail
      go_ret2
      exact ⟨by unfold printS textS; rw [hok'.out]; rfl, hb.trans (by rw [hB]; exact hb2)⟩

end Go.Proofs.YtopclkkkchhgiaaDoor
