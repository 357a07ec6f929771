/- asm.Read: the instruction of a line. -/
import Derived.Test.YtkcdmonmgnmojaaDoorAsmG6
import Derived.Test.YtkcdmonmgnmojaaDoorAsmL
namespace Go.Proofs.YtkcdmonmgnmojaaDoor
open Go.RowKit

theorem res_aread (tmps : Array Value) (w : World) {b : Nat} {e : Ins} {x : Bool} (ha : tmps[2]?.getD undef = .pointer (some ⟨b, 0, none⟩)) (hx : tmps[3]?.getD undef = .bool x) (hbox : InBox w b e) :
    (results Tryd.f13 tmps).run Tryd.prog w = .ok (.tuple #[insV e, .bool x]) w := by
  obtain ⟨h0, h1, h2, h3, h4⟩ := hbox.cells
  simp [results, ha, hx, h0, h1, h2, h3, h4, go_sem, insV]

theorem read_yes {l : List UInt8} (h1 : insB (guess l) = true) (h2 : lineL (guess l) = l) : readX l = guess l ∧ readOk l = true := by
  unfold readX readOk readI
  rw [if_pos ⟨h1, h2⟩]
  exact ⟨rfl, rfl⟩
theorem read_no {l : List UInt8} (h : ¬ (insB (guess l) = true ∧ lineL (guess l) = l)) : readX l = Ins.zero ∧ readOk l = false := by
  unfold readX readOk readI
  rw [if_neg h]
  exact ⟨rfl, rfl⟩

set_option maxRecDepth 100000 in
set_option maxHeartbeats 2000000 in
theorem aread_any (s : ByteArray) (w : World) (hs : s.size ≤ 1000000) (hT : Tab w) (hM : Mx w) :
    Calls Tryd.prog 13 #[.string s] w fun r W' => r = .returned (.tuple #[insV (readX s.data.toList), .bool (readOk s.data.toList)]) ∧ Below w.heap.size w W' := by
  obtain ⟨l, hl⟩ : ∃ l, s.data.toList = l := ⟨_, rfl⟩
  have hst : s.toList = l := by rw [ByteArray.toList_eq, hl]
  have hg := fun W hM => guess_any s W hM hs
  have hy := @read_yes l
  have hno := @read_no l
  have hgo := guess_ok l
  rw [hl] at hg ⊢
  obtain ⟨g, hge⟩ : ∃ g, guess l = g := ⟨_, rfl⟩
  rw [hge] at hg hy hno hgo
  have hln := fun W hT => line_any g hgo W hT
  have hr0 := InBox.new w Ins.zero
  have hr0' := Lib.hid hr0
  have hMz' := Lib.hid (hM.below ((Below.refl _ w).alloc (Nat.le_refl _) (.cells #[.int .i64 0, .int .i64 0, .int .i64 0, .int .i64 0, .int .u32 0] 24)))
  have hT' := Lib.hid hT
  have hg' := Lib.hid hg
  clear hg hge hl hM hT hr0
  have key : (insB g = true ∧ lineL g = l) ∨ ¬ (insB g = true ∧ lineL g = l) := Classical.em _
  rcases hb : insB g with _ | _
  · have hn := Lib.hid (hno (by rw [hb]; simp))
    rw [hb] at hln
    simp only [Bool.false_eq_true, if_false] at hln
    have hln' := Lib.hid hln
    clear hln hy hno key hb hgo hst
    obtain ⟨op, a, b, c, m⟩ := g
    unfold insV at hg' hln'
    simp only at hg' hln'
    go_enter Tryd.func13, Tryd.ntmps13
    go_wp2_with fail
    refine (hg'.out _ hMz'.out).mono ?_
    rintro e w1 ⟨rfl, hb1⟩
    have hr1 := hr0'.out.kept hb1
    have hlt1 := hr1.lt
    have hne1 : w.heap.size ≠ w1.heap.size := by omega
    have hB1 := ((Below.refl _ w).alloc (Nat.le_refl _) (.cells #[.int .i64 0, .int .i64 0, .int .i64 0, .int .i64 0, .int .u32 0] 24)).trans (hb1.mono (by simp))
    have hB1a := hB1.alloc hB1.size (.cells #[.int .i64 op, .int .i64 a, .int .i64 b, .int .i64 c, .int .u32 m] 24)
    have hTa := hT'.out.below hB1a
    clear hb1
    go_wp2_with fail
    refine (hln'.out _ hTa).mono ?_
    rintro e w2 ⟨rfl, hb2⟩
    have hr2 := (hr1.kept ((Below.refl _ w1).alloc (Nat.le_refl _) _)).kept hb2
    have hB2 := hB1a.trans (hb2.mono hB1a.size)
    obtain ⟨y0, y1, y2, y3, y4⟩ := hr2.cells
    have z0 := hr2.frozen 0
    have z1 := hr2.frozen 1
    have z2 := hr2.frozen 2
    have z3 := hr2.frozen 3
    have z4 := hr2.frozen 4
    go_wp2_with fail
    refine bodyPost_ret (res_aread _ _ rfl rfl (hr2.set5 Ins.zero)) rfl ?_
    exact ⟨by rw [hn.out.1, hn.out.2], below_set5 hB2 _ (Nat.le_refl _) _ _ _ _ _⟩
  · rw [hb] at hln
    simp only [if_true] at hln
    have hnew := fun W => InBox.new W g
    by_cases hq : lineL g = l
    · have hstr : ((lineS g).toList == s.toList) = true := by rw [hst, ByteArray.toList_eq]; simp [lineS, hq]
      have hn := Lib.hid (hy hb hq)
      obtain ⟨LS, hLS⟩ : ∃ x, lineS g = x := ⟨_, rfl⟩
      rw [hLS] at hln hstr
      have hln' := Lib.hid hln
      have hnew' := Lib.hid hnew
      clear hln hy hno key hb hgo hq hLS hnew hst
      obtain ⟨op, a, b, c, m⟩ := g
      unfold insV at hg' hln'
      simp only at hg' hln' hnew'
      go_enter Tryd.func13, Tryd.ntmps13
      go_wp2_with fail
      refine (hg'.out _ hMz'.out).mono ?_
      rintro e w1 ⟨rfl, hb1⟩
      have hr1 := hr0'.out.kept hb1
      have hlt1 := hr1.lt
      have hne1 : w.heap.size ≠ w1.heap.size := by omega
      have hB1 := ((Below.refl _ w).alloc (Nat.le_refl _) (.cells #[.int .i64 0, .int .i64 0, .int .i64 0, .int .i64 0, .int .u32 0] 24)).trans (hb1.mono (by simp))
      have hB1a := hB1.alloc hB1.size (.cells #[.int .i64 op, .int .i64 a, .int .i64 b, .int .i64 c, .int .u32 m] 24)
      have hTa := hT'.out.below hB1a
      clear hb1
      go_wp2_with fail
      refine (hln'.out _ hTa).mono ?_
      rintro e w2 ⟨rfl, hb2⟩
      have hr2 := (hr1.kept ((Below.refl _ w1).alloc (Nat.le_refl _) _)).kept hb2
      have hg2 := (hnew'.out w1).kept hb2
      have hB2 := hB1a.trans (hb2.mono hB1a.size)
      obtain ⟨y0, y1, y2, y3, y4⟩ := hr2.cells
      obtain ⟨x0, x1, x2, x3, x4⟩ := hg2.cells
      have z0 := hr2.frozen 0
      have z1 := hr2.frozen 1
      have z2 := hr2.frozen 2
      have z3 := hr2.frozen 3
      have z4 := hr2.frozen 4
      go_wp2_with fail
      refine bodyPost_ret (res_aread _ _ rfl rfl (hr2.set5 ⟨op, a, b, c, m⟩)) rfl ?_
      exact ⟨by rw [hn.out.1, hn.out.2], below_set5 hB2 _ (Nat.le_refl _) _ _ _ _ _⟩
    · have hstr : ((lineS g).toList == s.toList) = false := by
        rw [beq_eq_false_iff_ne, hst, ByteArray.toList_eq]
        simpa [lineS] using hq
      have hn := Lib.hid (hno (fun h => hq h.2))
      obtain ⟨LS, hLS⟩ : ∃ x, lineS g = x := ⟨_, rfl⟩
      rw [hLS] at hln hstr
      have hln' := Lib.hid hln
      clear hln hy hno key hb hgo hq hLS hnew hst
      obtain ⟨op, a, b, c, m⟩ := g
      unfold insV at hg' hln'
      simp only at hg' hln'
      go_enter Tryd.func13, Tryd.ntmps13
      go_wp2_with fail
      refine (hg'.out _ hMz'.out).mono ?_
      rintro e w1 ⟨rfl, hb1⟩
      have hr1 := hr0'.out.kept hb1
      have hlt1 := hr1.lt
      have hne1 : w.heap.size ≠ w1.heap.size := by omega
      have hB1 := ((Below.refl _ w).alloc (Nat.le_refl _) (.cells #[.int .i64 0, .int .i64 0, .int .i64 0, .int .i64 0, .int .u32 0] 24)).trans (hb1.mono (by simp))
      have hB1a := hB1.alloc hB1.size (.cells #[.int .i64 op, .int .i64 a, .int .i64 b, .int .i64 c, .int .u32 m] 24)
      have hTa := hT'.out.below hB1a
      clear hb1
      go_wp2_with fail
      refine (hln'.out _ hTa).mono ?_
      rintro e w2 ⟨rfl, hb2⟩
      have hr2 := (hr1.kept ((Below.refl _ w1).alloc (Nat.le_refl _) _)).kept hb2
      have hB2 := hB1a.trans (hb2.mono hB1a.size)
      obtain ⟨y0, y1, y2, y3, y4⟩ := hr2.cells
      have z0 := hr2.frozen 0
      have z1 := hr2.frozen 1
      have z2 := hr2.frozen 2
      have z3 := hr2.frozen 3
      have z4 := hr2.frozen 4
      go_wp2_with fail
      refine bodyPost_ret (res_aread _ _ rfl rfl (hr2.set5 Ins.zero)) rfl ?_
      exact ⟨by rw [hn.out.1, hn.out.2], below_set5 hB2 _ (Nat.le_refl _) _ _ _ _ _⟩

end Go.Proofs.YtkcdmonmgnmojaaDoor
