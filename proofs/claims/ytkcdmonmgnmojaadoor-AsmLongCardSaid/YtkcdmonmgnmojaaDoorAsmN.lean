/- asm.number: the number of a word, behind its letter. -/
import Derived.Test.YtkcdmonmgnmojaaDoorAsmDef
import Derived.Test.YtkcdmonmgnmojaaDoorRead
import Derived.Test.YtkcdmonmgnmojaaDoorShelf
import Derived.Shelf.Strings.SlTrimAscii
namespace Go.Proofs.YtkcdmonmgnmojaaDoor
open Go.RowKit

theorem trim_ro (l : List UInt8) : Lib.trimLeftS l [114, 111] = trimRO l := by
  unfold Lib.trimLeftS trimRO
  congr 1
  funext x
  simp only [List.contains_cons, List.contains_nil, Bool.or_false]
theorem trim_any (s : ByteArray) (w : World) : Calls Tryd.prog 106 #[.string s, .string ⟨#[114, 111]⟩] w fun e w' => e = .returned (.string ⟨(trimRO s.data.toList).toArray⟩) ∧ Below w.heap.size w w' := by
  have h := Any.strings_TrimLeft_laid Tryd.lays161 (by kernel_rfl) s ⟨#[114, 111]⟩ w (by decide) (fun j b h => by
    have := List.mem_of_getElem? h
    simp at this
    rcases this with rfl | rfl <;> decide)
  rw [show (⟨#[114, 111]⟩ : ByteArray).data.toList = [114, 111] from rfl, trim_ro] at h
  exact h

theorem pcs_one {l p : List UInt8} (h : pcs 32 l = [p]) : p = l := by
  have := join_pcs l
  rw [h] at this
  simpa [Lib.join] using this
theorem read_num (l : List UInt8) : (readB 1 l = true ∧ l ≠ [] ∧ readL l = [numI l] ∧ 0 ≤ numI l) ∨ (readB 1 l = true ∧ readL l = [] ∧ numI l = 0) ∨ (readB 1 l = false ∧ numI l = 0) := by
  by_cases h0 : l = []
  · subst h0
    exact .inr (.inl ⟨rfl, rfl, rfl⟩)
  · have hn : pcs 32 l ≠ [] := pcs_ne 32 l
    rcases hp : pcs 32 l with _ | ⟨p, r⟩
    · exact absurd hp hn
    · cases r with
      | nil =>
        have hpl := pcs_one hp
        subst hpl
        have hb : readB 1 p = numB p := by unfold readB; rw [if_neg h0, hp]; simp
        have hl : readL p = [(dv p : Int)] := by unfold readL; rw [if_neg h0, hp]; rfl
        unfold numI
        rcases hq : numB p with _ | _
        · exact .inr (.inr ⟨by rw [hb, hq], by simp⟩)
        · exact .inl ⟨by rw [hb, hq], h0, by rw [hl]; simp, by simp⟩
      | cons q r =>
        have hb : readB 1 l = false := by
          unfold readB
          rw [if_neg h0, hp]
          simp
          intros
          omega
        refine .inr (.inr ⟨hb, ?_⟩)
        unfold numI
        rw [if_neg]
        intro hq
        have hall : l.all digB = true := by unfold numB at hq; simp only [Bool.and_eq_true] at hq; exact hq.2.1
        have : pcs 32 l = [l] := pcs_none 32 l (fun k hk => by
          have := List.all_eq_true.1 hall 32 (List.mem_of_getElem? hk)
          simp [digB] at this)
        rw [hp] at this
        simp at this

set_option maxHeartbeats 1000000 in
theorem anumber_any (s : ByteArray) (w : World) (hs : s.size ≤ 1000000) : Calls Tryd.prog 85 #[.string s] w fun e w' => e = .returned (.int .u32 (numI (trimRO s.data.toList))) ∧ Below w.heap.size w w' := by
  have hlen : (trimRO s.data.toList).length ≤ s.size := by
    have h1 : (trimRO s.data.toList).length ≤ s.data.toList.length := (List.dropWhile_sublist _).length_le
    have h2 : s.data.toList.length = s.size := Array.length_toList
    omega
  have ht := fun W => trim_any s W
  obtain ⟨l, hl⟩ : ∃ l, trimRO s.data.toList = l := ⟨_, rfl⟩
  rw [hl] at ht hlen ⊢
  have hr := fun W => read_any ⟨l.toArray⟩ 1 W (by simp [ByteArray.size]; omega) (by decide) (by decide)
  simp only at hr
  have ht' := Lib.hid ht
  clear ht hl
  rcases read_num l with ⟨h1, h2, h3, h4⟩ | ⟨h1, h3, h4⟩ | ⟨h1, h4⟩
  · rw [h1, h3] at hr
    have hr' := Lib.hid hr
    obtain ⟨z, hz⟩ : ∃ z, numI l = z := ⟨_, rfl⟩
    rw [hz] at hr' h4 ⊢
    clear hr h1 h2 h3 hz
    go_enter Tryd.func85, Tryd.ntmps85
    go_wp2_with fail
    refine (ht'.out _).mono ?_
    rintro e w1 ⟨rfl, hb1⟩
    go_wp2_with fail
    refine (hr'.out _).mono ?_
    rintro e w2 ⟨v, rfl, hv, _, hb2⟩
    obtain ⟨A, c, rfl, hc, hws⟩ := (hv trivial).ws
    obtain ⟨_, b, off, rfl, hlt, hcell⟩ := hws.get (k := 0) (z := z) rfl
    have hB := hb1.trans (hb2.mono hb1.size)
    clear hv hws
    rw [Nat.add_zero] at hcell
    go_wp2_with fail
    go_ret
    exact ⟨rfl, hB⟩
  · rw [h1, h3] at hr
    have hr' := Lib.hid hr
    rw [h4]
    clear hr h1 h3 h4
    go_enter Tryd.func85, Tryd.ntmps85
    go_wp2_with fail
    refine (ht'.out _).mono ?_
    rintro e w1 ⟨rfl, hb1⟩
    go_wp2_with fail
    refine (hr'.out _).mono ?_
    rintro e w2 ⟨v, rfl, hv, _, hb2⟩
    obtain ⟨A, c, rfl, hc, hws⟩ := (hv trivial).ws
    have hB := hb1.trans (hb2.mono hb1.size)
    clear hv hws
    go_wp2_with fail
    go_ret
    exact ⟨rfl, hB⟩
  · rw [h1] at hr
    have hr' := Lib.hid hr
    rw [h4]
    clear hr h1 h4
    go_enter Tryd.func85, Tryd.ntmps85
    go_wp2_with fail
    refine (ht'.out _).mono ?_
    rintro e w1 ⟨rfl, hb1⟩
    go_wp2_with fail
    refine (hr'.out _).mono ?_
    rintro e w2 ⟨v, rfl, _, hv, hb2⟩
    obtain rfl := hv trivial
    have hB := hb1.trans (hb2.mono hb1.size)
    go_wp2_with fail
    go_ret
    exact ⟨rfl, hB⟩

end Go.Proofs.YtkcdmonmgnmojaaDoor
