/- The law TraceTexts, walked. -/
import Derived.Test.YtopclkkkchhgiaaDoorTrPrint
import Derived.Test.YtopclkkkchhgiaaDoorTrRParse
import Derived.Test.YtopclkkkchhgiaaDoorTrAwake
namespace Go.Proofs.YtopclkkkchhgiaaDoor
open Go.RowKit

theorem lns_mem (l : List UInt8) : ∀ x ∈ lns l, x.length ≤ l.length := by
  induction l with
  | nil => intro x hx; cases hx
  | cons a l ih =>
    intro x hx
    have hh : ((lns l).headD []).length ≤ l.length := by
      cases h : lns l with
      | nil => simp
      | cons y r => exact ih y (by rw [h]; simp)
    unfold lns at hx
    split at hx
    · rcases List.mem_cons.1 hx with rfl | hx
      · simp
      · have := ih x hx
        rw [List.length_cons]; omega
    · rcases List.mem_cons.1 hx with rfl | hx
      · simp only [List.length_cons]; omega
      · have := ih x (List.mem_of_mem_tail hx)
        rw [List.length_cons]; omega
theorem textOf_ge (l : List Ev) : l.length ≤ (textOf l).length := by
  induction l with
  | nil => simp
  | cons e l ih =>
    have : textOf (e :: l) = evLine e ++ [10] ++ textOf l := by simp [textOf]
    rw [this]
    simp only [List.length_append, List.length_cons, List.length_nil]
    omega
theorem parse_len (l : List UInt8) : (parseE l).evs.length ≤ l.length := by
  rcases parse_back l with ⟨_, _, h⟩ | ⟨_, h⟩
  · have := textOf_ge (parseE l).evs
    rw [h] at this
    exact this
  · rw [h]; simp

theorem texts_big (A : Option Addr) (n c : Nat) (s : ByteArray) (w : World) (hn : 100 < n ∨ 3000 < s.size) (hT : Tab w) (hM : Mx w) :
    Calls Tryd.prog 5 #[.slice A n c, .string s] w fun e w' => e = .returned (.bool true) ∧ Below w.heap.size w w' := by
  rcases t1 : decide ((100 : Int) < (n : Int)) with _ | _
  · have t2 : decide ((3000 : Int) < (s.size : Int)) = true := by
      have := of_decide_eq_false t1
      rw [decide_eq_true_iff]; omega
    go_enter Tryd.func5, Tryd.ntmps5
    go_wp2_with (go_at_call 9; refine (awake_any _ hT hM).mono ?_; rintro e w1 ⟨rfl, hb⟩)
    go_ret
    exact ⟨rfl, hb⟩
  · go_enter Tryd.func5, Tryd.ntmps5
    go_wp2_with (go_at_call 9; refine (awake_any _ hT hM).mono ?_; rintro e w1 ⟨rfl, hb⟩)
    go_ret
    exact ⟨rfl, hb⟩

set_option maxRecDepth 100000 in
set_option maxHeartbeats 4000000 in
theorem texts_small (A : Option Addr) (c : Nat) (l : List Ev) (s : ByteArray) (w : World) (hn : l.length ≤ 100) (hs : s.size ≤ 3000) (hl : EvSl w w.heap.size A l) (hT : Tab w) (hM : Mx w) :
    Calls Tryd.prog 5 #[.slice A l.length c, .string s] w fun e w' => e = .returned (.bool true) ∧ Below w.heap.size w w' := by
  have t1 : decide ((100 : Int) < (l.length : Int)) = false := by rw [decide_eq_false_iff_not]; omega
  have t2 : decide ((3000 : Int) < (s.size : Int)) = false := by rw [decide_eq_false_iff_not]; omega
  have hlen : s.data.toList.length = s.size := Array.length_toList
  have h1 := fun W hl hT => print_any A c l W (by omega) hl hT
  have h2 := fun W hl => rprint_any A c l W (by omega) hl
  have h3 := fun W hT hM => parse_any s W (by omega) (fun x hx => by have := lns_mem _ x hx; omega) hT hM
  have h4 := fun W => rparse_any s W (by omega) (fun x hx => by have := pcs_mem 10 _ x hx; omega)
  have hpl := parse_len s.data.toList
  obtain ⟨G, hG⟩ : ∃ g, parseE s.data.toList = g := ⟨_, rfl⟩
  rw [hG] at h3 h4 hpl
  obtain ⟨evs, at_, er⟩ := G
  simp only at h3 h4 hpl
  obtain ⟨S, hS⟩ : ∃ x, printS l = x := ⟨_, rfl⟩
  obtain ⟨q, hq⟩ : ∃ x, okAll l = x := ⟨_, rfl⟩
  rw [hS, hq] at h1 h2
  have H1 := Lib.hid h1
  have H2 := Lib.hid h2
  have H3 := Lib.hid h3
  have H4 := Lib.hid h4
  have hev : evs.length ≤ 3000 := by omega
  clear h1 h2 h3 h4 hG hS hq hpl hlen
  go_enter Tryd.func5, Tryd.ntmps5
  go_wp2_with fail
  refine (H1.out _ hl hT).mono ?_
  rintro e w1 ⟨rfl, hb1⟩
  go_wp2_with fail
  refine (H2.out _ (hl.below hb1 hb1.size)).mono ?_
  rintro e w2 ⟨rfl, hb2⟩
  have hB2 := hb1.trans (hb2.mono hb1.size)
  clear hb1 hb2
  go_wp2_with fail
  refine (H3.out _ (hT.below hB2) (hM.below hB2)).mono ?_
  rintro e w3 ⟨v3, rfl, hown3, hb3⟩
  have hB3 := hB2.trans (hb3.mono hB2.size)
  obtain ⟨A3, c3, rfl, _, hs3⟩ := hown3.sl
  clear hb3 hB2 hown3
  go_wp2_with fail
  refine (H4.out _).mono ?_
  rintro e w4 ⟨v4, rfl, hown4, hb4⟩
  have hB4 := hB3.trans (hb4.mono hB3.size)
  obtain ⟨A4, c4, rfl, _, hs4⟩ := hown4.sl
  have hs3' := hs3.below hb4 hb4.size
  clear hb4 hB3 hown4 hs3
  rcases q with _ | _
  all_goals
    go_wp2_with fail
    refine (evs_any A3 A4 c3 c4 evs evs w4 hev hev hs3' hs4).mono ?_
    rintro e w5 ⟨rfl, hb5⟩
    rw [decide_eq_true (rfl : evs = evs)]
    have hB5 := hB4.trans (hb5.mono hB4.size)
    go_wp2_with fail
    refine (awake_any w5 (hT.below hB5) (hM.below hB5)).mono ?_
    rintro e w6 ⟨rfl, hb6⟩
    go_wp2_with fail
    go_ret
    exact ⟨rfl, hB5.trans (hb6.mono hB5.size)⟩

end Go.Proofs.YtopclkkkchhgiaaDoor
