/- coxswainlaw04.RecordUnstamps: the walk of the law. -/
import Derived.Test.YtjfgmallhjclgaaDoorRec3
namespace Go.Proofs.YtjfgmallhjclgaaDoor
open Go.RowKit

theorem law2_big (A : Option Addr) (n c : Nat) (w : World) (hn : 60 < n) (hT : Tab w) :
    Calls Tryd.prog 4 #[.slice A n c] w fun e w' => e = .returned (.bool true) ∧ Below w.heap.size w w' := by
  go_enter Tryd.func4, Tryd.ntmps4
  go_wp2_with fail
  refine (awake_any _ hT).mono ?_
  rintro e w1 ⟨rfl, hb⟩
  go_wp2_with fail
  go_ret
  exact ⟨rfl, hb⟩

theorem unst_out {l : List Int} (h : ¬ (0 < l.length ∧ l.length ≤ 8)) : unstB l = false ∧ unstN l = 0 := by
  have h1 : unstB l = false := by unfold unstB; rw [decide_eq_false_iff_not]; intro hh; exact h ⟨hh.1, hh.2.1⟩
  exact ⟨h1, by unfold unstN; rw [h1]; rfl⟩
theorem unst_in {l : List Int} {x : Int} (hx : l[0]? = some x) (h8 : l.length ≤ 8) : unstB l = decide (l = stampL x l.length) ∧ unstN l = if decide (l = stampL x l.length) then x else 0 := by
  have hhd : l.headD 0 = x := by cases l with | nil => simp at hx | cons a l => simpa using hx
  have h0 := get_lt hx
  have h1 : unstB l = decide (l = stampL x l.length) := by unfold unstB; rw [hhd]; exact decide_eq_decide.2 ⟨fun h => h.2.2, fun h => ⟨h0, h8, h⟩⟩
  exact ⟨h1, by unfold unstN; rw [hhd, h1]⟩

set_option maxHeartbeats 1000000 in
theorem law2_small (A : Option Addr) (c : Nat) (l : List Int) (w : World) (hn : l.length ≤ 60) (hl : Ws w w.heap.size A l) (hT : Tab w) :
    Calls Tryd.prog 4 #[.slice A l.length c] w fun e w' => e = .returned (.bool true) ∧ Below w.heap.size w w' := by
  by_cases h0 : l.length = 0
  · have hu := unst_out (l := l) (by omega)
    obtain rfl := List.eq_nil_of_length_eq_zero h0
    clear h0
    go_enter Tryd.func4, Tryd.ntmps4
    go_wp2_with fail
    refine (unstamp_any A c [] _ (by decide) hl).mono ?_
    rintro e w1 ⟨rfl, hb⟩
    rw [hu.1, hu.2]
    go_wp2_with fail
    refine (awake_any _ (hT.below hb)).mono ?_
    rintro e w2 ⟨rfl, hb2⟩
    go_wp2_with fail
    go_ret
    exact ⟨rfl, hb.trans (hb2.mono hb.size)⟩
  · have x0 : decide ((0 : Int) < (l.length : Int)) = true := by rw [decide_eq_true_iff]; omega
    by_cases h8 : 8 < l.length
    · have hu := unst_out (l := l) (by omega)
      have x1 : decide ((l.length : Int) ≤ 8) = false := by rw [decide_eq_false_iff_not]; omega
      go_enter Tryd.func4, Tryd.ntmps4
      go_wp2_with fail
      refine (unstamp_any A c l _ (by omega) hl).mono ?_
      rintro e w1 ⟨rfl, hb⟩
      rw [hu.1, hu.2]
      go_wp2_with fail
      refine (awake_any _ (hT.below hb)).mono ?_
      rintro e w2 ⟨rfl, hb2⟩
      go_wp2_with fail
      go_ret
      exact ⟨rfl, hb.trans (hb2.mono hb.size)⟩
    · have x1 : decide ((l.length : Int) ≤ 8) = true := by rw [decide_eq_true_iff]; omega
      obtain ⟨x, hx⟩ := get_some (show 0 < l.length by omega)
      obtain ⟨⟨_, hx0, hx1⟩, b, off, rfl, hlb, hc⟩ := hl.get hx
      replace hc : w.cell? ⟨b, off, none⟩ = some (.int .u32 x) := by simpa using hc
      have hu := unst_in hx (by omega)
      have hst := Lib.hid (stampLen_of l.length (by omega))
      have hlen := Lib.hid (stampL_len x l.length)
      clear hx
      rcases hd : decide (l = stampL x l.length) with _ | _
      all_goals
        rw [hd] at hu
        have hu1 := hu.1
        have hu2 := hu.2
        have hd' := Lib.hid hd
        clear hd hu
        go_enter Tryd.func4, Tryd.ntmps4
        go_wp2_with fail
        refine (unstamp_any (some ⟨b, off, none⟩) c l _ (by omega) hl).mono ?_
        rintro e w1 ⟨rfl, hb⟩
        rw [hu1, hu2]
        have hcw := (hb.cell (p := ⟨b, off, none⟩) hlb).trans hc
        have hlw := hl.below hb hb.size
        have hbs := hb.size
        go_wp2_with fail
        refine (rstamp_any _ x _ hx0 hx1 (by omega) (by omega)).mono ?_
        rintro e w2 ⟨v, rfl, hov, hb2⟩
        rw [hst.out] at hov
        obtain ⟨A2, c2, rfl, _, hw2⟩ := hov.ws
        rw [hlen.out]
        have hbs2 := hb2.size
        have hcw2 := (hb2.cell (p := ⟨b, off, none⟩) (show b < w1.heap.size by omega)).trans hcw
        have hlw2 := hlw.below hb2 hbs2
        have hb12 := hb.trans (hb2.mono hbs)
        clear hov hcw hlw hb hb2
        go_wp2_with fail
        refine (by have := rsame_any (some ⟨b, off, none⟩) A2 c c2 l (stampL x l.length) w2 (by omega) (by have := hlen.out; omega) hlw2 hw2; rw [hlen.out, hd'.out] at this; exact this : Calls _ _ _ _ _).mono ?_
        rintro e w3 ⟨rfl, hb3⟩
        have hcw3 := (hb3.cell (p := ⟨b, off, none⟩) (show b < w2.heap.size by omega)).trans hcw2
        have hb13 := hb12.trans (hb3.mono hb12.size)
        have hT3 := hT.below hb13
        have hbs3 := hb13.size
        clear hcw2 hlw2 hw2 hb12 hb3
        go_wp2_with fail
        refine (awake_any _ hT3).mono ?_
        rintro e w4 ⟨rfl, hb4⟩
        go_wp2_with fail
        go_ret
        exact ⟨rfl, hb13.trans (hb4.mono hbs3)⟩

end Go.Proofs.YtjfgmallhjclgaaDoor
