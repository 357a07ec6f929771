/- slices.stableCmpFunc, SortStableFunc on calls. -/
import Derived.Test.YtkcdmonmgnmojaaDoorSo4
import Derived.Test.YtkcdmonmgnmojaaDoorSo12
import Derived.Test.YtkcdmonmgnmojaaDoorSo13
namespace Go.Proofs.YtkcdmonmgnmojaaDoor
open Go.RowKit
attribute [local go_sem] Oper.semAt_some

theorem insert_none (w : World) : Calls Tryd.prog 122 #[.slice none 0 0, .int .i64 0, .int .i64 0, .func (.func 56) #[] #[]] w fun e w' => e = .returned (.tuple #[]) ∧ w' = w := by
  go_enter Tryd.func122, Tryd.ntmps122
  go_wp2_with fail
  go_loopw [8] (fun i wr => i = .int .i64 1 ∧ wr = w) (fun _ _ => 0)
  case atStart => exact ⟨rfl, rfl⟩
  case round =>
    obtain ⟨rfl, rfl⟩ := hrel
    go_wp2_with fail
    (try simp only [Exit.inBlock, Exit.then])
    refine bodyPost_end (results_none rfl _ _ _) rfl ?_
    exact ⟨rfl, rfl⟩
theorem stable_none (w : World) : Calls Tryd.prog 95 #[.slice none 0 0, .int .i64 0, .func (.func 56) #[] #[]] w fun e w' => e = .returned (.tuple #[]) ∧ w' = w := by
  go_enter Tryd.func95, Tryd.ntmps95
  go_wp2_with fail
  go_loopw [7, 8] (fun a b wr => a = .int .i64 0 ∧ b = .int .i64 20 ∧ wr = w) (fun _ _ _ => 0)
  case atStart => exact ⟨rfl, rfl, rfl⟩
  case round =>
    obtain ⟨rfl, rfl, rfl⟩ := hrel
    go_wp2_with fail
    refine (insert_none _).mono ?_
    rintro e w1 ⟨rfl, rfl⟩
    go_wp2_with fail
    go_loopw [6] (fun i wq => i = .int .i64 20 ∧ wq = w1) (fun _ _ => 0)
    case atStart => exact ⟨rfl, rfl⟩
    case round =>
      obtain ⟨rfl, rfl⟩ := hrel
      go_wp2_with fail
      (try simp only [Exit.inBlock, Exit.then])
      refine bodyPost_end (results_none rfl _ _ _) rfl ?_
      exact ⟨rfl, rfl⟩

set_option maxRecDepth 100000 in
set_option maxHeartbeats 8000000 in
theorem stable_any (g cap n : Nat) (L0 : List El) (w : World) (hg : RowsG w g L0) (htag : L0.Pairwise fun e f => e.t < f.t) (hn : L0.length = n) (hcap : n ≤ cap) (hbig : n ≤ 10000) :
    Calls Tryd.prog 95 #[.slice (some ⟨g, 0, none⟩) n cap, .int .i64 (n : Int), .func (.func 56) #[] #[]] w fun e w' => e = .returned (.tuple #[]) ∧ ∃ L, RowsG w' g L ∧ L.Perm L0 ∧ Srt ltE L ∧ KpG g w w' := by
  have HG := Lib.hid hg
  have HT := Lib.hid htag
  have HN := Lib.hid hn
  clear hg htag hn
  go_enter Tryd.func95, Tryd.ntmps95
  go_wp2_with fail
  go_loopw [7, 8] (fun a b wr => ∃ (a' b' : Nat) (D D0 E0 : List El), a = .int .i64 (a' : Int) ∧ b = .int .i64 (b' : Int) ∧ b' = a' + 20 ∧ a' ≤ n ∧ D.length = a' ∧ L0 = D0 ++ E0 ∧ D0.length = a' ∧ BlD 20 D D0 ∧ RowsG wr g (D ++ E0) ∧ KpG g w wr) (fun a _ _ => n - (intOf a).toNat)
  case atStart => exact ⟨0, 20, [], [], L0, rfl, rfl, rfl, Nat.zero_le _, rfl, rfl, rfl, BlD.nil _, HG.out, KpG.refl _ _⟩
  case round =>
    clear HG
    obtain ⟨a, b, D, D0, E0, rfl, rfl, hab, han, hD, hL, hD0, hbl, hr, hk⟩ := hrel
    have hle := congrArg List.length hL
    rw [List.length_append, HN.out] at hle
    by_cases hlt : b ≤ n
    · have c1 : decide ((b : Int) ≤ (n : Int)) = true := by rw [decide_eq_true_iff]; omega
      have c2 : decide (b ≤ n) = true := decide_eq_true hlt
      obtain ⟨b2, hb2⟩ : ∃ b2, b + 20 = b2 := ⟨_, rfl⟩
      have e1 : (b : Int) + 20 = (b2 : Int) := by omega
      have jw : IntKind.i64.wrap (b2 : Int) = (b2 : Int) := so_wrap (by omega) (by omega)
      have hsp : E0.take 20 ++ E0.drop 20 = E0 := List.take_append_drop _ _
      have hl1 : (E0.take 20).length = 20 := by rw [List.length_take]; omega
      generalize E0.take 20 = S0 at hsp hl1
      generalize E0.drop 20 = R at hsp
      subst hsp
      have hcall := insert_any g cap a 20 n D S0 R wr (by simpa using hr) (by
        have h1 := HT.out
        rw [hL] at h1
        exact (List.pairwise_append.1 (List.pairwise_append.1 h1).2.1).1) hD hl1 (by simp at hle; omega) hcap (by omega)
      rw [show ((a + 20 : Nat) : Int) = (b : Int) by omega] at hcall
      have HC := Lib.hid hcall
      have HH := Lib.hid (And.intro hab (And.intro han (And.intro hD (And.intro hL (And.intro hD0 (And.intro hbl (And.intro hl1 (And.intro hlt hb2))))))))
      have HK := Lib.hid hk
      clear hcall hab han hD hL hD0 hbl hl1 hr hk hle hlt hb2
      go_wp2_with fail
      refine HC.out.mono ?_
      rintro x w1 ⟨rfl, S', hg1, hp1, hs1, hk1⟩
      have HG1 := Lib.hid hg1
      have HP1 := Lib.hid (And.intro hp1 (And.intro hs1 hk1))
      clear hg1 hp1 hs1 hk1 HC
      go_wp2_with fail
      go_roundw
      case rel =>
        obtain ⟨hab, han, hD, hL, hD0, hbl, hl1, hlt, hb2⟩ := HH.out
        have hls := HP1.out.1.length_eq
        exact ⟨b, b2, D ++ S', D0 ++ S0, R, rfl, rfl, hb2.symm, hlt, by simp; omega, by rw [hL]; simp, by simp; omega, hbl.snoc (by omega) HP1.out.2.1 HP1.out.1, HG1.out, HK.out.trans HP1.out.2.2⟩
      case measure => have := HH.out; simp [intOf]; omega
    · have c1 : decide ((b : Int) ≤ (n : Int)) = false := by rw [decide_eq_false_iff_not]; omega
      have c2 : decide (b ≤ n) = false := decide_eq_false hlt
      have hcall := insert_any g cap a (n - a) n D E0 [] wr (by simpa using hr) (by
        have h1 := HT.out
        rw [hL] at h1
        exact (List.pairwise_append.1 h1).2.1) hD (by omega) (by simp; omega) hcap (by omega)
      rw [show ((a + (n - a) : Nat) : Int) = (n : Int) by omega] at hcall
      have HC := Lib.hid hcall
      have HH := Lib.hid (And.intro hL (And.intro hbl (And.intro (show E0.length ≤ 20 by omega) hk)))
      clear hcall hab han hD hL hD0 hbl hr hk hle hlt
      go_wp2_with fail
      refine HC.out.mono ?_
      rintro x w1 ⟨rfl, S', hg1, hp1, hs1, hk1⟩
      have HS : Hid (∃ L, Bl 20 L L0 ∧ RowsG w1 g L ∧ KpG g w w1) := Lib.hid (by
        obtain ⟨hL, hbl, hl, hk⟩ := HH.out
        rw [hL]
        exact ⟨D ++ S', hbl _ _ (.last (by rw [hp1.length_eq]; exact hl) hs1 hp1), by simpa using hg1, hk.trans hk1⟩)
      clear hg1 hp1 hs1 hk1 HC HH
      go_wp2_with fail
      go_loopw [6, 7, 8, 9] (fun z _ _ _ wq => ∃ (sz : Nat) (L : List El), z = .int .i64 (sz : Int) ∧ 20 ≤ sz ∧ sz ≤ 20 + 2 * n ∧ Bl sz L L0 ∧ RowsG wq g L ∧ KpG g w wq) (fun z _ _ _ _ => n - (intOf z).toNat)
      case atStart =>
        obtain ⟨L, h1, h2, h3⟩ := HS.out
        exact ⟨20, L, rfl, Nat.le_refl _, by omega, h1, h2, h3⟩
      case round =>
        clear HS
        obtain ⟨sz, L, rfl, hs1, hs2, hbl, hr, hk⟩ := hrel
        have hln : L.length = n := by rw [hbl.perm.length_eq]; exact HN.out
        by_cases hz : sz < n
        · have c1 : decide ((sz : Int) < (n : Int)) = true := by rw [decide_eq_true_iff]; omega
          have c2 : decide (sz < n) = true := decide_eq_true hz
          obtain ⟨s2, hs22⟩ : ∃ s2, 2 * sz = s2 := ⟨_, rfl⟩
          have e1 : 2 * (sz : Int) = (s2 : Int) := by omega
          have e2 : (sz : Int) * 2 = (s2 : Int) := by omega
          have jw : IntKind.i64.wrap (s2 : Int) = (s2 : Int) := so_wrap (by omega) (by omega)
          have HBL := Lib.hid (And.intro hbl (And.intro hr hk))
          have HZ := Lib.hid (And.intro hs22 (And.intro hs1 (And.intro hs2 (And.intro hz hln))))
          clear hbl hr hk hs22 hs1 hs2 hz hln
          go_wp2_with fail
          go_loopw [7, 8] (fun a b wq => ∃ (a' b' : Nat) (D D0 E E0 : List El), a = .int .i64 (a' : Int) ∧ b = .int .i64 (b' : Int) ∧ b' = a' + s2 ∧ a' ≤ n ∧ D.length = a' ∧ D.length + E.length = n ∧ L0 = D0 ++ E0 ∧ BlD s2 D D0 ∧ Bl sz E E0 ∧ RowsG wq g (D ++ E) ∧ KpG g w wq) (fun a _ _ => n - (intOf a).toNat)
          case atStart => exact ⟨0, s2, [], [], L, L0, rfl, rfl, by omega, Nat.zero_le _, rfl, by have := HZ.out; simp; omega, rfl, BlD.nil _, HBL.out.1, HBL.out.2.1, HBL.out.2.2⟩
          case round =>
            clear HBL
            obtain ⟨a, b, D, D0, E, E0, rfl, rfl, hab, han, hD, hDE, hL, hbl, hE, hr, hk⟩ := hrel
            obtain ⟨hs22, hs1, hs2, hz, hln⟩ := HZ.out
            obtain ⟨m, hm⟩ : ∃ m, a + sz = m := ⟨_, rfl⟩
            have e3 : (a : Int) + (sz : Int) = (m : Int) := by omega
            have jm : IntKind.i64.wrap (m : Int) = (m : Int) := so_wrap (by omega) (by omega)
            by_cases hbn : b ≤ n
            · have c1 : decide ((b : Int) ≤ (n : Int)) = true := by rw [decide_eq_true_iff]; omega
              have c2 : decide (b ≤ n) = true := decide_eq_true hbn
              obtain ⟨b2, hb2⟩ : ∃ b2, b + s2 = b2 := ⟨_, rfl⟩
              have e4 : (b : Int) + (s2 : Int) = (b2 : Int) := by omega
              have jb : IntKind.i64.wrap (b2 : Int) = (b2 : Int) := so_wrap (by omega) (by omega)
              obtain ⟨U, U0, E1, E10, rfl, rfl, hU, hsU, hpU, hE1⟩ := hE.split (by omega)
              rw [List.length_append] at hDE
              obtain ⟨V, V0, E2, E20, rfl, rfl, hV, hsV, hpV, hE2⟩ := hE1.split (by omega)
              rw [List.length_append] at hDE
              have htg := HT.out
              rw [hL] at htg
              have htg2 := tags_across htg
              have hcall := sym_any (U.length + V.length) g cap a m b n D U V E2 wr (Nat.le_refl _) (by simpa using hr) hD (by omega) (by omega) (by omega) (by omega) hsU hsV (fun x hx y hy => htg2 x (hpU.subset hx) y (hpV.subset hy)) (by omega) hcap (by omega)
              have HC := Lib.hid hcall
              have HH := Lib.hid (And.intro hab (And.intro hbn (And.intro hb2 (And.intro hD (And.intro hDE (And.intro hL (And.intro hbl (And.intro hE2 (And.intro hU (And.intro hV (And.intro hpU (And.intro hpV hk))))))))))))
              clear hcall hab hbn hb2 hD hDE hL hbl hE2 hU hV hpU hpV hk htg htg2 hsU hsV hE hE1 hr hs22 hs1 hs2 hz hln hm han
              go_wp2_with fail
              refine HC.out.mono ?_
              rintro x w2 ⟨rfl, W, hg1, hp1, hs1, hk1⟩
              have HG1 := Lib.hid hg1
              have HP1 := Lib.hid (And.intro hp1 (And.intro hs1 hk1))
              clear hg1 hp1 hs1 hk1 HC
              go_wp2_with fail
              go_roundw
              case rel =>
                obtain ⟨hab, hbn, hb2, hD, hDE, hL, hbl, hE2, hU, hV, hpU, hpV, hk⟩ := HH.out
                have hls := HP1.out.1.length_eq
                rw [List.length_append] at hls
                have hz := HZ.out
                exact ⟨b, b2, D ++ W, D0 ++ (U0 ++ V0), E2, E20, rfl, rfl, hb2.symm, hbn, by simp; omega, by simp; omega, by rw [hL]; simp, hbl.snoc (by omega) HP1.out.2.1 (HP1.out.1.trans (hpU.append hpV)), hE2, HG1.out, hk.trans HP1.out.2.2⟩
              case measure => have := HH.out; have := HZ.out; simp [intOf]; omega
            · have c1 : decide ((b : Int) ≤ (n : Int)) = false := by rw [decide_eq_false_iff_not]; omega
              have c2 : decide (b ≤ n) = false := decide_eq_false hbn
              by_cases hmn : m < n
              · have c3 : decide ((m : Int) < (n : Int)) = true := by rw [decide_eq_true_iff]; omega
                have c4 : decide (m < n) = true := decide_eq_true hmn
                obtain ⟨U, U0, E1, E10, rfl, rfl, hU, hsU, hpU, hE1⟩ := hE.split (by omega)
                rw [List.length_append] at hDE
                have hsV := hE1.one (by omega)
                have hpV := hE1.perm
                have htg := HT.out
                rw [hL, show D0 ++ (U0 ++ E10) = D0 ++ (U0 ++ (E10 ++ [])) by simp] at htg
                have htg2 := tags_across htg
                have hcall := sym_any (U.length + E1.length) g cap a m n n D U E1 [] wr (Nat.le_refl _) (by simpa using hr) hD (by omega) (by omega) (by omega) (by omega) hsU hsV (fun x hx y hy => htg2 x (hpU.subset hx) y (hpV.subset hy)) (by simp) hcap (by omega)
                have HC := Lib.hid hcall
                have HH := Lib.hid (And.intro hL (And.intro hbl (And.intro (show U.length + E1.length ≤ s2 by omega) (And.intro hpU (And.intro hpV (And.intro hk (show s2 ≤ 20 + 2 * n ∧ 20 ≤ s2 ∧ n < s2 + n ∧ sz < n ∧ sz < s2 by omega)))))))
                clear hcall hab hbn hD hDE hL hbl hU hpU hpV hk htg htg2 hsU hsV hE hE1 hr hs22 hs1 hs2 hz hln hm han hmn
                go_wp2_with fail
                refine HC.out.mono ?_
                rintro x w2 ⟨rfl, W, hg1, hp1, hs1, hk1⟩
                have HG1 := Lib.hid hg1
                have HP1 := Lib.hid (And.intro hp1 (And.intro hs1 hk1))
                clear hg1 hp1 hs1 hk1 HC
                go_wp2_with fail
                go_roundw
                case rel =>
                  obtain ⟨hL, hbl, hl, hpU, hpV, hk, h1, h2, _⟩ := HH.out
                  have hls := HP1.out.1.length_eq
                  rw [List.length_append] at hls
                  exact ⟨s2, D ++ W, rfl, h2, h1, by rw [hL]; exact hbl _ _ (.last (by omega) HP1.out.2.1 (HP1.out.1.trans (hpU.append hpV))), by simpa using HG1.out, hk.trans HP1.out.2.2⟩
                case measure => have := HH.out; simp [intOf]; omega
              · have c3 : decide ((m : Int) < (n : Int)) = false := by rw [decide_eq_false_iff_not]; omega
                have c4 : decide (m < n) = false := decide_eq_false hmn
                have hsE := hE.one (by omega)
                have HH := Lib.hid (And.intro hL (And.intro hbl (And.intro (show E.length ≤ s2 by omega) (And.intro hsE (And.intro hE.perm (And.intro hr (And.intro hk (show s2 ≤ 20 + 2 * n ∧ 20 ≤ s2 ∧ sz < n ∧ sz < s2 by omega))))))))
                clear hab hbn hD hDE hL hbl hk hsE hE hr hs22 hs1 hs2 hz hln hm han hmn
                go_wp2_with fail
                go_roundw
                case rel =>
                  obtain ⟨hL, hbl, hl, hsE, hpE, hr, hk, h1, h2, _⟩ := HH.out
                  exact ⟨s2, D ++ E, rfl, h2, h1, by rw [hL]; exact hbl _ _ (.last hl hsE hpE), hr, hk⟩
                case measure => have := HH.out; simp [intOf]; omega
        · have c1 : decide ((sz : Int) < (n : Int)) = false := by rw [decide_eq_false_iff_not]; omega
          have c2 : decide (sz < n) = false := decide_eq_false hz
          have HF := Lib.hid (And.intro hr (And.intro hbl.perm (And.intro (hbl.one (by omega)) hk)))
          clear hbl hr hk hs1 hs2 hz hln
          go_wp2_with fail
          (try simp only [Exit.inBlock, Exit.then])
          refine bodyPost_end (results_none rfl _ _ _) rfl ?_
          exact ⟨rfl, L, HF.out⟩

theorem sort_any (g cap n : Nat) (L0 : List El) (w : World) (hg : RowsG w g L0) (htag : L0.Pairwise fun e f => e.t < f.t) (hn : L0.length = n) (hcap : n ≤ cap) (hbig : n ≤ 10000) :
    Calls Tryd.prog 55 #[.slice (some ⟨g, 0, none⟩) n cap, .func (.func 56) #[] #[]] w fun e w' => e = .returned (.tuple #[]) ∧ ∃ L, RowsG w' g L ∧ L.Perm L0 ∧ Srt ltE L ∧ KpG g w w' := by
  have HC := Lib.hid (stable_any g cap n L0 w hg htag hn hcap hbig)
  clear hg htag hn
  go_enter Tryd.func55, Tryd.ntmps55
  go_wp2_with fail
  refine HC.out.mono ?_
  rintro x w1 ⟨rfl, h⟩
  go_wp2_with fail
  (try simp only [Exit.inBlock, Exit.then])
  refine bodyPost_end (results_none rfl _ _ _) rfl ?_
  exact ⟨rfl, h⟩
theorem sort_none (w : World) : Calls Tryd.prog 55 #[.slice none 0 0, .func (.func 56) #[] #[]] w fun e w' => e = .returned (.tuple #[]) ∧ w' = w := by
  go_enter Tryd.func55, Tryd.ntmps55
  go_wp2_with fail
  refine (stable_none w).mono ?_
  rintro x w1 ⟨rfl, rfl⟩
  go_wp2_with fail
  (try simp only [Exit.inBlock, Exit.then])
  refine bodyPost_end (results_none rfl _ _ _) rfl ?_
  exact ⟨rfl, rfl⟩

end Go.Proofs.YtkcdmonmgnmojaaDoor
