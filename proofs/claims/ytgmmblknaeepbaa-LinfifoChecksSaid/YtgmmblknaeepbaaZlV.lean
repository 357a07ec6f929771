/- The law LinfifoChecks. -/
import Derived.Test.YtgmmblknaeepbaaZlV0
namespace Go.Proofs.Ytgmmblknaeepbaa
open Go.RowKit

theorem compact_up {zs : List Int} (hs : zs.Pairwise (· ≤ ·)) : ∀ m, m ≤ zs.length → (Lib.compactUpTo zs.toArray m).Pairwise (· < ·) ∧ (∀ x ∈ Lib.compactUpTo zs.toArray m, 0 < m ∧ x ≤ zs.toArray[m - 1]!) ∧ (∀ i, i < m → zs.toArray[i]! ∈ Lib.compactUpTo zs.toArray m) := by
  intro m
  induction m with
  | zero => exact fun _ => ⟨by simp [Lib.compactUpTo], fun x hx => by simp [Lib.compactUpTo] at hx, fun i hi => by omega⟩
  | succ m ih =>
    intro hm
    obtain ⟨h1, h2, h3⟩ := ih (by omega)
    have hget : ∀ i, i < zs.length → zs.toArray[i]! = zs[i]! := fun i hi => by simp
    have hle : ∀ i j, i ≤ j → j < zs.length → zs.toArray[i]! ≤ zs.toArray[j]! := fun i j hij hj => by
      rw [hget i (by omega), hget j hj, getElem!_pos zs i (by omega), getElem!_pos zs j hj]
      rcases Nat.lt_or_ge i j with h | h
      · exact List.pairwise_iff_getElem.1 hs i j (by omega) hj h
      · have : i = j := by omega
        subst this
        exact Int.le_refl _
    rw [Lib.compactUpTo_succ, Nat.add_sub_cancel]
    by_cases hk : m = 0 ∨ zs.toArray[m]! ≠ zs.toArray[m - 1]!
    · have hkeep : Lib.keeps zs.toArray m = true := by simpa [Lib.keeps] using hk
      rw [if_pos hkeep]
      have hlt : ∀ x ∈ Lib.compactUpTo zs.toArray m, x < zs.toArray[m]! := fun x hx => by
        obtain ⟨h0, hx⟩ := h2 x hx
        have := hle (m - 1) m (by omega) (by omega)
        rcases hk with h | h
        · omega
        · omega
      refine ⟨List.pairwise_append.2 ⟨h1, List.pairwise_singleton _ _, fun x hx y hy => by rw [List.mem_singleton.1 hy]; exact hlt x hx⟩, fun x hx => ⟨by omega, ?_⟩, fun i hi => ?_⟩
      · rcases List.mem_append.1 hx with hx | hx
        · exact Int.le_of_lt (hlt x hx)
        · rw [List.mem_singleton.1 hx]; exact Int.le_refl _
      · rcases Nat.lt_or_ge i m with h | h
        · exact List.mem_append_left _ (h3 i h)
        · have : i = m := by omega
          subst this
          exact List.mem_append_right _ (List.mem_singleton.2 rfl)
    · have hm0 : 0 < m := by
        rcases Nat.eq_zero_or_pos m with h | h
        · exact absurd (.inl h) hk
        · exact h
      have heq : zs.toArray[m]! = zs.toArray[m - 1]! := by
        rcases Int.decEq (zs.toArray[m]!) (zs.toArray[m - 1]!) with h | h
        · exact absurd (.inr h) hk
        · exact h
      rw [Lib.keeps_neg hm0 heq]
      simp only [Bool.false_eq_true, if_false, List.append_nil]
      refine ⟨h1, fun x hx => ⟨by omega, ?_⟩, fun i hi => ?_⟩
      · rw [heq]; exact (h2 x hx).2
      · rcases Nat.lt_or_ge i m with h | h
        · exact h3 i h
        · have : i = m := by omega
          subst this
          rw [heq]
          exact h3 _ (by omega)
theorem sorted_lt (l : List Int) : (sorted l).Pairwise (· < ·) := by
  have hs : (l.mergeSort fun x y => decide (x ≤ y)).Pairwise (· ≤ ·) := by
    have := List.pairwise_mergeSort (le := fun (x y : Int) => decide (x ≤ y)) (fun a b c => by simp only [decide_eq_true_eq]; omega) (fun a b => by simp only [Bool.or_eq_true, decide_eq_true_eq]; omega) l
    exact List.Pairwise.imp (fun h => by simpa using h) this
  exact (compact_up hs _ (Nat.le_refl _)).1
theorem sorted_mem (l : List Int) {x : Int} (h : x ∈ l) : x ∈ sorted l := by
  have hs : (l.mergeSort fun x y => decide (x ≤ y)).Pairwise (· ≤ ·) := by
    have := List.pairwise_mergeSort (le := fun (x y : Int) => decide (x ≤ y)) (fun a b c => by simp only [decide_eq_true_eq]; omega) (fun a b => by simp only [Bool.or_eq_true, decide_eq_true_eq]; omega) l
    exact List.Pairwise.imp (fun h => by simpa using h) this
  have hx : x ∈ l.mergeSort fun x y => decide (x ≤ y) := (List.mergeSort_perm l _).symm.subset h
  obtain ⟨i, hi⟩ := List.getElem?_of_mem hx
  have hlt := get_lt hi
  have := (compact_up hs _ (Nat.le_refl _)).2.2 i hlt
  have he : (l.mergeSort fun x y => decide (x ≤ y)).toArray[i]! = x := by
    rw [List.getElem?_eq_getElem hlt] at hi
    simp only [List.getElem!_toArray]
    rw [getElem!_pos _ i hlt]
    exact Option.some.inj hi
  rw [he] at this
  exact this

theorem lensOf_eq {n : Int} {l S : List Cl} (hf : fitsB l = true) (hS : SortOf S l) : lensOf n S = tellR l.length (ordersR n l.length l []) := by
  have hlen := hS.perm.length_eq
  refine lens_eq (E := endsOf n S) (sorted_lt _) (fun x => ⟨fun h => ?_, fun h => sorted_mem _ h⟩) (fun k => all_orders hf hS.perm hS.le (S.length + 1) (by omega) k) (fun k hk => ends_small hS.perm hk)
  have h1 := compact_sub h
  exact (List.mergeSort_perm (endsOf n S) (fun x y => decide (x ≤ y))).mem_iff.1 h1
theorem lens_is {n : Int} {l : List Cl} {Z : List Int} (z1 : fitsB l = false → Z = []) (z2 : fitsB l = true → ∃ S, SortOf S l ∧ Z = lensOf n S) : Z = if fitsB l = true then tellR l.length (ordersR n l.length l []) else [] := by
  cases hf : fitsB l with
  | false => rw [z1 hf]; rfl
  | true =>
    obtain ⟨S, hS, rfl⟩ := z2 hf
    rw [lensOf_eq hf hS]
    rfl

set_option maxRecDepth 100000 in
set_option maxHeartbeats 8000000 in
theorem lawChecks_any (n : Int) (A : Option Addr) (c : Nat) (l : List Cl) (w : World) (hc : l.length ≤ c) (hl : ClSl w w.heap.size A l) :
    Calls Try.prog 3 #[.int .i64 n, .slice A l.length c] w fun e w' => e = .returned (.bool true) ∧ Below w.heap.size w w' := by
  have hsh := short_any A c l 7 w hl (by omega)
  cases hs : shortB l 7 with
  | false =>
    rw [hs] at hsh
    have HSH := Lib.hid hsh
    clear hsh hs hl
    go_enter Try.func3, Try.ntmps3
    go_wp2_with fail
    refine HSH.out.mono ?_
    rintro e w1 ⟨rfl, hb1⟩
    go_wp2_with fail
    refine (awake_any w1).mono ?_
    rintro e w2 ⟨rfl, hb2⟩
    go_wp2_with fail
    go_ret
    exact ⟨rfl, hb1.trans (hb2.mono hb1.size)⟩
  | true =>
    obtain ⟨hn, hr⟩ := short_parts hs
    rw [hs] at hsh
    have HSH := Lib.hid hsh
    have hn7 : l.length ≤ 7 := by omega
    have HRFI := Lib.hid (fun (W : World) (hb : Below w.heap.size w W) => rfits_any A c l W (by omega) (hl.below hb hb.size))
    have HFI := Lib.hid (fun (W : World) (hb : Below w.heap.size w W) => lFits_any A c l W (by omega) hc (hl.below hb hb.size))
    have HLE := Lib.hid (fun (W : World) (hb : Below w.heap.size w W) => lengths_any n A c l W (by omega) hc hr (hl.below hb hb.size))
    have HCH := Lib.hid (fun (W : World) (hb : Below w.heap.size w W) => check_any n A c l W (by omega) hc hr (hl.below hb hb.size))
    have HRL := Lib.hid (fun (h34 : ∀ x ∈ l, x.q = 3 ∨ x.q = 4) (W : World) (hb : Below w.heap.size w W) => rlengths_any n A c l W hn7 hc h34 (hl.below hb hb.size))
    have HIS := Lib.hid (fun (Z : List Int) z1 z2 => lens_is (n := n) (l := l) (Z := Z) z1 z2)
    have H34 := Lib.hid (show fitsB l = true → ∀ x ∈ l, x.q = 3 ∨ x.q = 4 from fun hf x hx => by
      have h := fits_lf hf x hx
      unfold lfB at h
      simp only [Bool.or_eq_true, Bool.and_eq_true, beq_iff_eq] at h
      omega)
    have hln : (tellR l.length (ordersR n l.length l [])).length ≤ 8 := Nat.le_trans (tellK_len (l.length + 1) _) (by omega)
    obtain ⟨fb, hfb⟩ : ∃ y, fitsB l = y := ⟨_, rfl⟩
    obtain ⟨TL, hTL⟩ : ∃ y, tellR l.length (ordersR n l.length l []) = y := ⟨_, rfl⟩
    rw [hTL] at HIS HRL hln
    rw [hfb] at HRFI HFI H34 HIS
    have HFB := Lib.hid hfb
    clear hsh hs hl hr hn hfb hTL
    go_enter Try.func3, Try.ntmps3
    go_wp2_with fail
    refine HSH.out.mono ?_
    rintro e w1 ⟨rfl, hb1⟩
    have HB1 := Lib.hid hb1
    clear hb1
    go_wp2_with fail
    refine (HRFI.out _ HB1.out).mono ?_
    rintro e w2 ⟨rfl, hb2⟩
    have HB2 := Lib.hid (HB1.out.trans (hb2.mono HB1.out.size))
    clear hb2
    cases fb with
    | false =>
      go_wp2_with fail
      refine (HFI.out _ HB2.out).mono ?_
      rintro e w3 ⟨rfl, hb3⟩
      have HB3 := Lib.hid (HB2.out.trans (hb3.mono HB2.out.size))
      clear hb3
      go_wp2_with fail
      refine (HLE.out _ HB3.out).mono ?_
      rintro e w4 ⟨v, Z, rfl, hO, z1, _, hb4⟩
      obtain rfl : Z = [] := z1 HFB.out
      obtain ⟨Az, cz, rfl, _, _, hsz⟩ := hO.sl
      have HB4 := Lib.hid (HB3.out.trans (hb4.mono HB3.out.size))
      have hi := ints_any Az none cz 0 [] [] w4 (by simp) (by simp) hsz SlOf.nil
      rw [show decide (([] : List Int) = []) = true from rfl] at hi
      have HI := Lib.hid (show Calls Try.prog 11 #[.slice Az 0 cz, .slice none 0 0] w4 _ from hi)
      clear hO z1 hb4 hsz hi
      simp only [List.length_nil]
      go_wp2_with fail
      refine HI.out.mono ?_
      rintro e w5 ⟨rfl, hb5⟩
      have HB5 := Lib.hid (HB4.out.trans (hb5.mono HB4.out.size))
      clear hb5
      go_wp2_with fail
      refine (HCH.out _ HB5.out).mono ?_
      rintro e w6 ⟨Z, rfl, z1, _, hb6⟩
      obtain rfl : Z = [] := z1 HFB.out
      have HB6 := Lib.hid (HB5.out.trans (hb6.mono HB5.out.size))
      clear hb6 z1
      rw [show decide (0 < ([] : List Int).length) = false from rfl]
      go_wp2_with fail
      refine (awake_any _).mono ?_
      rintro e w7 ⟨rfl, hb7⟩
      have HB7 := Lib.hid (HB6.out.trans (hb7.mono HB6.out.size))
      clear hb7
      go_wp2_with fail
      go_ret
      exact ⟨rfl, HB7.out⟩
    | true =>
      go_wp2_with fail
      refine (HRL.out (H34.out (by first | rfl | trivial)) _ HB2.out).mono ?_
      rintro e w3 ⟨v, rfl, hO, hb3⟩
      obtain ⟨At, ct, rfl, _, _, hst⟩ := hO.sl
      have HB3 := Lib.hid (HB2.out.trans (hb3.mono HB2.out.size))
      have HST := Lib.hid hst
      clear hO hb3 hst
      go_wp2_with fail
      refine (HFI.out _ HB3.out).mono ?_
      rintro e w4 ⟨rfl, hb4⟩
      have HB4 := Lib.hid (HB3.out.trans (hb4.mono HB3.out.size))
      have HST4 := Lib.hid (HST.out.below hb4 hb4.size)
      clear hb4
      go_wp2_with fail
      refine (HLE.out _ HB4.out).mono ?_
      rintro e w5 ⟨v, Z, rfl, hO, z1, z2, hb5⟩
      obtain rfl : Z = TL := HIS.out Z (fun h => z1 (HFB.out.trans h)) (fun _ => z2 HFB.out)
      obtain ⟨Az, cz, rfl, _, _, hsz⟩ := hO.sl
      have HB5 := Lib.hid (HB4.out.trans (hb5.mono HB4.out.size))
      have hi := ints_any Az At cz ct Z Z w5 (by omega) (by omega) hsz (HST4.out.below hb5 hb5.size)
      rw [decide_eq_true rfl] at hi
      have HI := Lib.hid hi
      clear hO z1 z2 hb5 hsz hi
      go_wp2_with fail
      refine HI.out.mono ?_
      rintro e w6 ⟨rfl, hb6⟩
      have HB6 := Lib.hid (HB5.out.trans (hb6.mono HB5.out.size))
      clear hb6
      go_wp2_with fail
      refine (HCH.out _ HB6.out).mono ?_
      rintro e w7 ⟨Z2, rfl, z1, z2, hb7⟩
      obtain rfl : Z2 = Z := HIS.out Z2 (fun h => z1 (HFB.out.trans h)) (fun _ => z2 HFB.out)
      have HB7 := Lib.hid (HB6.out.trans (hb7.mono HB6.out.size))
      clear hb7 z1 z2
      obtain ⟨zl, hzl⟩ : ∃ y, Z2.length = y := ⟨_, rfl⟩
      by_cases hz : 0 < zl
      · have t1 : decide (0 < Z2.length) = true := by rw [hzl]; simpa using hz
        have t2 : decide ((0 : Int) < (Z2.length : Int)) = true := by rw [hzl]; simp; omega
        have t3 : 0 < Z2.length := by rw [hzl]; exact hz
        rw [t1]
        clear hzl
        go_wp2_with fail
        refine (awake_any _).mono ?_
        rintro e w8 ⟨rfl, hb8⟩
        have HB8 := Lib.hid (HB7.out.trans (hb8.mono HB7.out.size))
        clear hb8
        go_wp2_with fail
        go_ret
        exact ⟨rfl, HB8.out⟩
      · have t1 : decide (0 < Z2.length) = false := by rw [hzl]; simpa using hz
        have t2 : decide ((0 : Int) < (Z2.length : Int)) = false := by rw [hzl]; simp; omega
        have t3 : ¬ 0 < Z2.length := by rw [hzl]; exact hz
        rw [t1]
        clear hzl
        go_wp2_with fail
        refine (awake_any _).mono ?_
        rintro e w8 ⟨rfl, hb8⟩
        have HB8 := Lib.hid (HB7.out.trans (hb8.mono HB7.out.size))
        clear hb8
        go_wp2_with fail
        go_ret
        exact ⟨rfl, HB8.out⟩

end Go.Proofs.Ytgmmblknaeepbaa
