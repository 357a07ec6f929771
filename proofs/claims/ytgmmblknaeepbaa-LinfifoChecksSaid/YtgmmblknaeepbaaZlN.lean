/- The law LinfifoFollows. -/
import Derived.Test.YtgmmblknaeepbaaZlO
namespace Go.Proofs.Ytgmmblknaeepbaa
open Go.RowKit

theorem fol_same {l : List Cl} {b1 b2 : Bool} (h1 : fitsB l = false → b1 = false) (h2 : fitsB l = true → ∃ S, SortOf S l ∧ b1 = (takenI (takesOf S)).isPrefixOf (putI (putsOf S))) (g1 : fitsB l = false → b2 = false) (g2 : fitsB l = true → ∃ S, SortOf S l ∧ b2 = (takenI (takesOf S)).isPrefixOf (putI (putsOf S))) : b1 = b2 := by
  cases hf : fitsB l with
  | false => rw [h1 hf, g1 hf]
  | true =>
    obtain ⟨S, hS, rfl⟩ := h2 hf
    obtain ⟨S', hS', rfl⟩ := g2 hf
    rw [hS.one hS']
theorem fol_check {n : Int} {l : List Cl} {Z : List Int} {b : Bool} (hz1 : fitsB l = false → Z = []) (hz2 : fitsB l = true → ∃ S, SortOf S l ∧ Z = lensOf n S) (h2 : fitsB l = true → ∃ S, SortOf S l ∧ b = (takenI (takesOf S)).isPrefixOf (putI (putsOf S))) (hZ : 0 < Z.length) : b = true := by
  cases hf : fitsB l with
  | false => rw [hz1 hf] at hZ; exact absurd hZ (by simp)
  | true =>
    obtain ⟨S, hS, rfl⟩ := hz2 hf
    obtain ⟨S', hS', rfl⟩ := h2 hf
    rw [hS'.one hS]
    obtain ⟨k, hk⟩ := get_some hZ
    have hk := List.mem_of_getElem? hk
    unfold lensOf at hk
    have h1 := compact_sub hk
    have h3 : k ∈ endsOf n S := (List.mergeSort_perm (endsOf n S) (fun x y => decide (x ≤ y))).mem_iff.1 h1
    unfold endsOf at h3
    have hlf := fits_lf hf
    have hlS : ∀ x ∈ S, lfB x = true := fun x hx => hlf x (hS.perm.subset hx)
    have hsub : (takesOf S).Sublist S := List.filter_sublist
    have hq4 : ∀ x ∈ takesOf S, x.q = 4 := fun x hx => by
      obtain ⟨m1, m2⟩ := mem_takes.1 hx
      have h := hlS x m1
      unfold lfB at h
      simp only [Bool.or_eq_true, Bool.and_eq_true, beq_iff_eq] at h
      omega
    have hO : ∀ (j : Nat) (c : Cl), (takesOf S)[j]? = some c → opn c = true → j + 1 = (takesOf S).length := fun j c hc ho => opn_last hf hS.perm hS.le hsub (fun x hx y hy => (hq4 x hx).trans (hq4 y hy).symm) hc ho
    have hT : ∀ x ∈ takesOf S, gdc x = (!opn x && !emp x) := fun x hx => (takes_cl hlS x hx).1
    rcases dfs_inv (I := InvF (putsOf S) (takesOf S)) (fun s t h ht => h.put ht) (fun s t h ht => h.take hO hT ht) _ _ _ (InvF.zero _ _) k h3 with h | ⟨t, h, hd, rfl⟩
    · cases h
    · exact List.isPrefixOf_iff_prefix.2 (h.fin hd)

set_option maxRecDepth 100000 in
set_option maxHeartbeats 8000000 in
theorem lawFollows_any (n : Int) (A : Option Addr) (c : Nat) (l : List Cl) (w : World) (hc : l.length ≤ c) (hl : ClSl w w.heap.size A l) :
    Calls Try.prog 5 #[.int .i64 n, .slice A l.length c] w fun e w' => e = .returned (.bool true) ∧ Below w.heap.size w w' := by
  have hsh := short_any A c l 40 w hl (by omega)
  cases hs : shortB l 40 with
  | false =>
    rw [hs] at hsh
    have HSH := Lib.hid hsh
    clear hsh hs hl
    go_enter Try.func5, Try.ntmps5
    go_wp2_with fail
    refine HSH.out.mono ?_
    rintro e w1 ⟨rfl, hb1⟩
    go_wp2_with fail
    refine (awake_any w1).mono ?_
    rintro e w2 ⟨rfl, hb2⟩
    go_wp2_with fail
    go_ret
    exact ⟨rfl, hb1.trans (hb2.mono hb1.size)⟩
  | true =>
    obtain ⟨hn, hr⟩ := short_parts hs
    rw [hs] at hsh
    have HSH := Lib.hid hsh
    have hn40 : l.length ≤ 40 := by omega
    have HFO := Lib.hid (fun (W : World) (hb : Below w.heap.size w W) => follows_any A c l W hn40 hc hr (hl.below hb hb.size))
    have HRF := Lib.hid (fun (W : World) (hb : Below w.heap.size w W) => rfollows_any A c l W hn40 (hl.below hb hb.size))
    have HCH := Lib.hid (fun (W : World) (hb : Below w.heap.size w W) => check_any n A c l W hn40 hc hr (hl.below hb hb.size))
    clear hsh hs hl hr hn
    go_enter Try.func5, Try.ntmps5
    go_wp2_with fail
    refine HSH.out.mono ?_
    rintro e w1 ⟨rfl, hb1⟩
    have HB1 := Lib.hid hb1
    clear hb1
    go_wp2_with fail
    refine (HFO.out _ HB1.out).mono ?_
    rintro e w2 ⟨b1, rfl, h1, h2, hb2⟩
    have HB2 := Lib.hid (HB1.out.trans (hb2.mono HB1.out.size))
    have H1 := Lib.hid h1
    have H2 := Lib.hid h2
    clear h1 h2 hb2
    go_wp2_with fail
    refine (HRF.out _ HB2.out).mono ?_
    rintro e w3 ⟨b2, rfl, g1, g2, hb3⟩
    obtain rfl : b1 = b2 := fol_same H1.out H2.out g1 g2
    have hbb : (b1 == b1) = true := by simp
    have HB3 := Lib.hid (HB2.out.trans (hb3.mono HB2.out.size))
    clear g1 g2 hb3
    go_wp2_with fail
    refine (HCH.out _ HB3.out).mono ?_
    rintro e w4 ⟨Z, rfl, z1, z2, hb4⟩
    have HB4 := Lib.hid (HB3.out.trans (hb4.mono HB3.out.size))
    have Z1 := Lib.hid z1
    have Z2 := Lib.hid z2
    clear z1 z2 hb4
    obtain ⟨v, hv⟩ : ∃ v, decide (0 < Z.length) = v := ⟨_, rfl⟩
    have HV := Lib.hid hv
    rw [hv]
    clear hv
    cases v with
    | false =>
      go_wp2_with fail
      refine (awake_any _).mono ?_
      rintro e w5 ⟨rfl, hb5⟩
      have HB5 := Lib.hid (HB4.out.trans (hb5.mono HB4.out.size))
      clear hb5
      go_wp2_with fail
      go_ret
      exact ⟨rfl, HB5.out⟩
    | true =>
      go_wp2_with fail
      refine (HFO.out _ HB4.out).mono ?_
      rintro e w5 ⟨b3, rfl, k1, k2, hb5⟩
      obtain rfl : b3 = true := fol_check Z1.out Z2.out k2 (of_decide_eq_true HV.out)
      have HB5 := Lib.hid (HB4.out.trans (hb5.mono HB4.out.size))
      clear k1 k2 hb5
      go_wp2_with fail
      refine (awake_any _).mono ?_
      rintro e w6 ⟨rfl, hb6⟩
      have HB6 := Lib.hid (HB5.out.trans (hb6.mono HB5.out.size))
      clear hb6
      go_wp2_with fail
      go_ret
      exact ⟨rfl, HB6.out⟩

end Go.Proofs.Ytgmmblknaeepbaa
