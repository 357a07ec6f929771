/- LinfifoBounds: at last a queue that linearizes has from none to slots records, and from what was put less what was taken, up to one less, or more. -/
import Derived.Test.YtgmmblknaeepbaaZlW
namespace Go.Proofs.Ytgmmblknaeepbaa
open Go.RowKit

theorem lens_bounds {n : Int} {l S : List Cl} (hf : fitsB l = true) (hS : SortOf S l) {k : Int} (hk : k ∈ lensOf n S) : 0 ≤ k ∧ k ≤ max n 0 ∧ netN l - (l.countP opn : Int) ≤ k ∧ k ≤ netN l + (l.countP opn : Int) := by
  unfold lensOf at hk
  have h1 := compact_sub hk
  have h2 : k ∈ endsOf n S := by
    have := (List.mergeSort_perm (endsOf n S) (fun x y => decide (x ≤ y))).mem_iff (a := k)
    exact this.1 h1
  unfold endsOf at h2
  rcases dfs_inv (I := Inv n (putsOf S) (takesOf S)) (fun s t h ht => h.put ht) (fun s t h ht => h.take ht) _ _ _ (Inv.zero n _ _) k h2 with h | ⟨t, h, hd, rfl⟩
  · cases h
  · exact bounds_of hS.perm (fits_lf hf) h hd
/-- What the first k calls add. -/
theorem net_snoc {l : List Cl} {k : Nat} {x : Cl} (h : l[k]? = some x) :
    (x.e < 0 → netN (l.take (k + 1)) = netN (l.take k) ∧ (l.take (k + 1)).countP opn = (l.take k).countP opn + 1) ∧
    (¬ x.e < 0 → x.c ≠ 0 → netN (l.take (k + 1)) = netN (l.take k) ∧ (l.take (k + 1)).countP opn = (l.take k).countP opn) ∧
    (¬ x.e < 0 → x.c = 0 → x.q = 3 → netN (l.take (k + 1)) = netN (l.take k) + 1 ∧ (l.take (k + 1)).countP opn = (l.take k).countP opn) ∧
    (¬ x.e < 0 → x.c = 0 → x.q ≠ 3 → netN (l.take (k + 1)) = netN (l.take k) - 1 ∧ (l.take (k + 1)).countP opn = (l.take k).countP opn) := by
  rw [take_snoc h]
  unfold netN putsOf takesOf
  simp only [List.filter_append, List.countP_append, List.filter_cons, List.filter_nil, List.countP_cons, List.countP_nil]
  refine ⟨fun he => ?_, fun he hc => ?_, fun he hc hq => ?_, fun he hc hq => ?_⟩
  · have h1 : opn x = true := by simp [opn, he]
    by_cases hq : x.q = 3 <;> simp [hq, gdc, h1]
  · have h1 : opn x = false := by simp [opn]; omega
    by_cases hq : x.q = 3 <;> simp [hq, gdc, h1, hc]
  · have h1 : opn x = false := by simp [opn]; omega
    simp [hq, gdc, h1, hc]
    omega
  · have h1 : opn x = false := by simp [opn]; omega
    simp [hq, gdc, h1, hc]
    omega
theorem net_le (l : List Cl) : -(l.length : Int) ≤ netN l ∧ netN l ≤ l.length ∧ l.countP opn ≤ l.length := by
  have h1 : (putsOf l).countP gdc ≤ l.length := Nat.le_trans List.countP_le_length (List.length_filter_le _ _)
  have h2 : (takesOf l).countP gdc ≤ l.length := Nat.le_trans List.countP_le_length (List.length_filter_le _ _)
  unfold netN
  exact ⟨by omega, by omega, List.countP_le_length⟩
theorem short_parts {l : List Cl} {m : Int} (h : shortB l m = true) : (l.length : Int) ≤ m ∧ ∀ x ∈ l, x.r.length ≤ 100 := by
  unfold shortB at h
  simp only [Bool.and_eq_true, decide_eq_true_eq, List.all_eq_true] at h
  exact h

set_option maxRecDepth 100000 in
set_option maxHeartbeats 8000000 in
theorem lawBounds_any (n : Int) (A : Option Addr) (c : Nat) (l : List Cl) (w : World) (hc : l.length ≤ c) (hl : ClSl w w.heap.size A l) :
    Calls Try.prog 4 #[.int .i64 n, .slice A l.length c] w fun e w' => e = .returned (.bool true) ∧ Below w.heap.size w w' := by
  have hsh := short_any A c l 40 w hl (by omega)
  cases hs : shortB l 40 with
  | false =>
    rw [hs] at hsh
    have HSH := Lib.hid hsh
    clear hsh hs hl
    go_enter Try.func4, Try.ntmps4
    go_wp2_with fail
    refine HSH.out.mono ?_
    rintro e w1 ⟨rfl, hb1⟩
    go_wp2_with fail
    refine (awake_any w1).mono ?_
    rintro e w2 ⟨rfl, hb2⟩
    go_wp2_with fail
    go_ret
    exact ⟨rfl, hb1.trans (hb2.mono hb1.size)⟩
  | true =>
    obtain ⟨hn, hr⟩ := short_parts hs
    rw [hs] at hsh
    have HSH := Lib.hid hsh
    have HL := Lib.hid hl
    have HRR := Lib.hid hr
    have hn40 : l.length ≤ 40 := by omega
    clear hsh hs hl hr hn
    go_enter Try.func4, Try.ntmps4
    go_wp2_with fail
    refine HSH.out.mono ?_
    rintro e w1 ⟨rfl, hb1⟩
    have HB1 := Lib.hid hb1
    clear hb1
    go_wp2_with fail
    go_loopw [5, 6, 17] (fun a b j wr => ∃ k : Nat, k ≤ l.length ∧ j = .int .i64 k ∧ a = .int .i64 (netN (l.take k)) ∧ b = .int .i64 ((l.take k).countP opn : Int) ∧ Below w.heap.size w wr) (fun _ _ j _ => l.length - (intOf j).toNat)
    case atStart => exact ⟨0, Nat.zero_le _, rfl, rfl, rfl, HB1.out⟩
    case round =>
      obtain ⟨k, hk, rfl, rfl, rfl, hb⟩ := hrel
      by_cases hlt : k < l.length
      · obtain ⟨x, hx⟩ := get_some hlt
        obtain ⟨b', off, Ax, cx, rfl, hlb, ⟨h0, h1, h2, h3, h4, h5, h6⟩, _, hc1, hc2⟩ := (HL.out.below hb (Nat.le_refl _)) k x hx
        obtain ⟨g1, g2, g3, g4⟩ := net_snoc hx
        obtain ⟨m1, m2, m3⟩ := net_le (l.take k)
        rw [List.length_take] at m1 m2 m3
        have hbs := hb.size
        have HB := Lib.hid (hb.alloc hbs (.cells #[.int .i64 x.p, .int .i64 x.o, .int .i64 x.q, .slice Ax x.r.length cx, .int .i64 x.c, .int .i64 x.b, .int .i64 x.e] 32))
        obtain ⟨u, hu⟩ : ∃ u, netN (l.take k) = u := ⟨_, rfl⟩
        obtain ⟨v, hv⟩ : ∃ v, (l.take k).countP opn = v := ⟨_, rfl⟩
        rw [hu] at g1 g2 g3 g4 m1 m2 ⊢
        rw [hv] at g1 g2 g3 g4 m3 ⊢
        have u1 : -41 ≤ u := by omega
        have u2 : u ≤ 41 := by omega
        have v1 : v ≤ 41 := by omega
        clear hx hu hv m1 m2 m3 hb
        by_cases he : x.e < 0
        · have G := Lib.hid (g1 he)
          clear g1 g2 g3 g4
          go_wp2_with fail
          go_roundw
          case rel => exact ⟨k + 1, by omega, by go_num, val_int (by rw [G.out.1]), val_int (by rw [G.out.2]; omega), HB.out⟩
          case measure => simp [intOf]; omega
        · by_cases hcc : x.c = 0
          · have t2 : (x.c != 0) = false := by simp [hcc]
            by_cases hq : x.q = 3
            · have t3 : (x.q == 3) = true := by simpa using hq
              have G := Lib.hid (g3 he hcc hq)
              clear g1 g2 g3 g4 hcc hq
              go_wp2_with fail
              go_roundw
              case rel => exact ⟨k + 1, by omega, by go_num, val_int (by rw [G.out.1]), val_int (by rw [G.out.2]), HB.out⟩
              case measure => simp [intOf]; omega
            · have t3 : (x.q == 3) = false := by simpa using hq
              have G := Lib.hid (g4 he hcc hq)
              clear g1 g2 g3 g4 hcc hq
              go_wp2_with fail
              go_roundw
              case rel => exact ⟨k + 1, by omega, by go_num, val_int (by rw [G.out.1]), val_int (by rw [G.out.2]), HB.out⟩
              case measure => simp [intOf]; omega
          · have t2 : (x.c != 0) = true := by simpa using hcc
            have G := Lib.hid (g2 he hcc)
            clear g1 g2 g3 g4 hcc
            go_wp2_with fail
            go_roundw
            case rel => exact ⟨k + 1, by omega, by go_num, val_int (by rw [G.out.1]), val_int (by rw [G.out.2]), HB.out⟩
            case measure => simp [intOf]; omega
      · have ht := take_all hlt
        rw [ht]
        obtain ⟨m1, m2, m3⟩ := net_le l
        have hlen := lengths_any n A c l wr hn40 hc HRR.out (HL.out.below hb hb.size)
        have HLEN := Lib.hid hlen
        have HB := Lib.hid hb
        have hlb0 : ∀ S, fitsB l = true → SortOf S l → ∀ k ∈ lensOf n S, 0 ≤ k ∧ k ≤ max n 0 ∧ netN l - (l.countP opn : Int) ≤ k ∧ k ≤ netN l + (l.countP opn : Int) := fun S hf hS k hk => lens_bounds hf hS hk
        obtain ⟨u, hu⟩ : ∃ u, netN l = u := ⟨_, rfl⟩
        obtain ⟨v, hv⟩ : ∃ v, l.countP opn = v := ⟨_, rfl⟩
        rw [hu] at hlb0 m1 m2 ⊢
        rw [hv] at hlb0 m3 ⊢
        have HLB := Lib.hid hlb0
        have u1 : -41 ≤ u := by omega
        have u2 : u ≤ 41 := by omega
        have v1 : v ≤ 41 := by omega
        clear hu hv m1 m2 m3 hb hlen hlb0 ht
        go_wp2_with fail
        refine HLEN.out.mono ?_
        rintro e w2 ⟨z, Z, rfl, hO, hz1, hz2, hb2⟩
        have hall : ∀ k ∈ Z, 0 ≤ k ∧ k ≤ max n 0 ∧ u - (v : Int) ≤ k ∧ k ≤ u + (v : Int) := by
          intro k hk
          cases hf : fitsB l with
          | false => rw [hz1 hf] at hk; cases hk
          | true =>
            obtain ⟨S, hS, rfl⟩ := hz2 hf
            exact HLB.out S hf hS k hk
        obtain ⟨Az, cz, rfl, ⟨hcz, hmz⟩, _, hsz⟩ := hO.sl
        have HB2 := Lib.hid (HB.out.trans (hb2.mono HB.out.size))
        have HALL := Lib.hid hall
        have hZm : Z.length ≤ maxLen := by omega
        unfold maxLen at hZm
        clear hO hz1 hz2 hb2 hall hcz hmz
        go_wp2_with fail
        go_loopw [10, 44] (fun _ j wq => ∃ k : Nat, k ≤ Z.length ∧ j = .int .i64 k ∧ Below w2.heap.size w2 wq) (fun _ j _ => Z.length - (intOf j).toNat)
        case atStart => exact ⟨0, Nat.zero_le _, rfl, Below.refl _ _⟩
        case round =>
          obtain ⟨k, hk, rfl, hb⟩ := hrel
          by_cases hlz : k < Z.length
          · obtain ⟨y, hy⟩ := get_some hlz
            obtain ⟨b', off, rfl, hlb, h0⟩ := int_get (hsz.below hb (Nat.le_refl _)) hy
            obtain ⟨y1, y2, y3, y4⟩ := HALL.out y (List.mem_of_getElem? hy)
            have t1 : decide (y < 0) = false := decide_eq_false (by omega)
            have t2 : decide (max n 0 < y) = false := decide_eq_false (by omega)
            have t3 : decide (y < u - (v : Int)) = false := decide_eq_false (by omega)
            have t4 : decide (u + (v : Int) < y) = false := decide_eq_false (by omega)
            have HBQ := Lib.hid hb
            clear hy hb
            go_wp2_with fail
            go_roundw
            case rel => exact ⟨k + 1, by omega, by go_num, HBQ.out⟩
            case measure => simp [intOf]; omega
          · have HBQ := Lib.hid (HB2.out.trans (hb.mono HB2.out.size))
            clear hb
            go_wp2_with fail
            refine (awake_any _).mono ?_
            rintro e w5 ⟨rfl, hb5⟩
            go_wp2_with fail
            go_ret
            exact ⟨rfl, HBQ.out.trans (hb5.mono HBQ.out.size)⟩

end Go.Proofs.Ytgmmblknaeepbaa
