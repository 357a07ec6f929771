/- The law TraceBack, walked. -/
import Derived.Test.YtopclkkkchhgiaaDoorTrLaw3
namespace Go.Proofs.YtopclkkkchhgiaaDoor
open Go.RowKit

theorem lns_text (l : List Ev) : lns (textOf l) = l.map fun e => evLine e ++ [10] := by
  induction l with
  | nil => rfl
  | cons e l ih =>
    have : textOf (e :: l) = evLine e ++ [10] ++ textOf l := by simp [textOf]
    rw [this, lns_line _ _ (evLine_no e), ih]
    rfl
theorem text_lines (l : List Ev) (h : okAll l = true) : ∀ x ∈ lns (textOf l), x.length ≤ 3000 := by
  intro x hx
  rw [lns_text] at hx
  obtain ⟨e, he, rfl⟩ := List.mem_map.1 hx
  have := evLine_len (evB_iff.1 (List.all_eq_true.1 h e he))
  rw [List.length_append, List.length_singleton]
  omega
theorem print_size (l : List Ev) (h : l.length ≤ 100) : (printS l).size ≤ 100000 := by
  unfold printS
  split
  · rename_i hok
    have h1 := textOf_len l hok
    have : (textS l).size = (textOf l).length := by simp [textS, ByteArray.size]
    omega
  · show (0 : Nat) ≤ _; omega
theorem print_lines (l : List Ev) : ∀ x ∈ lns (printS l).data.toList, x.length ≤ 3000 := by
  unfold printS
  split
  · rename_i hok
    exact text_lines l hok
  · intro x hx; cases hx
theorem print_parse (l : List Ev) : (okAll l = true ∧ parseE (printS l).data.toList = ⟨l, 0, 0⟩) ∨ (okAll l = false ∧ parseE (printS l).data.toList = ⟨[], 0, 0⟩) := by
  rcases h : okAll l with _ | _
  · refine .inr ⟨rfl, ?_⟩
    unfold printS
    rw [h]
    rfl
  · refine .inl ⟨rfl, ?_⟩
    unfold printS
    rw [if_pos h]
    exact text_back l h

theorem back_big (A : Option Addr) (n c : Nat) (s : ByteArray) (w : World) (hn : 100 < n ∨ 3000 < s.size) (hT : Tab w) (hM : Mx w) :
    Calls Tryd.prog 6 #[.slice A n c, .string s] w fun e w' => e = .returned (.bool true) ∧ Below w.heap.size w w' := by
  rcases t1 : decide ((100 : Int) < (n : Int)) with _ | _
  · have t2 : decide ((3000 : Int) < (s.size : Int)) = true := by
      have := of_decide_eq_false t1
      rw [decide_eq_true_iff]; omega
    go_enter Tryd.func6, Tryd.ntmps6
    go_wp2_with (go_at_call 9; refine (awake_any _ hT hM).mono ?_; rintro e w1 ⟨rfl, hb⟩)
    go_ret
    exact ⟨rfl, hb⟩
  · go_enter Tryd.func6, Tryd.ntmps6
    go_wp2_with (go_at_call 9; refine (awake_any _ hT hM).mono ?_; rintro e w1 ⟨rfl, hb⟩)
    go_ret
    exact ⟨rfl, hb⟩

set_option maxRecDepth 100000 in
set_option maxHeartbeats 4000000 in
theorem back_small (A : Option Addr) (c : Nat) (l : List Ev) (s : ByteArray) (w : World) (hn : l.length ≤ 100) (hs : s.size ≤ 3000) (hl : EvSl w w.heap.size A l) (hT : Tab w) (hM : Mx w) :
    Calls Tryd.prog 6 #[.slice A l.length c, .string s] w fun e w' => e = .returned (.bool true) ∧ Below w.heap.size w w' := by
  have t1 : decide ((100 : Int) < (l.length : Int)) = false := by rw [decide_eq_false_iff_not]; omega
  have t2 : decide ((3000 : Int) < (s.size : Int)) = false := by rw [decide_eq_false_iff_not]; omega
  have hlen : s.data.toList.length = s.size := Array.length_toList
  have h1 := fun W hl hT => print_any A c l W (by omega) hl hT
  have h2 := fun W hT hM => parse_any (printS l) W (print_size l hn) (print_lines l) hT hM
  have h3 := fun W hT hM => parse_any s W (by omega) (fun x hx => by have := lns_mem _ x hx; omega) hT hM
  have hpl := parse_len s.data.toList
  have hpb := parse_back s.data.toList
  have hpp := print_parse l
  obtain ⟨G, hG⟩ : ∃ g, parseE s.data.toList = g := ⟨_, rfl⟩
  rw [hG] at h3 hpl hpb
  obtain ⟨evs, at_, er⟩ := G
  simp only at h3 hpl hpb
  have h4 := fun W A c hl hT => print_any A c evs W (by omega) hl hT
  obtain ⟨S, hS⟩ : ∃ x, printS l = x := ⟨_, rfl⟩
  rw [hS] at h1 h2 hpp
  have hend : (er = 0 ∧ okAll evs = true ∧ ((printS evs).toList == s.toList) = true) ∨ ((er == 0) = false ∧ (er != 0) = true ∧ evs = []) := by
    rcases hpb with ⟨g1, g2, g3⟩ | ⟨g1, g2⟩
    · refine .inl ⟨g1, g2, ?_⟩
      unfold printS
      rw [if_pos g2, ByteArray.toList_eq, ByteArray.toList_eq, ← g3]
      simp [textS]
    · exact .inr ⟨by rw [beq_eq_false_iff_ne]; exact g1, by simp [g1], g2⟩
  have H1 := Lib.hid h1
  have H2 := Lib.hid h2
  have H3 := Lib.hid h3
  have H4 := Lib.hid h4
  have HE := Lib.hid hend
  have HP := Lib.hid hpp
  have hev : evs.length ≤ 3000 := by omega
  clear h1 h2 h3 h4 hG hS hpl hlen hpb hpp hend
  go_enter Tryd.func6, Tryd.ntmps6
  go_wp2_with fail
  go_loopw [5, 29] (fun q j wr => ∃ k : Nat, k ≤ l.length ∧ j = .int .i64 k ∧ q = .bool (okAll (l.take k)) ∧ Below w.heap.size w wr) (fun _ j _ => l.length - (intOf j).toNat)
  case atStart => exact ⟨0, Nat.zero_le _, rfl, rfl, Below.refl _ _⟩
  case round =>
    obtain ⟨k, hk, rfl, rfl, hb⟩ := hrel
    by_cases hlt : k < l.length
    · obtain ⟨e, he⟩ := get_some hlt
      obtain ⟨_, b, off, rfl, hlb, g0, g1, g2, g3, g4⟩ := (hl.below hb (Nat.le_refl _)).get he
      have hB1 := hb.alloc hb.size (.cells #[.int .i64 e.t, .int .i64 e.k, .int .i64 e.p, .int .i64 e.a, .int .i64 e.b] 23)
      have hsn := okAll_snoc he
      have hrr := Lib.hid (fun W => rright_any e W)
      rcases hq : okAll (l.take k) with _ | _
      · rw [hq] at hsn
        have hsn' := Lib.hid hsn
        clear hsn hq he
        go_wp2_with fail
        go_roundw
        case rel => exact ⟨k + 1, by omega, by go_num, by rw [hsn'.out]; rfl, hB1⟩
        case measure => simp [intOf]; omega
      · rw [hq, Bool.true_and] at hsn
        have hsn' := Lib.hid hsn
        clear hsn hq he
        go_wp2_with fail
        refine (hrr.out _).mono ?_
        rintro e1 w1 ⟨rfl, hb1⟩
        go_wp2_with fail
        go_roundw
        case rel => exact ⟨k + 1, by omega, by go_num, by rw [hsn'.out], hB1.trans (hb1.mono hB1.size)⟩
        case measure => simp [intOf]; omega
    · have ht := take_all hlt
      rw [ht]
      go_wp2_with fail
      refine (H1.out _ (hl.below hb hb.size) (hT.below hb)).mono ?_
      rintro e w1 ⟨rfl, hb1⟩
      have hB1 := hb.trans (hb1.mono hb.size)
      clear hb1
      go_wp2_with fail
      refine (H2.out _ (hT.below hB1) (hM.below hB1)).mono ?_
      rintro e w2 ⟨v2, rfl, hown2, hb2⟩
      have hB2 := hB1.trans (hb2.mono hB1.size)
      clear hb2
      rcases HP.out with ⟨p1, p2⟩ | ⟨p1, p2⟩
      · rw [p1, p2]
        rw [p2] at hown2
        obtain ⟨A2, c2, rfl, _, hs2⟩ := hown2.sl
        clear p1 p2 hown2
        go_wp2_with fail
        refine (evs_any A2 A c2 c l l w2 (by omega) (by omega) hs2 (hl.below hB2 hB2.size)).mono ?_
        rintro e w3 ⟨rfl, hb3⟩
        rw [decide_eq_true (rfl : l = l)]
        have hB3 := hB2.trans (hb3.mono hB2.size)
        clear hs2 hb3
        go_wp2_with fail
        refine (H3.out _ (hT.below hB3) (hM.below hB3)).mono ?_
        rintro e w4 ⟨v4, rfl, hown4, hb4⟩
        have hB4 := hB3.trans (hb4.mono hB3.size)
        obtain ⟨A4, c4, rfl, _, hs4⟩ := hown4.sl
        clear hb4 hown4
        go_wp2_with fail
        refine (H4.out _ A4 c4 hs4 (hT.below hB4)).mono ?_
        rintro e w5 ⟨rfl, hb5⟩
        have hB5 := hB4.trans (hb5.mono hB4.size)
        clear hb5 hs4
        obtain ⟨U, hU⟩ : ∃ x, printS evs = x := ⟨_, rfl⟩
        rcases HE.out with ⟨z0, o1, o2⟩ | ⟨z1, z2, z3⟩
        · subst z0
          rw [hU] at o2
          rw [o1, hU]
          clear o1 hU
          go_wp2_with fail
          refine (awake_any w5 (hT.below hB5) (hM.below hB5)).mono ?_
          rintro e w6 ⟨rfl, hb6⟩
          go_wp2_with fail
          go_ret
          exact ⟨rfl, hB5.trans (hb6.mono hB5.size)⟩
        · rw [hU, z3]
          clear hU z3
          go_wp2_with fail
          refine (awake_any w5 (hT.below hB5) (hM.below hB5)).mono ?_
          rintro e w6 ⟨rfl, hb6⟩
          go_wp2_with fail
          go_ret
          exact ⟨rfl, hB5.trans (hb6.mono hB5.size)⟩
      · rw [p1, p2]
        obtain ⟨A2, c2, rfl, _, _⟩ := hown2.sl
        clear p1 p2 hown2
        go_wp2_with fail
        refine (H3.out _ (hT.below hB2) (hM.below hB2)).mono ?_
        rintro e w4 ⟨v4, rfl, hown4, hb4⟩
        have hB4 := hB2.trans (hb4.mono hB2.size)
        obtain ⟨A4, c4, rfl, _, hs4⟩ := hown4.sl
        clear hb4 hown4
        go_wp2_with fail
        refine (H4.out _ A4 c4 hs4 (hT.below hB4)).mono ?_
        rintro e w5 ⟨rfl, hb5⟩
        have hB5 := hB4.trans (hb5.mono hB4.size)
        clear hb5 hs4
        obtain ⟨U, hU⟩ : ∃ x, printS evs = x := ⟨_, rfl⟩
        rcases HE.out with ⟨z0, o1, o2⟩ | ⟨z1, z2, z3⟩
        · subst z0
          rw [hU] at o2
          rw [o1, hU]
          clear o1 hU
          go_wp2_with fail
          refine (awake_any w5 (hT.below hB5) (hM.below hB5)).mono ?_
          rintro e w6 ⟨rfl, hb6⟩
          go_wp2_with fail
          go_ret
          exact ⟨rfl, hB5.trans (hb6.mono hB5.size)⟩
        · rw [hU, z3]
          clear hU z3
          go_wp2_with fail
          refine (awake_any w5 (hT.below hB5) (hM.below hB5)).mono ?_
          rintro e w6 ⟨rfl, hb6⟩
          go_wp2_with fail
          go_ret
          exact ⟨rfl, hB5.trans (hb6.mono hB5.size)⟩

end Go.Proofs.YtopclkkkchhgiaaDoor
