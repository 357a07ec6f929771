/- coxswainlaw04.RecordTexts: the walk of the law. -/
import Derived.Test.YtjfgmallhjclgaaDoorTextLaw
import Derived.Test.YtjfgmallhjclgaaDoorRecLaw2
namespace Go.Proofs.YtjfgmallhjclgaaDoor
open Go.RowKit Go.Shelf

theorem ws_nil (w : World) (B : Nat) (A : Option Addr) : Ws w B A [] := ⟨SlOf.nil, fun z h => by cases h⟩
theorem ws_bd {w : World} {B : Nat} {A : Option Addr} {l : List Int} (h : Ws w B A l) : ∀ z ∈ l, 0 ≤ z ∧ z < 4294967296 := fun z hz => by
  have := bounds_u32 (h.2 z hz)
  omega

set_option maxRecDepth 100000 in
set_option maxHeartbeats 1000000 in
theorem law4_big (A : Option Addr) (n c : Nat) (s : ByteArray) (most : Int) (w : World) (h : 60 < n ∨ 500 < s.size) (hT : Tab w) :
    Calls Tryd.prog 6 #[.slice A n c, .string s, .int .i64 most] w fun e w' => e = .returned (.bool true) ∧ Below w.heap.size w w' := by
  by_cases hn : 60 < n
  · have t1 : decide ((60 : Int) < (n : Int)) = true := by rw [decide_eq_true_iff]; omega
    go_enter Tryd.func6, Tryd.ntmps6
    go_wp2_with fail
    refine (awake_any _ hT).mono ?_
    rintro e w2 ⟨rfl, hb⟩
    go_wp2_with fail
    go_ret
    exact ⟨rfl, hb⟩
  · have t1 : decide ((60 : Int) < (n : Int)) = false := by rw [decide_eq_false_iff_not]; omega
    have t2 : decide ((500 : Int) < (s.size : Int)) = true := by rw [decide_eq_true_iff]; omega
    go_enter Tryd.func6, Tryd.ntmps6
    go_wp2_with fail
    refine (awake_any _ hT).mono ?_
    rintro e w2 ⟨rfl, hb⟩
    go_wp2_with fail
    go_ret
    exact ⟨rfl, hb⟩

set_option maxRecDepth 100000 in
set_option maxHeartbeats 2000000 in
theorem law4_small (A : Option Addr) (c : Nat) (l : List Int) (s : ByteArray) (most : Int) (w : World) (hn : l.length ≤ 60) (hs : s.size ≤ 500) (hm1 : -9223372036854775808 ≤ most) (hm2 : most ≤ 9223372036854775807) (hl : Ws w w.heap.size A l) (hT : Tab w) :
    Calls Tryd.prog 6 #[.slice A l.length c, .string s, .int .i64 most] w fun e w' => e = .returned (.bool true) ∧ Below w.heap.size w w' := by
  have t1 : decide ((60 : Int) < (l.length : Int)) = false := by rw [decide_eq_false_iff_not]; omega
  have t2 : decide ((500 : Int) < (s.size : Int)) = false := by rw [decide_eq_false_iff_not]; omega
  have hbd := ws_bd hl
  have hsr := show_read l hbd (l.length : Int)
  have hr1 : readB (l.length : Int) (showS l).data.toList = true := by
    have e : (showS l).data.toList = showL l := rfl
    rw [e, hsr.1]
    exact decide_eq_true (Int.le_refl _)
  have hr2 : readL (showS l).data.toList = l := hsr.2
  have hzs : (showS l).size ≤ 1000000 := by
    have h1 := showL_len l (fun z hz => (hbd z hz).2) l.length (Nat.le_refl _)
    rw [List.take_length] at h1
    have e : (showS l).size = (showL l).length := by simp [showS, ByteArray.size_mk']
    omega
  obtain ⟨T, hTT⟩ : ∃ T, showS l = T := ⟨_, rfl⟩
  rw [hTT] at hr1 hr2 hzs
  obtain ⟨q, hq⟩ : ∃ q, readB most s.data.toList = q := ⟨_, rfl⟩
  obtain ⟨hq1, hq2⟩ := read_same most s.data.toList
  rw [hq] at hq1 hq2
  have R1 := Lib.hid hr1
  have R2 := Lib.hid hr2
  have Q0 := Lib.hid hq
  have Q1 := Lib.hid hq1
  have Q2 := Lib.hid hq2
  have T0 := Lib.hid hTT
  clear hr1 hr2 hq hq1 hq2 hsr hbd hTT
  go_enter Tryd.func6, Tryd.ntmps6
  go_wp2_with fail
  refine (refShow_any A c l _ (by omega) hl).mono ?_
  rintro e w1 ⟨rfl, hb1⟩
  rw [T0.out]
  go_wp2_with fail
  refine (read_any T (l.length : Int) w1 hzs (by omega) (by omega)).mono ?_
  rintro e w2 ⟨v1, rfl, ho1, -, hbx⟩
  rw [R1.out, R2.out] at ho1
  rw [R1.out]
  replace ho1 := ho1 rfl
  have hb2 := hb1.trans (hbx.mono hb1.size)
  clear hbx hb1
  obtain ⟨A1, c1, rfl, _, hs1⟩ := ho1.ws
  clear ho1
  go_wp2_with fail
  refine (read_any s most w2 (by omega) hm1 hm2).mono ?_
  rintro e w3 ⟨v2, rfl, ho2, hn2, hbx⟩
  rw [Q0.out] at ho2 hn2 ⊢
  replace hs1 := hs1.below hbx hbx.size
  have hb3 := hb2.trans (hbx.mono hb2.size)
  clear hbx hb2
  go_wp2_with fail
  refine (refRead_any s most w3 (by omega) hm1 hm2).mono ?_
  rintro e w4 ⟨v3, rfl, ho3, hn3, hbx⟩
  rw [Q1.out] at ho3 hn3 ⊢
  replace hs1 := hs1.below hbx hbx.size
  have hb4 := hb3.trans (hbx.mono hb3.size)
  have hx : ∃ (A2 A3 : Option Addr) (c2 c3 : Nat) (m : List Int), v2 = .slice A2 m.length c2 ∧ v3 = .slice A3 m.length c3 ∧ Ws w4 w4.heap.size A2 m ∧ Ws w4 w4.heap.size A3 m ∧ m.length ≤ 9223372036854775807 := by
    rcases q with _ | _
    · exact ⟨none, none, 0, 0, [], hn2 rfl, hn3 rfl, ws_nil _ _ _, ws_nil _ _ _, by simp⟩
    · have o2 := (ho2 rfl).below hbx (Nat.le_refl _)
      have o3 := ho3 rfl
      rw [Q2.out rfl] at o3
      obtain ⟨A2, c2, e2, hc2, s2⟩ := o2.ws
      obtain ⟨A3, c3, e3, _, s3⟩ := o3.ws
      exact ⟨A2, A3, c2, c3, _, e2, e3, s2, s3, by have := hc2.1; have h2 := hc2.2; unfold maxLen at h2; omega⟩
  obtain ⟨A2, A3, c2, c3, m, rfl, rfl, hs2, hs3, hml⟩ := hx
  clear hbx hb3 ho2 ho3 hn2 hn3
  go_wp2_with fail
  refine (show_any A c l _ hn (hl.below hb4 hb4.size) (hT.below hb4)).mono ?_
  rintro e w5 ⟨rfl, hbx⟩
  rw [T0.out]
  replace hs1 := hs1.below hbx hbx.size
  replace hs2 := hs2.below hbx hbx.size
  replace hs3 := hs3.below hbx hbx.size
  have hb5 := hb4.trans (hbx.mono hb4.size)
  clear hbx hb4
  go_wp2_with fail
  refine (by have := words_any A1 A c1 c l l w5 (by omega) (by omega) hs1 (hl.below hb5 hb5.size); rw [decide_eq_true (rfl : l = l)] at this; exact this : Calls _ _ _ _ _).mono ?_
  rintro e w6 ⟨rfl, hbx⟩
  replace hs2 := hs2.below hbx hbx.size
  replace hs3 := hs3.below hbx hbx.size
  have hb6 := hb5.trans (hbx.mono hb5.size)
  clear hbx hb5 hs1
  go_wp2_with fail
  refine (by have := words_any A2 A3 c2 c3 m m w6 hml hml hs2 hs3; rw [decide_eq_true (rfl : m = m)] at this; exact this : Calls _ _ _ _ _).mono ?_
  rintro e w7 ⟨rfl, hbx⟩
  have hb7 := hb6.trans (hbx.mono hb6.size)
  clear hbx hb6 hs2 hs3
  go_wp2_with fail
  refine (awake_any _ (hT.below hb7)).mono ?_
  rintro e w8 ⟨rfl, hbx⟩
  have hb8 := hb7.trans (hbx.mono hb7.size)
  clear hbx hb7
  go_wp2_with fail
  go_ret
  exact ⟨rfl, hb8⟩

end Go.Proofs.YtjfgmallhjclgaaDoor
