/- history.Read of a line of six words. -/
import Derived.Test.YtkcdmonmgnmojaaDoorHRdB
namespace Go.Proofs.YtkcdmonmgnmojaaDoor
open Go.RowKit

set_option maxRecDepth 100000 in
set_option maxHeartbeats 8000000 in
theorem hread_6 (x0 x1 x2 x3 x4 x5 : List UInt8) (s : ByteArray) (w : World) (hs : s.size ≤ 1000) (hT : Tab w) (hM : Mx w) (hpk : pk 6 s.data.toList = [x0, x1, x2, x3, x4, x5]) (y0 : x0.length ≤ 1000) (y1 : x1.length ≤ 1000) (y3 : x3.length ≤ 1000) (y4 : x4.length ≤ 1000) (h6 : 6 ≤ (pcs 32 s.data.toList).length)
    (hcp : candP (pcs 32 s.data.toList) = ⟨numH x0, numH x1, idxW opsW x2, [], idxW codesW x5, numH x3, if x4 = [45] then -1 else numH x4⟩) :
    Calls Tryd.prog 30 #[.string s] w fun e w' => (∃ A c, e = .returned (.tuple #[clV (hreadX s.data.toList) A c, .bool (hreadOk s.data.toList)]) ∧ WsF w' w.heap.size A (hreadX s.data.toList).r) ∧ Below w.heap.size w w' := by
  have hsp := fun W hM => splitn_any s W hM (by omega)
  rw [hpk] at hsp
  obtain ⟨l, hl⟩ : ∃ l, s.data.toList = l := ⟨_, rfl⟩
  rw [hl] at hcp h6 ⊢
  have hno := fun (h : ¬(clB (candP (pcs 32 l)) = true ∧ lineH (candP (pcs 32 l)) = l)) => hread_no (s := l) (fun hh => h hh.2)
  have hyes := fun (h : clB (candP (pcs 32 l)) = true ∧ lineH (candP (pcs 32 l)) = l) => hread_yes (s := l) ⟨h6, h⟩
  rw [hcp] at hno hyes
  have hops := ops_any
  have hcos := codes_any
  unfold opsA at hops
  unfold codesA at hcos
  obtain ⟨Y, hY⟩ : ∃ Y, hreadX l = Y := ⟨_, rfl⟩
  obtain ⟨K, hK⟩ : ∃ K, hreadOk l = K := ⟨_, rfl⟩
  rw [hY, hK] at hno hyes ⊢
  have hno' := Lib.hid hno
  have hyes' := Lib.hid hyes
  have hl' := Lib.hid hl
  have hsp' := Lib.hid hsp
  have PW := Lib.hid hops
  have PC := Lib.hid hcos
  have hT0 := Lib.hid hT
  clear hsp hops hcos hno hyes hl hY hK hcp h6 hpk
  go_enter Tryd.func30, Tryd.ntmps30
  go_wp2_with fail
  have hb0 := (Below.refl w.heap.size w).alloc (Nat.le_refl _) (.cells #[.int .i64 0, .int .i64 0, .int .i64 0, .slice none 0 0, .int .i64 0, .int .i64 0, .int .i64 0] 45)
  refine (hsp'.out _ (hM.below hb0)).mono ?_
  rintro e w1 ⟨C, rfl, hc1, hb1, hC1, hC2⟩
  have hbox := (ClBox.new w cl0 none 0).kept hb1
  have hB1 := hb0.trans (hb1.mono hb0.size)
  have p0 := hc1 0 x0 rfl
  have p1 := hc1 1 x1 rfl
  have p2 := hc1 2 x2 rfl
  have p3 := hc1 3 x3 rfl
  have p4 := hc1 4 x4 rfl
  have p5 := hc1 5 x5 rfl
  obtain ⟨n, hn⟩ : ∃ n, w.heap.size = n := ⟨_, rfl⟩
  rw [World.size_alloc, hn] at p0 p1 p2 p3 p4 p5
  rw [hn] at hbox hB1 ⊢
  have hTM : Tab w1 := hT.below (by rw [hn]; exact hB1)
  clear hb1 hb0 hc1 hT hM
  simp only [List.length_cons, List.length_nil, Nat.zero_add, Nat.reduceAdd] at hC1 ⊢
  go_wp2_with (first
    | (go_at_call 63; refine (PW.out _).mono ?_; rintro e w2 ⟨rfl, hb2⟩)
    | (go_at_call 64; refine (PC.out _).mono ?_; rintro e w3 ⟨rfl, hb3⟩))
  have hwo : ∀ (j : Nat) z, opsB[j]? = some z → ((w3.alloc (.cells #[.string ⟨#[]⟩, .string ⟨#[114, 101, 97, 100]⟩, .string ⟨#[119, 114, 105, 116, 101]⟩, .string ⟨#[112, 117, 116]⟩, .string ⟨#[116, 97, 107, 101]⟩] 96)).alloc (.cells #[.string ⟨#[103, 111, 111, 100]⟩, .string ⟨#[114, 101, 116, 114, 121]⟩, .string ⟨#[102, 117, 108, 108]⟩, .string ⟨#[101, 109, 112, 116, 121]⟩] 98)).cell? ⟨w3.heap.size, j, none⟩ = some (.string z) := fun j z hz => by
    have h1 := lits_new w3 opsB 96 j z hz
    exact (((Below.refl _ (w3.alloc (.cells #[.string ⟨#[]⟩, .string ⟨#[114, 101, 97, 100]⟩, .string ⟨#[119, 114, 105, 116, 101]⟩, .string ⟨#[112, 117, 116]⟩, .string ⟨#[116, 97, 107, 101]⟩] 96))).alloc (Nat.le_refl _) (.cells #[.string ⟨#[103, 111, 111, 100]⟩, .string ⟨#[114, 101, 116, 114, 121]⟩, .string ⟨#[102, 117, 108, 108]⟩, .string ⟨#[101, 109, 112, 116, 121]⟩] 98)).cell (p := ⟨w3.heap.size, j, none⟩) (cell_lt h1)).trans h1
  have hwc : ∀ (j : Nat) z, codesB[j]? = some z → ((w3.alloc (.cells #[.string ⟨#[]⟩, .string ⟨#[114, 101, 97, 100]⟩, .string ⟨#[119, 114, 105, 116, 101]⟩, .string ⟨#[112, 117, 116]⟩, .string ⟨#[116, 97, 107, 101]⟩] 96)).alloc (.cells #[.string ⟨#[103, 111, 111, 100]⟩, .string ⟨#[114, 101, 116, 114, 121]⟩, .string ⟨#[102, 117, 108, 108]⟩, .string ⟨#[101, 109, 112, 116, 121]⟩] 98)).cell? ⟨w3.heap.size + 1, j, none⟩ = some (.string z) := fun j z hz => by
    have h1 := lits_new (w3.alloc (.cells #[.string ⟨#[]⟩, .string ⟨#[114, 101, 97, 100]⟩, .string ⟨#[119, 114, 105, 116, 101]⟩, .string ⟨#[112, 117, 116]⟩, .string ⟨#[116, 97, 107, 101]⟩] 96)) codesB 98 j z hz
    rw [World.size_alloc] at h1
    exact h1
  have hb4 := ((hb2.trans (hb3.mono hb2.size)).alloc (by have := (hb2.trans (hb3.mono hb2.size)).size; omega) (.cells #[.string ⟨#[]⟩, .string ⟨#[114, 101, 97, 100]⟩, .string ⟨#[119, 114, 105, 116, 101]⟩, .string ⟨#[112, 117, 116]⟩, .string ⟨#[116, 97, 107, 101]⟩] 96)).alloc (by have := (hb2.trans (hb3.mono hb2.size)).size; rw [World.size_alloc]; omega) (.cells #[.string ⟨#[103, 111, 111, 100]⟩, .string ⟨#[114, 101, 116, 114, 121]⟩, .string ⟨#[102, 117, 108, 108]⟩, .string ⟨#[101, 109, 112, 116, 121]⟩] 98)
  obtain ⟨w4, hw4⟩ : ∃ x, (w3.alloc (.cells #[.string ⟨#[]⟩, .string ⟨#[114, 101, 97, 100]⟩, .string ⟨#[119, 114, 105, 116, 101]⟩, .string ⟨#[112, 117, 116]⟩, .string ⟨#[116, 97, 107, 101]⟩] 96)).alloc (.cells #[.string ⟨#[103, 111, 111, 100]⟩, .string ⟨#[114, 101, 116, 114, 121]⟩, .string ⟨#[102, 117, 108, 108]⟩, .string ⟨#[101, 109, 112, 116, 121]⟩] 98) = x := ⟨_, rfl⟩
  obtain ⟨bo, hbo⟩ : ∃ x, w3.heap.size = x := ⟨_, rfl⟩
  rw [hw4] at hwo hwc hb4 ⊢
  rw [hbo] at hwo hwc ⊢
  clear hb2 hb3 hw4 hbo w3
  have hbox4 := hbox.kept hb4
  have hB4 := hB1.trans (hb4.mono (by have := hB1.size; rw [hn] at this; exact this))
  have hTM4 : Tab w4 := hTM.below hb4
  have q0 := (hb4.cell (p := ⟨n + 1, 0, none⟩) (cell_lt p0)).trans p0
  have q1 := (hb4.cell (p := ⟨n + 1, 1, none⟩) (cell_lt p1)).trans p1
  have q2 := (hb4.cell (p := ⟨n + 1, 2, none⟩) (cell_lt p2)).trans p2
  have q3 := (hb4.cell (p := ⟨n + 1, 3, none⟩) (cell_lt p3)).trans p3
  have q4 := (hb4.cell (p := ⟨n + 1, 4, none⟩) (cell_lt p4)).trans p4
  have q5 := (hb4.cell (p := ⟨n + 1, 5, none⟩) (cell_lt p5)).trans p5
  clear hb4 hB1 hbox hTM p0 p1 p2 p3 p4 p5
  have hSd : HdSt w4 (n + 1) ⟨x0.toArray⟩ ⟨x1.toArray⟩ ⟨x2.toArray⟩ ⟨x3.toArray⟩ ⟨x5.toArray⟩ w4.drew := HdSt.drew ⟨Below.refl _ _, q0, q1, q2, q3, q5⟩
  have hn4 : n + 1 < w4.heap.size := cell_lt q0
  have HWO := Lib.hid hwo
  have HWC := Lib.hid hwc
  clear hwo hwc
  refine region_to (fun nb => { tmps := #[.string s, undef, .pointer (some ⟨n, 0, none⟩), .bool false, .slice (some ⟨n + 1, 0, none⟩) 6 C, .pointer (some ⟨bo, 0, none⟩), .pointer (some ⟨bo + 1, 0, none⟩), .pointer (some ⟨nb, 0, none⟩), undef, undef, .string s, .slice (some ⟨n + 1, 0, none⟩) 6 C, .slice (some ⟨n + 1, 0, none⟩) 6 C, .int .i64 6, .bool false, undef, .agg #[.string ⟨#[]⟩, .string ⟨#[114, 101, 97, 100]⟩, .string ⟨#[119, 114, 105, 116, 101]⟩, .string ⟨#[112, 117, 116]⟩, .string ⟨#[116, 97, 107, 101]⟩], .agg #[.string ⟨#[103, 111, 111, 100]⟩, .string ⟨#[114, 101, 116, 114, 121]⟩, .string ⟨#[102, 117, 108, 108]⟩, .string ⟨#[101, 109, 112, 116, 121]⟩], .slice (some ⟨n + 1, 0, none⟩) 6 C, .pointer (some ⟨n + 1, 0, none⟩), .string ⟨x0.toArray⟩, .int .i64 (numH x0), .slice (some ⟨n + 1, 0, none⟩) 6 C, .pointer (some ⟨n + 1, 1, none⟩), .string ⟨x1.toArray⟩, .int .i64 (numH x1), .slice (some ⟨bo, 0, none⟩) 5 5, .slice (some ⟨n + 1, 0, none⟩) 6 C, .pointer (some ⟨n + 1, 2, none⟩), .string ⟨x2.toArray⟩, .int .i64 (idxW opsW x2), .slice (some ⟨n + 1, 0, none⟩) 6 C, .pointer (some ⟨n + 1, 3, none⟩), .string ⟨x3.toArray⟩, .int .i64 (numH x3), .slice (some ⟨bo + 1, 0, none⟩) 4 4, .slice (some ⟨n + 1, 0, none⟩) 6 C, .pointer (some ⟨n + 1, 5, none⟩), .string ⟨x5.toArray⟩, .int .i64 (idxW codesW x5), .agg #[.int .i64 (numH x0), .int .i64 (numH x1), .int .i64 (idxW opsW x2), .slice none 0 0, .int .i64 (idxW codesW x5), .int .i64 (numH x3), .int .i64 (-1)], undef, undef, undef, undef, undef, undef, undef, undef, undef, undef, undef, undef, undef, undef, undef, undef, undef, undef, undef, undef, undef, undef, undef, undef, undef, undef, undef, undef, undef, undef, undef, undef, undef, undef], defers := [] }) (fun nb w => w4.heap.size ≤ nb ∧ ClBox w nb ⟨numH x0, numH x1, idxW opsW x2, [], idxW codesW x5, numH x3, -1⟩ none 0 ∧ Below w4.heap.size w4 w) ?reg ?cont
  case reg =>
    refine wp_region_held_drew (S := fun w' => Below w4.heap.size w4 w' ∧ w'.cell? ⟨n + 1, 0, none⟩ = some (.string ⟨x0.toArray⟩) ∧ w'.cell? ⟨n + 1, 1, none⟩ = some (.string ⟨x1.toArray⟩) ∧ w'.cell? ⟨n + 1, 2, none⟩ = some (.string ⟨x2.toArray⟩) ∧ w'.cell? ⟨n + 1, 3, none⟩ = some (.string ⟨x3.toArray⟩) ∧ w'.cell? ⟨n + 1, 5, none⟩ = some (.string ⟨x5.toArray⟩)) (by kernel_rfl) hSd (fun hHeld => ?_)
    generalize w4.drew = wd at hHeld ⊢
    refine wpAnyH_take (i := 0) (oi := ?_) (v := ?_) ?_ (by kernel_rfl) (by kernel_rfl) (by kernel_rfl) ?_ (Or.inl ⟨?_, ?_⟩) (by assumption) ?_
    rotate_left 2
    · (simp only [List.getElem?_toArray, List.getElem?_cons_zero]; rfl)
    · first | exact fun _ _ _ h => h | exact fun _ _ _ h => by cases h.1
    · rfl
    · ((intro wq hSq; (try dsimp only at hSq); go_simp); (try with_reducible rfl))
    try simp only [Act.put, List.setIfInBounds_toArray, List.set_cons_zero, List.set_cons_succ]
    refine wpAnyH_take (i := 1) (oi := ?_) (v := ?_) ?_ (by kernel_rfl) (by kernel_rfl) (by kernel_rfl) ?_ (Or.inl ⟨?_, ?_⟩) (by assumption) ?_
    rotate_left 2
    · (simp only [List.getElem?_toArray, List.getElem?_cons_succ, List.getElem?_cons_zero]; rfl)
    · first | exact fun _ _ _ h => h | exact fun _ _ _ h => by cases h.1
    · rfl
    · ((intro wq hSq; (try dsimp only at hSq); go_simp); (try with_reducible rfl))
    try simp only [Act.put, List.setIfInBounds_toArray, List.set_cons_zero, List.set_cons_succ]
    refine wpAnyH_take (i := 2) (oi := ?_) (v := ?_) ?_ (by kernel_rfl) (by kernel_rfl) (by kernel_rfl) ?_ (Or.inl ⟨?_, ?_⟩) (by assumption) ?_
    rotate_left 2
    · (simp only [List.getElem?_toArray, List.getElem?_cons_succ, List.getElem?_cons_zero]; rfl)
    · first | exact fun _ _ _ h => h | exact fun _ _ _ h => by cases h.1
    · rfl
    · ((intro wq hSq; (try dsimp only at hSq); go_simp); (try with_reducible rfl))
    try simp only [Act.put, List.setIfInBounds_toArray, List.set_cons_zero, List.set_cons_succ]
    refine wpAnyH_take (i := 4) (oi := ?_) (v := ?_) ?_ (by kernel_rfl) (by kernel_rfl) (by kernel_rfl) ?_ (Or.inl ⟨?_, ?_⟩) (by assumption) ?_
    rotate_left 2
    · (simp only [List.getElem?_toArray, List.getElem?_cons_succ, List.getElem?_cons_zero]; rfl)
    · first | exact fun _ _ _ h => h | exact fun _ _ _ h => by cases h.1
    · rfl
    · ((intro wq hSq; (try dsimp only at hSq); go_simp); (try with_reducible rfl))
    try simp only [Act.put, List.setIfInBounds_toArray, List.set_cons_zero, List.set_cons_succ]
    refine wpAnyH_take (i := 5) (oi := ?_) (v := ?_) ?_ (by kernel_rfl) (by kernel_rfl) (by kernel_rfl) ?_ (Or.inl ⟨?_, ?_⟩) (by assumption) ?_
    rotate_left 2
    · (simp only [List.getElem?_toArray, List.getElem?_cons_succ, List.getElem?_cons_zero]; rfl)
    · first | exact fun _ _ _ h => h | exact fun _ _ _ h => by cases h.1
    · rfl
    · ((intro wq hSq; (try dsimp only at hSq); go_simp); (try with_reducible rfl))
    try simp only [Act.put, List.setIfInBounds_toArray, List.set_cons_zero, List.set_cons_succ]
    refine wpAnyH_take (i := 6) (oi := ?_) (v := ?_) ?_ (by kernel_rfl) (by kernel_rfl) (by kernel_rfl) ?_ (Or.inl ⟨?_, ?_⟩) (by assumption) ?_
    rotate_left 2
    · (simp only [List.getElem?_toArray, List.getElem?_cons_succ, List.getElem?_cons_zero]; rfl)
    · first | exact fun _ _ _ h => h | exact fun _ _ _ h => by cases h.1
    · rfl
    · ((intro wq hSq; (try dsimp only at hSq); go_simp); (try with_reducible rfl))
    try simp only [Act.put, List.setIfInBounds_toArray, List.set_cons_zero, List.set_cons_succ]
    refine wpAnyH_take (i := 8) (oi := ?_) (v := ?_) ?_ (by kernel_rfl) (by kernel_rfl) (by kernel_rfl) ?_ (Or.inl ⟨?_, ?_⟩) (by assumption) ?_
    rotate_left 2
    · (simp only [List.getElem?_toArray, List.getElem?_cons_succ, List.getElem?_cons_zero]; rfl)
    · first | exact fun _ _ _ h => h | exact fun _ _ _ h => by cases h.1
    · rfl
    · ((intro wq hSq; (try dsimp only at hSq); go_simp); (try with_reducible rfl))
    try simp only [Act.put, List.setIfInBounds_toArray, List.set_cons_zero, List.set_cons_succ]
    refine wpAnyH_take (i := 9) (oi := ?_) (v := ?_) ?_ (by kernel_rfl) (by kernel_rfl) (by kernel_rfl) ?_ (Or.inl ⟨?_, ?_⟩) (by assumption) ?_
    rotate_left 2
    · (simp only [List.getElem?_toArray, List.getElem?_cons_succ, List.getElem?_cons_zero]; rfl)
    · first | exact fun _ _ _ h => h | exact fun _ _ _ h => by cases h.1
    · rfl
    · ((intro wq hSq; (try dsimp only at hSq); go_simp); (try with_reducible rfl))
    try simp only [Act.put, List.setIfInBounds_toArray, List.set_cons_zero, List.set_cons_succ]
    refine wpAnyH_take (i := 10) (oi := ?_) (v := ?_) ?_ (by kernel_rfl) (by kernel_rfl) (by kernel_rfl) ?_ (Or.inl ⟨?_, ?_⟩) (by assumption) ?_
    rotate_left 2
    · (simp only [List.getElem?_toArray, List.getElem?_cons_succ, List.getElem?_cons_zero]; rfl)
    · first | exact fun _ _ _ h => h | exact fun _ _ _ h => by cases h.1
    · rfl
    · ((intro wq hSq; (try dsimp only at hSq); go_simp); (try with_reducible rfl))
    try simp only [Act.put, List.setIfInBounds_toArray, List.set_cons_zero, List.set_cons_succ]
    refine wpAnyH_take (i := 11) (oi := ?_) (v := ?_) ?_ (by kernel_rfl) (by kernel_rfl) (by kernel_rfl) ?_ (Or.inl ⟨?_, ?_⟩) (by assumption) ?_
    rotate_left 2
    · (simp only [List.getElem?_toArray, List.getElem?_cons_succ, List.getElem?_cons_zero]; rfl)
    · first | exact fun _ _ _ h => h | exact fun _ _ _ h => by cases h.1
    · rfl
    · ((intro wq hSq; (try dsimp only at hSq); go_simp); (try with_reducible rfl))
    try simp only [Act.put, List.setIfInBounds_toArray, List.set_cons_zero, List.set_cons_succ]
    refine wpAnyH_take (i := 13) (oi := ?_) (v := ?_) ?_ (by kernel_rfl) (by kernel_rfl) (by kernel_rfl) ?_ (Or.inl ⟨?_, ?_⟩) (by assumption) ?_
    rotate_left 2
    · (simp only [List.getElem?_toArray, List.getElem?_cons_succ, List.getElem?_cons_zero]; rfl)
    · first | exact fun _ _ _ h => h | exact fun _ _ _ h => by cases h.1
    · rfl
    · ((intro wq hSq; (try dsimp only at hSq); go_simp); (try with_reducible rfl))
    try simp only [Act.put, List.setIfInBounds_toArray, List.set_cons_zero, List.set_cons_succ]
    refine wpAnyH_take (i := 14) (oi := ?_) (v := ?_) ?_ (by kernel_rfl) (by kernel_rfl) (by kernel_rfl) ?_ (Or.inl ⟨?_, ?_⟩) (by assumption) ?_
    rotate_left 2
    · (simp only [List.getElem?_toArray, List.getElem?_cons_succ, List.getElem?_cons_zero]; rfl)
    · first | exact fun _ _ _ h => h | exact fun _ _ _ h => by cases h.1
    · rfl
    · ((intro wq hSq; (try dsimp only at hSq); go_simp); (try with_reducible rfl))
    try simp only [Act.put, List.setIfInBounds_toArray, List.set_cons_zero, List.set_cons_succ]
    refine wpAnyH_take (i := 15) (oi := ?_) (v := ?_) ?_ (by kernel_rfl) (by kernel_rfl) (by kernel_rfl) ?_ (Or.inl ⟨?_, ?_⟩) (by assumption) ?_
    rotate_left 2
    · (simp only [List.getElem?_toArray, List.getElem?_cons_succ, List.getElem?_cons_zero]; rfl)
    · first | exact fun _ _ _ h => h | exact fun _ _ _ h => by cases h.1
    · rfl
    · ((intro wq hSq; (try dsimp only at hSq); go_simp); (try with_reducible rfl))
    try simp only [Act.put, List.setIfInBounds_toArray, List.set_cons_zero, List.set_cons_succ]
    refine wpAnyH_take (i := 17) (oi := ?_) (v := ?_) ?_ (by kernel_rfl) (by kernel_rfl) (by kernel_rfl) ?_ (Or.inl ⟨?_, ?_⟩) (by assumption) ?_
    rotate_left 2
    · (simp only [List.getElem?_toArray, List.getElem?_cons_succ, List.getElem?_cons_zero]; rfl)
    · first | exact fun _ _ _ h => h | exact fun _ _ _ h => by cases h.1
    · rfl
    · ((intro wq hSq; (try dsimp only at hSq); go_simp); (try with_reducible rfl))
    try simp only [Act.put, List.setIfInBounds_toArray, List.set_cons_zero, List.set_cons_succ]
    refine wpAnyH_take (i := 18) (oi := ?_) (v := ?_) ?_ (by kernel_rfl) (by kernel_rfl) (by kernel_rfl) ?_ (Or.inl ⟨?_, ?_⟩) (by assumption) ?_
    rotate_left 2
    · (simp only [List.getElem?_toArray, List.getElem?_cons_succ, List.getElem?_cons_zero]; rfl)
    · first | exact fun _ _ _ h => h | exact fun _ _ _ h => by cases h.1
    · rfl
    · ((intro wq hSq; (try dsimp only at hSq); go_simp); (try with_reducible rfl))
    try simp only [Act.put, List.setIfInBounds_toArray, List.set_cons_zero, List.set_cons_succ]
    refine wpAnyH_take (i := 19) (oi := ?_) (v := ?_) ?_ (by kernel_rfl) (by kernel_rfl) (by kernel_rfl) ?_ (Or.inl ⟨?_, ?_⟩) (by assumption) ?_
    rotate_left 2
    · (simp only [List.getElem?_toArray, List.getElem?_cons_succ, List.getElem?_cons_zero]; rfl)
    · first | exact fun _ _ _ h => h | exact fun _ _ _ h => by cases h.1
    · rfl
    · ((intro wq hSq; (try dsimp only at hSq); go_simp); (try with_reducible rfl))
    try simp only [Act.put, List.setIfInBounds_toArray, List.set_cons_zero, List.set_cons_succ]
    refine wpAnyH_take (i := 20) (oi := ?_) (v := ?_) ?_ (by kernel_rfl) (by kernel_rfl) (by kernel_rfl) ?_ (Or.inl ⟨?_, ?_⟩) (by assumption) ?_
    rotate_left 2
    · (simp only [List.getElem?_toArray, List.getElem?_cons_succ, List.getElem?_cons_zero]; rfl)
    · first | exact fun _ _ _ h => h | exact fun _ _ _ h => by cases h.1
    · rfl
    · ((intro wq hSq; (try dsimp only at hSq); go_simp); (try with_reducible rfl))
    try simp only [Act.put, List.setIfInBounds_toArray, List.set_cons_zero, List.set_cons_succ]
    refine wpAnyH_ready (rs := [3, 23]) (by kernel_rfl) (by simp) ?_
    refine AllReadyH.cons (o := ?_) ?_ (fun K hK => ?_) ?_
    rotate_left
    · (simp only [List.getElem?_toArray, List.getElem?_cons_succ, List.getElem?_cons_zero]; rfl)
    · go_simp
      go_at_call 66
      refine (hnumA _ _ (by assumption)).mono ?_
      rintro e wx ⟨rfl, hbx⟩
      have hSx := HdSt.below (w2 := w4) (n := n + 1) (x0 := ⟨x0.toArray⟩) (x1 := ⟨x1.toArray⟩) (x2 := ⟨x2.toArray⟩) (x3 := ⟨x3.toArray⟩) (x5 := ⟨x5.toArray⟩) hHeld hbx
      refine hK.out _ _ hSx (fun hHeld => ?_)
      clear hK K
      try simp only [Act.put, List.setIfInBounds_toArray, List.set_cons_zero, List.set_cons_succ]
      refine wpAnyH_ready (rs := [7, 23]) (by kernel_rfl) (by simp) ?_
      refine AllReadyH.cons (o := ?_) ?_ (fun K hK => ?_) ?_
      rotate_left
      · (simp only [List.getElem?_toArray, List.getElem?_cons_succ, List.getElem?_cons_zero]; rfl)
      · go_simp
        go_at_call 66
        refine (hnumA _ _ (by assumption)).mono ?_
        rintro e wx ⟨rfl, hbx⟩
        have hSx := HdSt.below (w2 := w4) (n := n + 1) (x0 := ⟨x0.toArray⟩) (x1 := ⟨x1.toArray⟩) (x2 := ⟨x2.toArray⟩) (x3 := ⟨x3.toArray⟩) (x5 := ⟨x5.toArray⟩) hHeld hbx
        refine hK.out _ _ hSx (fun hHeld => ?_)
        clear hK K
        try simp only [Act.put, List.setIfInBounds_toArray, List.set_cons_zero, List.set_cons_succ]
        refine wpAnyH_ready (rs := [12, 23]) (by kernel_rfl) (by simp) ?_
        refine AllReadyH.cons (o := ?_) ?_ (fun K hK => ?_) ?_
        rotate_left
        · (simp only [List.getElem?_toArray, List.getElem?_cons_succ, List.getElem?_cons_zero]; rfl)
        · go_simp
          go_at_call 67
          refine (hops_index (bo) _ _ (HdSt.lits (w2 := w4) (n := n + 1) (x0 := ⟨x0.toArray⟩) (x1 := ⟨x1.toArray⟩) (x2 := ⟨x2.toArray⟩) (x3 := ⟨x3.toArray⟩) (x5 := ⟨x5.toArray⟩) hHeld HWO.out)).mono ?_
          rintro e wx ⟨rfl, rfl⟩
          have hSx := hHeld
          refine hK.out _ _ hSx (fun hHeld => ?_)
          clear hK K
          try simp only [Act.put, List.setIfInBounds_toArray, List.set_cons_zero, List.set_cons_succ]
          refine wpAnyH_ready (rs := [16, 23]) (by kernel_rfl) (by simp) ?_
          refine AllReadyH.cons (o := ?_) ?_ (fun K hK => ?_) ?_
          rotate_left
          · (simp only [List.getElem?_toArray, List.getElem?_cons_succ, List.getElem?_cons_zero]; rfl)
          · go_simp
            go_at_call 66
            refine (hnumA _ _ (by assumption)).mono ?_
            rintro e wx ⟨rfl, hbx⟩
            have hSx := HdSt.below (w2 := w4) (n := n + 1) (x0 := ⟨x0.toArray⟩) (x1 := ⟨x1.toArray⟩) (x2 := ⟨x2.toArray⟩) (x3 := ⟨x3.toArray⟩) (x5 := ⟨x5.toArray⟩) hHeld hbx
            refine hK.out _ _ hSx (fun hHeld => ?_)
            clear hK K
            try simp only [Act.put, List.setIfInBounds_toArray, List.set_cons_zero, List.set_cons_succ]
            refine wpAnyH_ready (rs := [21, 23]) (by kernel_rfl) (by simp) ?_
            refine AllReadyH.cons (o := ?_) ?_ (fun K hK => ?_) ?_
            rotate_left
            · (simp only [List.getElem?_toArray, List.getElem?_cons_succ, List.getElem?_cons_zero]; rfl)
            · go_simp
              go_at_call 67
              refine (hcodes_index (bo + 1) _ _ (HdSt.lits (w2 := w4) (n := n + 1) (x0 := ⟨x0.toArray⟩) (x1 := ⟨x1.toArray⟩) (x2 := ⟨x2.toArray⟩) (x3 := ⟨x3.toArray⟩) (x5 := ⟨x5.toArray⟩) hHeld HWC.out)).mono ?_
              rintro e wx ⟨rfl, rfl⟩
              have hSx := hHeld
              refine hK.out _ _ hSx (fun hHeld => ?_)
              clear hK K
              try simp only [Act.put, List.setIfInBounds_toArray, List.set_cons_zero, List.set_cons_succ]
              refine wpAnyH_take (i := 22) (oi := ?_) (v := ?_) ?_ (by kernel_rfl) (by kernel_rfl) (by kernel_rfl) ?_ (Or.inl ⟨?_, ?_⟩) (by assumption) ?_
              rotate_left 2
              · (simp only [List.getElem?_toArray, List.getElem?_cons_succ, List.getElem?_cons_zero]; rfl)
              · first | exact fun _ _ _ h => h | exact fun _ _ _ h => by cases h.1
              · rfl
              · ((intro wq hSq; (try dsimp only at hSq); go_simp); (try with_reducible rfl))
              try simp only [Act.put, List.setIfInBounds_toArray, List.set_cons_zero, List.set_cons_succ]
              refine wpAnyH_ready (rs := [23]) (by kernel_rfl) (by simp) ?_
              refine AllReadyH.cons (o := ?_) ?_ (fun K hK => ?_) AllReadyH.nil
              rotate_left
              · (simp only [List.getElem?_toArray, List.getElem?_cons_succ, List.getElem?_cons_zero]; rfl)
              go_simp
              have hnew := ClBox.new (wx) cl0 none 0
              have hsz := hHeld.1.size
              have hSx := HdSt.alloc (w2 := w4) (n := n + 1) (x0 := ⟨x0.toArray⟩) (x1 := ⟨x1.toArray⟩) (x2 := ⟨x2.toArray⟩) (x3 := ⟨x3.toArray⟩) (x5 := ⟨x5.toArray⟩) hHeld (.cells #[.int .i64 0, .int .i64 0, .int .i64 0, .slice none 0 0, .int .i64 0, .int .i64 0, .int .i64 0] 45)
              refine hK.out _ _ hSx (fun hHeld => ?_)
              clear hK K
              try simp only [Act.put, List.setIfInBounds_toArray, List.set_cons_zero, List.set_cons_succ]
              obtain ⟨wa, hwa⟩ : ∃ x, (wx).alloc (.cells #[.int .i64 0, .int .i64 0, .int .i64 0, .slice none 0 0, .int .i64 0, .int .i64 0, .int .i64 0] 45) = x := ⟨_, rfl⟩
              obtain ⟨nb, hnb⟩ : ∃ x, (wx).heap.size = x := ⟨_, rfl⟩
              have hnew2 : ClBox wa nb cl0 none 0 := by rw [← hwa, ← hnb]; exact hnew
              rw [hwa] at hHeld ⊢
              rw [hnb] at hsz ⊢
              clear hwa hnb hnew
              have hS2 : HdSt2 w4 (n + 1) ⟨x0.toArray⟩ ⟨x1.toArray⟩ ⟨x2.toArray⟩ ⟨x3.toArray⟩ ⟨x5.toArray⟩ nb wa := ⟨hHeld, _, hnew2⟩
              clear hnew2 hHeld
              refine wpAnyH_strong (S' := fun w' => (Below w4.heap.size w4 w' ∧ w'.cell? ⟨n + 1, 0, none⟩ = some (.string ⟨x0.toArray⟩) ∧ w'.cell? ⟨n + 1, 1, none⟩ = some (.string ⟨x1.toArray⟩) ∧ w'.cell? ⟨n + 1, 2, none⟩ = some (.string ⟨x2.toArray⟩) ∧ w'.cell? ⟨n + 1, 3, none⟩ = some (.string ⟨x3.toArray⟩) ∧ w'.cell? ⟨n + 1, 5, none⟩ = some (.string ⟨x5.toArray⟩)) ∧ ∃ x, ClBox w' nb x none 0) (fun w h => h.1) _ _ _ _ ?_
              have hHeld := hS2
              obtain ⟨ee, hz⟩ := hHeld.2
              obtain ⟨b0, b1, b2, b3, b4, b5, b6⟩ := hz.cells
              have f0 := hz.frozen 0
              have f1 := hz.frozen 1
              have f2 := hz.frozen 2
              have f3 := hz.frozen 3
              have f4 := hz.frozen 4
              have f5 := hz.frozen 5
              have f6 := hz.frozen 6
              refine wpAnyH_ready (rs := [24]) (by kernel_rfl) (by simp) ?_
              refine AllReadyH.cons (o := ?_) ?_ (fun K hK => ?_) AllReadyH.nil
              rotate_left
              · (simp only [List.getElem?_toArray, List.getElem?_cons_succ, List.getElem?_cons_zero]; rfl)
              go_simp
              have hSx := HdSt2.set (w2 := w4) (n := n + 1) (x0 := ⟨x0.toArray⟩) (x1 := ⟨x1.toArray⟩) (x2 := ⟨x2.toArray⟩) (x3 := ⟨x3.toArray⟩) (x5 := ⟨x5.toArray⟩) (nb := nb) hHeld hsz hz hn4 ⟨numH x0, numH x1, idxW opsW x2, [], idxW codesW x5, numH x3, -1⟩ rfl
              have hzz := hz.set7 ⟨numH x0, numH x1, idxW opsW x2, [], idxW codesW x5, numH x3, -1⟩ none 0
              have hBB := hSx.1.1
              refine hK.out _ _ hSx (fun hHeld => ?_)
              clear hK K
              try simp only [Act.put, List.setIfInBounds_toArray, List.set_cons_zero, List.set_cons_succ]
              refine wpAnyH_done (by kernel_rfl) ?_ _
              exact ⟨rfl, nb, rfl, hsz, hzz, hBB⟩
            · refine AllReadyH.cons (o := ?_) ?_ (fun K hK => ?_) AllReadyH.nil
              rotate_left
              · (simp only [List.getElem?_toArray, List.getElem?_cons_succ, List.getElem?_cons_zero]; rfl)
              · go_simp
                have hnew := ClBox.new (wx) cl0 none 0
                have hsz := hHeld.1.size
                have hSx := HdSt.alloc (w2 := w4) (n := n + 1) (x0 := ⟨x0.toArray⟩) (x1 := ⟨x1.toArray⟩) (x2 := ⟨x2.toArray⟩) (x3 := ⟨x3.toArray⟩) (x5 := ⟨x5.toArray⟩) hHeld (.cells #[.int .i64 0, .int .i64 0, .int .i64 0, .slice none 0 0, .int .i64 0, .int .i64 0, .int .i64 0] 45)
                refine hK.out _ _ hSx (fun hHeld => ?_)
                clear hK K
                try simp only [Act.put, List.setIfInBounds_toArray, List.set_cons_zero, List.set_cons_succ]
                obtain ⟨wa, hwa⟩ : ∃ x, (wx).alloc (.cells #[.int .i64 0, .int .i64 0, .int .i64 0, .slice none 0 0, .int .i64 0, .int .i64 0, .int .i64 0] 45) = x := ⟨_, rfl⟩
                obtain ⟨nb, hnb⟩ : ∃ x, (wx).heap.size = x := ⟨_, rfl⟩
                have hnew2 : ClBox wa nb cl0 none 0 := by rw [← hwa, ← hnb]; exact hnew
                rw [hwa] at hHeld ⊢
                rw [hnb] at hsz ⊢
                clear hwa hnb hnew
                have hS2 : HdSt2 w4 (n + 1) ⟨x0.toArray⟩ ⟨x1.toArray⟩ ⟨x2.toArray⟩ ⟨x3.toArray⟩ ⟨x5.toArray⟩ nb wa := ⟨hHeld, _, hnew2⟩
                clear hnew2 hHeld
                refine wpAnyH_strong (S' := fun w' => (Below w4.heap.size w4 w' ∧ w'.cell? ⟨n + 1, 0, none⟩ = some (.string ⟨x0.toArray⟩) ∧ w'.cell? ⟨n + 1, 1, none⟩ = some (.string ⟨x1.toArray⟩) ∧ w'.cell? ⟨n + 1, 2, none⟩ = some (.string ⟨x2.toArray⟩) ∧ w'.cell? ⟨n + 1, 3, none⟩ = some (.string ⟨x3.toArray⟩) ∧ w'.cell? ⟨n + 1, 5, none⟩ = some (.string ⟨x5.toArray⟩)) ∧ ∃ x, ClBox w' nb x none 0) (fun w h => h.1) _ _ _ _ ?_
                have hHeld := hS2
                refine wpAnyH_ready (rs := [21]) (by kernel_rfl) (by simp) ?_
                refine AllReadyH.cons (o := ?_) ?_ (fun K hK => ?_) AllReadyH.nil
                rotate_left
                · (simp only [List.getElem?_toArray, List.getElem?_cons_succ, List.getElem?_cons_zero]; rfl)
                go_simp
                go_at_call 67
                refine (hcodes_index (bo + 1) _ _ (HdSt.lits (w2 := w4) (n := n + 1) (x0 := ⟨x0.toArray⟩) (x1 := ⟨x1.toArray⟩) (x2 := ⟨x2.toArray⟩) (x3 := ⟨x3.toArray⟩) (x5 := ⟨x5.toArray⟩) hHeld.1 HWC.out)).mono ?_
                rintro e wx ⟨rfl, rfl⟩
                have hSx := hHeld
                refine hK.out _ _ hSx (fun hHeld => ?_)
                clear hK K
                try simp only [Act.put, List.setIfInBounds_toArray, List.set_cons_zero, List.set_cons_succ]
                refine wpAnyH_take (i := 22) (oi := ?_) (v := ?_) ?_ (by kernel_rfl) (by kernel_rfl) (by kernel_rfl) ?_ (Or.inl ⟨?_, ?_⟩) (by assumption) ?_
                rotate_left 2
                · (simp only [List.getElem?_toArray, List.getElem?_cons_succ, List.getElem?_cons_zero]; rfl)
                · first | exact fun _ _ _ h => h | exact fun _ _ _ h => by cases h.1
                · rfl
                · ((intro wq hSq; (try dsimp only at hSq); go_simp); (try with_reducible rfl))
                try simp only [Act.put, List.setIfInBounds_toArray, List.set_cons_zero, List.set_cons_succ]
                obtain ⟨ee, hz⟩ := hHeld.2
                obtain ⟨b0, b1, b2, b3, b4, b5, b6⟩ := hz.cells
                have f0 := hz.frozen 0
                have f1 := hz.frozen 1
                have f2 := hz.frozen 2
                have f3 := hz.frozen 3
                have f4 := hz.frozen 4
                have f5 := hz.frozen 5
                have f6 := hz.frozen 6
                refine wpAnyH_ready (rs := [24]) (by kernel_rfl) (by simp) ?_
                refine AllReadyH.cons (o := ?_) ?_ (fun K hK => ?_) AllReadyH.nil
                rotate_left
                · (simp only [List.getElem?_toArray, List.getElem?_cons_succ, List.getElem?_cons_zero]; rfl)
                go_simp
                have hSx := HdSt2.set (w2 := w4) (n := n + 1) (x0 := ⟨x0.toArray⟩) (x1 := ⟨x1.toArray⟩) (x2 := ⟨x2.toArray⟩) (x3 := ⟨x3.toArray⟩) (x5 := ⟨x5.toArray⟩) (nb := nb) hHeld hsz hz hn4 ⟨numH x0, numH x1, idxW opsW x2, [], idxW codesW x5, numH x3, -1⟩ rfl
                have hzz := hz.set7 ⟨numH x0, numH x1, idxW opsW x2, [], idxW codesW x5, numH x3, -1⟩ none 0
                have hBB := hSx.1.1
                refine hK.out _ _ hSx (fun hHeld => ?_)
                clear hK K
                try simp only [Act.put, List.setIfInBounds_toArray, List.set_cons_zero, List.set_cons_succ]
                refine wpAnyH_done (by kernel_rfl) ?_ _
                exact ⟨rfl, nb, rfl, hsz, hzz, hBB⟩
          · refine AllReadyH.cons (o := ?_) ?_ (fun K hK => ?_) AllReadyH.nil
            rotate_left
            · (simp only [List.getElem?_toArray, List.getElem?_cons_succ, List.getElem?_cons_zero]; rfl)
            · go_simp
              have hnew := ClBox.new (wx) cl0 none 0
              have hsz := hHeld.1.size
              have hSx := HdSt.alloc (w2 := w4) (n := n + 1) (x0 := ⟨x0.toArray⟩) (x1 := ⟨x1.toArray⟩) (x2 := ⟨x2.toArray⟩) (x3 := ⟨x3.toArray⟩) (x5 := ⟨x5.toArray⟩) hHeld (.cells #[.int .i64 0, .int .i64 0, .int .i64 0, .slice none 0 0, .int .i64 0, .int .i64 0, .int .i64 0] 45)
              refine hK.out _ _ hSx (fun hHeld => ?_)
              clear hK K
              try simp only [Act.put, List.setIfInBounds_toArray, List.set_cons_zero, List.set_cons_succ]
              obtain ⟨wa, hwa⟩ : ∃ x, (wx).alloc (.cells #[.int .i64 0, .int .i64 0, .int .i64 0, .slice none 0 0, .int .i64 0, .int .i64 0, .int .i64 0] 45) = x := ⟨_, rfl⟩
              obtain ⟨nb, hnb⟩ : ∃ x, (wx).heap.size = x := ⟨_, rfl⟩
              have hnew2 : ClBox wa nb cl0 none 0 := by rw [← hwa, ← hnb]; exact hnew
              rw [hwa] at hHeld ⊢
              rw [hnb] at hsz ⊢
              clear hwa hnb hnew
              have hS2 : HdSt2 w4 (n + 1) ⟨x0.toArray⟩ ⟨x1.toArray⟩ ⟨x2.toArray⟩ ⟨x3.toArray⟩ ⟨x5.toArray⟩ nb wa := ⟨hHeld, _, hnew2⟩
              clear hnew2 hHeld
              refine wpAnyH_strong (S' := fun w' => (Below w4.heap.size w4 w' ∧ w'.cell? ⟨n + 1, 0, none⟩ = some (.string ⟨x0.toArray⟩) ∧ w'.cell? ⟨n + 1, 1, none⟩ = some (.string ⟨x1.toArray⟩) ∧ w'.cell? ⟨n + 1, 2, none⟩ = some (.string ⟨x2.toArray⟩) ∧ w'.cell? ⟨n + 1, 3, none⟩ = some (.string ⟨x3.toArray⟩) ∧ w'.cell? ⟨n + 1, 5, none⟩ = some (.string ⟨x5.toArray⟩)) ∧ ∃ x, ClBox w' nb x none 0) (fun w h => h.1) _ _ _ _ ?_
              have hHeld := hS2
              refine wpAnyH_ready (rs := [16]) (by kernel_rfl) (by simp) ?_
              refine AllReadyH.cons (o := ?_) ?_ (fun K hK => ?_) AllReadyH.nil
              rotate_left
              · (simp only [List.getElem?_toArray, List.getElem?_cons_succ, List.getElem?_cons_zero]; rfl)
              go_simp
              go_at_call 66
              refine (hnumA _ _ (by assumption)).mono ?_
              rintro e wx ⟨rfl, hbx⟩
              have hSx := HdSt2.below (w2 := w4) (n := n + 1) (x0 := ⟨x0.toArray⟩) (x1 := ⟨x1.toArray⟩) (x2 := ⟨x2.toArray⟩) (x3 := ⟨x3.toArray⟩) (x5 := ⟨x5.toArray⟩) (nb := nb) hHeld hbx
              refine hK.out _ _ hSx (fun hHeld => ?_)
              clear hK K
              try simp only [Act.put, List.setIfInBounds_toArray, List.set_cons_zero, List.set_cons_succ]
              refine wpAnyH_ready (rs := [21]) (by kernel_rfl) (by simp) ?_
              refine AllReadyH.cons (o := ?_) ?_ (fun K hK => ?_) AllReadyH.nil
              rotate_left
              · (simp only [List.getElem?_toArray, List.getElem?_cons_succ, List.getElem?_cons_zero]; rfl)
              go_simp
              go_at_call 67
              refine (hcodes_index (bo + 1) _ _ (HdSt.lits (w2 := w4) (n := n + 1) (x0 := ⟨x0.toArray⟩) (x1 := ⟨x1.toArray⟩) (x2 := ⟨x2.toArray⟩) (x3 := ⟨x3.toArray⟩) (x5 := ⟨x5.toArray⟩) hHeld.1 HWC.out)).mono ?_
              rintro e wx ⟨rfl, rfl⟩
              have hSx := hHeld
              refine hK.out _ _ hSx (fun hHeld => ?_)
              clear hK K
              try simp only [Act.put, List.setIfInBounds_toArray, List.set_cons_zero, List.set_cons_succ]
              refine wpAnyH_take (i := 22) (oi := ?_) (v := ?_) ?_ (by kernel_rfl) (by kernel_rfl) (by kernel_rfl) ?_ (Or.inl ⟨?_, ?_⟩) (by assumption) ?_
              rotate_left 2
              · (simp only [List.getElem?_toArray, List.getElem?_cons_succ, List.getElem?_cons_zero]; rfl)
              · first | exact fun _ _ _ h => h | exact fun _ _ _ h => by cases h.1
              · rfl
              · ((intro wq hSq; (try dsimp only at hSq); go_simp); (try with_reducible rfl))
              try simp only [Act.put, List.setIfInBounds_toArray, List.set_cons_zero, List.set_cons_succ]
              obtain ⟨ee, hz⟩ := hHeld.2
              obtain ⟨b0, b1, b2, b3, b4, b5, b6⟩ := hz.cells
              have f0 := hz.frozen 0
              have f1 := hz.frozen 1
              have f2 := hz.frozen 2
              have f3 := hz.frozen 3
              have f4 := hz.frozen 4
              have f5 := hz.frozen 5
              have f6 := hz.frozen 6
              refine wpAnyH_ready (rs := [24]) (by kernel_rfl) (by simp) ?_
              refine AllReadyH.cons (o := ?_) ?_ (fun K hK => ?_) AllReadyH.nil
              rotate_left
              · (simp only [List.getElem?_toArray, List.getElem?_cons_succ, List.getElem?_cons_zero]; rfl)
              go_simp
              have hSx := HdSt2.set (w2 := w4) (n := n + 1) (x0 := ⟨x0.toArray⟩) (x1 := ⟨x1.toArray⟩) (x2 := ⟨x2.toArray⟩) (x3 := ⟨x3.toArray⟩) (x5 := ⟨x5.toArray⟩) (nb := nb) hHeld hsz hz hn4 ⟨numH x0, numH x1, idxW opsW x2, [], idxW codesW x5, numH x3, -1⟩ rfl
              have hzz := hz.set7 ⟨numH x0, numH x1, idxW opsW x2, [], idxW codesW x5, numH x3, -1⟩ none 0
              have hBB := hSx.1.1
              refine hK.out _ _ hSx (fun hHeld => ?_)
              clear hK K
              try simp only [Act.put, List.setIfInBounds_toArray, List.set_cons_zero, List.set_cons_succ]
              refine wpAnyH_done (by kernel_rfl) ?_ _
              exact ⟨rfl, nb, rfl, hsz, hzz, hBB⟩
        · refine AllReadyH.cons (o := ?_) ?_ (fun K hK => ?_) AllReadyH.nil
          rotate_left
          · (simp only [List.getElem?_toArray, List.getElem?_cons_succ, List.getElem?_cons_zero]; rfl)
          · go_simp
            have hnew := ClBox.new (wx) cl0 none 0
            have hsz := hHeld.1.size
            have hSx := HdSt.alloc (w2 := w4) (n := n + 1) (x0 := ⟨x0.toArray⟩) (x1 := ⟨x1.toArray⟩) (x2 := ⟨x2.toArray⟩) (x3 := ⟨x3.toArray⟩) (x5 := ⟨x5.toArray⟩) hHeld (.cells #[.int .i64 0, .int .i64 0, .int .i64 0, .slice none 0 0, .int .i64 0, .int .i64 0, .int .i64 0] 45)
            refine hK.out _ _ hSx (fun hHeld => ?_)
            clear hK K
            try simp only [Act.put, List.setIfInBounds_toArray, List.set_cons_zero, List.set_cons_succ]
            obtain ⟨wa, hwa⟩ : ∃ x, (wx).alloc (.cells #[.int .i64 0, .int .i64 0, .int .i64 0, .slice none 0 0, .int .i64 0, .int .i64 0, .int .i64 0] 45) = x := ⟨_, rfl⟩
            obtain ⟨nb, hnb⟩ : ∃ x, (wx).heap.size = x := ⟨_, rfl⟩
            have hnew2 : ClBox wa nb cl0 none 0 := by rw [← hwa, ← hnb]; exact hnew
            rw [hwa] at hHeld ⊢
            rw [hnb] at hsz ⊢
            clear hwa hnb hnew
            have hS2 : HdSt2 w4 (n + 1) ⟨x0.toArray⟩ ⟨x1.toArray⟩ ⟨x2.toArray⟩ ⟨x3.toArray⟩ ⟨x5.toArray⟩ nb wa := ⟨hHeld, _, hnew2⟩
            clear hnew2 hHeld
            refine wpAnyH_strong (S' := fun w' => (Below w4.heap.size w4 w' ∧ w'.cell? ⟨n + 1, 0, none⟩ = some (.string ⟨x0.toArray⟩) ∧ w'.cell? ⟨n + 1, 1, none⟩ = some (.string ⟨x1.toArray⟩) ∧ w'.cell? ⟨n + 1, 2, none⟩ = some (.string ⟨x2.toArray⟩) ∧ w'.cell? ⟨n + 1, 3, none⟩ = some (.string ⟨x3.toArray⟩) ∧ w'.cell? ⟨n + 1, 5, none⟩ = some (.string ⟨x5.toArray⟩)) ∧ ∃ x, ClBox w' nb x none 0) (fun w h => h.1) _ _ _ _ ?_
            have hHeld := hS2
            refine wpAnyH_ready (rs := [12]) (by kernel_rfl) (by simp) ?_
            refine AllReadyH.cons (o := ?_) ?_ (fun K hK => ?_) AllReadyH.nil
            rotate_left
            · (simp only [List.getElem?_toArray, List.getElem?_cons_succ, List.getElem?_cons_zero]; rfl)
            go_simp
            go_at_call 67
            refine (hops_index (bo) _ _ (HdSt.lits (w2 := w4) (n := n + 1) (x0 := ⟨x0.toArray⟩) (x1 := ⟨x1.toArray⟩) (x2 := ⟨x2.toArray⟩) (x3 := ⟨x3.toArray⟩) (x5 := ⟨x5.toArray⟩) hHeld.1 HWO.out)).mono ?_
            rintro e wx ⟨rfl, rfl⟩
            have hSx := hHeld
            refine hK.out _ _ hSx (fun hHeld => ?_)
            clear hK K
            try simp only [Act.put, List.setIfInBounds_toArray, List.set_cons_zero, List.set_cons_succ]
            refine wpAnyH_ready (rs := [16]) (by kernel_rfl) (by simp) ?_
            refine AllReadyH.cons (o := ?_) ?_ (fun K hK => ?_) AllReadyH.nil
            rotate_left
            · (simp only [List.getElem?_toArray, List.getElem?_cons_succ, List.getElem?_cons_zero]; rfl)
            go_simp
            go_at_call 66
            refine (hnumA _ _ (by assumption)).mono ?_
            rintro e wx ⟨rfl, hbx⟩
            have hSx := HdSt2.below (w2 := w4) (n := n + 1) (x0 := ⟨x0.toArray⟩) (x1 := ⟨x1.toArray⟩) (x2 := ⟨x2.toArray⟩) (x3 := ⟨x3.toArray⟩) (x5 := ⟨x5.toArray⟩) (nb := nb) hHeld hbx
            refine hK.out _ _ hSx (fun hHeld => ?_)
            clear hK K
            try simp only [Act.put, List.setIfInBounds_toArray, List.set_cons_zero, List.set_cons_succ]
            refine wpAnyH_ready (rs := [21]) (by kernel_rfl) (by simp) ?_
            refine AllReadyH.cons (o := ?_) ?_ (fun K hK => ?_) AllReadyH.nil
            rotate_left
            · (simp only [List.getElem?_toArray, List.getElem?_cons_succ, List.getElem?_cons_zero]; rfl)
            go_simp
            go_at_call 67
            refine (hcodes_index (bo + 1) _ _ (HdSt.lits (w2 := w4) (n := n + 1) (x0 := ⟨x0.toArray⟩) (x1 := ⟨x1.toArray⟩) (x2 := ⟨x2.toArray⟩) (x3 := ⟨x3.toArray⟩) (x5 := ⟨x5.toArray⟩) hHeld.1 HWC.out)).mono ?_
            rintro e wx ⟨rfl, rfl⟩
            have hSx := hHeld
            refine hK.out _ _ hSx (fun hHeld => ?_)
            clear hK K
            try simp only [Act.put, List.setIfInBounds_toArray, List.set_cons_zero, List.set_cons_succ]
            refine wpAnyH_take (i := 22) (oi := ?_) (v := ?_) ?_ (by kernel_rfl) (by kernel_rfl) (by kernel_rfl) ?_ (Or.inl ⟨?_, ?_⟩) (by assumption) ?_
            rotate_left 2
            · (simp only [List.getElem?_toArray, List.getElem?_cons_succ, List.getElem?_cons_zero]; rfl)
            · first | exact fun _ _ _ h => h | exact fun _ _ _ h => by cases h.1
            · rfl
            · ((intro wq hSq; (try dsimp only at hSq); go_simp); (try with_reducible rfl))
            try simp only [Act.put, List.setIfInBounds_toArray, List.set_cons_zero, List.set_cons_succ]
            obtain ⟨ee, hz⟩ := hHeld.2
            obtain ⟨b0, b1, b2, b3, b4, b5, b6⟩ := hz.cells
            have f0 := hz.frozen 0
            have f1 := hz.frozen 1
            have f2 := hz.frozen 2
            have f3 := hz.frozen 3
            have f4 := hz.frozen 4
            have f5 := hz.frozen 5
            have f6 := hz.frozen 6
            refine wpAnyH_ready (rs := [24]) (by kernel_rfl) (by simp) ?_
            refine AllReadyH.cons (o := ?_) ?_ (fun K hK => ?_) AllReadyH.nil
            rotate_left
            · (simp only [List.getElem?_toArray, List.getElem?_cons_succ, List.getElem?_cons_zero]; rfl)
            go_simp
            have hSx := HdSt2.set (w2 := w4) (n := n + 1) (x0 := ⟨x0.toArray⟩) (x1 := ⟨x1.toArray⟩) (x2 := ⟨x2.toArray⟩) (x3 := ⟨x3.toArray⟩) (x5 := ⟨x5.toArray⟩) (nb := nb) hHeld hsz hz hn4 ⟨numH x0, numH x1, idxW opsW x2, [], idxW codesW x5, numH x3, -1⟩ rfl
            have hzz := hz.set7 ⟨numH x0, numH x1, idxW opsW x2, [], idxW codesW x5, numH x3, -1⟩ none 0
            have hBB := hSx.1.1
            refine hK.out _ _ hSx (fun hHeld => ?_)
            clear hK K
            try simp only [Act.put, List.setIfInBounds_toArray, List.set_cons_zero, List.set_cons_succ]
            refine wpAnyH_done (by kernel_rfl) ?_ _
            exact ⟨rfl, nb, rfl, hsz, hzz, hBB⟩
      · refine AllReadyH.cons (o := ?_) ?_ (fun K hK => ?_) AllReadyH.nil
        rotate_left
        · (simp only [List.getElem?_toArray, List.getElem?_cons_succ, List.getElem?_cons_zero]; rfl)
        · go_simp
          have hnew := ClBox.new (wx) cl0 none 0
          have hsz := hHeld.1.size
          have hSx := HdSt.alloc (w2 := w4) (n := n + 1) (x0 := ⟨x0.toArray⟩) (x1 := ⟨x1.toArray⟩) (x2 := ⟨x2.toArray⟩) (x3 := ⟨x3.toArray⟩) (x5 := ⟨x5.toArray⟩) hHeld (.cells #[.int .i64 0, .int .i64 0, .int .i64 0, .slice none 0 0, .int .i64 0, .int .i64 0, .int .i64 0] 45)
          refine hK.out _ _ hSx (fun hHeld => ?_)
          clear hK K
          try simp only [Act.put, List.setIfInBounds_toArray, List.set_cons_zero, List.set_cons_succ]
          obtain ⟨wa, hwa⟩ : ∃ x, (wx).alloc (.cells #[.int .i64 0, .int .i64 0, .int .i64 0, .slice none 0 0, .int .i64 0, .int .i64 0, .int .i64 0] 45) = x := ⟨_, rfl⟩
          obtain ⟨nb, hnb⟩ : ∃ x, (wx).heap.size = x := ⟨_, rfl⟩
          have hnew2 : ClBox wa nb cl0 none 0 := by rw [← hwa, ← hnb]; exact hnew
          rw [hwa] at hHeld ⊢
          rw [hnb] at hsz ⊢
          clear hwa hnb hnew
          have hS2 : HdSt2 w4 (n + 1) ⟨x0.toArray⟩ ⟨x1.toArray⟩ ⟨x2.toArray⟩ ⟨x3.toArray⟩ ⟨x5.toArray⟩ nb wa := ⟨hHeld, _, hnew2⟩
          clear hnew2 hHeld
          refine wpAnyH_strong (S' := fun w' => (Below w4.heap.size w4 w' ∧ w'.cell? ⟨n + 1, 0, none⟩ = some (.string ⟨x0.toArray⟩) ∧ w'.cell? ⟨n + 1, 1, none⟩ = some (.string ⟨x1.toArray⟩) ∧ w'.cell? ⟨n + 1, 2, none⟩ = some (.string ⟨x2.toArray⟩) ∧ w'.cell? ⟨n + 1, 3, none⟩ = some (.string ⟨x3.toArray⟩) ∧ w'.cell? ⟨n + 1, 5, none⟩ = some (.string ⟨x5.toArray⟩)) ∧ ∃ x, ClBox w' nb x none 0) (fun w h => h.1) _ _ _ _ ?_
          have hHeld := hS2
          refine wpAnyH_ready (rs := [7]) (by kernel_rfl) (by simp) ?_
          refine AllReadyH.cons (o := ?_) ?_ (fun K hK => ?_) AllReadyH.nil
          rotate_left
          · (simp only [List.getElem?_toArray, List.getElem?_cons_succ, List.getElem?_cons_zero]; rfl)
          go_simp
          go_at_call 66
          refine (hnumA _ _ (by assumption)).mono ?_
          rintro e wx ⟨rfl, hbx⟩
          have hSx := HdSt2.below (w2 := w4) (n := n + 1) (x0 := ⟨x0.toArray⟩) (x1 := ⟨x1.toArray⟩) (x2 := ⟨x2.toArray⟩) (x3 := ⟨x3.toArray⟩) (x5 := ⟨x5.toArray⟩) (nb := nb) hHeld hbx
          refine hK.out _ _ hSx (fun hHeld => ?_)
          clear hK K
          try simp only [Act.put, List.setIfInBounds_toArray, List.set_cons_zero, List.set_cons_succ]
          refine wpAnyH_ready (rs := [12]) (by kernel_rfl) (by simp) ?_
          refine AllReadyH.cons (o := ?_) ?_ (fun K hK => ?_) AllReadyH.nil
          rotate_left
          · (simp only [List.getElem?_toArray, List.getElem?_cons_succ, List.getElem?_cons_zero]; rfl)
          go_simp
          go_at_call 67
          refine (hops_index (bo) _ _ (HdSt.lits (w2 := w4) (n := n + 1) (x0 := ⟨x0.toArray⟩) (x1 := ⟨x1.toArray⟩) (x2 := ⟨x2.toArray⟩) (x3 := ⟨x3.toArray⟩) (x5 := ⟨x5.toArray⟩) hHeld.1 HWO.out)).mono ?_
          rintro e wx ⟨rfl, rfl⟩
          have hSx := hHeld
          refine hK.out _ _ hSx (fun hHeld => ?_)
          clear hK K
          try simp only [Act.put, List.setIfInBounds_toArray, List.set_cons_zero, List.set_cons_succ]
          refine wpAnyH_ready (rs := [16]) (by kernel_rfl) (by simp) ?_
          refine AllReadyH.cons (o := ?_) ?_ (fun K hK => ?_) AllReadyH.nil
          rotate_left
          · (simp only [List.getElem?_toArray, List.getElem?_cons_succ, List.getElem?_cons_zero]; rfl)
          go_simp
          go_at_call 66
          refine (hnumA _ _ (by assumption)).mono ?_
          rintro e wx ⟨rfl, hbx⟩
          have hSx := HdSt2.below (w2 := w4) (n := n + 1) (x0 := ⟨x0.toArray⟩) (x1 := ⟨x1.toArray⟩) (x2 := ⟨x2.toArray⟩) (x3 := ⟨x3.toArray⟩) (x5 := ⟨x5.toArray⟩) (nb := nb) hHeld hbx
          refine hK.out _ _ hSx (fun hHeld => ?_)
          clear hK K
          try simp only [Act.put, List.setIfInBounds_toArray, List.set_cons_zero, List.set_cons_succ]
          refine wpAnyH_ready (rs := [21]) (by kernel_rfl) (by simp) ?_
          refine AllReadyH.cons (o := ?_) ?_ (fun K hK => ?_) AllReadyH.nil
          rotate_left
          · (simp only [List.getElem?_toArray, List.getElem?_cons_succ, List.getElem?_cons_zero]; rfl)
          go_simp
          go_at_call 67
          refine (hcodes_index (bo + 1) _ _ (HdSt.lits (w2 := w4) (n := n + 1) (x0 := ⟨x0.toArray⟩) (x1 := ⟨x1.toArray⟩) (x2 := ⟨x2.toArray⟩) (x3 := ⟨x3.toArray⟩) (x5 := ⟨x5.toArray⟩) hHeld.1 HWC.out)).mono ?_
          rintro e wx ⟨rfl, rfl⟩
          have hSx := hHeld
          refine hK.out _ _ hSx (fun hHeld => ?_)
          clear hK K
          try simp only [Act.put, List.setIfInBounds_toArray, List.set_cons_zero, List.set_cons_succ]
          refine wpAnyH_take (i := 22) (oi := ?_) (v := ?_) ?_ (by kernel_rfl) (by kernel_rfl) (by kernel_rfl) ?_ (Or.inl ⟨?_, ?_⟩) (by assumption) ?_
          rotate_left 2
          · (simp only [List.getElem?_toArray, List.getElem?_cons_succ, List.getElem?_cons_zero]; rfl)
          · first | exact fun _ _ _ h => h | exact fun _ _ _ h => by cases h.1
          · rfl
          · ((intro wq hSq; (try dsimp only at hSq); go_simp); (try with_reducible rfl))
          try simp only [Act.put, List.setIfInBounds_toArray, List.set_cons_zero, List.set_cons_succ]
          obtain ⟨ee, hz⟩ := hHeld.2
          obtain ⟨b0, b1, b2, b3, b4, b5, b6⟩ := hz.cells
          have f0 := hz.frozen 0
          have f1 := hz.frozen 1
          have f2 := hz.frozen 2
          have f3 := hz.frozen 3
          have f4 := hz.frozen 4
          have f5 := hz.frozen 5
          have f6 := hz.frozen 6
          refine wpAnyH_ready (rs := [24]) (by kernel_rfl) (by simp) ?_
          refine AllReadyH.cons (o := ?_) ?_ (fun K hK => ?_) AllReadyH.nil
          rotate_left
          · (simp only [List.getElem?_toArray, List.getElem?_cons_succ, List.getElem?_cons_zero]; rfl)
          go_simp
          have hSx := HdSt2.set (w2 := w4) (n := n + 1) (x0 := ⟨x0.toArray⟩) (x1 := ⟨x1.toArray⟩) (x2 := ⟨x2.toArray⟩) (x3 := ⟨x3.toArray⟩) (x5 := ⟨x5.toArray⟩) (nb := nb) hHeld hsz hz hn4 ⟨numH x0, numH x1, idxW opsW x2, [], idxW codesW x5, numH x3, -1⟩ rfl
          have hzz := hz.set7 ⟨numH x0, numH x1, idxW opsW x2, [], idxW codesW x5, numH x3, -1⟩ none 0
          have hBB := hSx.1.1
          refine hK.out _ _ hSx (fun hHeld => ?_)
          clear hK K
          try simp only [Act.put, List.setIfInBounds_toArray, List.set_cons_zero, List.set_cons_succ]
          refine wpAnyH_done (by kernel_rfl) ?_ _
          exact ⟨rfl, nb, rfl, hsz, hzz, hBB⟩
    · refine AllReadyH.cons (o := ?_) ?_ (fun K hK => ?_) AllReadyH.nil
      rotate_left
      · (simp only [List.getElem?_toArray, List.getElem?_cons_succ, List.getElem?_cons_zero]; rfl)
      · go_simp
        have hnew := ClBox.new (wd) cl0 none 0
        have hsz := hHeld.1.size
        have hSx := HdSt.alloc (w2 := w4) (n := n + 1) (x0 := ⟨x0.toArray⟩) (x1 := ⟨x1.toArray⟩) (x2 := ⟨x2.toArray⟩) (x3 := ⟨x3.toArray⟩) (x5 := ⟨x5.toArray⟩) hHeld (.cells #[.int .i64 0, .int .i64 0, .int .i64 0, .slice none 0 0, .int .i64 0, .int .i64 0, .int .i64 0] 45)
        refine hK.out _ _ hSx (fun hHeld => ?_)
        clear hK K
        try simp only [Act.put, List.setIfInBounds_toArray, List.set_cons_zero, List.set_cons_succ]
        obtain ⟨wa, hwa⟩ : ∃ x, (wd).alloc (.cells #[.int .i64 0, .int .i64 0, .int .i64 0, .slice none 0 0, .int .i64 0, .int .i64 0, .int .i64 0] 45) = x := ⟨_, rfl⟩
        obtain ⟨nb, hnb⟩ : ∃ x, (wd).heap.size = x := ⟨_, rfl⟩
        have hnew2 : ClBox wa nb cl0 none 0 := by rw [← hwa, ← hnb]; exact hnew
        rw [hwa] at hHeld ⊢
        rw [hnb] at hsz ⊢
        clear hwa hnb hnew
        have hS2 : HdSt2 w4 (n + 1) ⟨x0.toArray⟩ ⟨x1.toArray⟩ ⟨x2.toArray⟩ ⟨x3.toArray⟩ ⟨x5.toArray⟩ nb wa := ⟨hHeld, _, hnew2⟩
        clear hnew2 hHeld
        refine wpAnyH_strong (S' := fun w' => (Below w4.heap.size w4 w' ∧ w'.cell? ⟨n + 1, 0, none⟩ = some (.string ⟨x0.toArray⟩) ∧ w'.cell? ⟨n + 1, 1, none⟩ = some (.string ⟨x1.toArray⟩) ∧ w'.cell? ⟨n + 1, 2, none⟩ = some (.string ⟨x2.toArray⟩) ∧ w'.cell? ⟨n + 1, 3, none⟩ = some (.string ⟨x3.toArray⟩) ∧ w'.cell? ⟨n + 1, 5, none⟩ = some (.string ⟨x5.toArray⟩)) ∧ ∃ x, ClBox w' nb x none 0) (fun w h => h.1) _ _ _ _ ?_
        have hHeld := hS2
        refine wpAnyH_ready (rs := [3]) (by kernel_rfl) (by simp) ?_
        refine AllReadyH.cons (o := ?_) ?_ (fun K hK => ?_) AllReadyH.nil
        rotate_left
        · (simp only [List.getElem?_toArray, List.getElem?_cons_succ, List.getElem?_cons_zero]; rfl)
        go_simp
        go_at_call 66
        refine (hnumA _ _ (by assumption)).mono ?_
        rintro e wx ⟨rfl, hbx⟩
        have hSx := HdSt2.below (w2 := w4) (n := n + 1) (x0 := ⟨x0.toArray⟩) (x1 := ⟨x1.toArray⟩) (x2 := ⟨x2.toArray⟩) (x3 := ⟨x3.toArray⟩) (x5 := ⟨x5.toArray⟩) (nb := nb) hHeld hbx
        refine hK.out _ _ hSx (fun hHeld => ?_)
        clear hK K
        try simp only [Act.put, List.setIfInBounds_toArray, List.set_cons_zero, List.set_cons_succ]
        refine wpAnyH_ready (rs := [7]) (by kernel_rfl) (by simp) ?_
        refine AllReadyH.cons (o := ?_) ?_ (fun K hK => ?_) AllReadyH.nil
        rotate_left
        · (simp only [List.getElem?_toArray, List.getElem?_cons_succ, List.getElem?_cons_zero]; rfl)
        go_simp
        go_at_call 66
        refine (hnumA _ _ (by assumption)).mono ?_
        rintro e wx ⟨rfl, hbx⟩
        have hSx := HdSt2.below (w2 := w4) (n := n + 1) (x0 := ⟨x0.toArray⟩) (x1 := ⟨x1.toArray⟩) (x2 := ⟨x2.toArray⟩) (x3 := ⟨x3.toArray⟩) (x5 := ⟨x5.toArray⟩) (nb := nb) hHeld hbx
        refine hK.out _ _ hSx (fun hHeld => ?_)
        clear hK K
        try simp only [Act.put, List.setIfInBounds_toArray, List.set_cons_zero, List.set_cons_succ]
        refine wpAnyH_ready (rs := [12]) (by kernel_rfl) (by simp) ?_
        refine AllReadyH.cons (o := ?_) ?_ (fun K hK => ?_) AllReadyH.nil
        rotate_left
        · (simp only [List.getElem?_toArray, List.getElem?_cons_succ, List.getElem?_cons_zero]; rfl)
        go_simp
        go_at_call 67
        refine (hops_index (bo) _ _ (HdSt.lits (w2 := w4) (n := n + 1) (x0 := ⟨x0.toArray⟩) (x1 := ⟨x1.toArray⟩) (x2 := ⟨x2.toArray⟩) (x3 := ⟨x3.toArray⟩) (x5 := ⟨x5.toArray⟩) hHeld.1 HWO.out)).mono ?_
        rintro e wx ⟨rfl, rfl⟩
        have hSx := hHeld
        refine hK.out _ _ hSx (fun hHeld => ?_)
        clear hK K
        try simp only [Act.put, List.setIfInBounds_toArray, List.set_cons_zero, List.set_cons_succ]
        refine wpAnyH_ready (rs := [16]) (by kernel_rfl) (by simp) ?_
        refine AllReadyH.cons (o := ?_) ?_ (fun K hK => ?_) AllReadyH.nil
        rotate_left
        · (simp only [List.getElem?_toArray, List.getElem?_cons_succ, List.getElem?_cons_zero]; rfl)
        go_simp
        go_at_call 66
        refine (hnumA _ _ (by assumption)).mono ?_
        rintro e wx ⟨rfl, hbx⟩
        have hSx := HdSt2.below (w2 := w4) (n := n + 1) (x0 := ⟨x0.toArray⟩) (x1 := ⟨x1.toArray⟩) (x2 := ⟨x2.toArray⟩) (x3 := ⟨x3.toArray⟩) (x5 := ⟨x5.toArray⟩) (nb := nb) hHeld hbx
        refine hK.out _ _ hSx (fun hHeld => ?_)
        clear hK K
        try simp only [Act.put, List.setIfInBounds_toArray, List.set_cons_zero, List.set_cons_succ]
        refine wpAnyH_ready (rs := [21]) (by kernel_rfl) (by simp) ?_
        refine AllReadyH.cons (o := ?_) ?_ (fun K hK => ?_) AllReadyH.nil
        rotate_left
        · (simp only [List.getElem?_toArray, List.getElem?_cons_succ, List.getElem?_cons_zero]; rfl)
        go_simp
        go_at_call 67
        refine (hcodes_index (bo + 1) _ _ (HdSt.lits (w2 := w4) (n := n + 1) (x0 := ⟨x0.toArray⟩) (x1 := ⟨x1.toArray⟩) (x2 := ⟨x2.toArray⟩) (x3 := ⟨x3.toArray⟩) (x5 := ⟨x5.toArray⟩) hHeld.1 HWC.out)).mono ?_
        rintro e wx ⟨rfl, rfl⟩
        have hSx := hHeld
        refine hK.out _ _ hSx (fun hHeld => ?_)
        clear hK K
        try simp only [Act.put, List.setIfInBounds_toArray, List.set_cons_zero, List.set_cons_succ]
        refine wpAnyH_take (i := 22) (oi := ?_) (v := ?_) ?_ (by kernel_rfl) (by kernel_rfl) (by kernel_rfl) ?_ (Or.inl ⟨?_, ?_⟩) (by assumption) ?_
        rotate_left 2
        · (simp only [List.getElem?_toArray, List.getElem?_cons_succ, List.getElem?_cons_zero]; rfl)
        · first | exact fun _ _ _ h => h | exact fun _ _ _ h => by cases h.1
        · rfl
        · ((intro wq hSq; (try dsimp only at hSq); go_simp); (try with_reducible rfl))
        try simp only [Act.put, List.setIfInBounds_toArray, List.set_cons_zero, List.set_cons_succ]
        obtain ⟨ee, hz⟩ := hHeld.2
        obtain ⟨b0, b1, b2, b3, b4, b5, b6⟩ := hz.cells
        have f0 := hz.frozen 0
        have f1 := hz.frozen 1
        have f2 := hz.frozen 2
        have f3 := hz.frozen 3
        have f4 := hz.frozen 4
        have f5 := hz.frozen 5
        have f6 := hz.frozen 6
        refine wpAnyH_ready (rs := [24]) (by kernel_rfl) (by simp) ?_
        refine AllReadyH.cons (o := ?_) ?_ (fun K hK => ?_) AllReadyH.nil
        rotate_left
        · (simp only [List.getElem?_toArray, List.getElem?_cons_succ, List.getElem?_cons_zero]; rfl)
        go_simp
        have hSx := HdSt2.set (w2 := w4) (n := n + 1) (x0 := ⟨x0.toArray⟩) (x1 := ⟨x1.toArray⟩) (x2 := ⟨x2.toArray⟩) (x3 := ⟨x3.toArray⟩) (x5 := ⟨x5.toArray⟩) (nb := nb) hHeld hsz hz hn4 ⟨numH x0, numH x1, idxW opsW x2, [], idxW codesW x5, numH x3, -1⟩ rfl
        have hzz := hz.set7 ⟨numH x0, numH x1, idxW opsW x2, [], idxW codesW x5, numH x3, -1⟩ none 0
        have hBB := hSx.1.1
        refine hK.out _ _ hSx (fun hHeld => ?_)
        clear hK K
        try simp only [Act.put, List.setIfInBounds_toArray, List.set_cons_zero, List.set_cons_succ]
        refine wpAnyH_done (by kernel_rfl) ?_ _
        exact ⟨rfl, nb, rfl, hsz, hzz, hBB⟩
  rintro nb w5 ⟨hnb, hz, hb5⟩
  dsimp only
  clear hSd
  have h24 := (hb5.cell (p := ⟨n + 1, 4, none⟩) (cell_lt q4)).trans q4
  have hbox5 := hbox4.below hb5 (by have := hbox4.lt; exact this)
  have hTM5 : Tab w5 := hTM4.below hb5
  have hB5 := hB4.trans (hb5.mono (by have := hB4.size; rw [hn] at this; exact this))
  have hnz : n + 1 < nb := by omega
  have hN5 : n < w5.heap.size := by have := hbox5.lt; omega
  clear hb5 hB4 hTM4 hbox4 q0 q1 q2 q3 q4 q5 hnb hn4
  have hznb := hz.lt
  by_cases h45 : x4 = [45]
  · have ht : (x4 == [45]) = true := by rw [h45]; rfl
    have h45' := Lib.hid h45
    clear h45
    obtain ⟨c0, c1, c2, c3, c4, c5, c6⟩ := hz.cells
    simp only [List.length_nil] at c0 c1 c2 c3 c4 c5 c6
    go_wp2_with fail
    clear c0 c1 c2 c3 c4 c5 c6
    obtain ⟨w6, hw6⟩ : ∃ x, w5 = x := ⟨_, rfl⟩
    rw [hw6] at hz hbox5 hB5 hTM5 ⊢
    have hz6 := hz
    have hbox6 := hbox5
    have hB6 := hB5
    have hT6 := hTM5
    clear hz hbox5 hB5 hTM5 hw6
    rcases hok : clB ⟨numH x0, numH x1, idxW opsW x2, [], idxW codesW x5, numH x3, -1⟩ with _ | _
    · have hln := hline_no ⟨numH x0, numH x1, idxW opsW x2, [], idxW codesW x5, numH x3, -1⟩ none 0 w6 hok
      unfold clV at hln
      simp only [List.length_nil] at hln
      have hnn := Lib.hid (hno'.out (fun h => by rw [if_pos h45'.out] at h; rw [hok] at h; cases h.1))
      have hln' := Lib.hid hln
      clear hln hok
      refine hln'.out.mono ?_
      rintro e w7 ⟨rfl, hb7⟩
      have hbox7 := hbox6.kept hb7
      have hz7 := hz6.kept hb7
      have hB7 := hB6.trans (hb7.mono (by have := hB6.size; rw [hn] at this; exact this))
      obtain ⟨c0, c1, c2, c3, c4, c5, c6⟩ := hz7.cells
      obtain ⟨d0, d1, d2, d3, d4, d5, d6⟩ := hbox7.cells
      have df0 := hbox7.frozen 0
      have df1 := hbox7.frozen 1
      have df2 := hbox7.frozen 2
      have df3 := hbox7.frozen 3
      have df4 := hbox7.frozen 4
      have df5 := hbox7.frozen 5
      have df6 := hbox7.frozen 6
      simp only [List.length_nil] at c0 c1 c2 c3 c4 c5 c6
      go_wp2_with fail
      refine bodyPost_ret (res_hread _ _ rfl rfl (hbox7.set7 cl0 none 0)) rfl ?_
      exact ⟨⟨none, 0, by rw [hnn.out.1, hnn.out.2], by rw [hnn.out.1]; exact WsF.nil _ _ _ (fun b o e => by cases e)⟩, by rw [hn]; exact below_set7 hB7 n (Nat.le_refl _) _ _ _ _ _ _ _⟩
    · have hln := hline_yes ⟨numH x0, numH x1, idxW opsW x2, [], idxW codesW x5, numH x3, -1⟩ none 0 w6 hok ((WsF.nil w6 0 none (fun b o e => by cases e)).1) hT6
      unfold clV at hln
      simp only [List.length_nil] at hln
      obtain ⟨LS, hLS⟩ : ∃ x, lineHS ⟨numH x0, numH x1, idxW opsW x2, [], idxW codesW x5, numH x3, -1⟩ = x := ⟨_, rfl⟩
      by_cases hls : lineH ⟨numH x0, numH x1, idxW opsW x2, [], idxW codesW x5, numH x3, -1⟩ = l
      · have hst : (LS.toList == s.toList) = true := by rw [← hLS, ByteArray.toList_eq, ByteArray.toList_eq, hl'.out]; simp [lineHS, hls]
        rw [hLS] at hln
        have hyy := Lib.hid (hyes'.out (by rw [if_pos h45'.out]; exact ⟨hok, hls⟩))
        rw [if_pos h45'.out] at hyy
        have hln' := Lib.hid hln
        clear hln hok hls hLS
        refine hln'.out.mono ?_
        rintro e w7 ⟨rfl, hb7⟩
        have hbox7 := hbox6.kept hb7
        have hz7 := hz6.kept hb7
        have hB7 := hB6.trans (hb7.mono (by have := hB6.size; rw [hn] at this; exact this))
        obtain ⟨c0, c1, c2, c3, c4, c5, c6⟩ := hz7.cells
        obtain ⟨d0, d1, d2, d3, d4, d5, d6⟩ := hbox7.cells
        have df0 := hbox7.frozen 0
        have df1 := hbox7.frozen 1
        have df2 := hbox7.frozen 2
        have df3 := hbox7.frozen 3
        have df4 := hbox7.frozen 4
        have df5 := hbox7.frozen 5
        have df6 := hbox7.frozen 6
        simp only [List.length_nil] at c0 c1 c2 c3 c4 c5 c6
        go_wp2_with fail
        refine bodyPost_ret (res_hread _ _ rfl rfl (hbox7.set7 ⟨numH x0, numH x1, idxW opsW x2, [], idxW codesW x5, numH x3, -1⟩ none 0)) rfl ?_
        exact ⟨⟨none, 0, by rw [hyy.out.1, hyy.out.2], by rw [hyy.out.1]; exact WsF.nil _ _ _ (fun b o e => by cases e)⟩, by rw [hn]; exact below_set7 hB7 n (Nat.le_refl _) _ _ _ _ _ _ _⟩
      · have hst : (LS.toList == s.toList) = false := by
          rw [beq_eq_false_iff_ne, ← hLS, ByteArray.toList_eq, ByteArray.toList_eq, hl'.out]
          simpa [lineHS] using hls
        rw [hLS] at hln
        have hnn := Lib.hid (hno'.out (fun h => by rw [if_pos h45'.out] at h; exact hls h.2))
        have hln' := Lib.hid hln
        clear hln hok
        refine hln'.out.mono ?_
        rintro e w7 ⟨rfl, hb7⟩
        have hbox7 := hbox6.kept hb7
        have hz7 := hz6.kept hb7
        have hB7 := hB6.trans (hb7.mono (by have := hB6.size; rw [hn] at this; exact this))
        obtain ⟨c0, c1, c2, c3, c4, c5, c6⟩ := hz7.cells
        obtain ⟨d0, d1, d2, d3, d4, d5, d6⟩ := hbox7.cells
        have df0 := hbox7.frozen 0
        have df1 := hbox7.frozen 1
        have df2 := hbox7.frozen 2
        have df3 := hbox7.frozen 3
        have df4 := hbox7.frozen 4
        have df5 := hbox7.frozen 5
        have df6 := hbox7.frozen 6
        simp only [List.length_nil] at c0 c1 c2 c3 c4 c5 c6
        go_wp2_with fail
        refine bodyPost_ret (res_hread _ _ rfl rfl (hbox7.set7 cl0 none 0)) rfl ?_
        exact ⟨⟨none, 0, by rw [hnn.out.1, hnn.out.2], by rw [hnn.out.1]; exact WsF.nil _ _ _ (fun b o e => by cases e)⟩, by rw [hn]; exact below_set7 hB7 n (Nat.le_refl _) _ _ _ _ _ _ _⟩
  · have ht : (x4 == [45]) = false := by rw [beq_eq_false_iff_ne]; exact h45
    have h45' := Lib.hid h45
    clear h45
    go_wp2_with fail
    refine (hnumA x4 _ y4).mono ?_
    rintro e w6 ⟨rfl, hb6⟩
    have hz1 := hz.kept hb6
    have cf1 := hz1.frozen 6
    obtain ⟨c0, c1, c2, c3, c4, c5, c6⟩ := hz1.cells
    simp only [List.length_nil] at c0 c1 c2 c3 c4 c5 c6
    clear hz
    have hbox1 := hbox5.kept hb6
    have hB1 := hB5.trans (hb6.mono (by have := hB5.size; rw [hn] at this; exact this))
    have hsz1 := hb6.size
    have hz6 := hz1.setE (numH x4)
    have hbox6 := hbox1.other nb 6 (.int .i64 (numH x4)) (by omega)
    have hB6 := below_set1 hB1 nb 6 (by omega) (.int .i64 (numH x4))
    have hT6 : Tab (w6.setCell ⟨nb, 6, none⟩ (.int .i64 (numH x4))) := hT0.out.below (by rw [hn]; exact hB6)
    have hs6 : nb < (w6.setCell ⟨nb, 6, none⟩ (.int .i64 (numH x4))).heap.size := by rw [size_set]; omega
    clear hb6 hz1 hbox5 hbox1 hB5 hB1 hTM5 hsz1 hznb h24 hN5
    go_wp2_with fail
    clear c0 c1 c2 c3 c4 c5 c6 cf1
    revert hz6 hbox6 hB6 hT6 hs6
    generalize w6.setCell ⟨nb, 6, none⟩ (.int .i64 (numH x4)) = w5
    intro hz hbox5 hB5 hTM5 hznb
    obtain ⟨w6, hw6⟩ : ∃ x, w5 = x := ⟨_, rfl⟩
    rw [hw6] at hz hbox5 hB5 hTM5 ⊢
    have hz6 := hz
    have hbox6 := hbox5
    have hB6 := hB5
    have hT6 := hTM5
    clear hz hbox5 hB5 hTM5 hw6
    rcases hok : clB ⟨numH x0, numH x1, idxW opsW x2, [], idxW codesW x5, numH x3, numH x4⟩ with _ | _
    · have hln := hline_no ⟨numH x0, numH x1, idxW opsW x2, [], idxW codesW x5, numH x3, numH x4⟩ none 0 w6 hok
      unfold clV at hln
      simp only [List.length_nil] at hln
      have hnn := Lib.hid (hno'.out (fun h => by rw [if_neg h45'.out] at h; rw [hok] at h; cases h.1))
      have hln' := Lib.hid hln
      clear hln hok
      refine hln'.out.mono ?_
      rintro e w7 ⟨rfl, hb7⟩
      have hbox7 := hbox6.kept hb7
      have hz7 := hz6.kept hb7
      have hB7 := hB6.trans (hb7.mono (by have := hB6.size; rw [hn] at this; exact this))
      obtain ⟨c0, c1, c2, c3, c4, c5, c6⟩ := hz7.cells
      obtain ⟨d0, d1, d2, d3, d4, d5, d6⟩ := hbox7.cells
      have df0 := hbox7.frozen 0
      have df1 := hbox7.frozen 1
      have df2 := hbox7.frozen 2
      have df3 := hbox7.frozen 3
      have df4 := hbox7.frozen 4
      have df5 := hbox7.frozen 5
      have df6 := hbox7.frozen 6
      simp only [List.length_nil] at c0 c1 c2 c3 c4 c5 c6
      go_wp2_with fail
      refine bodyPost_ret (res_hread _ _ rfl rfl (hbox7.set7 cl0 none 0)) rfl ?_
      exact ⟨⟨none, 0, by rw [hnn.out.1, hnn.out.2], by rw [hnn.out.1]; exact WsF.nil _ _ _ (fun b o e => by cases e)⟩, by rw [hn]; exact below_set7 hB7 n (Nat.le_refl _) _ _ _ _ _ _ _⟩
    · have hln := hline_yes ⟨numH x0, numH x1, idxW opsW x2, [], idxW codesW x5, numH x3, numH x4⟩ none 0 w6 hok ((WsF.nil w6 0 none (fun b o e => by cases e)).1) hT6
      unfold clV at hln
      simp only [List.length_nil] at hln
      obtain ⟨LS, hLS⟩ : ∃ x, lineHS ⟨numH x0, numH x1, idxW opsW x2, [], idxW codesW x5, numH x3, numH x4⟩ = x := ⟨_, rfl⟩
      by_cases hls : lineH ⟨numH x0, numH x1, idxW opsW x2, [], idxW codesW x5, numH x3, numH x4⟩ = l
      · have hst : (LS.toList == s.toList) = true := by rw [← hLS, ByteArray.toList_eq, ByteArray.toList_eq, hl'.out]; simp [lineHS, hls]
        rw [hLS] at hln
        have hyy := Lib.hid (hyes'.out (by rw [if_neg h45'.out]; exact ⟨hok, hls⟩))
        rw [if_neg h45'.out] at hyy
        have hln' := Lib.hid hln
        clear hln hok hls hLS
        refine hln'.out.mono ?_
        rintro e w7 ⟨rfl, hb7⟩
        have hbox7 := hbox6.kept hb7
        have hz7 := hz6.kept hb7
        have hB7 := hB6.trans (hb7.mono (by have := hB6.size; rw [hn] at this; exact this))
        obtain ⟨c0, c1, c2, c3, c4, c5, c6⟩ := hz7.cells
        obtain ⟨d0, d1, d2, d3, d4, d5, d6⟩ := hbox7.cells
        have df0 := hbox7.frozen 0
        have df1 := hbox7.frozen 1
        have df2 := hbox7.frozen 2
        have df3 := hbox7.frozen 3
        have df4 := hbox7.frozen 4
        have df5 := hbox7.frozen 5
        have df6 := hbox7.frozen 6
        simp only [List.length_nil] at c0 c1 c2 c3 c4 c5 c6
        go_wp2_with fail
        refine bodyPost_ret (res_hread _ _ rfl rfl (hbox7.set7 ⟨numH x0, numH x1, idxW opsW x2, [], idxW codesW x5, numH x3, numH x4⟩ none 0)) rfl ?_
        exact ⟨⟨none, 0, by rw [hyy.out.1, hyy.out.2], by rw [hyy.out.1]; exact WsF.nil _ _ _ (fun b o e => by cases e)⟩, by rw [hn]; exact below_set7 hB7 n (Nat.le_refl _) _ _ _ _ _ _ _⟩
      · have hst : (LS.toList == s.toList) = false := by
          rw [beq_eq_false_iff_ne, ← hLS, ByteArray.toList_eq, ByteArray.toList_eq, hl'.out]
          simpa [lineHS] using hls
        rw [hLS] at hln
        have hnn := Lib.hid (hno'.out (fun h => by rw [if_neg h45'.out] at h; exact hls h.2))
        have hln' := Lib.hid hln
        clear hln hok
        refine hln'.out.mono ?_
        rintro e w7 ⟨rfl, hb7⟩
        have hbox7 := hbox6.kept hb7
        have hz7 := hz6.kept hb7
        have hB7 := hB6.trans (hb7.mono (by have := hB6.size; rw [hn] at this; exact this))
        obtain ⟨c0, c1, c2, c3, c4, c5, c6⟩ := hz7.cells
        obtain ⟨d0, d1, d2, d3, d4, d5, d6⟩ := hbox7.cells
        have df0 := hbox7.frozen 0
        have df1 := hbox7.frozen 1
        have df2 := hbox7.frozen 2
        have df3 := hbox7.frozen 3
        have df4 := hbox7.frozen 4
        have df5 := hbox7.frozen 5
        have df6 := hbox7.frozen 6
        simp only [List.length_nil] at c0 c1 c2 c3 c4 c5 c6
        go_wp2_with fail
        refine bodyPost_ret (res_hread _ _ rfl rfl (hbox7.set7 cl0 none 0)) rfl ?_
        exact ⟨⟨none, 0, by rw [hnn.out.1, hnn.out.2], by rw [hnn.out.1]; exact WsF.nil _ _ _ (fun b o e => by cases e)⟩, by rw [hn]; exact below_set7 hB7 n (Nat.le_refl _) _ _ _ _ _ _ _⟩

end Go.Proofs.YtkcdmonmgnmojaaDoor
