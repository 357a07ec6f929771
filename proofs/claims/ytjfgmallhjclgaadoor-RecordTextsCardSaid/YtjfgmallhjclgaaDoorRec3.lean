/- Records: a copy; a text; the chapter's examples. -/
import Derived.Test.YtjfgmallhjclgaaDoorRec2
import Derived.Test.YtjfgmallhjclgaaDoorFmtU
import Derived.Lib.ItoaLen
import Derived.Lib.AppendIntMem
namespace Go.Proofs.YtjfgmallhjclgaaDoor
open Go.RowKit

def Tab (w : World) : Prop := Lib.TabIs Tryd.prog w "internal/strconv.uint64pow10" .u64 Lib.pow10Tab
theorem Tab.below {w w' : World} (h : Tab w) (hb : Below w.heap.size w w') : Tab w' := Lib.tabBelow_of_tabIs h w' hb

/-! ### copies -/
set_option maxHeartbeats 400000 in
theorem clone_any (A : Option Addr) (c : Nat) (l : List Int) (w : World) (hn : l.length ≤ 60) (hl : Ws w w.heap.size A l) :
    Calls Tryd.prog 27 #[.slice A l.length c] w fun e w' => ∃ v, e = .returned v ∧ OwnW w.heap.size w' v l ∧ Below w.heap.size w w' := by
  obtain ⟨i0, z, hi, hz, h1, h2, h3, h4⟩ := u32Ty.hi
  cases A with
  | none =>
    have h0 : l = [] := by
      cases l with
      | nil => rfl
      | cons x l => obtain ⟨_, _, h, _⟩ := hl.1 0 x rfl; cases h
    subst h0
    refine (Tryd.slices_Clone_nil 0 c _).mono ?_
    rintro e w' ⟨rfl, rfl⟩
    exact ⟨_, rfl, ⟨Own.nil _ _, by simp⟩, Below.refl _ _⟩
  | some a =>
    have hc : ∀ (j : Nat) u, ((ints .u32).all l)[j]? = some u → w.cell? (a.add j) = some u := by
      intro j u hu
      have hall : (ints .u32).all l = l.map (Value.int .u32) := of1_all _ _ l
      rw [hall, List.getElem?_map] at hu
      obtain ⟨z, hz, rfl⟩ := Option.map_eq_some_iff.1 hu
      obtain ⟨_, b', off', hA, _, hcell⟩ := hl.get hz
      injection hA with hA
      subst hA
      rw [Addr.add_lit]
      exact hcell
    have hlw := Lib.hid hl.2
    clear hl
    have hnew := World.ownsRow_lit (base := w.heap.size) (e := 22) (size := 1) w #[] 0 (Nat.le_refl _) (by simp [maxLen]) rfl
    have hlt : ∀ (j : Nat) u, ((ints .u32).all l)[j]? = some u → (w.alloc (.cells #[] 22)).cell? (a.add j) = some u := fun j u hu => by
      have h := hc j u hu
      rw [World.cell?_alloc_lt w _ _ (cell_lt h)]
      exact h
    have hlt' := Lib.hid hlt
    have hnew' := Lib.hid hnew
    have hE := fun w => Lib.run_eql_slice_nil (P := Tryd.prog) w 23 22 (some a) l.length c 0 0 Tryd.underlying23
    clear hc hlt hnew
    go_enter Tryd.func27, Tryd.ntmps27
    go_wp2_with (first
      | (at_builtin; refine wpList_append_own_at _ rfl _ _ 23 rfl w.heap.size 22 i0 z 1 4 Tryd.underlying23 hi hz h1 h2 h3 h4 _ 0 [] rfl hnew'.out a l.length c ((ints .u32).all l) rfl (by rw [Enc.all_len]; rfl) hlt'.out ((ints .u32).all_one l) (by unfold maxLen; omega) (by omega) (by simp) ?_; intro v' w1 hown1 hgrow1 _ _)
      | go_in)
    go_ret
    refine ⟨_, rfl, ⟨by simpa [Own, ints, Enc.of1] using hown1, hlw.out⟩, ((Below.refl _ w).alloc (Nat.le_refl _) _).trans (grown_below hnew'.out hgrow1 (Nat.le_refl _) (by simp))⟩

theorem copy_any (A : Option Addr) (c : Nat) (l : List Int) (w : World) (hn : l.length ≤ 60) (hl : Ws w w.heap.size A l) :
    Calls Tryd.prog 16 #[.slice A l.length c] w fun e w' => ∃ v, e = .returned v ∧ OwnW w.heap.size w' v l ∧ Below w.heap.size w w' := by
  go_enter Tryd.func16, Tryd.ntmps16
  go_wp2_with fail
  refine (clone_any A c l _ hn hl).mono ?_
  rintro e w' ⟨v, rfl, ho, hb⟩
  go_wp2_with fail
  go_ret
  exact ⟨_, rfl, ho, hb⟩

/-! ### texts -/
def wordS (z : Int) : ByteArray := numS z.toNat
def showL (l : List Int) : List UInt8 := Lib.join (l.map fun z => Lib.decDigits z.toNat) [32]
def showS (l : List Int) : ByteArray := ⟨(showL l).toArray⟩
theorem digits_le (z : Int) (h : z < 4294967296) : (Lib.decDigits z.toNat).length ≤ 20 := by
  rw [Lib.decDigits_length]
  exact Lib.nDigits_le20 _ (by omega)
theorem lens_le {xs : List (List UInt8)} {m : Nat} (h : ∀ x ∈ xs, x.length ≤ m) : Lib.lens xs ≤ xs.length * m := by
  induction xs with
  | nil => simp [Lib.lens]
  | cons x xs ih =>
    have h1 := h x (by simp)
    have h2 := ih (fun y hy => h y (by simp [hy]))
    have : Lib.lens (x :: xs) = x.length + Lib.lens xs := by simp [Lib.lens]
    rw [this, List.length_cons, Nat.add_mul]; omega
theorem join_le {xs : List (List UInt8)} {m : Nat} (h : ∀ x ∈ xs, x.length ≤ m) : (Lib.join xs [32]).length ≤ xs.length * (m + 1) := by
  cases xs with
  | nil => simp [Lib.join]
  | cons x xs =>
    have h1 := h x (by simp)
    have h2 := lens_le (fun y hy => h y (by simp [hy]) : ∀ y ∈ xs, y.length ≤ m)
    rw [Lib.join_cons, List.length_append, Lib.joinTail_length]
    simp only [List.length_cons, List.length_nil]
    have e1 : (xs.length + 1) * (m + 1) = xs.length * m + xs.length + (m + 1) := by rw [Nat.add_mul, Nat.mul_add]; omega
    rw [e1]
    omega

theorem strTy : ElemTy Tryd.prog 50 9 1 16 := ElemTy.of (z := .string ByteArray.empty) Tryd.underlying50 (by kernel_rfl) rfl (by omega)
theorem strs_all (l : List ByteArray) : strs.all l = l.map Value.string := of1_all _ _ l

set_option maxHeartbeats 400000 in
theorem show_any (A : Option Addr) (c : Nat) (l : List Int) (w : World) (hn : l.length ≤ 60) (hl : Ws w w.heap.size A l) (hT : Tab w) :
    Calls Tryd.prog 23 #[.slice A l.length c] w fun e w' => e = .returned (.string (showS l)) ∧ Below w.heap.size w w' := by
  go_enter Tryd.func23, Tryd.ntmps23
  go_wp2_with fail
  go_loopw [3, 5, 8] (fun v _ j wr => ∃ k : Nat, k ≤ l.length ∧ j = .int .i64 k ∧ Own strs 9 w.heap.size wr v ((l.take k).map wordS) ∧ Below w.heap.size w wr) (fun _ _ j _ => l.length - (intOf j).toNat)
  case atStart => exact ⟨0, Nat.zero_le _, rfl, Own.nil _ _, Below.refl _ _⟩
  case round =>
    obtain ⟨k, hk, rfl, hown, hb⟩ := hrel
    by_cases hlt : k < l.length
    · obtain ⟨z, hz⟩ := get_some hlt
      obtain ⟨⟨_, hz0, hz1⟩, b, off, rfl, hlb, hc⟩ := (hl.below hb (Nat.le_refl _)).get hz
      have hts := Lib.hid (show (l.take (k + 1)).map wordS = (l.take k).map wordS ++ [wordS z] by rw [take_snoc hz, List.map_append]; rfl)
      have hTw := Lib.hid (hT.below hb)
      have hlen := Lib.hid (show ((l.take k).map wordS).length = k by simp; omega)
      have hbs := hb.size
      clear hz
      obtain ⟨u, rfl⟩ := Int.eq_ofNat_of_zero_le hz0
      go_wp2_with fail
      refine (fmtU_any u (by omega) _ hTw.out).mono ?_
      rintro e w1 ⟨rfl, hb1⟩
      have hown1 := hown.below hb1 (Nat.le_refl _)
      have hbs1 := hb1.size
      have hk60 : ((l.take k).map wordS).length ≤ 60 := by rw [hlen.out]; omega
      go_wp2_with (first
        | (at_builtin; refine wpList_app1 rfl _ _ 50 rfl strTy w.heap.size hown1 rfl rfl rfl rfl (by unfold maxLen; omega) (by omega) (by omega) ?_; intro v' w2 hown2 hbel2 _)
        | go_in)
      go_roundw
      case rel => exact ⟨k + 1, by omega, by go_num, by rw [hts.out]; exact Own.app hown2 (by rfl), (hb.trans (hb1.mono hbs)).trans hbel2⟩
      case measure => simp [intOf]; omega
    · have ht := take_all hlt
      rw [ht] at hown
      obtain ⟨A', c', rfl, hcl, hne, hsl⟩ := hown.sl
      have hlen := Lib.hid (show (l.map wordS).length = l.length by simp)
      have hbs := hb.size
      by_cases h0 : l.length = 0
      · have e0 := List.eq_nil_of_length_eq_zero h0
        have h0' := Lib.hid h0
        clear h0
        subst e0
        go_wp2_with fail
        refine (Tryd.strings_Join_none _ _ _ _).mono ?_
        rintro e w1 ⟨rfl, rfl⟩
        go_wp2_with fail
        go_ret
        exact ⟨rfl, hb⟩
      · obtain ⟨s0, hs0⟩ := get_some (show 0 < (l.map wordS).length by rw [hlen.out]; omega)
        obtain ⟨bk, o, rfl, hbk, _⟩ := hsl 0 s0 hs0
        have hcells : ∀ (j : Nat) x, (l.map wordS)[j]? = some x → wr.cell? ⟨bk, o + j, none⟩ = some (.string x) := by
          intro j x hx
          obtain ⟨b1, o1, e1, _, hc1⟩ := hsl j x hx
          injection e1 with e1
          injection e1 with e1 e2
          subst e1 e2
          have := hc1 0 _ rfl
          simpa [strs, Enc.of1] using this
        have hj : (l.map wordS).map (·.data.toList) = l.map fun z => Lib.decDigits z.toNat := by
          rw [List.map_map]; apply List.map_congr_left; intro z _; simp [wordS, numS]
        have hjl : (Lib.join ((l.map wordS).map (·.data.toList)) [32]).length ≤ 1260 := by
          rw [hj]
          have := join_le (xs := l.map fun z => Lib.decDigits z.toNat) (m := 20) (fun x hx => by
            obtain ⟨z, hz, rfl⟩ := List.mem_map.1 hx
            obtain ⟨i, hi⟩ := List.getElem?_of_mem hz
            exact digits_le z (hl.get hi).1.2.2)
          rw [List.length_map] at this
          omega
        have hfin := Lib.hid (show (⟨(Lib.join ((l.map wordS).map (·.data.toList)) [32]).toArray⟩ : ByteArray) = showS l by rw [hj]; rfl)
        have hcon := Tryd.strings_Join bk o c' (l.map wordS) ⟨#[32]⟩ wr hcells hbk (by rw [hlen.out]; omega) hcl.1 (Nat.le_trans hjl (by omega))
        rw [List.length_map] at hcon
        rw [show (⟨#[32]⟩ : ByteArray).data.toList = [32] from rfl, hfin.out] at hcon
        have hcon' := Lib.hid hcon
        clear hcon hjl hj hcells hs0
        go_wp2_with fail
        refine hcon'.out.mono ?_
        rintro e w1 ⟨rfl, hb1⟩
        go_wp2_with fail
        go_ret
        exact ⟨rfl, hb.trans (hb1.mono hbs)⟩

/-! ### the chapter's examples -/
theorem st22 : stampL 2 2 = [2, 7] := by decide
theorem st25 : stampL 5 2 = [5, 16] := by decide
theorem sl2 : stampLen 2 = 2 := by decide
theorem mx : mixB [[2, 7], [5, 16]] [2, 16] = true := by decide
theorem un1 : unstB [2, 7, 12] = true := by decide
theorem un2 : unstN [2, 7, 12] = 2 := by decide
theorem sh1 : showS [5, 16] = ⟨#[53, 32, 49, 54]⟩ := by decide +kernel

theorem ws_lit (w : World) (cs : Array Value) (l : List Int) (h : cs.toList = l.map (Value.int .u32)) (hw : ∀ z ∈ l, (Lit.int .u32 z).wf = true) : Ws (w.alloc (.cells cs 22)) (w.heap.size + 1) (some ⟨w.heap.size, 0, none⟩) l :=
  ⟨SlOf.new w cs _ l (by rw [h]; exact (of1_all _ _ l).symm), hw⟩

set_option maxHeartbeats 1000000 in
theorem awake_any (w : World) (hT : Tab w) : Calls Tryd.prog 11 #[] w fun e w' => e = .returned (.bool true) ∧ Below w.heap.size w w' := by
  have sl := Lib.hid sl2
  have s1 := Lib.hid st22
  have s2 := Lib.hid st25
  go_enter Tryd.func11, Tryd.ntmps11
  go_wp2_with fail
  refine (stamp_any 2 2 _ (by omega) (by omega)).mono ?_
  rintro e w1 ⟨v1, rfl, ho1, hb1⟩
  rw [sl.out, s1.out] at ho1
  obtain ⟨A1, c1, rfl, hc1, hw1⟩ := ho1.ws
  go_wp2_with fail
  refine (stamp_any 2 5 _ (by omega) (by omega)).mono ?_
  rintro e w2 ⟨v2, rfl, ho2, hb2⟩
  rw [sl.out, s2.out] at ho2
  obtain ⟨A2, c2, rfl, hc2, hw2⟩ := ho2.ws
  have hb12 := hb1.trans (hb2.mono hb1.size)
  replace hw1 := hw1.below hb2 hb2.size
  have hz2 := hb12.size
  clear ho1 ho2 hb1 hb2
  go_wp2_with fail
  obtain ⟨W3, hW3⟩ : ∃ W3, w2.alloc (.cells #[.slice A1 2 c1, .slice A2 2 c2] 23) = W3 := ⟨_, rfl⟩
  have k3 := cells_new' w2 [.slice A1 2 c1, .slice A2 2 c2] #[.slice A1 2 c1, .slice A2 2 c2] 23 rfl
  have k30 := k3 0 _ rfl
  have k31 := k3 1 _ rfl
  simp only [Addr.add_lit, Nat.zero_add] at k30 k31
  have hb3 : Below w2.heap.size w2 W3 := by rw [← hW3]; exact (Below.refl _ _).alloc (Nat.le_refl _) _
  have hz3 : W3.heap.size = w2.heap.size + 1 := by rw [← hW3]; simp
  have hmm : 2 ≤ maxLen := by simp [maxLen]
  have hR : Recs W3 W3.heap.size (some ⟨w2.heap.size, 0, none⟩) [[2, 7], [5, 16]] := by
    rw [hW3] at k30 k31
    intro k r hk
    match k, hk with
    | 0, hk =>
      cases hk
      exact ⟨_, _, A1, c1, rfl, by omega, k30, hw1.below hb3 (by omega), hc1.1, hc1.2⟩
    | 1, hk =>
      cases hk
      exact ⟨_, _, A2, c2, rfl, by omega, k31, hw2.below hb3 (by omega), hc2.1, hc2.2⟩
    | k + 2, hk => simp at hk
  rw [hW3] at k30 k31 ⊢
  have hb13 : Below w.heap.size w W3 := hb12.trans (hb3.mono hz2)
  clear k3 hW3
  have hwl : Ws (W3.alloc (.cells #[.int .u32 2, .int .u32 7, .int .u32 12] 22)) (W3.alloc (.cells #[.int .u32 2, .int .u32 7, .int .u32 12] 22)).heap.size (some ⟨w2.heap.size + 1, 0, none⟩) [2, 7, 12] := by
    have := ws_lit W3 #[.int .u32 2, .int .u32 7, .int .u32 12] [2, 7, 12] rfl (by intro z hz; simp at hz; rcases hz with rfl | rfl | rfl <;> decide)
    rw [hz3] at this
    simpa [hz3] using this
  refine (unstamp_any (some ⟨w2.heap.size + 1, 0, none⟩) 3 [2, 7, 12] _ (by decide) hwl).mono ?_
  rintro e w4 ⟨rfl, hb4⟩
  rw [un1, un2]
  have hb34 : Below W3.heap.size W3 w4 := ((Below.refl _ W3).alloc (Nat.le_refl _) _).trans (hb4.mono (by simp))
  have hz4 := hb34.size
  have l0 := (hb34.cell (p := ⟨w2.heap.size, 0, none⟩) (show w2.heap.size < W3.heap.size by omega)).trans k30
  have l1 := (hb34.cell (p := ⟨w2.heap.size, 1, none⟩) (show w2.heap.size < W3.heap.size by omega)).trans k31
  replace hR := hR.below hb34 hz4
  replace hw1 := hw1.below ((hb3.mono (Nat.le_refl _)).trans (hb34.mono (by omega))) (show w2.heap.size ≤ w4.heap.size by omega)
  replace hw2 := hw2.below (hb3.trans (hb34.mono (by omega))) (show w2.heap.size ≤ w4.heap.size by omega)
  have hb14 := hb13.trans (hb34.mono hb13.size)
  clear hb4 hb3 hb12 hb13 hb34 k30 k31 hwl
  go_wp2_with fail
  have hwl := ws_lit w4 #[.int .u32 2, .int .u32 7] [2, 7] rfl (by intro z hz; simp at hz; rcases hz with rfl | rfl <;> decide)
  have hba : Below w4.heap.size w4 (w4.alloc (.cells #[.int .u32 2, .int .u32 7] 22)) := (Below.refl _ w4).alloc (Nat.le_refl _) _
  refine (words_any A1 (some ⟨w4.heap.size, 0, none⟩) c1 2 [2, 7] [2, 7] _ (by decide) (by decide) (hw1.below hba (by simp)) (by simpa using hwl)).mono ?_
  rintro e w5 ⟨rfl, hb5⟩
  rw [show decide ([2, 7] = ([2, 7] : List Int)) = true from rfl]
  have hb45 := hba.trans (hb5.mono (by simp))
  have hz5 := hb45.size
  replace l1 := (hb45.cell (p := ⟨w2.heap.size, 1, none⟩) (show w2.heap.size < w4.heap.size by omega)).trans l1
  replace hR := hR.below hb45 hz5
  replace hw2 := hw2.below hb45 hz5
  have hb15 := hb14.trans (hb45.mono hb14.size)
  clear hb5 hba hb45 hwl hw1 l0 hb14
  go_wp2_with fail
  have hwl := ws_lit w5 #[.int .u32 2, .int .u32 16] [2, 16] rfl (by intro z hz; simp at hz; rcases hz with rfl | rfl <;> decide)
  have hba : Below w5.heap.size w5 (w5.alloc (.cells #[.int .u32 2, .int .u32 16] 22)) := (Below.refl _ w5).alloc (Nat.le_refl _) _
  refine (mixed_any (some ⟨w2.heap.size, 0, none⟩) (some ⟨w5.heap.size, 0, none⟩) 2 2 [[2, 7], [5, 16]] [2, 16] _ (by decide) (by decide) (by intro x hx; simp at hx; rcases hx with rfl | rfl <;> decide) (hR.below hba (by simp)) (by simpa using hwl)).mono ?_
  rintro e w6 ⟨rfl, hb6⟩
  rw [mx]
  have hb56 := hba.trans (hb6.mono (by simp))
  have hz6 := hb56.size
  replace l1 := (hb56.cell (p := ⟨w2.heap.size, 1, none⟩) (show w2.heap.size < w5.heap.size by omega)).trans l1
  replace hw2 := hw2.below hb56 hz6
  have hb16 := hb15.trans (hb56.mono hb15.size)
  have hT6 := hT.below hb16
  clear hb6 hba hb56 hwl hR hb15
  go_wp2_with fail
  refine (show_any A2 c2 [5, 16] _ (by decide) hw2 hT6).mono ?_
  rintro e w7 ⟨rfl, hb7⟩
  rw [sh1]
  go_wp2_with fail
  go_ret
  exact ⟨rfl, hb16.trans (hb7.mono hb16.size)⟩

end Go.Proofs.YtjfgmallhjclgaaDoor
