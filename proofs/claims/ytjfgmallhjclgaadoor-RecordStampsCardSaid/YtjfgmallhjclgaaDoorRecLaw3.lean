/- coxswainlaw04.RecordStamps: the walk of the law. -/
import Derived.Test.YtjfgmallhjclgaaDoorRecLaw2
import Derived.Deep.RegionHeld3
namespace Go.Proofs.YtjfgmallhjclgaaDoor
open Go.RowKit

/-! ### the plain law -/
theorem inj_of (m inv t : Int) (hm : m * inv = 1 + 4294967296 * t) {a b c : Int} (ha : 0 ≤ a) (ha2 : a < 4294967296) (hb : 0 ≤ b) (hb2 : b < 4294967296) (h : (a * m + c) % 4294967296 = (b * m + c) % 4294967296) : a = b := by
  have h1 : (4294967296 : Int) ∣ (a - b) * m := by
    have h2 := Int.sub_emod (a * m + c) (b * m + c) 4294967296
    rw [h, Int.sub_self] at h2
    have h3 : (a * m + c) - (b * m + c) = (a - b) * m := by rw [Int.sub_mul]; omega
    rw [h3] at h2
    exact Int.dvd_of_emod_eq_zero (by simpa using h2)
  obtain ⟨k, hk⟩ := h1
  have h4 : (a - b) * (m * inv) = 4294967296 * (k * inv) := by rw [← Int.mul_assoc, hk, Int.mul_assoc]
  rw [hm, Int.mul_add, Int.mul_one, Int.mul_left_comm] at h4
  generalize (a - b) * t = u at h4
  generalize k * inv = v at h4
  omega
theorem stampW_inj {a b : Int} {i : Nat} (hi : i < 8) (ha : 0 ≤ a) (ha2 : a < 4294967296) (hb : 0 ≤ b) (hb2 : b < 4294967296) (h : stampW a i = stampW b i) : a = b := by
  unfold stampW at h
  have hi' : i = 0 ∨ i = 1 ∨ i = 2 ∨ i = 3 ∨ i = 4 ∨ i = 5 ∨ i = 6 ∨ i = 7 := by omega
  rcases hi' with rfl | rfl | rfl | rfl | rfl | rfl | rfl | rfl
  · exact inj_of 1 1 0 (by decide) ha ha2 hb hb2 h
  · exact inj_of 3 2863311531 2 (by decide) ha ha2 hb hb2 h
  · exact inj_of 5 3435973837 4 (by decide) ha ha2 hb hb2 h
  · exact inj_of 7 3067833783 5 (by decide) ha ha2 hb hb2 h
  · exact inj_of 9 954437177 2 (by decide) ha ha2 hb hb2 h
  · exact inj_of 11 3123612579 8 (by decide) ha ha2 hb hb2 h
  · exact inj_of 13 3303820997 10 (by decide) ha ha2 hb hb2 h
  · exact inj_of 15 4008636143 14 (by decide) ha ha2 hb hb2 h
theorem stampL_get (k : Int) {n i : Nat} (hi : i < n) : (stampL k n)[i]? = some (stampW k i) := by simp [stampL, hi]
theorem stampL_head (k : Int) {n : Nat} (hk : 0 ≤ k) (hk2 : k < 4294967296) (hn : 0 < n) : (stampL k n)[0]? = some k := by rw [stampL_get k hn, stampW_zero k hk hk2]

/-- What is mixed of two. -/
def mixS (a b : Int) (n i : Nat) : List Int := (stampL a n).take i ++ (stampL b n).drop i
theorem mixS_len {a b : Int} {n i : Nat} (hi : i ≤ n) : (mixS a b n i).length = n := by simp [mixS, stampL_len]; omega
theorem mixS_out {a b : Int} {n i : Nat} (hi0 : 0 < i) (hi : i < n) (hn : n ≤ 8) (ha : 0 ≤ a) (ha2 : a < 4294967296) (hb : 0 ≤ b) (hb2 : b < 4294967296) (hab : a ≠ b) : unstB (mixS a b n i) = false := by
  have hl := mixS_len (a := a) (b := b) (show i ≤ n by omega)
  have h0 : (mixS a b n i)[0]? = some a := by
    unfold mixS
    rw [List.getElem?_append_left (by simp [stampL_len]; omega), List.getElem?_take_of_lt hi0, stampL_head a ha ha2 (by omega)]
  have := (unst_in h0 (by omega)).1
  rw [this, decide_eq_false_iff_not, hl]
  intro h
  have h1 : (mixS a b n i)[i]? = some (stampW b i) := by
    unfold mixS
    rw [List.getElem?_append_right (by simp [stampL_len]; omega), List.length_take, stampL_len, List.getElem?_drop, Nat.min_eq_left (by omega), Nat.sub_self, Nat.add_zero, stampL_get b hi]
  rw [h, stampL_get a hi] at h1
  injection h1 with h1
  exact hab (stampW_inj (by omega) ha ha2 hb hb2 h1)
theorem mixS_head {a b : Int} {n i : Nat} (hi : i < n) (hn : n ≤ 8) : ∃ x, (mixS a b n i)[0]? = some x ∧ (unstB (mixS a b n i) = true → unstN (mixS a b n i) = x) := by
  have hl := mixS_len (a := a) (b := b) (show i ≤ n by omega)
  obtain ⟨x, hx⟩ := get_some (show 0 < (mixS a b n i).length by omega)
  obtain ⟨h1, h2⟩ := unst_in hx (by omega)
  refine ⟨x, hx, fun h => ?_⟩
  rw [h2, ← h1, h]
  rfl
theorem unst_stamp {a : Int} {n : Nat} (hn : n ≤ 8) (h0 : 0 < n) (ha : 0 ≤ a) (ha2 : a < 4294967296) : unstB (stampL a n) = true ∧ unstN (stampL a n) = a := by
  obtain ⟨h1, h2⟩ := unst_in (stampL_head a ha ha2 h0) (by rw [stampL_len]; exact hn)
  have : decide (stampL a n = stampL a (stampL a n).length) = true := by rw [stampL_len]; simp
  rw [this] at h1 h2
  exact ⟨h1, h2⟩

/-! ### the walk -/
theorem ints_all (l : List Int) : (ints .u32).all l = l.map (Value.int .u32) := of1_all _ _ l
theorem of_news {w : World} {B : Nat} {ad : Addr} {l : List Int} (h : SlOf (ints .u32) w B (some ad) l) : ∀ j u, ((ints .u32).all l)[j]? = some u → w.cell? (ad.add j) = some u := fun j u hu => by
  have hall : (ints .u32).all l = l.map (Value.int .u32) := of1_all _ _ l
  rw [hall, List.getElem?_map] at hu
  obtain ⟨z, hz, rfl⟩ := Option.map_eq_some_iff.1 hu
  obtain ⟨b, off, hA, _, hcell⟩ := h j z hz
  injection hA with hA
  subst hA
  rw [Addr.add_lit]
  have := hcell 0 (.int .u32 z) rfl
  simpa [ints, Enc.of1] using this
set_option maxRecDepth 100000 in
set_option maxHeartbeats 1000000 in
theorem law3_any (width a b : Int) (w : World) (hw1 : -9223372036854775808 ≤ width) (hw2 : width ≤ 9223372036854775807) (ha : 0 ≤ a) (ha2 : a < 4294967296) (hb : 0 ≤ b) (hb2 : b < 4294967296) (hT : Tab w) :
    Calls Tryd.prog 3 #[.int .i64 width, .int .u32 a, .int .u32 b] w fun e w' => e = .returned (.bool true) ∧ Below w.heap.size w w' := by
  obtain ⟨n, hn⟩ : ∃ n : Nat, stampLen width = n := ⟨_, rfl⟩
  have hn8 : n ≤ 8 := by unfold stampLen at hn; omega
  have hn' := Lib.hid hn
  have hla := Lib.hid (stampL_len a n)
  have hlb := Lib.hid (stampL_len b n)
  clear hn
  by_cases h0 : 0 < n
  · obtain ⟨hu1, hu2⟩ := unst_stamp hn8 h0 ha ha2
    have U1 := Lib.hid hu1
    have U2 := Lib.hid hu2
    have hu3 : decide ((0 : Int) < (n : Int)) = true := by rw [decide_eq_true_iff]; omega
    clear hu1 hu2
    go_enter Tryd.func3, Tryd.ntmps3
    go_wp2_with fail
    refine (stamp_any _ _ _ ha ha2).mono ?_
    rintro e w1 ⟨v1, rfl, ho1, hb1⟩
    rw [hn'.out] at ho1
    go_wp2_with fail
    refine (stamp_any _ _ _ hb hb2).mono ?_
    rintro e w2 ⟨v2, rfl, ho2, hbx⟩
    rw [hn'.out] at ho2
    replace ho1 := ho1.below hbx (Nat.le_refl _)
    replace ho2 : OwnW w.heap.size w2 v2 (stampL b n) := ⟨ho2.1.mono hb1.size, ho2.2⟩
    have hb12 := hb1.trans (hbx.mono hb1.size)
    clear hbx hb1
    obtain ⟨A1, c1, rfl, hc1, hs1⟩ := ho1.ws
    obtain ⟨A2, c2, rfl, hc2, hs2⟩ := ho2.ws
    rw [hla.out] at hc1 ⊢
    rw [hlb.out] at hc2 ⊢
    clear ho1 ho2
    go_wp2_with fail
    refine (rstamp_any _ _ _ ha ha2 hw1 hw2).mono ?_
    rintro e w3 ⟨v3, rfl, ho3, hbx⟩
    rw [hn'.out] at ho3
    obtain ⟨A3, c3, rfl, _, hs3⟩ := ho3.ws
    rw [hla.out]
    replace hs1 := hs1.below hbx hbx.size
    replace hs2 := hs2.below hbx hbx.size
    have hb13 := hb12.trans (hbx.mono hb12.size)
    clear hbx hb12 ho3
    go_wp2_with fail
    refine (by have := words_any A1 A3 c1 c3 (stampL a n) (stampL a n) w3 (by have := hla.out; omega) (by have := hla.out; omega) hs1 hs3; rw [hla.out, decide_eq_true (rfl : stampL a n = stampL a n)] at this; exact this : Calls _ _ _ _ _).mono ?_
    rintro e w4 ⟨rfl, hbx⟩
    replace hs1 := hs1.below hbx hbx.size
    replace hs2 := hs2.below hbx hbx.size
    have hb14 := hb13.trans (hbx.mono hb13.size)
    clear hbx hb13 hs3
    go_wp2_with fail
    refine (rstamp_any _ _ _ hb hb2 hw1 hw2).mono ?_
    rintro e w5 ⟨v5, rfl, ho5, hbx⟩
    rw [hn'.out] at ho5
    obtain ⟨A5, c5, rfl, _, hs5⟩ := ho5.ws
    rw [hlb.out]
    replace hs1 := hs1.below hbx hbx.size
    replace hs2 := hs2.below hbx hbx.size
    have hb15 := hb14.trans (hbx.mono hb14.size)
    clear hbx hb14 ho5
    go_wp2_with fail
    refine (by have := words_any A2 A5 c2 c5 (stampL b n) (stampL b n) w5 (by have := hlb.out; omega) (by have := hlb.out; omega) hs2 hs5; rw [hlb.out, decide_eq_true (rfl : stampL b n = stampL b n)] at this; exact this : Calls _ _ _ _ _).mono ?_
    rintro e w6 ⟨rfl, hbx⟩
    replace hs1 := hs1.below hbx hbx.size
    replace hs2 := hs2.below hbx hbx.size
    have hb16 := hb15.trans (hbx.mono hb15.size)
    clear hbx hb15 hs5
    go_wp2_with fail
    refine (by have := unstamp_any A1 c1 (stampL a n) w6 (by have := hla.out; omega) hs1; rw [hla.out, U1.out, U2.out] at this; exact this : Calls _ _ _ _ _).mono ?_
    rintro e w7 ⟨rfl, hbx⟩
    replace hs1 := hs1.below hbx hbx.size
    replace hs2 := hs2.below hbx hbx.size
    have hb17 := hb16.trans (hbx.mono hb16.size)
    clear hbx hb16
    go_wp2_with fail
    obtain ⟨x0, hx0⟩ := get_some (show 0 < (stampL a n).length by rw [hla.out]; exact h0)
    obtain ⟨y0, hy0⟩ := get_some (show 0 < (stampL b n).length by rw [hlb.out]; exact h0)
    obtain ⟨_, bx, ox, rfl, hbx, _⟩ := hs1.get hx0
    obtain ⟨_, by_, oy, rfl, hby, _⟩ := hs2.get hy0
    clear hx0 hy0
    go_loopw [63] (fun j wr => ∃ i : Nat, i ≤ n ∧ j = .int .i64 i ∧ Below w7.heap.size w7 wr) (fun j _ => n - (intOf j).toNat)
    case atStart => exact ⟨0, by omega, rfl, Below.refl _ _⟩
    case round =>
      obtain ⟨i, hi, rfl, hbr⟩ := hrel
      by_cases hlt : i < n
      · obtain ⟨⟨_, _, _⟩, bx', ox', ex, hbx', hcx⟩ := (hs1.below hbr hbr.size).get (stampL_get a hlt)
        obtain ⟨⟨_, _, _⟩, by', oy', ey, hby', hcy⟩ := (hs2.below hbr hbr.size).get (stampL_get b hlt)
        injection ex with ex
        injection ex with ex1 ex2
        injection ey with ey
        injection ey with ey1 ey2
        subst ex1 ex2 ey1 ey2
        have hq : ∃ q, (stampW a i == stampW b i) = q ∧ (a == b) = q := by
          refine ⟨_, rfl, ?_⟩
          by_cases hab : a = b
          · rw [hab]; simp
          · have : ¬ stampW a i = stampW b i := fun h => hab (stampW_inj (by omega) ha ha2 hb hb2 h)
            rw [beq_eq_false_iff_ne.2 hab, beq_eq_false_iff_ne.2 this]
        obtain ⟨q, hq1, hq2⟩ := hq
        have hsz := hbr.size
        have hil : (i : Int) < (n : Int) := by omega
        have hic1 : (i : Int) ≤ (c1 : Int) := by have := hc1.1; omega
        have hic2 : ¬ c2 = i := by have := hc2.1; omega
        go_wp2_with fail
        go_quiet (fail)
        go_wp2_with fail
        have hk0 : Below w7.heap.size w7 (wr.drewN nq) := drewN_below hbr nq
        have hk1 : Below w7.heap.size w7 ((wr.drewN (nq + 1)).alloc (Obj.cells #[] 22)) := (drewN_below hbr (nq + 1)).alloc (drewN_below hbr (nq + 1)).size _
        have own1 := World.ownsRow_lit (base := w7.heap.size) (e := 22) (size := 1) (wr.drewN (nq + 1)) #[] 0 (drewN_below hbr (nq + 1)).size (by simp [maxLen]) rfl
        have hs1' := hs1.1.take i
        have hs2' := hs2.1.drop (n := i) (cap := c2) (by rw [hlb.out]; omega) (by rw [hlb.out]; exact hc2.1)
        rw [if_neg hic2, show (some (⟨by_, oy, none⟩ : Addr)).map (·.add (i * (ints .u32).size)) = some ⟨by_, oy + i, none⟩ from by simp only [Option.map_some, Addr.add_lit]; simp [ints, Enc.of1]] at hs2'
        have hN1 : ∀ (W : World), Below w7.heap.size w7 W → ∀ j u, ((ints .u32).all ((stampL a n).take i))[j]? = some u → W.cell? ((⟨bx, ox, none⟩ : Addr).add j) = some u := fun W hW => of_news (hs1'.below hW hW.size)
        have hN2 : ∀ (W : World), Below w7.heap.size w7 W → ∀ j u, ((ints .u32).all ((stampL b n).drop i))[j]? = some u → W.cell? ((⟨by_, oy + i, none⟩ : Addr).add j) = some u := fun W hW => of_news (hs2'.below hW hW.size)
        have hL1 : ((ints .u32).all ((stampL a n).take i)).length = i * 1 := by rw [Enc.all_len, List.length_take, hla.out]; simp [ints, Enc.of1]; omega
        have hL2 : ((ints .u32).all ((stampL b n).drop i)).length = (n - i) * 1 := by rw [Enc.all_len, List.length_drop, hlb.out]; simp [ints, Enc.of1]
        have hN1' := Lib.hid hN1
        have hN2' := Lib.hid hN2
        have own1' := Lib.hid own1
        have hL1' := Lib.hid hL1
        have hL2' := Lib.hid hL2
        clear hN1 hN2 own1 hs1' hs2' hL1 hL2
        go_region_held3 (fun w' => Below w7.heap.size w7 w') (first | exact hk0 | exact hk1 | assumption | exact Below.drew ‹_› )
          (first
            | (refine step_app (by rfl) (.tmp 79) (.tmp 82) 23 (by rfl) u32Ty w7.heap.size own1'.out (by rfl) (hN1'.out _ hk1) (by rfl) hL1'.out ((ints .u32).all_one _) (by unfold maxLen; omega) (by omega) hk1.size ?_
               intro v1 wa hownA hbA _
               have hkA := hk1.trans hbA)
            | (refine step_app (by rfl) (.tmp 83) (.tmp 86) 23 (by rfl) u32Ty w7.heap.size (by exact hownA) (by rfl) (hN2'.out _ (by assumption)) (by rfl) hL2'.out ((ints .u32).all_one _) (by unfold maxLen; omega) (by omega) (Below.size (by assumption)) ?_
               intro v2 wb hownB hbB _
               have hkB := hkA.trans hbB))
        have hM : OwnW w7.heap.size wb v2 (mixS a b n i) := ⟨by
            have h1 : (mixS a b n i).length = 0 + i + (n - i) := by rw [mixS_len (by omega)]; omega
            have h2 : (ints .u32).all (mixS a b n i) = [] ++ (ints .u32).all ((stampL a n).take i) ++ (ints .u32).all ((stampL b n).drop i) := by
              unfold mixS
              rw [ints_all, ints_all, ints_all, List.map_append]
              rfl
            unfold Own
            rw [h1, h2]
            exact hownB, fun z hz => by
            unfold mixS at hz
            rcases List.mem_append.1 hz with hz | hz
            · exact hs1.2 z (List.mem_of_mem_take hz)
            · exact hs2.2 z (List.mem_of_mem_drop hz)⟩
        obtain ⟨A4, c4, rfl, hc4, hs4⟩ := hM.ws
        have hMl := Lib.hid (mixS_len (a := a) (b := b) (show i ≤ n by omega))
        rw [hMl.out] at hc4 ⊢
        obtain ⟨z0, hz0, hzz⟩ := mixS_head (a := a) (b := b) hlt hn8
        have hD : unstB (mixS a b n i) = false ∨ (unstB (mixS a b n i) = true ∧ unstN (mixS a b n i) = z0 ∧ (decide ((0 : Int) < (i : Int)) = false ∨ (a != b) = false)) := by
          rcases hB : unstB (mixS a b n i) with _ | _
          · exact .inl rfl
          · refine .inr ⟨rfl, hzz hB, ?_⟩
            by_cases h1 : 0 < i
            · by_cases h2 : a = b
              · exact .inr (by simp [h2])
              · rw [mixS_out h1 hlt hn8 ha ha2 hb hb2 h2] at hB
                cases hB
            · exact .inl (by rw [decide_eq_false_iff_not]; omega)
        have hz0' := Lib.hid hz0
        have hkB := hkA.trans hbB
        clear hq1 hq2 hcx hcy hbx' hby' hbx hby hbr hk0 hk1 hkA hbA hbB hownA hownB hM hzz hz0 hN1' hN2' own1' hL1' hL2'
        go_wp2_with fail
        refine (by have := unstamp_any A4 c4 (mixS a b n i) wb (by have := hMl.out; omega) hs4; rw [hMl.out] at this; exact this : Calls _ _ _ _ _).mono ?_
        rintro e wc ⟨rfl, hbx⟩
        replace hs4 := hs4.below hbx hbx.size
        have hkC := hkB.trans (hbx.mono hkB.size)
        obtain ⟨⟨_, _, _⟩, bz, oz, rfl, hbz, hcz⟩ := hs4.get hz0'.out
        rw [Nat.add_zero] at hcz
        clear hs4 hbx hkB
        rcases hD with hB | ⟨hB, hN, hi0⟩
        · rw [hB]
          clear hB
          rcases hab : (a != b) with _ | _ <;> rcases hip : decide ((0 : Int) < (i : Int)) with _ | _
          all_goals go_wp2_with fail
          all_goals first
            | exact ⟨⟨i + 1, by omega, by go_num, hkC⟩, by simp [intOf]; omega⟩
            | (go_roundw
               case rel => exact ⟨i + 1, by omega, by go_num, hkC⟩
               case measure => simp [intOf]; omega)
        · rw [hB, hN]
          clear hB hN
          rcases hi0 with hi0 | hi0
          · rcases hab : (a != b) with _ | _
            all_goals go_wp2_with fail
            all_goals first
              | (exfalso; have := of_decide_eq_false hi0; omega)
              | (exfalso; have := of_decide_eq_false hi0; simp_all; done)
              | exact ⟨⟨i + 1, by omega, by go_num, hkC⟩, by simp [intOf]; omega⟩
              | (go_roundw
                 case rel => exact ⟨i + 1, by omega, by go_num, hkC⟩
                 case measure => simp [intOf]; omega)
          · rcases hip : decide ((0 : Int) < (i : Int)) with _ | _
            all_goals go_wp2_with fail
            all_goals first
              | exact ⟨⟨i + 1, by omega, by go_num, hkC⟩, by simp [intOf]; omega⟩
              | (go_roundw
                 case rel => exact ⟨i + 1, by omega, by go_num, hkC⟩
                 case measure => simp [intOf]; omega)
      · have : i = n := by omega
        subst this
        go_wp2_with fail
        refine (awake_any _ (hT.below (hb17.trans (hbr.mono hb17.size)))).mono ?_
        rintro e w8 ⟨rfl, hbz⟩
        go_wp2_with fail
        go_ret
        exact ⟨rfl, (hb17.trans (hbr.mono hb17.size)).trans (hbz.mono (hb17.trans (hbr.mono hb17.size)).size)⟩
  · have hn0 : n = 0 := by omega
    subst hn0
    obtain ⟨hu1, hu2⟩ := unst_out (l := stampL a 0) (by rw [stampL_len]; omega)
    have U1 := Lib.hid hu1
    have U2 := Lib.hid hu2
    clear hu1 hu2 h0
    go_enter Tryd.func3, Tryd.ntmps3
    go_wp2_with fail
    refine (stamp_any _ _ _ ha ha2).mono ?_
    rintro e w1 ⟨v1, rfl, ho1, hb1⟩
    rw [hn'.out] at ho1
    go_wp2_with fail
    refine (stamp_any _ _ _ hb hb2).mono ?_
    rintro e w2 ⟨v2, rfl, ho2, hbx⟩
    rw [hn'.out] at ho2
    replace ho1 := ho1.below hbx (Nat.le_refl _)
    replace ho2 : OwnW w.heap.size w2 v2 (stampL b 0) := ⟨ho2.1.mono hb1.size, ho2.2⟩
    have hb12 := hb1.trans (hbx.mono hb1.size)
    clear hbx hb1
    obtain ⟨A1, c1, rfl, hc1, hs1⟩ := ho1.ws
    obtain ⟨A2, c2, rfl, hc2, hs2⟩ := ho2.ws
    rw [hla.out] at hc1 ⊢
    rw [hlb.out] at hc2 ⊢
    clear ho1 ho2
    go_wp2_with fail
    refine (rstamp_any _ _ _ ha ha2 hw1 hw2).mono ?_
    rintro e w3 ⟨v3, rfl, ho3, hbx⟩
    rw [hn'.out] at ho3
    obtain ⟨A3, c3, rfl, _, hs3⟩ := ho3.ws
    rw [hla.out]
    replace hs1 := hs1.below hbx hbx.size
    replace hs2 := hs2.below hbx hbx.size
    have hb13 := hb12.trans (hbx.mono hb12.size)
    clear hbx hb12 ho3
    go_wp2_with fail
    refine (by have := words_any A1 A3 c1 c3 (stampL a 0) (stampL a 0) w3 (by have := hla.out; omega) (by have := hla.out; omega) hs1 hs3; rw [hla.out, decide_eq_true (rfl : stampL a 0 = stampL a 0)] at this; exact this : Calls _ _ _ _ _).mono ?_
    rintro e w4 ⟨rfl, hbx⟩
    replace hs1 := hs1.below hbx hbx.size
    replace hs2 := hs2.below hbx hbx.size
    have hb14 := hb13.trans (hbx.mono hb13.size)
    clear hbx hb13 hs3
    go_wp2_with fail
    refine (rstamp_any _ _ _ hb hb2 hw1 hw2).mono ?_
    rintro e w5 ⟨v5, rfl, ho5, hbx⟩
    rw [hn'.out] at ho5
    obtain ⟨A5, c5, rfl, _, hs5⟩ := ho5.ws
    rw [hlb.out]
    replace hs1 := hs1.below hbx hbx.size
    replace hs2 := hs2.below hbx hbx.size
    have hb15 := hb14.trans (hbx.mono hb14.size)
    clear hbx hb14 ho5
    go_wp2_with fail
    refine (by have := words_any A2 A5 c2 c5 (stampL b 0) (stampL b 0) w5 (by have := hlb.out; omega) (by have := hlb.out; omega) hs2 hs5; rw [hlb.out, decide_eq_true (rfl : stampL b 0 = stampL b 0)] at this; exact this : Calls _ _ _ _ _).mono ?_
    rintro e w6 ⟨rfl, hbx⟩
    replace hs1 := hs1.below hbx hbx.size
    replace hs2 := hs2.below hbx hbx.size
    have hb16 := hb15.trans (hbx.mono hb15.size)
    clear hbx hb15 hs5
    go_wp2_with fail
    refine (by have := unstamp_any A1 c1 (stampL a 0) w6 (by have := hla.out; omega) hs1; rw [hla.out, U1.out, U2.out] at this; exact this : Calls _ _ _ _ _).mono ?_
    rintro e w7 ⟨rfl, hbx⟩
    replace hs1 := hs1.below hbx hbx.size
    replace hs2 := hs2.below hbx hbx.size
    have hb17 := hb16.trans (hbx.mono hb16.size)
    clear hbx hb16
    go_wp2_with fail
    refine wp_loop_rounds 1 ?_
    rw [rounds_succ]
    go_wp2_with fail
    refine (awake_any _ (hT.below hb17)).mono ?_
    rintro e w8 ⟨rfl, hbx⟩
    go_wp2_with fail
    go_ret
    exact ⟨rfl, hb17.trans (hbx.mono hb17.size)⟩

end Go.Proofs.YtjfgmallhjclgaaDoor
