/- The reference: which objects may be, with their tasks. -/
import Derived.Test.YtgjcniokgdicpaaGreatDoorShM
namespace Go.Proofs.YtgjcniokgdicpaaGreatDoor
open Go.RowKit

set_option maxRecDepth 100000 in
set_option maxHeartbeats 4000000 in
theorem rright_o (o : Ob) (ho : o.Ok) (r : List Int) (B : Nat) (w : World) (hr : o.nr = r.length) (hw : ∀ t ∈ o.wr :: r, (Lit.int .i64 t).wf = true) (hR : Is w B o.R r) (hB : B ≤ w.heap.size) :
    Calls Tryz.prog 35 #[.agg (obA o)] w fun e w' => e = .returned (.bool (decide (rightZ o r))) ∧ Below w.heap.size w w' := by
  have hs := fun W => r14Right_o o ho W
  by_cases h : anyR o
  · rw [decide_eq_true h] at hs
    obtain ⟨_, ⟨q3, q4⟩, _⟩ := any_bd h
    have hdec : decide (rightZ o r) = decide (goodT (o.wr :: r)) := by rw [decide_eq_decide]; unfold rightZ; exact ⟨fun q => q.2, fun q => ⟨h, q⟩⟩
    rw [hdec]
    obtain ⟨l, hl⟩ : ∃ l, o.wr :: r = l := ⟨_, rfl⟩
    rw [hl] at hw ⊢
    have hll : l.length = 1 + r.length := by rw [← hl]; simp; omega
    obtain ⟨x0, hx0⟩ : ∃ x, r[0]? = some x := get_some (by omega)
    obtain ⟨sb, so, hA, hsb, _⟩ := hR.get hx0
    have hc : ∀ (j : Nat) u, ((ints .i64).all r)[j]? = some u → w.cell? ((⟨sb, so, none⟩ : Addr).add j) = some u := by
      intro j u hu
      have hall : (ints .i64).all r = r.map (Value.int .i64) := of1_all _ _ r
      rw [hall, List.getElem?_map] at hu
      obtain ⟨z, hz, rfl⟩ := Option.map_eq_some_iff.1 hu
      obtain ⟨b2, o2, hA2, _, hcell⟩ := hR.get hz
      rw [hA] at hA2
      injection hA2 with hA2
      injection hA2 with e1 e2 e3
      subst e1 e2
      rw [Addr.add_lit]
      exact hcell
    have hl5 : r.length ≤ 4 := by omega
    have hlen5 : l.length ≤ 5 := by omega
    have HC := Lib.hid hc
    have HBw := Lib.hid hB
    have HL := Lib.hid hl
    have HLL := Lib.hid hll
    have HA := Lib.hid hA
    have HNR := Lib.hid hr
    have HW := Lib.hid hw
    obtain ⟨i0, hi, hz0, hz1, hz2⟩ := info_parts (P := Tryz.prog) (e := 3) (z := .int .i64 0) (size := 1) (bytes := 8) (by kernel_rfl)
    unfold obA at hs
    have HS := Lib.hid hs
    clear hs hdec h q3 q4 hl hll hx0 hA hc hr hw hR hB ho
    have hn := ObX.new w o
    have hB := (Below.refl w.heap.size w).alloc (Nat.le_refl _) (.cells (obA o) 36)
    unfold obA at *
    have HN := Lib.hid hn
    have HB := Lib.hid hB
    clear hn hB
    go_enter Tryz.func35, Tryz.ntmps35
    go_wp2_with fail
    refine (HS.out _).mono ?_
    rintro e w1 ⟨rfl, hb1⟩
    have ho1 := ObX.kept HN.out hb1
    have hB1 := HB.out.trans (hb1.mono (by have := HB.out.size; omega))
    have hs1 : w.heap.size + 1 ≤ w1.heap.size := by have := hb1.size; simp at this; omega
    have hB2 := hB1
    obtain ⟨m, hm0⟩ : ∃ m, w1.heap.size = m := ⟨_, rfl⟩
    have hsz2 : w1.heap.size = m := hm0
    rw [hm0] at hs1
    have hnew := World.ownsRow_lit (base := m) (e := 3) (size := 1) w1 #[.int .i64 o.wr] 1 (by omega) (by simp [maxLen]) rfl
    have hca : ∀ (j : Nat) u, ((ints .i64).all r)[j]? = some u → (w1.alloc (.cells #[.int .i64 o.wr] 3)).cell? ((⟨sb, so, none⟩ : Addr).add j) = some u := fun j u hu => by
      have h := HC.out j u hu
      have h2 := (hB2.cell (p := (⟨sb, so, none⟩ : Addr).add j) (by rw [add_block]; show sb < _; have := HBw.out; omega)).trans h
      rw [World.cell?_alloc_lt w1 _ _ (cell_lt h2)]
      exact h2
    have hbl := (Below.refl w1.heap.size w1).alloc (Nat.le_refl _) (.cells #[.int .i64 o.wr] 3)
    have hnb := hnew.1
    have HCA := Lib.hid hca
    have HNW := Lib.hid hnew
    have HB2 := Lib.hid hB2
    have HBL := Lib.hid hbl
    obtain ⟨d0, d1, d2, d3, d4, d5, d6, d7⟩ := ho1.cells
    have hsl : w.heap.size < w1.heap.size := by omega
    have HSZ := Lib.hid hsz2
    clear hb1 ho1 hB1 hB2 hnew hca hbl HB HN HS HC hnb hsz2
    clear hm0
    go_wp2_with (at_builtin; refine wpList_append_own_at _ rfl _ _ 34 rfl m 3 i0 (.int .i64 0) 1 8 Tryz.underlying34 hi hz0 hz1 hz2 rfl (by omega) _ 1 _ rfl HNW.out ⟨sb, so, none⟩ r.length o.cr ((ints .i64).all r) (by simp [HA.out, HNR.out, go_sem]) (by rw [Enc.all_len]; rfl) HCA.out ((ints .i64).all_one r) (by unfold maxLen; omega) (by omega) (by simp [HSZ.out]) ?_; intro v' w2 hown1 hgrow1 _ hown2; (obtain ⟨A, c, hv', hIs⟩ := is_row (l := l) (w := w2) (v := v') (base := m) (by rw [HLL.out, ← HL.out]; have hq := hown1; rw [show (ints .i64).all r = r.map (Value.int .i64) from of1_all _ _ r] at hq; exact hq); subst hv'))
    have hB3 := HB2.out.trans ((HBL.out.trans (grown_below HNW.out hgrow1 (by rw [HSZ.out]; exact Nat.le_refl _) (by simp [HSZ.out]))).mono (by omega))
    have HB3 := Lib.hid hB3
    have HI := Lib.hid hIs
    clear hB3 hown1 hgrow1 hown2 hIs HCA HNW HB2 HBL HSZ d0 d1 d2 d3 d4 d5 d6 d7
    go_wp2_with fail
    go_loopw [4, 5, 6, 18] (fun _ _ _ j wr => ∃ k : Nat, k ≤ l.length ∧ j = .int .i64 k ∧ goodT (l.take k) ∧ wr = w2) (fun _ _ _ j _ => l.length - (intOf j).toNat)
    case atStart => exact ⟨0, Nat.zero_le _, rfl, goodT_nil, rfl⟩
    case round =>
      obtain ⟨k, hk, rfl, hgood, rfl⟩ := hrel
      by_cases hlt : k < l.length
      · obtain ⟨t, ht⟩ := get_some hlt
        obtain ⟨b, off, rfl, hlb, hcz⟩ := HI.out.get ht
        have HT := Lib.hid ht
        have HG := Lib.hid hgood
        have hik : (k : Int) < (l.length : Int) := by omega
        clear ht hgood
        by_cases h0 : t < 0
        · have hf := Lib.hid (goodT_not HT.out (.inl h0))
          go_wp2_with fail
          go_ret
          exact ⟨ret_bool (by rw [decide_eq_false hf.out]), HB3.out⟩
        · by_cases h7 : 7 < t
          · have hf := Lib.hid (goodT_not HT.out (.inr (.inl h7)))
            go_wp2_with fail
            go_ret
            exact ⟨ret_bool (by rw [decide_eq_false hf.out]), HB3.out⟩
          · go_wp2_with fail
            go_loopw [6] (fun q wq => ∃ j : Nat, j ≤ k ∧ q = .int .i64 j ∧ t ∉ l.take j ∧ wq = wr) (fun q _ => k - (intOf q).toNat)
            case atStart => exact ⟨0, Nat.zero_le _, rfl, by simp, rfl⟩
            case round =>
              obtain ⟨j, hj, rfl, hno, rfl⟩ := hrel
              by_cases hjk : j < k
              · obtain ⟨u, hu⟩ := get_some (show j < l.length by omega)
                obtain ⟨b2, off2, hA2, hlb2, hcu⟩ := HI.out.get hu
                injection hA2 with hA2
                injection hA2 with e1 e2 e3
                subst e1 e2
                have hjl : (j : Int) < (l.length : Int) := by omega
                have hjl2 : j < l.length := by omega
                have HU := Lib.hid hu
                have HNO := Lib.hid hno
                clear hu hno
                by_cases hut : u = t
                · have t1 : (u == t) = true := by rw [hut]; exact beq_self_eq_true _
                  have hf := Lib.hid (goodT_not HT.out (.inr (.inr (by
                    rw [← hut]
                    exact List.mem_of_getElem? (i := j) (by rw [List.getElem?_take_of_lt hjk]; exact HU.out)))))
                  clear hut
                  go_wp2_with fail
                  go_ret
                  exact ⟨ret_bool (by rw [decide_eq_false hf.out]), HB3.out⟩
                · have t1 : (u == t) = false := by rw [beq_eq_false_iff_ne]; exact hut
                  have HUT := Lib.hid hut
                  clear hut
                  go_wp2_with fail
                  go_roundw
                  case rel => exact ⟨j + 1, by omega, by go_num, by rw [take_snoc HU.out]; simp; exact ⟨HNO.out, fun e => HUT.out e.symm⟩, by first | trivial | rfl⟩
                  case measure => simp [intOf]; omega
              · obtain rfl : j = k := by omega
                have hg2 := Lib.hid (goodT_snoc HG.out (by omega) (by omega) hno)
                clear hno
                have hjk2 : decide (j < j) = false := by simp
                go_wp2_with fail
                go_roundw
                case rel => exact ⟨j + 1, by omega, by go_num, by rw [take_snoc HT.out]; exact hg2.out, by first | trivial | rfl⟩
                case measure => simp [intOf]; omega
      · obtain rfl : k = l.length := by omega
        rw [List.take_length] at hgood
        have hf := Lib.hid hgood
        clear hgood
        have hnl : decide (l.length < l.length) = false := by simp
        go_wp2_with fail
        go_ret
        exact ⟨ret_bool (by rw [decide_eq_true hf.out]), HB3.out⟩
  · rw [decide_eq_false h] at hs
    have hdec : decide (rightZ o r) = false := decide_eq_false fun q => h q.1
    rw [hdec]
    unfold obA at hs
    have HS := Lib.hid hs
    clear hs hdec h hr hw hR hB ho
    have hn := ObX.new w o
    have hB := (Below.refl w.heap.size w).alloc (Nat.le_refl _) (.cells (obA o) 36)
    unfold obA at *
    have HB := Lib.hid hB
    clear hn hB
    go_enter Tryz.func35, Tryz.ntmps35
    go_wp2_with fail
    refine (HS.out _).mono ?_
    rintro e w1 ⟨rfl, hb1⟩
    have HB1 := Lib.hid (HB.out.trans (hb1.mono (by have := HB.out.size; omega)))
    clear hb1
    go_wp2_with fail
    go_ret
    exact ⟨rfl, HB1.out⟩

end Go.Proofs.YtgjcniokgdicpaaGreatDoor
