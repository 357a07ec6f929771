/- Which objects may be, with their tasks: object.Right, coxswainref20.Right. -/
import Derived.Test.YtgjcniokgdicpaaGreatDoorShL
import Derived.Maps.OwnOps
namespace Go.Proofs.YtgjcniokgdicpaaGreatDoor
open Go.RowKit
open Go.Maps

abbrev D0 := DataW Unit
/-- Tasks that may be. -/
def goodT (l : List Int) : Prop := (∀ t ∈ l, 0 ≤ t ∧ t ≤ 7) ∧ l.Nodup
instance (l : List Int) : Decidable (goodT l) := by unfold goodT; infer_instance
theorem goodT_nil : goodT [] := ⟨(fun t h => by cases h), List.nodup_nil⟩
theorem goodT_snoc {l : List Int} {t : Int} (h : goodT l) (h0 : 0 ≤ t) (h7 : t ≤ 7) (hn : t ∉ l) : goodT (l ++ [t]) := by
  refine ⟨fun x hx => ?_, ?_⟩
  · rcases List.mem_append.1 hx with q | q
    · exact h.1 x q
    · rw [List.mem_singleton.1 q]; exact ⟨h0, h7⟩
  · rw [List.nodup_append]
    exact ⟨h.2, by simp, fun a ha b hb e => hn (by rw [← List.mem_singleton.1 hb, ← e]; exact ha)⟩
theorem goodT_not {l : List Int} {k : Nat} {t : Int} (hk : l[k]? = some t) (h : t < 0 ∨ 7 < t ∨ t ∈ l.take k) : ¬ goodT l := by
  rintro ⟨g1, g2⟩
  have hm := g1 t (List.mem_of_getElem? hk)
  rcases h with h | h | h
  · omega
  · omega
  · have hd := take_snoc hk
    have hs : (l.take (k + 1)).Nodup := g2.sublist (List.take_sublist _ _)
    rw [hd, List.nodup_append] at hs
    exact hs.2.2 t h t (by simp) rfl
/-- Each of them was met once. -/
def Met (D : D0) (l : List Int) : Prop := ∀ q : Int, D.atKey (.int .i64 q) (.lit (.int .i64 0)) = .lit (.int .i64 (if q ∈ l then 1 else 0))
theorem Met.nil : Met (.map []) [] := fun q => by
  rw [if_neg (by simp)]
  rfl
theorem Met.put {D : D0} {l : List Int} (h : Met D l) (hD : IsMap D) (t : Int) : Met (D.put (.int .i64 t) (.lit (.int .i64 1))) (l ++ [t]) := by
  intro q
  by_cases e : q = t
  · subst e
    rw [atKey_put_same hD (show WideAt.IsKeyLit (Lit.int _ _) from True.intro)]
    simp
  · have hne : (Lit.int .i64 q) ≠ Lit.int .i64 t := fun h => e (by injection h)
    rw [atKey_put_other hne, h q]
    simp [e]

theorem lawI : Keyed Tryz.prog 3 := int_keyed Tryz.underlying3
theorem zeroI (w : World) : (zeroValue 3).run Tryz.prog w = .ok (.int .i64 0) w := by kernel_rfl
def rightZ (o : Ob) (r : List Int) : Prop := anyR o ∧ goodT (o.wr :: r)
instance (o : Ob) (r : List Int) : Decidable (rightZ o r) := by unfold rightZ; infer_instance
/-- What is laid ahead of the loop: the writer and the readers in a slice of their own. -/
theorem is_row {w : World} {v : Value} {l : List Int} {base : Nat} (h : w.ownsRow base 3 1 v l.length (l.map (Value.int .i64))) : ∃ A c, v = .slice A l.length c ∧ Is w w.heap.size A l := by
  have h2 : Own (ints .i64) 3 base w v l := by
    unfold Own
    rw [show (ints .i64).all l = l.map (Value.int .i64) from of1_all _ _ l]
    exact h
  obtain ⟨A, c, h1, _, _, h3⟩ := h2.sl
  exact ⟨A, c, h1, h3⟩

theorem Is.grown {w w' : World} {A : Option Addr} {l : List Int} {m k : Nat} {D : D0} (h : Is w w.heap.size A l) (hm : w.ownsMap Tryz.prog 3 (plainElem Tryz.prog 3) m k D) (hg : w.grownBy w' (some m)) : Is w' w'.heap.size A l := by
  obtain ⟨es, clock, hmb, _⟩ := hm
  intro j x hj
  obtain ⟨b, off, hA, hlt, hc⟩ := h j x hj
  refine ⟨b, off, hA, Nat.lt_of_lt_of_le hlt hg.size, fun i u hu => ?_⟩
  have h1 := hc i u hu
  have hne : b ≠ m := by
    intro e
    subst e
    simp [World.cell?, hmb] at h1
  exact hg.cell h1 (fun e => hne (by injection e))
set_option maxRecDepth 100000 in
set_option maxHeartbeats 4000000 in
theorem right_o (o : Ob) (ho : o.Ok) (r : List Int) (B : Nat) (w : World) (hr : o.nr = r.length) (hw : ∀ t ∈ o.wr :: r, (Lit.int .i64 t).wf = true) (hR : Is w B o.R r) (hB : B ≤ w.heap.size) :
    Calls Tryz.prog 34 #[.agg (obA o)] w fun e w' => e = .returned (.bool (decide (rightZ o r))) ∧ Below w.heap.size w w' := by
  have hs := fun W => shaped_o o ho W
  by_cases h : anyR o
  · rw [decide_eq_true h] at hs
    obtain ⟨_, ⟨q3, q4⟩, _⟩ := any_bd h
    have hdec : decide (rightZ o r) = decide (goodT (o.wr :: r)) := by rw [decide_eq_decide]; unfold rightZ; exact ⟨fun q => q.2, fun q => ⟨h, q⟩⟩
    rw [hdec]
    obtain ⟨l, hl⟩ : ∃ l, o.wr :: r = l := ⟨_, rfl⟩
    rw [hl] at hw ⊢
    have hll : l.length = 1 + r.length := by rw [← hl]; simp; omega
    obtain ⟨x0, hx0⟩ : ∃ x, r[0]? = some x := get_some (by omega)
    obtain ⟨sb, so, hA, hsb, _⟩ := hR.get hx0
    have hc : ∀ (j : Nat) u, ((ints .i64).all r)[j]? = some u → w.cell? ((⟨sb, so, none⟩ : Addr).add j) = some u := by
      intro j u hu
      have hall : (ints .i64).all r = r.map (Value.int .i64) := of1_all _ _ r
      rw [hall, List.getElem?_map] at hu
      obtain ⟨z, hz, rfl⟩ := Option.map_eq_some_iff.1 hu
      obtain ⟨b2, o2, hA2, _, hcell⟩ := hR.get hz
      rw [hA] at hA2
      injection hA2 with hA2
      injection hA2 with e1 e2 e3
      subst e1 e2
      rw [Addr.add_lit]
      exact hcell
    have hl5 : r.length ≤ 4 := by omega
    have hlen5 : l.length ≤ 5 := by omega
    have HC := Lib.hid hc
    have HBw := Lib.hid hB
    have HL := Lib.hid hl
    have HLL := Lib.hid hll
    have HA := Lib.hid hA
    have HNR := Lib.hid hr
    have HW := Lib.hid hw
    obtain ⟨i0, hi, hz0, hz1, hz2⟩ := info_parts (P := Tryz.prog) (e := 3) (z := .int .i64 0) (size := 1) (bytes := 8) (by kernel_rfl)
    unfold obA at hs
    have HS := Lib.hid hs
    clear hs hdec h q3 q4 hl hll hx0 hA hc hr hw hR hB ho
    have hn := ObX.new w o
    have hB := (Below.refl w.heap.size w).alloc (Nat.le_refl _) (.cells (obA o) 36)
    unfold obA at *
    have HN := Lib.hid hn
    have HB := Lib.hid hB
    have hmm := @run_makeMap Tryz.prog
    clear hn hB
    go_enter Tryz.func34, Tryz.ntmps34
    go_wp2_with fail
    refine (HS.out _).mono ?_
    rintro e w1 ⟨rfl, hb1⟩
    have ho1 := ObX.kept HN.out hb1
    have hB1 := HB.out.trans (hb1.mono (by have := HB.out.size; omega))
    have hs1 : w.heap.size + 1 ≤ w1.heap.size := by have := hb1.size; simp at this; omega
    have hbm := (Below.refl w1.heap.size w1).alloc (Nat.le_refl _) (.map #[] 0)
    have hom := World.ownsMap_made w1 Tryz.prog 3 (plainElem (H := Unit) Tryz.prog 3)
    have ho2 := ho1.kept hbm
    have hB2 := hB1.trans (hbm.mono (by omega))
    have hsz2 : (w1.alloc (.map #[] 0)).heap.size = w1.heap.size + 1 := by rw [World.size_alloc]
    obtain ⟨W2, hW2⟩ : ∃ W2, w1.alloc (.map #[] 0) = W2 := ⟨_, rfl⟩
    rw [hW2] at hbm hom ho2 hB2 hsz2
    obtain ⟨m, hm0⟩ : ∃ m, w1.heap.size = m := ⟨_, rfl⟩
    rw [hm0] at hom hs1 hsz2
    have hnew := World.ownsRow_lit (base := m + 1) (e := 3) (size := 1) W2 #[.int .i64 o.wr] 1 (by omega) (by simp [maxLen]) rfl
    have hca : ∀ (j : Nat) u, ((ints .i64).all r)[j]? = some u → (W2.alloc (.cells #[.int .i64 o.wr] 3)).cell? ((⟨sb, so, none⟩ : Addr).add j) = some u := fun j u hu => by
      have h := HC.out j u hu
      have h2 := (hB2.cell (p := (⟨sb, so, none⟩ : Addr).add j) (by rw [add_block]; show sb < _; have := HBw.out; omega)).trans h
      rw [World.cell?_alloc_lt W2 _ _ (cell_lt h2)]
      exact h2
    have hbl := (Below.refl W2.heap.size W2).alloc (Nat.le_refl _) (.cells #[.int .i64 o.wr] 3)
    have homa := hom.alloc (.cells #[.int .i64 o.wr] 3)
    have hnb := hnew.1
    have HOM := Lib.hid homa
    have HCA := Lib.hid hca
    have HNW := Lib.hid hnew
    have HB2 := Lib.hid hB2
    have HBL := Lib.hid hbl
    obtain ⟨d0, d1, d2, d3, d4, d5, d6, d7⟩ := ho2.cells
    have hsl : w.heap.size < W2.heap.size := by omega
    have HSZ := Lib.hid hsz2
    clear hb1 ho1 hB1 hbm hom ho2 hB2 hnew hca hbl homa HB HN HS HC hnb hsz2
    go_wp2_with (at_builtin; refine wpList_append_own_at _ rfl _ _ 34 rfl (m + 1) 3 i0 (.int .i64 0) 1 8 Tryz.underlying34 hi hz0 hz1 hz2 rfl (by omega) _ 1 _ rfl HNW.out ⟨sb, so, none⟩ r.length o.cr ((ints .i64).all r) (by simp [HA.out, HNR.out, go_sem]) (by rw [Enc.all_len]; rfl) HCA.out ((ints .i64).all_one r) (by unfold maxLen; omega) (by omega) (by simp [HSZ.out]) ?_; intro v' w2 hown1 hgrow1 _ hown2; (obtain ⟨A, c, hv', hIs⟩ := is_row (l := l) (w := w2) (v := v') (base := m + 1) (by rw [HLL.out, ← HL.out]; have hq := hown1; rw [show (ints .i64).all r = r.map (Value.int .i64) from of1_all _ _ r] at hq; exact hq); have hmap := HOM.out.kept hgrow1 (by show some m ≠ some W2.heap.size; rw [HSZ.out]; intro e; injection e; omega); subst hv'))
    have hB3 := HB2.out.trans ((HBL.out.trans (grown_below HNW.out hgrow1 (by rw [HSZ.out]; exact Nat.le_refl _) (by simp [HSZ.out]))).mono (by omega))
    have HB3 := Lib.hid hB3
    have HM := Lib.hid hmap
    have HI := Lib.hid hIs
    have hmlt := hmap.lt
    clear hB3 hown1 hgrow1 hown2 hmap hIs HOM HCA HNW HB2 HBL HSZ d0 d1 d2 d3 d4 d5 d6 d7 hmm
    go_wp2_with fail
    go_loopw [5, 17] (fun _ j wr => ∃ (k : Nat) (D : D0), k ≤ l.length ∧ j = .int .i64 k ∧ wr.ownsMap Tryz.prog 3 (plainElem Tryz.prog 3) m k D ∧ Met D (l.take k) ∧ goodT (l.take k) ∧ Is wr wr.heap.size A l ∧ Below w.heap.size w wr) (fun _ j _ => l.length - (intOf j).toNat)
    case atStart => exact ⟨0, .map [], Nat.zero_le _, rfl, HM.out, Met.nil, goodT_nil, HI.out, HB3.out⟩
    case round =>
      obtain ⟨k, D, hk, rfl, hown, hmet, hgood, his, hb⟩ := hrel
      by_cases hlt : k < l.length
      · obtain ⟨t, ht⟩ := get_some hlt
        obtain ⟨b, off, rfl, hlb, hcz⟩ := his.get ht
        have wt := HW.out t (List.mem_of_getElem? ht)
        have hkey : keyOf Tryz.prog 3 (.int .i64 t) = some (.int .i64 t) := keyOf_int_mk Tryz.underlying3 wt
        obtain ⟨c1, hrun, hat, hwc⟩ := hown.lookup_int lawI Tryz.underlying110 Tryz.underlying3 (zeroI wr) hkey
        have hc1 : c1 = if t ∈ l.take k then 1 else 0 := by
          rw [hmet t] at hat
          injection hat with h
          injection h with _ h
          exact h.symm
        have hc2 : 0 ≤ c1 := by rw [hc1]; split <;> omega
        have hc3 : c1 ≤ 1 := by rw [hc1]; split <;> omega
        have HC1 := Lib.hid hc1
        have HWT := Lib.hid wt
        have HKEY := Lib.hid hkey
        have HT := Lib.hid ht
        have HO := Lib.hid hown
        have HME := Lib.hid hmet
        have HG := Lib.hid hgood
        have HIS := Lib.hid his
        have hm1 : m < wr.heap.size := hown.lt
        have HMW := Lib.hid hm1
        clear hc1 wt hkey ht hown hmet hgood his hat hwc hm1
        by_cases h0 : t < 0
        · have hf := Lib.hid (goodT_not HT.out (.inl h0))
          go_wp2_with (at_mapUpdate; refine wpList_mapUpdate_own _ rfl _ _ _ 110 rfl 3 3 lawI Tryz.underlying110 _ m k _ rfl HO.out (by unfold maxLen; omega) _ _ _ rfl rfl HKEY.out _ [] (plainElem_int Tryz.underlying3 (WalkArith.wf_i64 (by omega))) ?_; intro w3 hown1 hgrow1; obtain ⟨c2, hrun2, hat2, _⟩ := hown1.lookup_int lawI Tryz.underlying110 Tryz.underlying3 (zeroI w3) HKEY.out; have hq2 : c2 = c1 + 1 := (by rw [atKey_put_same HO.out.isMap (show WideAt.IsKeyLit (Lit.int _ _) from True.intro)] at hat2; injection hat2 with h; injection h with _ h; exact h.symm); have hq3 : c2 ≤ c1 + 1 := (by omega); have hq4 : c1 + 1 ≤ c2 := (by omega); clear hq2 hat2)
          have hb1 : Below w.heap.size w w3 := hb.grown hgrow1 (by have := hb.size; have := HMW.out; omega) (fun j hj => by cases hj; omega)
          go_ret
          exact ⟨ret_bool (by rw [decide_eq_false hf.out]), hb1⟩
        · by_cases h7 : 7 < t
          · have h8 : 8 ≤ t := by omega
            have hf := Lib.hid (goodT_not HT.out (.inr (.inl h7)))
            go_wp2_with (at_mapUpdate; refine wpList_mapUpdate_own _ rfl _ _ _ 110 rfl 3 3 lawI Tryz.underlying110 _ m k _ rfl HO.out (by unfold maxLen; omega) _ _ _ rfl rfl HKEY.out _ [] (plainElem_int Tryz.underlying3 (WalkArith.wf_i64 (by omega))) ?_; intro w3 hown1 hgrow1; obtain ⟨c2, hrun2, hat2, _⟩ := hown1.lookup_int lawI Tryz.underlying110 Tryz.underlying3 (zeroI w3) HKEY.out; have hq2 : c2 = c1 + 1 := (by rw [atKey_put_same HO.out.isMap (show WideAt.IsKeyLit (Lit.int _ _) from True.intro)] at hat2; injection hat2 with h; injection h with _ h; exact h.symm); have hq3 : c2 ≤ c1 + 1 := (by omega); have hq4 : c1 + 1 ≤ c2 := (by omega); clear hq2 hat2)
            have hb1 : Below w.heap.size w w3 := hb.grown hgrow1 (by have := hb.size; have := HMW.out; omega) (fun j hj => by cases hj; omega)
            go_ret
            exact ⟨ret_bool (by rw [decide_eq_false hf.out]), hb1⟩
          · have h8 : ¬ 8 ≤ t := by omega
            by_cases hmem : t ∈ l.take k
            · have hf := Lib.hid (goodT_not HT.out (.inr (.inr hmem)))
              have h1 : 1 ≤ c1 := by rw [HC1.out, if_pos hmem]; omega
              clear hmem
              go_wp2_with (at_mapUpdate; refine wpList_mapUpdate_own _ rfl _ _ _ 110 rfl 3 3 lawI Tryz.underlying110 _ m k _ rfl HO.out (by unfold maxLen; omega) _ _ _ rfl rfl HKEY.out _ [] (plainElem_int Tryz.underlying3 (WalkArith.wf_i64 (by omega))) ?_; intro w3 hown1 hgrow1; obtain ⟨c2, hrun2, hat2, _⟩ := hown1.lookup_int lawI Tryz.underlying110 Tryz.underlying3 (zeroI w3) HKEY.out; have hq2 : c2 = c1 + 1 := (by rw [atKey_put_same HO.out.isMap (show WideAt.IsKeyLit (Lit.int _ _) from True.intro)] at hat2; injection hat2 with h; injection h with _ h; exact h.symm); have hq3 : c2 ≤ c1 + 1 := (by omega); have hq4 : c1 + 1 ≤ c2 := (by omega); clear hq2 hat2)
              have hb1 : Below w.heap.size w w3 := hb.grown hgrow1 (by have := hb.size; have := HMW.out; omega) (fun j hj => by cases hj; omega)
              go_ret
              exact ⟨ret_bool (by rw [decide_eq_false hf.out]), hb1⟩
            · have h1 : c1 ≤ 0 := by rw [HC1.out, if_neg hmem]; omega
              have HMEM := Lib.hid hmem
              clear hmem
              go_wp2_with (at_mapUpdate; refine wpList_mapUpdate_own _ rfl _ _ _ 110 rfl 3 3 lawI Tryz.underlying110 _ m k _ rfl HO.out (by unfold maxLen; omega) _ _ _ rfl rfl HKEY.out _ [] (plainElem_int Tryz.underlying3 (WalkArith.wf_i64 (by omega))) ?_; intro w3 hown1 hgrow1; obtain ⟨c2, hrun2, hat2, _⟩ := hown1.lookup_int lawI Tryz.underlying110 Tryz.underlying3 (zeroI w3) HKEY.out; have hq2 : c2 = c1 + 1 := (by rw [atKey_put_same HO.out.isMap (show WideAt.IsKeyLit (Lit.int _ _) from True.intro)] at hat2; injection hat2 with h; injection h with _ h; exact h.symm); have hq3 : c2 ≤ c1 + 1 := (by omega); have hq4 : c1 + 1 ≤ c2 := (by omega); clear hq2 hat2)
              have hb1 : Below w.heap.size w w3 := hb.grown hgrow1 (by have := hb.size; have := HMW.out; omega) (fun j hj => by cases hj; omega)
              go_roundw
              case rel =>
                refine ⟨k + 1, _, by omega, by go_num, hown1, ?_, ?_, HIS.out.grown HO.out hgrow1, hb1⟩
                · rw [take_snoc HT.out, show c1 + 1 = 1 by omega]
                  exact HME.out.put HO.out.isMap t
                · rw [take_snoc HT.out]
                  exact goodT_snoc HG.out (by omega) (by omega) HMEM.out
              case measure => simp [intOf]; omega
      · obtain rfl : k = l.length := by omega
        rw [List.take_length] at hgood
        have hf := Lib.hid hgood
        clear hgood hmet
        have hnl : decide (l.length < l.length) = false := by simp
        go_wp2_with fail
        go_ret
        exact ⟨ret_bool (by rw [decide_eq_true hf.out]), hb⟩
  · rw [decide_eq_false h] at hs
    have hdec : decide (rightZ o r) = false := decide_eq_false fun q => h q.1
    rw [hdec]
    unfold obA at hs
    have HS := Lib.hid hs
    clear hs hdec h hr hw hR hB ho
    have hn := ObX.new w o
    have hB := (Below.refl w.heap.size w).alloc (Nat.le_refl _) (.cells (obA o) 36)
    unfold obA at *
    have HB := Lib.hid hB
    clear hn hB
    go_enter Tryz.func34, Tryz.ntmps34
    go_wp2_with fail
    refine (HS.out _).mono ?_
    rintro e w1 ⟨rfl, hb1⟩
    have HB1 := Lib.hid (HB.out.trans (hb1.mono (by have := HB.out.size; omega)))
    clear hb1
    go_wp2_with fail
    go_ret
    exact ⟨rfl, HB1.out⟩

end Go.Proofs.YtgjcniokgdicpaaGreatDoor
