/- coxswainref21.Sort. -/
import Derived.Test.YtkcdmonmgnmojaaDoorRs1
namespace Go.Proofs.YtkcdmonmgnmojaaDoor
open Go.RowKit
attribute [local go_sem] Oper.semAt_some

theorem own_rows {base : Nat} {w : World} {v : Value} {L : List El} (h : Own elE 45 base w v L) : (v = .slice none 0 0 ∧ L = []) ∨ ∃ g cap, v = .slice (some ⟨g, 0, none⟩) L.length cap ∧ base ≤ g ∧ RowsG w g L ∧ L.length ≤ cap ∧ cap ≤ maxLen := by
  rcases h.2 with ⟨e, e0⟩ | ⟨g, cap, cur, e, hg, hh, h1, h2, h3, h4⟩
  · exact .inl ⟨e, List.eq_nil_of_length_eq_zero e0⟩
  · have h5 : cur.toList.take (L.length * 7) = flat L := h4
    have e1 : (flat L ++ cur.toList.drop (L.length * 7)).toArray = cur := by
      rw [← h5, List.take_append_drop]
    exact .inr ⟨g, cap, e, hg, ⟨cur.toList.drop (L.length * 7), by rw [e1]; exact hh⟩, h1, h2⟩
theorem drop_cons {M : List El} {p : Nat} {f : El} (h : M[p]? = some f) : M.drop p = f :: M.drop (p + 1) := by
  have hk := get_lt h
  rw [List.drop_eq_getElem_cons hk]
  rw [List.getElem?_eq_getElem hk] at h
  rw [Option.some.inj h]

theorem mem_drop {M : List El} {p : Nat} {e f : El} (h : M[p]? = some f) (h1 : ltE e f) (h2 : ∀ u ∈ M.drop (p + 1), ltE e u) : ∀ u ∈ M.drop p, ltE e u := fun u hu => by
  rw [drop_cons h] at hu
  rcases List.mem_cons.1 hu with rfl | hu
  · exact h1
  · exact h2 u hu
theorem newsAt_of {W3 W : World} {r a cr : Nat} {cur : Array Value} {M : List El} (hr2 : W3.heap[r]? = some (.cells cur 45 (0, 0))) (hr3 : cur.toList.take ((M.length - a) * 7) = elE.all (M.drop a)) (hW : W.heap[r]? = W3.heap[r]?) (ha : a ≤ M.length) :
    NewsAt W 7 (.slice (some ⟨r, 0, none⟩) (M.length - a) cr) (M.length - a) (elE.all (M.drop a)) := by
  refine ⟨by rw [elE.all_len, List.length_drop]; rfl, elE.all_one _, .inl ⟨_, _, rfl, fun j u hu => ?_⟩⟩
  rw [Addr.add_lit, cell_of_row _ _ _ cur _ (0, 0) (hW.trans hr2)]
  rw [← hr3] at hu
  have hlt := get_lt hu
  rw [List.length_take] at hlt
  rw [List.getElem?_take_of_lt (by omega), Array.getElem?_toList] at hu
  simpa using hu
theorem Own.tailAny {base : Nat} {w : World} {g cap a : Nat} {M : List El} (h : Own elE 45 base w (.slice (some ⟨g, 0, none⟩) M.length cap) M) (ha : a ≤ M.length) :
    NewsAt w 7 (.slice (some ⟨g, a * 7, none⟩) (M.length - a) (cap - a)) (M.length - a) (elE.all (M.drop a)) := by
  by_cases hc : cap = a
  · have hl : M.length = a := by
      rcases h.2 with ⟨e, _⟩ | ⟨_, _, _, e, _, _, h1, _⟩
      · cases e
      · injection e with _ _ e3
        omega
    have h0 : M.drop a = [] := List.drop_eq_nil_of_le (by omega)
    rw [h0]
    refine ⟨by simp [Enc.all, hl], (fun u hu => by simp [Enc.all] at hu), .inl ⟨_, _, rfl, fun j u hu => by simp [Enc.all] at hu⟩⟩
  · have := h.tailNews ha rfl
    rw [if_neg hc] at this
    have e : (some (⟨g, 0, none⟩ : Addr)).map (·.add (a * 7)) = some ⟨g, a * 7, none⟩ := by
      show some ((⟨g, 0, none⟩ : Addr).add (a * 7)) = _
      rw [Addr.add_lit, Nat.zero_add]
    rw [e] at this
    exact this
theorem Own.tailEnd {base : Nat} {w : World} {g a : Nat} {M : List El} (h : Own elE 45 base w (.slice (some ⟨g, 0, none⟩) M.length a) M) (ha : a ≤ M.length) (A' : Addr) (c' : Nat) :
    NewsAt w 7 (.slice (some A') (M.length - a) c') (M.length - a) (elE.all (M.drop a)) := by
  have hl : M.length = a := by
    rcases h.2 with ⟨e, _⟩ | ⟨_, _, _, e, _, _, h1, _⟩
    · cases e
    · injection e with _ _ e3
      omega
  have h0 : M.drop a = [] := List.drop_eq_nil_of_le (by omega)
  rw [h0]
  exact ⟨by simp [Enc.all, hl], (fun u hu => by simp [Enc.all] at hu), .inl ⟨_, _, rfl, fun j u hu => by simp [Enc.all] at hu⟩⟩
theorem Own.headRow {base : Nat} {w : World} {g n cap : Nat} {M : List El} (h : Own elE 45 base w (.slice (some ⟨g, 0, none⟩) n cap) M) {a : Nat} (ha : a ≤ M.length) : w.ownsRow base 45 7 (.slice (some ⟨g, 0, none⟩) a cap) a (elE.all (M.take a)) := by
  have h1 := h.head ha
  unfold Own at h1
  rw [show (M.take a).length = a by rw [List.length_take]; omega] at h1
  exact h1
set_option maxRecDepth 100000 in
set_option maxHeartbeats 8000000 in
theorem rsort_any (A : Option Addr) (c : Nat) (L0 : List El) (w : World) (hn : L0.length ≤ 60) (hl : ElSl w w.heap.size A L0) :
    Calls Tryd.prog 25 #[.slice A L0.length c] w fun e w' => ∃ v M, e = .returned v ∧ Own elE 45 w.heap.size w' v M ∧ M.Perm L0 ∧ Srt ltE M ∧ Below w.heap.size w w' := by
  go_enter Tryd.func25, Tryd.ntmps25
  go_wp2_with fail
  go_loopw [3, 10] (fun v j wr => ∃ (k : Nat) (M : List El), k ≤ L0.length ∧ j = .int .i64 k ∧ Own elE 45 w.heap.size wr v M ∧ M.Perm (L0.take k) ∧ Srt ltE M ∧ Below w.heap.size w wr) (fun _ j _ => L0.length - (intOf j).toNat)
  case atStart => exact ⟨0, [], Nat.zero_le _, rfl, Own.nil _ _, List.Perm.refl _, List.Pairwise.nil, Below.refl _ _⟩
  case round =>
    obtain ⟨k, M, hk, rfl, hown, hpm, hsm, hb⟩ := hrel
    by_cases hlt : k < L0.length
    · obtain ⟨e, he⟩ := get_some hlt
      obtain ⟨het, b', off, rfl, hlb, ⟨h0, h1, h2, h3, h4, h5, h6⟩, _⟩ := (hl k e he).below hb (Nat.le_refl _)
      have hMl : M.length = k := by rw [hpm.length_eq, List.length_take]; omega
      have htg : ∀ f ∈ M, f.t < e.t := fun f hf => by
        obtain ⟨i, hi⟩ := List.getElem?_of_mem (hpm.subset hf)
        have hik : i < k := by
          have := get_lt hi
          rw [List.length_take] at this; omega
        rw [List.getElem?_take_of_lt hik] at hi
        rw [hl.tag hi, het]
        exact hik
      have hpm2 : ∀ a, a ≤ M.length → (M.take a ++ [e] ++ M.drop a).Perm (L0.take (k + 1)) := fun a _ => by
        rw [take_snoc he]
        refine List.Perm.trans ?_ (hpm.append_right [e])
        simp only [List.append_assoc, List.singleton_append]
        refine List.perm_middle.trans ?_
        rw [List.take_append_drop]
        exact (List.perm_append_singleton e M).symm
      obtain ⟨W1, hW1⟩ : ∃ W1, wr.alloc (.cells #[.int .i64 e.x.p, .int .i64 e.x.o, .int .i64 e.x.q, .slice e.A e.x.r.length e.c, .int .i64 e.x.c, .int .i64 e.x.b, .int .i64 e.x.e] 45) = W1 := ⟨_, rfl⟩
      have hbx := ClBox.new wr e.x e.A e.c
      have hbw := (Below.refl _ wr).alloc (Nat.le_refl _) (.cells #[.int .i64 e.x.p, .int .i64 e.x.o, .int .i64 e.x.q, .slice e.A e.x.r.length e.c, .int .i64 e.x.c, .int .i64 e.x.b, .int .i64 e.x.e] 45)
      rw [hW1] at hbx hbw
      have hsz := hb.size
      have hbW := hb.trans (hbw.mono hsz)
      have hownW := hown.below hbw (Nat.le_refl _)
      obtain ⟨bx, hbxe⟩ : ∃ bx, wr.heap.size = bx := ⟨_, rfl⟩
      rw [hbxe] at hbx
      have HPM := Lib.hid hpm2
      have HSM := Lib.hid hsm
      have HTG := Lib.hid htg
      have HML := Lib.hid hMl
      have HBX := Lib.hid hbx
      have HBW := Lib.hid hbW
      have HOWN := Lib.hid hownW
      have HBXE := Lib.hid hbxe
      have HRG : Hid (∀ g, RowsG wr g M → RowsG W1 g M) := Lib.hid fun g hg => hg.kept hbw
      have hbase := hbW.size
      rcases own_rows hown with ⟨rfl, rfl⟩ | ⟨g, cap, rfl, hg, hrow, hcap1, hcap2⟩
      · clear hpm2 hpm hsm htg hMl hbx hbw hbW hownW hown hb hsz he
        clear HRG
        go_wp2_with fail
        go_loopw [6] (fun j wq => j = .int .i64 0 ∧ Below W1.heap.size W1 wq) (fun j _ => (intOf j).toNat)
        case atStart => exact ⟨rfl, Below.refl _ _⟩
        case round =>
          clear h0 h1 h2 h3 h4 h5 h6
          obtain ⟨rfl, hbq⟩ := hrel
          have HBQ := Lib.hid hbq
          have HUP : Hid (∀ f ∈ ([] : List El).drop 0, ltE e f) := Lib.hid (fun f hf => by cases hf)
          clear hbq
          go_wp2_with fail
          go_quiet (fail)
          have hB2 := drewN_below HBQ.out nq
          generalize wr.drewN nq = W2 at hB2 ⊢
          have HOWN2 := Lib.hid (HOWN.out.below hB2 (Nat.le_refl _))
          have hbx2 := HBX.out.kept hB2
          have hbase2 := Nat.le_trans hbase hB2.size
          skip
          have HB2 := Lib.hid (HBW.out.trans (hB2.mono hbase))
          clear hB2
          have haM : 0 ≤ ([] : List El).length := Nat.zero_le _
          have hM60 : ([] : List El).length ≤ 60 := by have := HML.out; omega
          skip
          have HLIT := Lib.hid (World.ownsRow_lit (base := W2.heap.size) (e := 45) (size := 7) W2 #[] 0 (Nat.le_refl _) (by simp [maxLen]) rfl)
          have HN1 := Lib.hid ((⟨rfl, (fun u hu => by cases hu), .inr ⟨rfl, rfl⟩⟩ : NewsAt (W2.alloc (.cells #[] 45)) 7 (.slice none 0 0) 0 []))
          go_wp2_with (first
            | (at_builtin; refine wpList_app_any rfl _ _ 41 rfl clTy W2.heap.size _ 0 [] rfl HLIT.out (([] : List El).length - 0) (elE.all (([] : List El).drop 0)) (by first | exact HN1.out | simpa using HN1.out | simpa [Enc.all] using HN1.out) (by unfold maxLen; omega) (by omega) (by simp) ?_; intro v7 W3 ho3 hg3 hn3 _)
            | fail)
          have hB3 : Below W2.heap.size W2 W3 := ((Below.refl _ W2).alloc (Nat.le_refl _) _).trans (grown_below HLIT.out hg3 (Nat.le_refl _) (by simp))
          have HOWN3 := Lib.hid (HOWN2.out.below hB3 (Nat.le_refl _))
          have hbx3 := hbx2.kept hB3
          have HB3 := Lib.hid (HB2.out.trans (hB3.mono hbase2))
          have hbase3 := Nat.le_trans hbase2 hB3.size
          obtain ⟨r, cr, cur, rfl, hr1, hr2, hr3⟩ : ∃ r cr cur, v7 = .slice (some ⟨r, 0, none⟩) (([] : List El).length - 0) cr ∧ W2.heap.size ≤ r ∧ W3.heap[r]? = some (.cells cur 45 (0, 0)) ∧ cur.toList.take ((([] : List El).length - 0) * 7) = elE.all (([] : List El).drop 0) := by
            rcases ho3.2 with ⟨e1, _⟩ | ⟨r, cr, cur, e1, q1, q2, q3, q4, q5, q6⟩
            · have := hn3.1 e1
              cases this.1
            · rw [Nat.zero_add] at e1 q6
              exact ⟨r, cr, cur, e1, q1, q2, by simpa using q6⟩
          have hrlt : r < W3.heap.size := (Array.getElem?_eq_some_iff.1 hr2).1
          have hrne : (Value.slice none 0 0).ownBlock ≠ some r := fun h => by cases h
          have HNW : Hid (∀ W : World, W.heap[r]? = W3.heap[r]? → NewsAt W 7 (.slice (some ⟨r, 0, none⟩) (([] : List El).length - 0) cr) (([] : List El).length - 0) (elE.all (([] : List El).drop 0))) := Lib.hid fun W hW => newsAt_of hr2 hr3 hW haM
          clear ho3 hg3 hn3 hB3 hr2 hr3 HLIT HN1 HOWN2 hbx2 HB2
          go_wp2_with fail
          have hSd : (fun _ : World => True) W3.drew := trivial
          refine wp_region_held_drew (S := fun _ => True) (by kernel_rfl) hSd (fun hHeld => ?_)
          have hb4 := (Below.refl W3.heap.size W3).drew
          have HOWN4 := Lib.hid (HOWN3.out.below hb4 (Nat.le_refl _))
          have hbx4 := hbx3.kept hb4
          have HB4 := Lib.hid (HB3.out.trans (hb4.mono hbase3))
          have hbase4 := Nat.le_trans hbase3 hb4.size
          have hr4 : W3.drew.heap[r]? = W3.heap[r]? := rfl
          have hrlt4 : r < W3.drew.heap.size := hrlt
          generalize W3.drew = W4 at hHeld hbx4 HB4 hbase4 HOWN4 hr4 hrlt4 ⊢
          clear hb4 hbx3
          obtain ⟨b0, b1, b2, b3, b4, b5, b6⟩ := hbx4.cells
          refine wpAnyH_take (i := 0) (oi := ?_) (v := ?_) ?_ (by kernel_rfl) (by kernel_rfl) (by kernel_rfl) ?_ (Or.inl ⟨?_, ?_⟩) (by assumption) ?_
          rotate_left 2
          · (simp only [List.getElem?_toArray, List.getElem?_cons_zero]; rfl)
          · first | exact fun _ _ _ h => h | exact fun _ _ _ h => by cases h.1
          · rfl
          · ((intro wq hSq; (try dsimp only at hSq); go_simp); (try with_reducible rfl))
          try simp only [Act.put, List.setIfInBounds_toArray, List.set_cons_zero, List.set_cons_succ]
          refine wpAnyH_take (i := 1) (oi := ?_) (v := ?_) ?_ (by kernel_rfl) (by kernel_rfl) (by kernel_rfl) ?_ (Or.inl ⟨?_, ?_⟩) (by assumption) ?_
          rotate_left 2
          · (simp only [List.getElem?_toArray, List.getElem?_cons_succ, List.getElem?_cons_zero]; rfl)
          · first | exact fun _ _ _ h => h | exact fun _ _ _ h => by cases h.1
          · rfl
          · ((intro wq hSq; (try dsimp only at hSq); go_simp); (try with_reducible rfl))
          try simp only [Act.put, List.setIfInBounds_toArray, List.set_cons_zero, List.set_cons_succ]
          refine wpAnyH_take (i := 2) (oi := ?_) (v := ?_) ?_ (by kernel_rfl) (by kernel_rfl) (by kernel_rfl) ?_ (Or.inl ⟨?_, ?_⟩) (by assumption) ?_
          rotate_left 2
          · (simp only [List.getElem?_toArray, List.getElem?_cons_succ, List.getElem?_cons_zero]; rfl)
          · first | exact fun _ _ _ h => h | exact fun _ _ _ h => by cases h.1
          · rfl
          · ((intro wq hSq; (try dsimp only at hSq); go_simp); (try with_reducible rfl))
          try simp only [Act.put, List.setIfInBounds_toArray, List.set_cons_zero, List.set_cons_succ]
          refine wpAnyH_take (i := 6) (oi := ?_) (v := ?_) ?_ (by kernel_rfl) (by kernel_rfl) (by kernel_rfl) ?_ (Or.inl ⟨?_, ?_⟩) (by assumption) ?_
          rotate_left 2
          · (simp only [List.getElem?_toArray, List.getElem?_cons_succ, List.getElem?_cons_zero]; rfl)
          · first | exact fun _ _ _ h => h | exact fun _ _ _ h => by cases h.1
          · rfl
          · ((intro wq hSq; (try dsimp only at hSq); go_simp); (try with_reducible rfl))
          try simp only [Act.put, List.setIfInBounds_toArray, List.set_cons_zero, List.set_cons_succ]
          refine wpAnyH_ready (rs := [3]) (by kernel_rfl) (by simp) ?_
          refine AllReadyH.cons (o := ?_) ?_ (fun K hK => ?_) AllReadyH.nil
          rotate_left
          · (simp only [List.getElem?_toArray, List.getElem?_cons_succ, List.getElem?_cons_zero]; rfl)
          go_simp
          refine hK.out _ _ trivial (fun hHeld => ?_)
          clear hK K
          try simp only [Act.put, List.setIfInBounds_toArray, List.set_cons_zero, List.set_cons_succ]
          refine wpAnyH_ready (rs := [4]) (by kernel_rfl) (by simp) ?_
          refine AllReadyH.cons (o := ?_) ?_ (fun K hK => ?_) AllReadyH.nil
          rotate_left
          · (simp only [List.getElem?_toArray, List.getElem?_cons_succ, List.getElem?_cons_zero]; rfl)
          go_simp
          refine hK.out _ _ trivial (fun hHeld => ?_)
          clear hK K
          try simp only [Act.put, List.setIfInBounds_toArray, List.set_cons_zero, List.set_cons_succ]
          refine wpAnyH_ready (rs := [5]) (by kernel_rfl) (by simp) ?_
          refine AllReadyH.cons (o := ?_) ?_ (fun K hK => ?_) AllReadyH.nil
          rotate_left
          · (simp only [List.getElem?_toArray, List.getElem?_cons_succ, List.getElem?_cons_zero]; rfl)
          refine step_append_any rfl (.tmp 60) (.tmp 62) 41 rfl clTy w.heap.size (.slice none 0 0) (0) (elE.all (([] : List El).take 0)) rfl (Own.nil (E := elE) _ _) (1) (El.cells e) _ rfl (NewsAt.new W4 (El.cells e).toArray 45 7 rfl rfl) (by unfold maxLen; omega) (by omega) (by rw [World.size_alloc]; omega) ?_
          intro v5 W5 ho5 hg5 _ _
          refine hK.out _ _ trivial (fun hHeld => ?_)
          clear hK K
          try simp only [Act.put, List.setIfInBounds_toArray, List.set_cons_zero, List.set_cons_succ]
          have hsz5 := hg5.size
          rw [World.size_alloc] at hsz5
          have hr5 : W5.heap[r]? = W3.heap[r]? := by
            rw [hg5.block r (by rw [World.size_alloc]; omega) (fun e => hrne e.symm), ← hr4]
            exact ((Below.refl _ W4).alloc (Nat.le_refl _) _).block r hrlt4
          have hB5 := HB4.out.trans (((Below.refl _ W4).alloc hbase4 _).trans (grown_below (base := w.heap.size) (World.ownsRow_nil _ _ 45 7) hg5 (Nat.le_refl _) (by rw [World.size_alloc]; omega)))
          refine wpAnyH_ready (rs := [7]) (by kernel_rfl) (by simp) ?_
          refine AllReadyH.cons (o := ?_) ?_ (fun K hK => ?_) AllReadyH.nil
          rotate_left
          · (simp only [List.getElem?_toArray, List.getElem?_cons_succ, List.getElem?_cons_zero]; rfl)
          refine step_append_any rfl (.tmp 63) (.tmp 64) 41 rfl clTy w.heap.size (v5) (0 + 1) (elE.all (([] : List El).take 0) ++ El.cells e) rfl (ho5) (([] : List El).length - 0) (elE.all (([] : List El).drop 0)) _ rfl (HNW.out W5 hr5) (by unfold maxLen; omega) (by omega) (by omega) ?_
          intro v6 W6 ho6 hg6 _ _
          refine hK.out _ _ trivial (fun hHeld => ?_)
          clear hK K
          try simp only [Act.put, List.setIfInBounds_toArray, List.set_cons_zero, List.set_cons_succ]
          refine wpAnyH_take (i := 8) (oi := ?_) (v := ?_) ?_ (by kernel_rfl) (by kernel_rfl) (by kernel_rfl) ?_ (Or.inl ⟨?_, ?_⟩) (by assumption) ?_
          rotate_left 2
          · (simp only [List.getElem?_toArray, List.getElem?_cons_succ, List.getElem?_cons_zero]; rfl)
          · first | exact fun _ _ _ h => h | exact fun _ _ _ h => by cases h.1
          · rfl
          · ((intro wq hSq; (try dsimp only at hSq); go_simp); (try with_reducible rfl))
          try simp only [Act.put, List.setIfInBounds_toArray, List.set_cons_zero, List.set_cons_succ]
          have hB6 := hB5.trans (grown_below ho5 hg6 (Nat.le_refl _) (by omega))
          have HFIN : Hid (Own elE 45 w.heap.size W6 v6 (([] : List El).take 0 ++ [e] ++ ([] : List El).drop 0) ∧ Below w.heap.size w W6) := Lib.hid ⟨by
            unfold Own
            rw [elE.all_append, elE.all_append, show (([] : List El).take 0 ++ [e] ++ ([] : List El).drop 0).length = 0 + 1 + (([] : List El).length - 0) by simp <;> omega]
            have hs1 : elE.all [e] = El.cells e := by simp [Enc.all, elE]
            rw [hs1]
            exact ho6, hB6⟩
          refine wpAnyH_done (by kernel_rfl) ?_ _
          clear ho5 hg5 ho6 hg6 hB5 hB6 hr4 hr5 hsz5 HOWN4 HB4
          go_wp2_with fail
          go_roundw
          case rel => exact ⟨k + 1, ([] : List El).take 0 ++ [e] ++ ([] : List El).drop 0, by omega, by go_num, HFIN.out.1, HPM.out _ haM, srt_insert HSM.out haM (.inl rfl) HUP.out, HFIN.out.2⟩
          case measure => simp [intOf]; omega
      · have HROW := Lib.hid (HRG.out g hrow)
        clear hpm2 hpm hsm htg hMl hbx hbw hbW hownW hown hb hsz he hrow HRG
        go_wp2_with fail
        go_loopw [6] (fun j wq => ∃ a : Nat, j = .int .i64 a ∧ a ≤ M.length ∧ (∀ f ∈ M.drop a, ltE e f) ∧ Below W1.heap.size W1 wq) (fun j _ => (intOf j).toNat)
        case atStart => exact ⟨M.length, rfl, Nat.le_refl _, (fun f hf => by rw [List.drop_eq_nil_of_le (Nat.le_refl _)] at hf; cases hf), Below.refl _ _⟩
        case round =>
          clear h0 h1 h2 h3 h4 h5 h6
          obtain ⟨a, rfl, ha, hup, hbq⟩ := hrel
          rcases Nat.eq_zero_or_pos a with rfl | ha0
          · have HUP := Lib.hid hup
            have HBQ := Lib.hid hbq
            clear hup hbq
            go_wp2_with fail
            go_quiet (fail)
            rcases Decidable.em (cap = 0) with hca | hca
            · subst hca
              have hB2 := drewN_below HBQ.out nq
              generalize wr.drewN nq = W2 at hB2 ⊢
              have HOWN2 := Lib.hid (HOWN.out.below hB2 (Nat.le_refl _))
              have hbx2 := HBX.out.kept hB2
              have hbase2 := Nat.le_trans hbase hB2.size
              have hgW2 : g < W2.heap.size := Nat.lt_of_lt_of_le HROW.out.lt hB2.size
              have HB2 := Lib.hid (HBW.out.trans (hB2.mono hbase))
              clear hB2
              have haM : 0 ≤ M.length := Nat.zero_le _
              have hM60 : M.length ≤ 60 := by have := HML.out; omega
              have hac : 0 ≤ 0 := Nat.le_trans haM hcap1
              have HLIT := Lib.hid (World.ownsRow_lit (base := W2.heap.size) (e := 45) (size := 7) W2 #[] 0 (Nat.le_refl _) (by simp [maxLen]) rfl)
              have HN1 := Lib.hid ((HOWN2.out.alloc (.cells #[] 45)).tailEnd haM ⟨g, 0, none⟩ 0)
              go_wp2_with (first
                | (at_builtin; refine wpList_app_any rfl _ _ 41 rfl clTy W2.heap.size _ 0 [] rfl HLIT.out (M.length - 0) (elE.all (M.drop 0)) (by first | exact HN1.out | simpa using HN1.out | simpa [Enc.all] using HN1.out) (by unfold maxLen; omega) (by omega) (by simp) ?_; intro v7 W3 ho3 hg3 hn3 _)
                | fail)
              have hMa : M.length = 0 := by omega
              obtain ⟨r, hre⟩ : ∃ r, W2.heap.size = r := ⟨_, rfl⟩
              have hB3 : Below W2.heap.size W2 (W2.alloc (.cells #[] 45)) := (Below.refl _ W2).alloc (Nat.le_refl _) _
              have hrlt : r < (W2.alloc (.cells #[] 45)).heap.size := by rw [World.size_alloc]; omega
              try rw [hre]
              generalize W2.alloc (.cells #[] 45) = W3 at hB3 hrlt ⊢
              have HOWN3 := Lib.hid (HOWN2.out.below hB3 (Nat.le_refl _))
              have hbx3 := hbx2.kept hB3
              have HB3 := Lib.hid (HB2.out.trans (hB3.mono hbase2))
              have hbase3 := Nat.le_trans hbase2 hB3.size
              have hrne : (Value.slice (some ⟨g, 0, none⟩) 0 0).ownBlock ≠ some r := fun h => by
                have h2 : g = r := by injection h
                omega
              have HNW : Hid (∀ W : World, W.heap[r]? = W3.heap[r]? → NewsAt W 7 (.slice (some ⟨r, 0, none⟩) 0 0) (M.length - 0) (elE.all (M.drop 0))) := Lib.hid fun W _ => by
                rw [show M.length - 0 = 0 by omega, show M.drop 0 = [] from List.drop_eq_nil_of_le (by omega)]
                exact ⟨rfl, (fun u hu => by cases hu), .inl ⟨_, _, rfl, fun j u hu => by cases hu⟩⟩
              clear hB3 HLIT HN1 HOWN2 hbx2 HB2
              go_wp2_with fail
              have hSd : (fun _ : World => True) W3.drew := trivial
              refine wp_region_held_drew (S := fun _ => True) (by kernel_rfl) hSd (fun hHeld => ?_)
              have hb4 := (Below.refl W3.heap.size W3).drew
              have HOWN4 := Lib.hid (HOWN3.out.below hb4 (Nat.le_refl _))
              have hbx4 := hbx3.kept hb4
              have HB4 := Lib.hid (HB3.out.trans (hb4.mono hbase3))
              have hbase4 := Nat.le_trans hbase3 hb4.size
              have hr4 : W3.drew.heap[r]? = W3.heap[r]? := rfl
              have hrlt4 : r < W3.drew.heap.size := hrlt
              generalize W3.drew = W4 at hHeld hbx4 HB4 hbase4 HOWN4 hr4 hrlt4 ⊢
              clear hb4 hbx3
              obtain ⟨b0, b1, b2, b3, b4, b5, b6⟩ := hbx4.cells
              refine wpAnyH_take (i := 0) (oi := ?_) (v := ?_) ?_ (by kernel_rfl) (by kernel_rfl) (by kernel_rfl) ?_ (Or.inl ⟨?_, ?_⟩) (by assumption) ?_
              rotate_left 2
              · (simp only [List.getElem?_toArray, List.getElem?_cons_zero]; rfl)
              · first | exact fun _ _ _ h => h | exact fun _ _ _ h => by cases h.1
              · rfl
              · ((intro wq hSq; (try dsimp only at hSq); go_simp); (try with_reducible rfl))
              try simp only [Act.put, List.setIfInBounds_toArray, List.set_cons_zero, List.set_cons_succ]
              refine wpAnyH_take (i := 1) (oi := ?_) (v := ?_) ?_ (by kernel_rfl) (by kernel_rfl) (by kernel_rfl) ?_ (Or.inl ⟨?_, ?_⟩) (by assumption) ?_
              rotate_left 2
              · (simp only [List.getElem?_toArray, List.getElem?_cons_succ, List.getElem?_cons_zero]; rfl)
              · first | exact fun _ _ _ h => h | exact fun _ _ _ h => by cases h.1
              · rfl
              · ((intro wq hSq; (try dsimp only at hSq); go_simp); (try with_reducible rfl))
              try simp only [Act.put, List.setIfInBounds_toArray, List.set_cons_zero, List.set_cons_succ]
              refine wpAnyH_take (i := 2) (oi := ?_) (v := ?_) ?_ (by kernel_rfl) (by kernel_rfl) (by kernel_rfl) ?_ (Or.inl ⟨?_, ?_⟩) (by assumption) ?_
              rotate_left 2
              · (simp only [List.getElem?_toArray, List.getElem?_cons_succ, List.getElem?_cons_zero]; rfl)
              · first | exact fun _ _ _ h => h | exact fun _ _ _ h => by cases h.1
              · rfl
              · ((intro wq hSq; (try dsimp only at hSq); go_simp); (try with_reducible rfl))
              try simp only [Act.put, List.setIfInBounds_toArray, List.set_cons_zero, List.set_cons_succ]
              refine wpAnyH_take (i := 6) (oi := ?_) (v := ?_) ?_ (by kernel_rfl) (by kernel_rfl) (by kernel_rfl) ?_ (Or.inl ⟨?_, ?_⟩) (by assumption) ?_
              rotate_left 2
              · (simp only [List.getElem?_toArray, List.getElem?_cons_succ, List.getElem?_cons_zero]; rfl)
              · first | exact fun _ _ _ h => h | exact fun _ _ _ h => by cases h.1
              · rfl
              · ((intro wq hSq; (try dsimp only at hSq); go_simp); (try with_reducible rfl))
              try simp only [Act.put, List.setIfInBounds_toArray, List.set_cons_zero, List.set_cons_succ]
              refine wpAnyH_ready (rs := [3]) (by kernel_rfl) (by simp) ?_
              refine AllReadyH.cons (o := ?_) ?_ (fun K hK => ?_) AllReadyH.nil
              rotate_left
              · (simp only [List.getElem?_toArray, List.getElem?_cons_succ, List.getElem?_cons_zero]; rfl)
              go_simp
              refine hK.out _ _ trivial (fun hHeld => ?_)
              clear hK K
              try simp only [Act.put, List.setIfInBounds_toArray, List.set_cons_zero, List.set_cons_succ]
              refine wpAnyH_ready (rs := [4]) (by kernel_rfl) (by simp) ?_
              refine AllReadyH.cons (o := ?_) ?_ (fun K hK => ?_) AllReadyH.nil
              rotate_left
              · (simp only [List.getElem?_toArray, List.getElem?_cons_succ, List.getElem?_cons_zero]; rfl)
              go_simp
              refine hK.out _ _ trivial (fun hHeld => ?_)
              clear hK K
              try simp only [Act.put, List.setIfInBounds_toArray, List.set_cons_zero, List.set_cons_succ]
              refine wpAnyH_ready (rs := [5]) (by kernel_rfl) (by simp) ?_
              refine AllReadyH.cons (o := ?_) ?_ (fun K hK => ?_) AllReadyH.nil
              rotate_left
              · (simp only [List.getElem?_toArray, List.getElem?_cons_succ, List.getElem?_cons_zero]; rfl)
              refine step_append_any rfl (.tmp 60) (.tmp 62) 41 rfl clTy w.heap.size (.slice (some ⟨g, 0, none⟩) 0 0) (0) (elE.all (M.take 0)) rfl (Own.headRow (HOWN4.out.alloc _) haM) (1) (El.cells e) _ rfl (NewsAt.new W4 (El.cells e).toArray 45 7 rfl rfl) (by unfold maxLen; omega) (by omega) (by rw [World.size_alloc]; omega) ?_
              intro v5 W5 ho5 hg5 _ _
              refine hK.out _ _ trivial (fun hHeld => ?_)
              clear hK K
              try simp only [Act.put, List.setIfInBounds_toArray, List.set_cons_zero, List.set_cons_succ]
              have hsz5 := hg5.size
              rw [World.size_alloc] at hsz5
              have hr5 : W5.heap[r]? = W3.heap[r]? := by
                rw [hg5.block r (by rw [World.size_alloc]; omega) (fun e => hrne e.symm), ← hr4]
                exact ((Below.refl _ W4).alloc (Nat.le_refl _) _).block r hrlt4
              have hB5 := HB4.out.trans (((Below.refl _ W4).alloc hbase4 _).trans (grown_below (base := w.heap.size) (Own.headRow (HOWN4.out.alloc _) haM) hg5 (Nat.le_refl _) (by rw [World.size_alloc]; omega)))
              refine wpAnyH_ready (rs := [7]) (by kernel_rfl) (by simp) ?_
              refine AllReadyH.cons (o := ?_) ?_ (fun K hK => ?_) AllReadyH.nil
              rotate_left
              · (simp only [List.getElem?_toArray, List.getElem?_cons_succ, List.getElem?_cons_zero]; rfl)
              refine step_append_any rfl (.tmp 63) (.tmp 64) 41 rfl clTy w.heap.size (v5) (0 + 1) (elE.all (M.take 0) ++ El.cells e) rfl (ho5) (M.length - 0) (elE.all (M.drop 0)) _ rfl (HNW.out W5 hr5) (by unfold maxLen; omega) (by omega) (by omega) ?_
              intro v6 W6 ho6 hg6 _ _
              refine hK.out _ _ trivial (fun hHeld => ?_)
              clear hK K
              try simp only [Act.put, List.setIfInBounds_toArray, List.set_cons_zero, List.set_cons_succ]
              refine wpAnyH_take (i := 8) (oi := ?_) (v := ?_) ?_ (by kernel_rfl) (by kernel_rfl) (by kernel_rfl) ?_ (Or.inl ⟨?_, ?_⟩) (by assumption) ?_
              rotate_left 2
              · (simp only [List.getElem?_toArray, List.getElem?_cons_succ, List.getElem?_cons_zero]; rfl)
              · first | exact fun _ _ _ h => h | exact fun _ _ _ h => by cases h.1
              · rfl
              · ((intro wq hSq; (try dsimp only at hSq); go_simp); (try with_reducible rfl))
              try simp only [Act.put, List.setIfInBounds_toArray, List.set_cons_zero, List.set_cons_succ]
              have hB6 := hB5.trans (grown_below ho5 hg6 (Nat.le_refl _) (by omega))
              have HFIN : Hid (Own elE 45 w.heap.size W6 v6 (M.take 0 ++ [e] ++ M.drop 0) ∧ Below w.heap.size w W6) := Lib.hid ⟨by
                unfold Own
                rw [elE.all_append, elE.all_append, show (M.take 0 ++ [e] ++ M.drop 0).length = 0 + 1 + (M.length - 0) by simp <;> omega]
                have hs1 : elE.all [e] = El.cells e := by simp [Enc.all, elE]
                rw [hs1]
                exact ho6, hB6⟩
              refine wpAnyH_done (by kernel_rfl) ?_ _
              clear ho5 hg5 ho6 hg6 hB5 hB6 hr4 hr5 hsz5 HOWN4 HB4
              go_wp2_with fail
              go_roundw
              case rel => exact ⟨k + 1, M.take 0 ++ [e] ++ M.drop 0, by omega, by go_num, HFIN.out.1, HPM.out _ haM, srt_insert HSM.out haM (.inl rfl) HUP.out, HFIN.out.2⟩
              case measure => simp [intOf]; omega
            · have hB2 := drewN_below HBQ.out nq
              generalize wr.drewN nq = W2 at hB2 ⊢
              have HOWN2 := Lib.hid (HOWN.out.below hB2 (Nat.le_refl _))
              have hbx2 := HBX.out.kept hB2
              have hbase2 := Nat.le_trans hbase hB2.size
              have hgW2 : g < W2.heap.size := Nat.lt_of_lt_of_le HROW.out.lt hB2.size
              have HB2 := Lib.hid (HBW.out.trans (hB2.mono hbase))
              clear hB2
              have haM : 0 ≤ M.length := Nat.zero_le _
              have hM60 : M.length ≤ 60 := by have := HML.out; omega
              have hac : 0 ≤ cap := Nat.le_trans haM hcap1
              have HLIT := Lib.hid (World.ownsRow_lit (base := W2.heap.size) (e := 45) (size := 7) W2 #[] 0 (Nat.le_refl _) (by simp [maxLen]) rfl)
              have HN1 := Lib.hid ((HOWN2.out.alloc (.cells #[] 45)).tailAny haM)
              go_wp2_with (first
                | (at_builtin; refine wpList_app_any rfl _ _ 41 rfl clTy W2.heap.size _ 0 [] rfl HLIT.out (M.length - 0) (elE.all (M.drop 0)) (by first | exact HN1.out | simpa using HN1.out | simpa [Enc.all] using HN1.out) (by unfold maxLen; omega) (by omega) (by simp) ?_; intro v7 W3 ho3 hg3 hn3 _)
                | fail)
              have hB3 : Below W2.heap.size W2 W3 := ((Below.refl _ W2).alloc (Nat.le_refl _) _).trans (grown_below HLIT.out hg3 (Nat.le_refl _) (by simp))
              have HOWN3 := Lib.hid (HOWN2.out.below hB3 (Nat.le_refl _))
              have hbx3 := hbx2.kept hB3
              have HB3 := Lib.hid (HB2.out.trans (hB3.mono hbase2))
              have hbase3 := Nat.le_trans hbase2 hB3.size
              obtain ⟨r, cr, cur, rfl, hr1, hr2, hr3⟩ : ∃ r cr cur, v7 = .slice (some ⟨r, 0, none⟩) (M.length - 0) cr ∧ W2.heap.size ≤ r ∧ W3.heap[r]? = some (.cells cur 45 (0, 0)) ∧ cur.toList.take ((M.length - 0) * 7) = elE.all (M.drop 0) := by
                rcases ho3.2 with ⟨e1, _⟩ | ⟨r, cr, cur, e1, q1, q2, q3, q4, q5, q6⟩
                · have := hn3.1 e1
                  cases this.1
                · rw [Nat.zero_add] at e1 q6
                  exact ⟨r, cr, cur, e1, q1, q2, by simpa using q6⟩
              have hrlt : r < W3.heap.size := (Array.getElem?_eq_some_iff.1 hr2).1
              have hrne : (Value.slice (some ⟨g, 0, none⟩) 0 cap).ownBlock ≠ some r := fun h => by
                have h2 : g = r := by injection h
                omega
              have HNW : Hid (∀ W : World, W.heap[r]? = W3.heap[r]? → NewsAt W 7 (.slice (some ⟨r, 0, none⟩) (M.length - 0) cr) (M.length - 0) (elE.all (M.drop 0))) := Lib.hid fun W hW => newsAt_of hr2 hr3 hW haM
              clear ho3 hg3 hn3 hB3 hr2 hr3 HLIT HN1 HOWN2 hbx2 HB2
              go_wp2_with fail
              have hSd : (fun _ : World => True) W3.drew := trivial
              refine wp_region_held_drew (S := fun _ => True) (by kernel_rfl) hSd (fun hHeld => ?_)
              have hb4 := (Below.refl W3.heap.size W3).drew
              have HOWN4 := Lib.hid (HOWN3.out.below hb4 (Nat.le_refl _))
              have hbx4 := hbx3.kept hb4
              have HB4 := Lib.hid (HB3.out.trans (hb4.mono hbase3))
              have hbase4 := Nat.le_trans hbase3 hb4.size
              have hr4 : W3.drew.heap[r]? = W3.heap[r]? := rfl
              have hrlt4 : r < W3.drew.heap.size := hrlt
              generalize W3.drew = W4 at hHeld hbx4 HB4 hbase4 HOWN4 hr4 hrlt4 ⊢
              clear hb4 hbx3
              obtain ⟨b0, b1, b2, b3, b4, b5, b6⟩ := hbx4.cells
              refine wpAnyH_take (i := 0) (oi := ?_) (v := ?_) ?_ (by kernel_rfl) (by kernel_rfl) (by kernel_rfl) ?_ (Or.inl ⟨?_, ?_⟩) (by assumption) ?_
              rotate_left 2
              · (simp only [List.getElem?_toArray, List.getElem?_cons_zero]; rfl)
              · first | exact fun _ _ _ h => h | exact fun _ _ _ h => by cases h.1
              · rfl
              · ((intro wq hSq; (try dsimp only at hSq); go_simp); (try with_reducible rfl))
              try simp only [Act.put, List.setIfInBounds_toArray, List.set_cons_zero, List.set_cons_succ]
              refine wpAnyH_take (i := 1) (oi := ?_) (v := ?_) ?_ (by kernel_rfl) (by kernel_rfl) (by kernel_rfl) ?_ (Or.inl ⟨?_, ?_⟩) (by assumption) ?_
              rotate_left 2
              · (simp only [List.getElem?_toArray, List.getElem?_cons_succ, List.getElem?_cons_zero]; rfl)
              · first | exact fun _ _ _ h => h | exact fun _ _ _ h => by cases h.1
              · rfl
              · ((intro wq hSq; (try dsimp only at hSq); go_simp); (try with_reducible rfl))
              try simp only [Act.put, List.setIfInBounds_toArray, List.set_cons_zero, List.set_cons_succ]
              refine wpAnyH_take (i := 2) (oi := ?_) (v := ?_) ?_ (by kernel_rfl) (by kernel_rfl) (by kernel_rfl) ?_ (Or.inl ⟨?_, ?_⟩) (by assumption) ?_
              rotate_left 2
              · (simp only [List.getElem?_toArray, List.getElem?_cons_succ, List.getElem?_cons_zero]; rfl)
              · first | exact fun _ _ _ h => h | exact fun _ _ _ h => by cases h.1
              · rfl
              · ((intro wq hSq; (try dsimp only at hSq); go_simp); (try with_reducible rfl))
              try simp only [Act.put, List.setIfInBounds_toArray, List.set_cons_zero, List.set_cons_succ]
              refine wpAnyH_take (i := 6) (oi := ?_) (v := ?_) ?_ (by kernel_rfl) (by kernel_rfl) (by kernel_rfl) ?_ (Or.inl ⟨?_, ?_⟩) (by assumption) ?_
              rotate_left 2
              · (simp only [List.getElem?_toArray, List.getElem?_cons_succ, List.getElem?_cons_zero]; rfl)
              · first | exact fun _ _ _ h => h | exact fun _ _ _ h => by cases h.1
              · rfl
              · ((intro wq hSq; (try dsimp only at hSq); go_simp); (try with_reducible rfl))
              try simp only [Act.put, List.setIfInBounds_toArray, List.set_cons_zero, List.set_cons_succ]
              refine wpAnyH_ready (rs := [3]) (by kernel_rfl) (by simp) ?_
              refine AllReadyH.cons (o := ?_) ?_ (fun K hK => ?_) AllReadyH.nil
              rotate_left
              · (simp only [List.getElem?_toArray, List.getElem?_cons_succ, List.getElem?_cons_zero]; rfl)
              go_simp
              refine hK.out _ _ trivial (fun hHeld => ?_)
              clear hK K
              try simp only [Act.put, List.setIfInBounds_toArray, List.set_cons_zero, List.set_cons_succ]
              refine wpAnyH_ready (rs := [4]) (by kernel_rfl) (by simp) ?_
              refine AllReadyH.cons (o := ?_) ?_ (fun K hK => ?_) AllReadyH.nil
              rotate_left
              · (simp only [List.getElem?_toArray, List.getElem?_cons_succ, List.getElem?_cons_zero]; rfl)
              go_simp
              refine hK.out _ _ trivial (fun hHeld => ?_)
              clear hK K
              try simp only [Act.put, List.setIfInBounds_toArray, List.set_cons_zero, List.set_cons_succ]
              refine wpAnyH_ready (rs := [5]) (by kernel_rfl) (by simp) ?_
              refine AllReadyH.cons (o := ?_) ?_ (fun K hK => ?_) AllReadyH.nil
              rotate_left
              · (simp only [List.getElem?_toArray, List.getElem?_cons_succ, List.getElem?_cons_zero]; rfl)
              refine step_append_any rfl (.tmp 60) (.tmp 62) 41 rfl clTy w.heap.size (.slice (some ⟨g, 0, none⟩) 0 cap) (0) (elE.all (M.take 0)) rfl (Own.headRow (HOWN4.out.alloc _) haM) (1) (El.cells e) _ rfl (NewsAt.new W4 (El.cells e).toArray 45 7 rfl rfl) (by unfold maxLen; omega) (by omega) (by rw [World.size_alloc]; omega) ?_
              intro v5 W5 ho5 hg5 _ _
              refine hK.out _ _ trivial (fun hHeld => ?_)
              clear hK K
              try simp only [Act.put, List.setIfInBounds_toArray, List.set_cons_zero, List.set_cons_succ]
              have hsz5 := hg5.size
              rw [World.size_alloc] at hsz5
              have hr5 : W5.heap[r]? = W3.heap[r]? := by
                rw [hg5.block r (by rw [World.size_alloc]; omega) (fun e => hrne e.symm), ← hr4]
                exact ((Below.refl _ W4).alloc (Nat.le_refl _) _).block r hrlt4
              have hB5 := HB4.out.trans (((Below.refl _ W4).alloc hbase4 _).trans (grown_below (base := w.heap.size) (Own.headRow (HOWN4.out.alloc _) haM) hg5 (Nat.le_refl _) (by rw [World.size_alloc]; omega)))
              refine wpAnyH_ready (rs := [7]) (by kernel_rfl) (by simp) ?_
              refine AllReadyH.cons (o := ?_) ?_ (fun K hK => ?_) AllReadyH.nil
              rotate_left
              · (simp only [List.getElem?_toArray, List.getElem?_cons_succ, List.getElem?_cons_zero]; rfl)
              refine step_append_any rfl (.tmp 63) (.tmp 64) 41 rfl clTy w.heap.size (v5) (0 + 1) (elE.all (M.take 0) ++ El.cells e) rfl (ho5) (M.length - 0) (elE.all (M.drop 0)) _ rfl (HNW.out W5 hr5) (by unfold maxLen; omega) (by omega) (by omega) ?_
              intro v6 W6 ho6 hg6 _ _
              refine hK.out _ _ trivial (fun hHeld => ?_)
              clear hK K
              try simp only [Act.put, List.setIfInBounds_toArray, List.set_cons_zero, List.set_cons_succ]
              refine wpAnyH_take (i := 8) (oi := ?_) (v := ?_) ?_ (by kernel_rfl) (by kernel_rfl) (by kernel_rfl) ?_ (Or.inl ⟨?_, ?_⟩) (by assumption) ?_
              rotate_left 2
              · (simp only [List.getElem?_toArray, List.getElem?_cons_succ, List.getElem?_cons_zero]; rfl)
              · first | exact fun _ _ _ h => h | exact fun _ _ _ h => by cases h.1
              · rfl
              · ((intro wq hSq; (try dsimp only at hSq); go_simp); (try with_reducible rfl))
              try simp only [Act.put, List.setIfInBounds_toArray, List.set_cons_zero, List.set_cons_succ]
              have hB6 := hB5.trans (grown_below ho5 hg6 (Nat.le_refl _) (by omega))
              have HFIN : Hid (Own elE 45 w.heap.size W6 v6 (M.take 0 ++ [e] ++ M.drop 0) ∧ Below w.heap.size w W6) := Lib.hid ⟨by
                unfold Own
                rw [elE.all_append, elE.all_append, show (M.take 0 ++ [e] ++ M.drop 0).length = 0 + 1 + (M.length - 0) by simp <;> omega]
                have hs1 : elE.all [e] = El.cells e := by simp [Enc.all, elE]
                rw [hs1]
                exact ho6, hB6⟩
              refine wpAnyH_done (by kernel_rfl) ?_ _
              clear ho5 hg5 ho6 hg6 hB5 hB6 hr4 hr5 hsz5 HOWN4 HB4
              go_wp2_with fail
              go_roundw
              case rel => exact ⟨k + 1, M.take 0 ++ [e] ++ M.drop 0, by omega, by go_num, HFIN.out.1, HPM.out _ haM, srt_insert HSM.out haM (.inl rfl) HUP.out, HFIN.out.2⟩
              case measure => simp [intOf]; omega
          · obtain ⟨p, rfl⟩ : ∃ p, a = p + 1 := ⟨a - 1, by omega⟩
            obtain ⟨f, hf⟩ := get_some (show p < M.length by omega)
            obtain ⟨f0, f1, f2, f3, f4, f5, f6⟩ := (HROW.out.kept hbq).cells hf
            obtain ⟨c0, c1, c2, c3, c4, c5, c6⟩ := (HBX.out.kept hbq).cells
            have j1 : (p : Int) < (M.length : Int) := by omega
            have j2 : decide ((0 : Int) < (p : Int) + 1) = true := by rw [decide_eq_true_iff]; omega
            have j3 : decide (0 < p + 1) = true := by simp
            have jw : IntKind.i64.wrap (p : Int) = (p : Int) := so_wrap (by omega) (by have := HML.out; omega)
            have hcase : (decide (e.x.b < f.x.b) = true ∧ ltE e f) ∨ (decide (e.x.b < f.x.b) = false ∧ (f.x.b == e.x.b) = true ∧ decide (e.x.p < f.x.p) = true ∧ ltE e f) ∨ (decide (e.x.b < f.x.b) = false ∧ (f.x.b == e.x.b) = false ∧ ltE f e) ∨ (decide (e.x.b < f.x.b) = false ∧ (f.x.b == e.x.b) = true ∧ decide (e.x.p < f.x.p) = false ∧ ltE f e) := by
              have ht := HTG.out f (List.mem_of_getElem? hf)
              unfold ltE
              simp only [decide_eq_true_eq, decide_eq_false_iff_not, beq_iff_eq, beq_eq_false_iff_ne]
              omega
            have HF := Lib.hid hf
            have HUP := Lib.hid hup
            have HBQ := Lib.hid hbq
            have HA := Lib.hid ha
            clear hf hup hbq ha
            rcases hcase with ⟨d1, hl⟩ | ⟨d1, d2, d3, hl⟩ | ⟨d1, d2, hl⟩ | ⟨d1, d2, d3, hl⟩
            · have HLE := Lib.hid hl
              clear hl
              go_wp2_with fail
              go_quiet (fail)
              go_wp2_with fail
              go_roundw
              case rel => exact ⟨p, rfl, by have := HA.out; omega, mem_drop HF.out HLE.out HUP.out, drewN_below HBQ.out _⟩
              case measure => simp [intOf]
            · have HLE := Lib.hid hl
              clear hl
              go_wp2_with fail
              go_quiet (fail)
              go_wp2_with fail
              go_roundw
              case rel => exact ⟨p, rfl, by have := HA.out; omega, mem_drop HF.out HLE.out HUP.out, drewN_below HBQ.out _⟩
              case measure => simp [intOf]
            · have HLE := Lib.hid hl
              clear hl
              go_wp2_with fail
              go_quiet (fail)
              rcases Decidable.em (cap = (p + 1)) with hca | hca
              · subst hca
                have hB2 := drewN_below HBQ.out nq
                generalize wr.drewN nq = W2 at hB2 ⊢
                have HOWN2 := Lib.hid (HOWN.out.below hB2 (Nat.le_refl _))
                have hbx2 := HBX.out.kept hB2
                have hbase2 := Nat.le_trans hbase hB2.size
                have hgW2 : g < W2.heap.size := Nat.lt_of_lt_of_le HROW.out.lt hB2.size
                have HB2 := Lib.hid (HBW.out.trans (hB2.mono hbase))
                clear hB2
                have haM : (p + 1) ≤ M.length := HA.out
                have hM60 : M.length ≤ 60 := by have := HML.out; omega
                have hac : (p + 1) ≤ (p + 1) := Nat.le_trans haM hcap1
                have q1 : (0 : Int) ≤ (p : Int) + 1 := by omega
                have HLIT := Lib.hid (World.ownsRow_lit (base := W2.heap.size) (e := 45) (size := 7) W2 #[] 0 (Nat.le_refl _) (by simp [maxLen]) rfl)
                have HN1 := Lib.hid ((HOWN2.out.alloc (.cells #[] 45)).tailEnd haM ⟨g, 0, none⟩ 0)
                go_wp2_with (first
                  | (at_builtin; refine wpList_app_any rfl _ _ 41 rfl clTy W2.heap.size _ 0 [] rfl HLIT.out (M.length - (p + 1)) (elE.all (M.drop (p + 1))) (by first | exact HN1.out | simpa using HN1.out | simpa [Enc.all] using HN1.out) (by unfold maxLen; omega) (by omega) (by simp) ?_; intro v7 W3 ho3 hg3 hn3 _)
                  | fail)
                have hMa : M.length = (p + 1) := by omega
                obtain ⟨r, hre⟩ : ∃ r, W2.heap.size = r := ⟨_, rfl⟩
                have hB3 : Below W2.heap.size W2 (W2.alloc (.cells #[] 45)) := (Below.refl _ W2).alloc (Nat.le_refl _) _
                have hrlt : r < (W2.alloc (.cells #[] 45)).heap.size := by rw [World.size_alloc]; omega
                try rw [hre]
                generalize W2.alloc (.cells #[] 45) = W3 at hB3 hrlt ⊢
                have HOWN3 := Lib.hid (HOWN2.out.below hB3 (Nat.le_refl _))
                have hbx3 := hbx2.kept hB3
                have HB3 := Lib.hid (HB2.out.trans (hB3.mono hbase2))
                have hbase3 := Nat.le_trans hbase2 hB3.size
                have hrne : (Value.slice (some ⟨g, 0, none⟩) (p + 1) (p + 1)).ownBlock ≠ some r := fun h => by
                  have h2 : g = r := by injection h
                  omega
                have HNW : Hid (∀ W : World, W.heap[r]? = W3.heap[r]? → NewsAt W 7 (.slice (some ⟨r, 0, none⟩) 0 0) (M.length - (p + 1)) (elE.all (M.drop (p + 1)))) := Lib.hid fun W _ => by
                  rw [show M.length - (p + 1) = 0 by omega, show M.drop (p + 1) = [] from List.drop_eq_nil_of_le (by omega)]
                  exact ⟨rfl, (fun u hu => by cases hu), .inl ⟨_, _, rfl, fun j u hu => by cases hu⟩⟩
                clear hB3 HLIT HN1 HOWN2 hbx2 HB2
                go_wp2_with fail
                have hSd : (fun _ : World => True) W3.drew := trivial
                refine wp_region_held_drew (S := fun _ => True) (by kernel_rfl) hSd (fun hHeld => ?_)
                have hb4 := (Below.refl W3.heap.size W3).drew
                have HOWN4 := Lib.hid (HOWN3.out.below hb4 (Nat.le_refl _))
                have hbx4 := hbx3.kept hb4
                have HB4 := Lib.hid (HB3.out.trans (hb4.mono hbase3))
                have hbase4 := Nat.le_trans hbase3 hb4.size
                have hr4 : W3.drew.heap[r]? = W3.heap[r]? := rfl
                have hrlt4 : r < W3.drew.heap.size := hrlt
                generalize W3.drew = W4 at hHeld hbx4 HB4 hbase4 HOWN4 hr4 hrlt4 ⊢
                clear hb4 hbx3
                obtain ⟨b0, b1, b2, b3, b4, b5, b6⟩ := hbx4.cells
                refine wpAnyH_take (i := 0) (oi := ?_) (v := ?_) ?_ (by kernel_rfl) (by kernel_rfl) (by kernel_rfl) ?_ (Or.inl ⟨?_, ?_⟩) (by assumption) ?_
                rotate_left 2
                · (simp only [List.getElem?_toArray, List.getElem?_cons_zero]; rfl)
                · first | exact fun _ _ _ h => h | exact fun _ _ _ h => by cases h.1
                · rfl
                · ((intro wq hSq; (try dsimp only at hSq); go_simp); (try with_reducible rfl))
                try simp only [Act.put, List.setIfInBounds_toArray, List.set_cons_zero, List.set_cons_succ]
                refine wpAnyH_take (i := 1) (oi := ?_) (v := ?_) ?_ (by kernel_rfl) (by kernel_rfl) (by kernel_rfl) ?_ (Or.inl ⟨?_, ?_⟩) (by assumption) ?_
                rotate_left 2
                · (simp only [List.getElem?_toArray, List.getElem?_cons_succ, List.getElem?_cons_zero]; rfl)
                · first | exact fun _ _ _ h => h | exact fun _ _ _ h => by cases h.1
                · rfl
                · ((intro wq hSq; (try dsimp only at hSq); go_simp); (try with_reducible rfl))
                try simp only [Act.put, List.setIfInBounds_toArray, List.set_cons_zero, List.set_cons_succ]
                refine wpAnyH_take (i := 2) (oi := ?_) (v := ?_) ?_ (by kernel_rfl) (by kernel_rfl) (by kernel_rfl) ?_ (Or.inl ⟨?_, ?_⟩) (by assumption) ?_
                rotate_left 2
                · (simp only [List.getElem?_toArray, List.getElem?_cons_succ, List.getElem?_cons_zero]; rfl)
                · first | exact fun _ _ _ h => h | exact fun _ _ _ h => by cases h.1
                · rfl
                · ((intro wq hSq; (try dsimp only at hSq); go_simp); (try with_reducible rfl))
                try simp only [Act.put, List.setIfInBounds_toArray, List.set_cons_zero, List.set_cons_succ]
                refine wpAnyH_take (i := 6) (oi := ?_) (v := ?_) ?_ (by kernel_rfl) (by kernel_rfl) (by kernel_rfl) ?_ (Or.inl ⟨?_, ?_⟩) (by assumption) ?_
                rotate_left 2
                · (simp only [List.getElem?_toArray, List.getElem?_cons_succ, List.getElem?_cons_zero]; rfl)
                · first | exact fun _ _ _ h => h | exact fun _ _ _ h => by cases h.1
                · rfl
                · ((intro wq hSq; (try dsimp only at hSq); go_simp); (try with_reducible rfl))
                try simp only [Act.put, List.setIfInBounds_toArray, List.set_cons_zero, List.set_cons_succ]
                refine wpAnyH_ready (rs := [3]) (by kernel_rfl) (by simp) ?_
                refine AllReadyH.cons (o := ?_) ?_ (fun K hK => ?_) AllReadyH.nil
                rotate_left
                · (simp only [List.getElem?_toArray, List.getElem?_cons_succ, List.getElem?_cons_zero]; rfl)
                go_simp
                refine hK.out _ _ trivial (fun hHeld => ?_)
                clear hK K
                try simp only [Act.put, List.setIfInBounds_toArray, List.set_cons_zero, List.set_cons_succ]
                refine wpAnyH_ready (rs := [4]) (by kernel_rfl) (by simp) ?_
                refine AllReadyH.cons (o := ?_) ?_ (fun K hK => ?_) AllReadyH.nil
                rotate_left
                · (simp only [List.getElem?_toArray, List.getElem?_cons_succ, List.getElem?_cons_zero]; rfl)
                go_simp
                refine hK.out _ _ trivial (fun hHeld => ?_)
                clear hK K
                try simp only [Act.put, List.setIfInBounds_toArray, List.set_cons_zero, List.set_cons_succ]
                refine wpAnyH_ready (rs := [5]) (by kernel_rfl) (by simp) ?_
                refine AllReadyH.cons (o := ?_) ?_ (fun K hK => ?_) AllReadyH.nil
                rotate_left
                · (simp only [List.getElem?_toArray, List.getElem?_cons_succ, List.getElem?_cons_zero]; rfl)
                refine step_append_any rfl (.tmp 60) (.tmp 62) 41 rfl clTy w.heap.size (.slice (some ⟨g, 0, none⟩) (p + 1) (p + 1)) ((p + 1)) (elE.all (M.take (p + 1))) rfl (Own.headRow (HOWN4.out.alloc _) haM) (1) (El.cells e) _ rfl (NewsAt.new W4 (El.cells e).toArray 45 7 rfl rfl) (by unfold maxLen; omega) (by omega) (by rw [World.size_alloc]; omega) ?_
                intro v5 W5 ho5 hg5 _ _
                refine hK.out _ _ trivial (fun hHeld => ?_)
                clear hK K
                try simp only [Act.put, List.setIfInBounds_toArray, List.set_cons_zero, List.set_cons_succ]
                have hsz5 := hg5.size
                rw [World.size_alloc] at hsz5
                have hr5 : W5.heap[r]? = W3.heap[r]? := by
                  rw [hg5.block r (by rw [World.size_alloc]; omega) (fun e => hrne e.symm), ← hr4]
                  exact ((Below.refl _ W4).alloc (Nat.le_refl _) _).block r hrlt4
                have hB5 := HB4.out.trans (((Below.refl _ W4).alloc hbase4 _).trans (grown_below (base := w.heap.size) (Own.headRow (HOWN4.out.alloc _) haM) hg5 (Nat.le_refl _) (by rw [World.size_alloc]; omega)))
                refine wpAnyH_ready (rs := [7]) (by kernel_rfl) (by simp) ?_
                refine AllReadyH.cons (o := ?_) ?_ (fun K hK => ?_) AllReadyH.nil
                rotate_left
                · (simp only [List.getElem?_toArray, List.getElem?_cons_succ, List.getElem?_cons_zero]; rfl)
                refine step_append_any rfl (.tmp 63) (.tmp 64) 41 rfl clTy w.heap.size (v5) ((p + 1) + 1) (elE.all (M.take (p + 1)) ++ El.cells e) rfl (ho5) (M.length - (p + 1)) (elE.all (M.drop (p + 1))) _ rfl (HNW.out W5 hr5) (by unfold maxLen; omega) (by omega) (by omega) ?_
                intro v6 W6 ho6 hg6 _ _
                refine hK.out _ _ trivial (fun hHeld => ?_)
                clear hK K
                try simp only [Act.put, List.setIfInBounds_toArray, List.set_cons_zero, List.set_cons_succ]
                refine wpAnyH_take (i := 8) (oi := ?_) (v := ?_) ?_ (by kernel_rfl) (by kernel_rfl) (by kernel_rfl) ?_ (Or.inl ⟨?_, ?_⟩) (by assumption) ?_
                rotate_left 2
                · (simp only [List.getElem?_toArray, List.getElem?_cons_succ, List.getElem?_cons_zero]; rfl)
                · first | exact fun _ _ _ h => h | exact fun _ _ _ h => by cases h.1
                · rfl
                · ((intro wq hSq; (try dsimp only at hSq); go_simp); (try with_reducible rfl))
                try simp only [Act.put, List.setIfInBounds_toArray, List.set_cons_zero, List.set_cons_succ]
                have hB6 := hB5.trans (grown_below ho5 hg6 (Nat.le_refl _) (by omega))
                have HFIN : Hid (Own elE 45 w.heap.size W6 v6 (M.take (p + 1) ++ [e] ++ M.drop (p + 1)) ∧ Below w.heap.size w W6) := Lib.hid ⟨by
                  unfold Own
                  rw [elE.all_append, elE.all_append, show (M.take (p + 1) ++ [e] ++ M.drop (p + 1)).length = (p + 1) + 1 + (M.length - (p + 1)) by simp <;> omega]
                  have hs1 : elE.all [e] = El.cells e := by simp [Enc.all, elE]
                  rw [hs1]
                  exact ho6, hB6⟩
                refine wpAnyH_done (by kernel_rfl) ?_ _
                clear ho5 hg5 ho6 hg6 hB5 hB6 hr4 hr5 hsz5 HOWN4 HB4
                go_wp2_with fail
                go_roundw
                case rel => exact ⟨k + 1, M.take (p + 1) ++ [e] ++ M.drop (p + 1), by omega, by go_num, HFIN.out.1, HPM.out _ haM, srt_insert HSM.out haM (.inr ⟨f, by omega, by simpa using HF.out, HLE.out⟩) HUP.out, HFIN.out.2⟩
                case measure => simp [intOf]; omega
              · have hB2 := drewN_below HBQ.out nq
                generalize wr.drewN nq = W2 at hB2 ⊢
                have HOWN2 := Lib.hid (HOWN.out.below hB2 (Nat.le_refl _))
                have hbx2 := HBX.out.kept hB2
                have hbase2 := Nat.le_trans hbase hB2.size
                have hgW2 : g < W2.heap.size := Nat.lt_of_lt_of_le HROW.out.lt hB2.size
                have HB2 := Lib.hid (HBW.out.trans (hB2.mono hbase))
                clear hB2
                have haM : (p + 1) ≤ M.length := HA.out
                have hM60 : M.length ≤ 60 := by have := HML.out; omega
                have hac : (p + 1) ≤ cap := Nat.le_trans haM hcap1
                have q1 : (0 : Int) ≤ (p : Int) + 1 := by omega
                have q2 : (p : Int) + 1 ≤ (cap : Int) := by omega
                have HLIT := Lib.hid (World.ownsRow_lit (base := W2.heap.size) (e := 45) (size := 7) W2 #[] 0 (Nat.le_refl _) (by simp [maxLen]) rfl)
                have HN1 := Lib.hid ((HOWN2.out.alloc (.cells #[] 45)).tailAny haM)
                go_wp2_with (first
                  | (at_builtin; refine wpList_app_any rfl _ _ 41 rfl clTy W2.heap.size _ 0 [] rfl HLIT.out (M.length - (p + 1)) (elE.all (M.drop (p + 1))) (by first | exact HN1.out | simpa using HN1.out | simpa [Enc.all] using HN1.out) (by unfold maxLen; omega) (by omega) (by simp) ?_; intro v7 W3 ho3 hg3 hn3 _)
                  | fail)
                have hB3 : Below W2.heap.size W2 W3 := ((Below.refl _ W2).alloc (Nat.le_refl _) _).trans (grown_below HLIT.out hg3 (Nat.le_refl _) (by simp))
                have HOWN3 := Lib.hid (HOWN2.out.below hB3 (Nat.le_refl _))
                have hbx3 := hbx2.kept hB3
                have HB3 := Lib.hid (HB2.out.trans (hB3.mono hbase2))
                have hbase3 := Nat.le_trans hbase2 hB3.size
                obtain ⟨r, cr, cur, rfl, hr1, hr2, hr3⟩ : ∃ r cr cur, v7 = .slice (some ⟨r, 0, none⟩) (M.length - (p + 1)) cr ∧ W2.heap.size ≤ r ∧ W3.heap[r]? = some (.cells cur 45 (0, 0)) ∧ cur.toList.take ((M.length - (p + 1)) * 7) = elE.all (M.drop (p + 1)) := by
                  rcases ho3.2 with ⟨e1, _⟩ | ⟨r, cr, cur, e1, q1, q2, q3, q4, q5, q6⟩
                  · have := hn3.1 e1
                    cases this.1
                  · rw [Nat.zero_add] at e1 q6
                    exact ⟨r, cr, cur, e1, q1, q2, by simpa using q6⟩
                have hrlt : r < W3.heap.size := (Array.getElem?_eq_some_iff.1 hr2).1
                have hrne : (Value.slice (some ⟨g, 0, none⟩) (p + 1) cap).ownBlock ≠ some r := fun h => by
                  have h2 : g = r := by injection h
                  omega
                have HNW : Hid (∀ W : World, W.heap[r]? = W3.heap[r]? → NewsAt W 7 (.slice (some ⟨r, 0, none⟩) (M.length - (p + 1)) cr) (M.length - (p + 1)) (elE.all (M.drop (p + 1)))) := Lib.hid fun W hW => newsAt_of hr2 hr3 hW haM
                clear ho3 hg3 hn3 hB3 hr2 hr3 HLIT HN1 HOWN2 hbx2 HB2
                go_wp2_with fail
                have hSd : (fun _ : World => True) W3.drew := trivial
                refine wp_region_held_drew (S := fun _ => True) (by kernel_rfl) hSd (fun hHeld => ?_)
                have hb4 := (Below.refl W3.heap.size W3).drew
                have HOWN4 := Lib.hid (HOWN3.out.below hb4 (Nat.le_refl _))
                have hbx4 := hbx3.kept hb4
                have HB4 := Lib.hid (HB3.out.trans (hb4.mono hbase3))
                have hbase4 := Nat.le_trans hbase3 hb4.size
                have hr4 : W3.drew.heap[r]? = W3.heap[r]? := rfl
                have hrlt4 : r < W3.drew.heap.size := hrlt
                generalize W3.drew = W4 at hHeld hbx4 HB4 hbase4 HOWN4 hr4 hrlt4 ⊢
                clear hb4 hbx3
                obtain ⟨b0, b1, b2, b3, b4, b5, b6⟩ := hbx4.cells
                refine wpAnyH_take (i := 0) (oi := ?_) (v := ?_) ?_ (by kernel_rfl) (by kernel_rfl) (by kernel_rfl) ?_ (Or.inl ⟨?_, ?_⟩) (by assumption) ?_
                rotate_left 2
                · (simp only [List.getElem?_toArray, List.getElem?_cons_zero]; rfl)
                · first | exact fun _ _ _ h => h | exact fun _ _ _ h => by cases h.1
                · rfl
                · ((intro wq hSq; (try dsimp only at hSq); go_simp); (try with_reducible rfl))
                try simp only [Act.put, List.setIfInBounds_toArray, List.set_cons_zero, List.set_cons_succ]
                refine wpAnyH_take (i := 1) (oi := ?_) (v := ?_) ?_ (by kernel_rfl) (by kernel_rfl) (by kernel_rfl) ?_ (Or.inl ⟨?_, ?_⟩) (by assumption) ?_
                rotate_left 2
                · (simp only [List.getElem?_toArray, List.getElem?_cons_succ, List.getElem?_cons_zero]; rfl)
                · first | exact fun _ _ _ h => h | exact fun _ _ _ h => by cases h.1
                · rfl
                · ((intro wq hSq; (try dsimp only at hSq); go_simp); (try with_reducible rfl))
                try simp only [Act.put, List.setIfInBounds_toArray, List.set_cons_zero, List.set_cons_succ]
                refine wpAnyH_take (i := 2) (oi := ?_) (v := ?_) ?_ (by kernel_rfl) (by kernel_rfl) (by kernel_rfl) ?_ (Or.inl ⟨?_, ?_⟩) (by assumption) ?_
                rotate_left 2
                · (simp only [List.getElem?_toArray, List.getElem?_cons_succ, List.getElem?_cons_zero]; rfl)
                · first | exact fun _ _ _ h => h | exact fun _ _ _ h => by cases h.1
                · rfl
                · ((intro wq hSq; (try dsimp only at hSq); go_simp); (try with_reducible rfl))
                try simp only [Act.put, List.setIfInBounds_toArray, List.set_cons_zero, List.set_cons_succ]
                refine wpAnyH_take (i := 6) (oi := ?_) (v := ?_) ?_ (by kernel_rfl) (by kernel_rfl) (by kernel_rfl) ?_ (Or.inl ⟨?_, ?_⟩) (by assumption) ?_
                rotate_left 2
                · (simp only [List.getElem?_toArray, List.getElem?_cons_succ, List.getElem?_cons_zero]; rfl)
                · first | exact fun _ _ _ h => h | exact fun _ _ _ h => by cases h.1
                · rfl
                · ((intro wq hSq; (try dsimp only at hSq); go_simp); (try with_reducible rfl))
                try simp only [Act.put, List.setIfInBounds_toArray, List.set_cons_zero, List.set_cons_succ]
                refine wpAnyH_ready (rs := [3]) (by kernel_rfl) (by simp) ?_
                refine AllReadyH.cons (o := ?_) ?_ (fun K hK => ?_) AllReadyH.nil
                rotate_left
                · (simp only [List.getElem?_toArray, List.getElem?_cons_succ, List.getElem?_cons_zero]; rfl)
                go_simp
                refine hK.out _ _ trivial (fun hHeld => ?_)
                clear hK K
                try simp only [Act.put, List.setIfInBounds_toArray, List.set_cons_zero, List.set_cons_succ]
                refine wpAnyH_ready (rs := [4]) (by kernel_rfl) (by simp) ?_
                refine AllReadyH.cons (o := ?_) ?_ (fun K hK => ?_) AllReadyH.nil
                rotate_left
                · (simp only [List.getElem?_toArray, List.getElem?_cons_succ, List.getElem?_cons_zero]; rfl)
                go_simp
                refine hK.out _ _ trivial (fun hHeld => ?_)
                clear hK K
                try simp only [Act.put, List.setIfInBounds_toArray, List.set_cons_zero, List.set_cons_succ]
                refine wpAnyH_ready (rs := [5]) (by kernel_rfl) (by simp) ?_
                refine AllReadyH.cons (o := ?_) ?_ (fun K hK => ?_) AllReadyH.nil
                rotate_left
                · (simp only [List.getElem?_toArray, List.getElem?_cons_succ, List.getElem?_cons_zero]; rfl)
                refine step_append_any rfl (.tmp 60) (.tmp 62) 41 rfl clTy w.heap.size (.slice (some ⟨g, 0, none⟩) (p + 1) cap) ((p + 1)) (elE.all (M.take (p + 1))) rfl (Own.headRow (HOWN4.out.alloc _) haM) (1) (El.cells e) _ rfl (NewsAt.new W4 (El.cells e).toArray 45 7 rfl rfl) (by unfold maxLen; omega) (by omega) (by rw [World.size_alloc]; omega) ?_
                intro v5 W5 ho5 hg5 _ _
                refine hK.out _ _ trivial (fun hHeld => ?_)
                clear hK K
                try simp only [Act.put, List.setIfInBounds_toArray, List.set_cons_zero, List.set_cons_succ]
                have hsz5 := hg5.size
                rw [World.size_alloc] at hsz5
                have hr5 : W5.heap[r]? = W3.heap[r]? := by
                  rw [hg5.block r (by rw [World.size_alloc]; omega) (fun e => hrne e.symm), ← hr4]
                  exact ((Below.refl _ W4).alloc (Nat.le_refl _) _).block r hrlt4
                have hB5 := HB4.out.trans (((Below.refl _ W4).alloc hbase4 _).trans (grown_below (base := w.heap.size) (Own.headRow (HOWN4.out.alloc _) haM) hg5 (Nat.le_refl _) (by rw [World.size_alloc]; omega)))
                refine wpAnyH_ready (rs := [7]) (by kernel_rfl) (by simp) ?_
                refine AllReadyH.cons (o := ?_) ?_ (fun K hK => ?_) AllReadyH.nil
                rotate_left
                · (simp only [List.getElem?_toArray, List.getElem?_cons_succ, List.getElem?_cons_zero]; rfl)
                refine step_append_any rfl (.tmp 63) (.tmp 64) 41 rfl clTy w.heap.size (v5) ((p + 1) + 1) (elE.all (M.take (p + 1)) ++ El.cells e) rfl (ho5) (M.length - (p + 1)) (elE.all (M.drop (p + 1))) _ rfl (HNW.out W5 hr5) (by unfold maxLen; omega) (by omega) (by omega) ?_
                intro v6 W6 ho6 hg6 _ _
                refine hK.out _ _ trivial (fun hHeld => ?_)
                clear hK K
                try simp only [Act.put, List.setIfInBounds_toArray, List.set_cons_zero, List.set_cons_succ]
                refine wpAnyH_take (i := 8) (oi := ?_) (v := ?_) ?_ (by kernel_rfl) (by kernel_rfl) (by kernel_rfl) ?_ (Or.inl ⟨?_, ?_⟩) (by assumption) ?_
                rotate_left 2
                · (simp only [List.getElem?_toArray, List.getElem?_cons_succ, List.getElem?_cons_zero]; rfl)
                · first | exact fun _ _ _ h => h | exact fun _ _ _ h => by cases h.1
                · rfl
                · ((intro wq hSq; (try dsimp only at hSq); go_simp); (try with_reducible rfl))
                try simp only [Act.put, List.setIfInBounds_toArray, List.set_cons_zero, List.set_cons_succ]
                have hB6 := hB5.trans (grown_below ho5 hg6 (Nat.le_refl _) (by omega))
                have HFIN : Hid (Own elE 45 w.heap.size W6 v6 (M.take (p + 1) ++ [e] ++ M.drop (p + 1)) ∧ Below w.heap.size w W6) := Lib.hid ⟨by
                  unfold Own
                  rw [elE.all_append, elE.all_append, show (M.take (p + 1) ++ [e] ++ M.drop (p + 1)).length = (p + 1) + 1 + (M.length - (p + 1)) by simp <;> omega]
                  have hs1 : elE.all [e] = El.cells e := by simp [Enc.all, elE]
                  rw [hs1]
                  exact ho6, hB6⟩
                refine wpAnyH_done (by kernel_rfl) ?_ _
                clear ho5 hg5 ho6 hg6 hB5 hB6 hr4 hr5 hsz5 HOWN4 HB4
                go_wp2_with fail
                go_roundw
                case rel => exact ⟨k + 1, M.take (p + 1) ++ [e] ++ M.drop (p + 1), by omega, by go_num, HFIN.out.1, HPM.out _ haM, srt_insert HSM.out haM (.inr ⟨f, by omega, by simpa using HF.out, HLE.out⟩) HUP.out, HFIN.out.2⟩
                case measure => simp [intOf]; omega
            · have HLE := Lib.hid hl
              clear hl
              go_wp2_with fail
              go_quiet (fail)
              rcases Decidable.em (cap = (p + 1)) with hca | hca
              · subst hca
                have hB2 := drewN_below HBQ.out nq
                generalize wr.drewN nq = W2 at hB2 ⊢
                have HOWN2 := Lib.hid (HOWN.out.below hB2 (Nat.le_refl _))
                have hbx2 := HBX.out.kept hB2
                have hbase2 := Nat.le_trans hbase hB2.size
                have hgW2 : g < W2.heap.size := Nat.lt_of_lt_of_le HROW.out.lt hB2.size
                have HB2 := Lib.hid (HBW.out.trans (hB2.mono hbase))
                clear hB2
                have haM : (p + 1) ≤ M.length := HA.out
                have hM60 : M.length ≤ 60 := by have := HML.out; omega
                have hac : (p + 1) ≤ (p + 1) := Nat.le_trans haM hcap1
                have q1 : (0 : Int) ≤ (p : Int) + 1 := by omega
                have HLIT := Lib.hid (World.ownsRow_lit (base := W2.heap.size) (e := 45) (size := 7) W2 #[] 0 (Nat.le_refl _) (by simp [maxLen]) rfl)
                have HN1 := Lib.hid ((HOWN2.out.alloc (.cells #[] 45)).tailEnd haM ⟨g, 0, none⟩ 0)
                go_wp2_with (first
                  | (at_builtin; refine wpList_app_any rfl _ _ 41 rfl clTy W2.heap.size _ 0 [] rfl HLIT.out (M.length - (p + 1)) (elE.all (M.drop (p + 1))) (by first | exact HN1.out | simpa using HN1.out | simpa [Enc.all] using HN1.out) (by unfold maxLen; omega) (by omega) (by simp) ?_; intro v7 W3 ho3 hg3 hn3 _)
                  | fail)
                have hMa : M.length = (p + 1) := by omega
                obtain ⟨r, hre⟩ : ∃ r, W2.heap.size = r := ⟨_, rfl⟩
                have hB3 : Below W2.heap.size W2 (W2.alloc (.cells #[] 45)) := (Below.refl _ W2).alloc (Nat.le_refl _) _
                have hrlt : r < (W2.alloc (.cells #[] 45)).heap.size := by rw [World.size_alloc]; omega
                try rw [hre]
                generalize W2.alloc (.cells #[] 45) = W3 at hB3 hrlt ⊢
                have HOWN3 := Lib.hid (HOWN2.out.below hB3 (Nat.le_refl _))
                have hbx3 := hbx2.kept hB3
                have HB3 := Lib.hid (HB2.out.trans (hB3.mono hbase2))
                have hbase3 := Nat.le_trans hbase2 hB3.size
                have hrne : (Value.slice (some ⟨g, 0, none⟩) (p + 1) (p + 1)).ownBlock ≠ some r := fun h => by
                  have h2 : g = r := by injection h
                  omega
                have HNW : Hid (∀ W : World, W.heap[r]? = W3.heap[r]? → NewsAt W 7 (.slice (some ⟨r, 0, none⟩) 0 0) (M.length - (p + 1)) (elE.all (M.drop (p + 1)))) := Lib.hid fun W _ => by
                  rw [show M.length - (p + 1) = 0 by omega, show M.drop (p + 1) = [] from List.drop_eq_nil_of_le (by omega)]
                  exact ⟨rfl, (fun u hu => by cases hu), .inl ⟨_, _, rfl, fun j u hu => by cases hu⟩⟩
                clear hB3 HLIT HN1 HOWN2 hbx2 HB2
                go_wp2_with fail
                have hSd : (fun _ : World => True) W3.drew := trivial
                refine wp_region_held_drew (S := fun _ => True) (by kernel_rfl) hSd (fun hHeld => ?_)
                have hb4 := (Below.refl W3.heap.size W3).drew
                have HOWN4 := Lib.hid (HOWN3.out.below hb4 (Nat.le_refl _))
                have hbx4 := hbx3.kept hb4
                have HB4 := Lib.hid (HB3.out.trans (hb4.mono hbase3))
                have hbase4 := Nat.le_trans hbase3 hb4.size
                have hr4 : W3.drew.heap[r]? = W3.heap[r]? := rfl
                have hrlt4 : r < W3.drew.heap.size := hrlt
                generalize W3.drew = W4 at hHeld hbx4 HB4 hbase4 HOWN4 hr4 hrlt4 ⊢
                clear hb4 hbx3
                obtain ⟨b0, b1, b2, b3, b4, b5, b6⟩ := hbx4.cells
                refine wpAnyH_take (i := 0) (oi := ?_) (v := ?_) ?_ (by kernel_rfl) (by kernel_rfl) (by kernel_rfl) ?_ (Or.inl ⟨?_, ?_⟩) (by assumption) ?_
                rotate_left 2
                · (simp only [List.getElem?_toArray, List.getElem?_cons_zero]; rfl)
                · first | exact fun _ _ _ h => h | exact fun _ _ _ h => by cases h.1
                · rfl
                · ((intro wq hSq; (try dsimp only at hSq); go_simp); (try with_reducible rfl))
                try simp only [Act.put, List.setIfInBounds_toArray, List.set_cons_zero, List.set_cons_succ]
                refine wpAnyH_take (i := 1) (oi := ?_) (v := ?_) ?_ (by kernel_rfl) (by kernel_rfl) (by kernel_rfl) ?_ (Or.inl ⟨?_, ?_⟩) (by assumption) ?_
                rotate_left 2
                · (simp only [List.getElem?_toArray, List.getElem?_cons_succ, List.getElem?_cons_zero]; rfl)
                · first | exact fun _ _ _ h => h | exact fun _ _ _ h => by cases h.1
                · rfl
                · ((intro wq hSq; (try dsimp only at hSq); go_simp); (try with_reducible rfl))
                try simp only [Act.put, List.setIfInBounds_toArray, List.set_cons_zero, List.set_cons_succ]
                refine wpAnyH_take (i := 2) (oi := ?_) (v := ?_) ?_ (by kernel_rfl) (by kernel_rfl) (by kernel_rfl) ?_ (Or.inl ⟨?_, ?_⟩) (by assumption) ?_
                rotate_left 2
                · (simp only [List.getElem?_toArray, List.getElem?_cons_succ, List.getElem?_cons_zero]; rfl)
                · first | exact fun _ _ _ h => h | exact fun _ _ _ h => by cases h.1
                · rfl
                · ((intro wq hSq; (try dsimp only at hSq); go_simp); (try with_reducible rfl))
                try simp only [Act.put, List.setIfInBounds_toArray, List.set_cons_zero, List.set_cons_succ]
                refine wpAnyH_take (i := 6) (oi := ?_) (v := ?_) ?_ (by kernel_rfl) (by kernel_rfl) (by kernel_rfl) ?_ (Or.inl ⟨?_, ?_⟩) (by assumption) ?_
                rotate_left 2
                · (simp only [List.getElem?_toArray, List.getElem?_cons_succ, List.getElem?_cons_zero]; rfl)
                · first | exact fun _ _ _ h => h | exact fun _ _ _ h => by cases h.1
                · rfl
                · ((intro wq hSq; (try dsimp only at hSq); go_simp); (try with_reducible rfl))
                try simp only [Act.put, List.setIfInBounds_toArray, List.set_cons_zero, List.set_cons_succ]
                refine wpAnyH_ready (rs := [3]) (by kernel_rfl) (by simp) ?_
                refine AllReadyH.cons (o := ?_) ?_ (fun K hK => ?_) AllReadyH.nil
                rotate_left
                · (simp only [List.getElem?_toArray, List.getElem?_cons_succ, List.getElem?_cons_zero]; rfl)
                go_simp
                refine hK.out _ _ trivial (fun hHeld => ?_)
                clear hK K
                try simp only [Act.put, List.setIfInBounds_toArray, List.set_cons_zero, List.set_cons_succ]
                refine wpAnyH_ready (rs := [4]) (by kernel_rfl) (by simp) ?_
                refine AllReadyH.cons (o := ?_) ?_ (fun K hK => ?_) AllReadyH.nil
                rotate_left
                · (simp only [List.getElem?_toArray, List.getElem?_cons_succ, List.getElem?_cons_zero]; rfl)
                go_simp
                refine hK.out _ _ trivial (fun hHeld => ?_)
                clear hK K
                try simp only [Act.put, List.setIfInBounds_toArray, List.set_cons_zero, List.set_cons_succ]
                refine wpAnyH_ready (rs := [5]) (by kernel_rfl) (by simp) ?_
                refine AllReadyH.cons (o := ?_) ?_ (fun K hK => ?_) AllReadyH.nil
                rotate_left
                · (simp only [List.getElem?_toArray, List.getElem?_cons_succ, List.getElem?_cons_zero]; rfl)
                refine step_append_any rfl (.tmp 60) (.tmp 62) 41 rfl clTy w.heap.size (.slice (some ⟨g, 0, none⟩) (p + 1) (p + 1)) ((p + 1)) (elE.all (M.take (p + 1))) rfl (Own.headRow (HOWN4.out.alloc _) haM) (1) (El.cells e) _ rfl (NewsAt.new W4 (El.cells e).toArray 45 7 rfl rfl) (by unfold maxLen; omega) (by omega) (by rw [World.size_alloc]; omega) ?_
                intro v5 W5 ho5 hg5 _ _
                refine hK.out _ _ trivial (fun hHeld => ?_)
                clear hK K
                try simp only [Act.put, List.setIfInBounds_toArray, List.set_cons_zero, List.set_cons_succ]
                have hsz5 := hg5.size
                rw [World.size_alloc] at hsz5
                have hr5 : W5.heap[r]? = W3.heap[r]? := by
                  rw [hg5.block r (by rw [World.size_alloc]; omega) (fun e => hrne e.symm), ← hr4]
                  exact ((Below.refl _ W4).alloc (Nat.le_refl _) _).block r hrlt4
                have hB5 := HB4.out.trans (((Below.refl _ W4).alloc hbase4 _).trans (grown_below (base := w.heap.size) (Own.headRow (HOWN4.out.alloc _) haM) hg5 (Nat.le_refl _) (by rw [World.size_alloc]; omega)))
                refine wpAnyH_ready (rs := [7]) (by kernel_rfl) (by simp) ?_
                refine AllReadyH.cons (o := ?_) ?_ (fun K hK => ?_) AllReadyH.nil
                rotate_left
                · (simp only [List.getElem?_toArray, List.getElem?_cons_succ, List.getElem?_cons_zero]; rfl)
                refine step_append_any rfl (.tmp 63) (.tmp 64) 41 rfl clTy w.heap.size (v5) ((p + 1) + 1) (elE.all (M.take (p + 1)) ++ El.cells e) rfl (ho5) (M.length - (p + 1)) (elE.all (M.drop (p + 1))) _ rfl (HNW.out W5 hr5) (by unfold maxLen; omega) (by omega) (by omega) ?_
                intro v6 W6 ho6 hg6 _ _
                refine hK.out _ _ trivial (fun hHeld => ?_)
                clear hK K
                try simp only [Act.put, List.setIfInBounds_toArray, List.set_cons_zero, List.set_cons_succ]
                refine wpAnyH_take (i := 8) (oi := ?_) (v := ?_) ?_ (by kernel_rfl) (by kernel_rfl) (by kernel_rfl) ?_ (Or.inl ⟨?_, ?_⟩) (by assumption) ?_
                rotate_left 2
                · (simp only [List.getElem?_toArray, List.getElem?_cons_succ, List.getElem?_cons_zero]; rfl)
                · first | exact fun _ _ _ h => h | exact fun _ _ _ h => by cases h.1
                · rfl
                · ((intro wq hSq; (try dsimp only at hSq); go_simp); (try with_reducible rfl))
                try simp only [Act.put, List.setIfInBounds_toArray, List.set_cons_zero, List.set_cons_succ]
                have hB6 := hB5.trans (grown_below ho5 hg6 (Nat.le_refl _) (by omega))
                have HFIN : Hid (Own elE 45 w.heap.size W6 v6 (M.take (p + 1) ++ [e] ++ M.drop (p + 1)) ∧ Below w.heap.size w W6) := Lib.hid ⟨by
                  unfold Own
                  rw [elE.all_append, elE.all_append, show (M.take (p + 1) ++ [e] ++ M.drop (p + 1)).length = (p + 1) + 1 + (M.length - (p + 1)) by simp <;> omega]
                  have hs1 : elE.all [e] = El.cells e := by simp [Enc.all, elE]
                  rw [hs1]
                  exact ho6, hB6⟩
                refine wpAnyH_done (by kernel_rfl) ?_ _
                clear ho5 hg5 ho6 hg6 hB5 hB6 hr4 hr5 hsz5 HOWN4 HB4
                go_wp2_with fail
                go_roundw
                case rel => exact ⟨k + 1, M.take (p + 1) ++ [e] ++ M.drop (p + 1), by omega, by go_num, HFIN.out.1, HPM.out _ haM, srt_insert HSM.out haM (.inr ⟨f, by omega, by simpa using HF.out, HLE.out⟩) HUP.out, HFIN.out.2⟩
                case measure => simp [intOf]; omega
              · have hB2 := drewN_below HBQ.out nq
                generalize wr.drewN nq = W2 at hB2 ⊢
                have HOWN2 := Lib.hid (HOWN.out.below hB2 (Nat.le_refl _))
                have hbx2 := HBX.out.kept hB2
                have hbase2 := Nat.le_trans hbase hB2.size
                have hgW2 : g < W2.heap.size := Nat.lt_of_lt_of_le HROW.out.lt hB2.size
                have HB2 := Lib.hid (HBW.out.trans (hB2.mono hbase))
                clear hB2
                have haM : (p + 1) ≤ M.length := HA.out
                have hM60 : M.length ≤ 60 := by have := HML.out; omega
                have hac : (p + 1) ≤ cap := Nat.le_trans haM hcap1
                have q1 : (0 : Int) ≤ (p : Int) + 1 := by omega
                have q2 : (p : Int) + 1 ≤ (cap : Int) := by omega
                have HLIT := Lib.hid (World.ownsRow_lit (base := W2.heap.size) (e := 45) (size := 7) W2 #[] 0 (Nat.le_refl _) (by simp [maxLen]) rfl)
                have HN1 := Lib.hid ((HOWN2.out.alloc (.cells #[] 45)).tailAny haM)
                go_wp2_with (first
                  | (at_builtin; refine wpList_app_any rfl _ _ 41 rfl clTy W2.heap.size _ 0 [] rfl HLIT.out (M.length - (p + 1)) (elE.all (M.drop (p + 1))) (by first | exact HN1.out | simpa using HN1.out | simpa [Enc.all] using HN1.out) (by unfold maxLen; omega) (by omega) (by simp) ?_; intro v7 W3 ho3 hg3 hn3 _)
                  | fail)
                have hB3 : Below W2.heap.size W2 W3 := ((Below.refl _ W2).alloc (Nat.le_refl _) _).trans (grown_below HLIT.out hg3 (Nat.le_refl _) (by simp))
                have HOWN3 := Lib.hid (HOWN2.out.below hB3 (Nat.le_refl _))
                have hbx3 := hbx2.kept hB3
                have HB3 := Lib.hid (HB2.out.trans (hB3.mono hbase2))
                have hbase3 := Nat.le_trans hbase2 hB3.size
                obtain ⟨r, cr, cur, rfl, hr1, hr2, hr3⟩ : ∃ r cr cur, v7 = .slice (some ⟨r, 0, none⟩) (M.length - (p + 1)) cr ∧ W2.heap.size ≤ r ∧ W3.heap[r]? = some (.cells cur 45 (0, 0)) ∧ cur.toList.take ((M.length - (p + 1)) * 7) = elE.all (M.drop (p + 1)) := by
                  rcases ho3.2 with ⟨e1, _⟩ | ⟨r, cr, cur, e1, q1, q2, q3, q4, q5, q6⟩
                  · have := hn3.1 e1
                    cases this.1
                  · rw [Nat.zero_add] at e1 q6
                    exact ⟨r, cr, cur, e1, q1, q2, by simpa using q6⟩
                have hrlt : r < W3.heap.size := (Array.getElem?_eq_some_iff.1 hr2).1
                have hrne : (Value.slice (some ⟨g, 0, none⟩) (p + 1) cap).ownBlock ≠ some r := fun h => by
                  have h2 : g = r := by injection h
                  omega
                have HNW : Hid (∀ W : World, W.heap[r]? = W3.heap[r]? → NewsAt W 7 (.slice (some ⟨r, 0, none⟩) (M.length - (p + 1)) cr) (M.length - (p + 1)) (elE.all (M.drop (p + 1)))) := Lib.hid fun W hW => newsAt_of hr2 hr3 hW haM
                clear ho3 hg3 hn3 hB3 hr2 hr3 HLIT HN1 HOWN2 hbx2 HB2
                go_wp2_with fail
                have hSd : (fun _ : World => True) W3.drew := trivial
                refine wp_region_held_drew (S := fun _ => True) (by kernel_rfl) hSd (fun hHeld => ?_)
                have hb4 := (Below.refl W3.heap.size W3).drew
                have HOWN4 := Lib.hid (HOWN3.out.below hb4 (Nat.le_refl _))
                have hbx4 := hbx3.kept hb4
                have HB4 := Lib.hid (HB3.out.trans (hb4.mono hbase3))
                have hbase4 := Nat.le_trans hbase3 hb4.size
                have hr4 : W3.drew.heap[r]? = W3.heap[r]? := rfl
                have hrlt4 : r < W3.drew.heap.size := hrlt
                generalize W3.drew = W4 at hHeld hbx4 HB4 hbase4 HOWN4 hr4 hrlt4 ⊢
                clear hb4 hbx3
                obtain ⟨b0, b1, b2, b3, b4, b5, b6⟩ := hbx4.cells
                refine wpAnyH_take (i := 0) (oi := ?_) (v := ?_) ?_ (by kernel_rfl) (by kernel_rfl) (by kernel_rfl) ?_ (Or.inl ⟨?_, ?_⟩) (by assumption) ?_
                rotate_left 2
                · (simp only [List.getElem?_toArray, List.getElem?_cons_zero]; rfl)
                · first | exact fun _ _ _ h => h | exact fun _ _ _ h => by cases h.1
                · rfl
                · ((intro wq hSq; (try dsimp only at hSq); go_simp); (try with_reducible rfl))
                try simp only [Act.put, List.setIfInBounds_toArray, List.set_cons_zero, List.set_cons_succ]
                refine wpAnyH_take (i := 1) (oi := ?_) (v := ?_) ?_ (by kernel_rfl) (by kernel_rfl) (by kernel_rfl) ?_ (Or.inl ⟨?_, ?_⟩) (by assumption) ?_
                rotate_left 2
                · (simp only [List.getElem?_toArray, List.getElem?_cons_succ, List.getElem?_cons_zero]; rfl)
                · first | exact fun _ _ _ h => h | exact fun _ _ _ h => by cases h.1
                · rfl
                · ((intro wq hSq; (try dsimp only at hSq); go_simp); (try with_reducible rfl))
                try simp only [Act.put, List.setIfInBounds_toArray, List.set_cons_zero, List.set_cons_succ]
                refine wpAnyH_take (i := 2) (oi := ?_) (v := ?_) ?_ (by kernel_rfl) (by kernel_rfl) (by kernel_rfl) ?_ (Or.inl ⟨?_, ?_⟩) (by assumption) ?_
                rotate_left 2
                · (simp only [List.getElem?_toArray, List.getElem?_cons_succ, List.getElem?_cons_zero]; rfl)
                · first | exact fun _ _ _ h => h | exact fun _ _ _ h => by cases h.1
                · rfl
                · ((intro wq hSq; (try dsimp only at hSq); go_simp); (try with_reducible rfl))
                try simp only [Act.put, List.setIfInBounds_toArray, List.set_cons_zero, List.set_cons_succ]
                refine wpAnyH_take (i := 6) (oi := ?_) (v := ?_) ?_ (by kernel_rfl) (by kernel_rfl) (by kernel_rfl) ?_ (Or.inl ⟨?_, ?_⟩) (by assumption) ?_
                rotate_left 2
                · (simp only [List.getElem?_toArray, List.getElem?_cons_succ, List.getElem?_cons_zero]; rfl)
                · first | exact fun _ _ _ h => h | exact fun _ _ _ h => by cases h.1
                · rfl
                · ((intro wq hSq; (try dsimp only at hSq); go_simp); (try with_reducible rfl))
                try simp only [Act.put, List.setIfInBounds_toArray, List.set_cons_zero, List.set_cons_succ]
                refine wpAnyH_ready (rs := [3]) (by kernel_rfl) (by simp) ?_
                refine AllReadyH.cons (o := ?_) ?_ (fun K hK => ?_) AllReadyH.nil
                rotate_left
                · (simp only [List.getElem?_toArray, List.getElem?_cons_succ, List.getElem?_cons_zero]; rfl)
                go_simp
                refine hK.out _ _ trivial (fun hHeld => ?_)
                clear hK K
                try simp only [Act.put, List.setIfInBounds_toArray, List.set_cons_zero, List.set_cons_succ]
                refine wpAnyH_ready (rs := [4]) (by kernel_rfl) (by simp) ?_
                refine AllReadyH.cons (o := ?_) ?_ (fun K hK => ?_) AllReadyH.nil
                rotate_left
                · (simp only [List.getElem?_toArray, List.getElem?_cons_succ, List.getElem?_cons_zero]; rfl)
                go_simp
                refine hK.out _ _ trivial (fun hHeld => ?_)
                clear hK K
                try simp only [Act.put, List.setIfInBounds_toArray, List.set_cons_zero, List.set_cons_succ]
                refine wpAnyH_ready (rs := [5]) (by kernel_rfl) (by simp) ?_
                refine AllReadyH.cons (o := ?_) ?_ (fun K hK => ?_) AllReadyH.nil
                rotate_left
                · (simp only [List.getElem?_toArray, List.getElem?_cons_succ, List.getElem?_cons_zero]; rfl)
                refine step_append_any rfl (.tmp 60) (.tmp 62) 41 rfl clTy w.heap.size (.slice (some ⟨g, 0, none⟩) (p + 1) cap) ((p + 1)) (elE.all (M.take (p + 1))) rfl (Own.headRow (HOWN4.out.alloc _) haM) (1) (El.cells e) _ rfl (NewsAt.new W4 (El.cells e).toArray 45 7 rfl rfl) (by unfold maxLen; omega) (by omega) (by rw [World.size_alloc]; omega) ?_
                intro v5 W5 ho5 hg5 _ _
                refine hK.out _ _ trivial (fun hHeld => ?_)
                clear hK K
                try simp only [Act.put, List.setIfInBounds_toArray, List.set_cons_zero, List.set_cons_succ]
                have hsz5 := hg5.size
                rw [World.size_alloc] at hsz5
                have hr5 : W5.heap[r]? = W3.heap[r]? := by
                  rw [hg5.block r (by rw [World.size_alloc]; omega) (fun e => hrne e.symm), ← hr4]
                  exact ((Below.refl _ W4).alloc (Nat.le_refl _) _).block r hrlt4
                have hB5 := HB4.out.trans (((Below.refl _ W4).alloc hbase4 _).trans (grown_below (base := w.heap.size) (Own.headRow (HOWN4.out.alloc _) haM) hg5 (Nat.le_refl _) (by rw [World.size_alloc]; omega)))
                refine wpAnyH_ready (rs := [7]) (by kernel_rfl) (by simp) ?_
                refine AllReadyH.cons (o := ?_) ?_ (fun K hK => ?_) AllReadyH.nil
                rotate_left
                · (simp only [List.getElem?_toArray, List.getElem?_cons_succ, List.getElem?_cons_zero]; rfl)
                refine step_append_any rfl (.tmp 63) (.tmp 64) 41 rfl clTy w.heap.size (v5) ((p + 1) + 1) (elE.all (M.take (p + 1)) ++ El.cells e) rfl (ho5) (M.length - (p + 1)) (elE.all (M.drop (p + 1))) _ rfl (HNW.out W5 hr5) (by unfold maxLen; omega) (by omega) (by omega) ?_
                intro v6 W6 ho6 hg6 _ _
                refine hK.out _ _ trivial (fun hHeld => ?_)
                clear hK K
                try simp only [Act.put, List.setIfInBounds_toArray, List.set_cons_zero, List.set_cons_succ]
                refine wpAnyH_take (i := 8) (oi := ?_) (v := ?_) ?_ (by kernel_rfl) (by kernel_rfl) (by kernel_rfl) ?_ (Or.inl ⟨?_, ?_⟩) (by assumption) ?_
                rotate_left 2
                · (simp only [List.getElem?_toArray, List.getElem?_cons_succ, List.getElem?_cons_zero]; rfl)
                · first | exact fun _ _ _ h => h | exact fun _ _ _ h => by cases h.1
                · rfl
                · ((intro wq hSq; (try dsimp only at hSq); go_simp); (try with_reducible rfl))
                try simp only [Act.put, List.setIfInBounds_toArray, List.set_cons_zero, List.set_cons_succ]
                have hB6 := hB5.trans (grown_below ho5 hg6 (Nat.le_refl _) (by omega))
                have HFIN : Hid (Own elE 45 w.heap.size W6 v6 (M.take (p + 1) ++ [e] ++ M.drop (p + 1)) ∧ Below w.heap.size w W6) := Lib.hid ⟨by
                  unfold Own
                  rw [elE.all_append, elE.all_append, show (M.take (p + 1) ++ [e] ++ M.drop (p + 1)).length = (p + 1) + 1 + (M.length - (p + 1)) by simp <;> omega]
                  have hs1 : elE.all [e] = El.cells e := by simp [Enc.all, elE]
                  rw [hs1]
                  exact ho6, hB6⟩
                refine wpAnyH_done (by kernel_rfl) ?_ _
                clear ho5 hg5 ho6 hg6 hB5 hB6 hr4 hr5 hsz5 HOWN4 HB4
                go_wp2_with fail
                go_roundw
                case rel => exact ⟨k + 1, M.take (p + 1) ++ [e] ++ M.drop (p + 1), by omega, by go_num, HFIN.out.1, HPM.out _ haM, srt_insert HSM.out haM (.inr ⟨f, by omega, by simpa using HF.out, HLE.out⟩) HUP.out, HFIN.out.2⟩
                case measure => simp [intOf]; omega
    · have ht : L0.take k = L0 := take_all hlt
      rw [ht] at hpm
      go_wp2_with fail
      go_ret
      exact ⟨_, M, rfl, hown, hpm, hsm, hb⟩

end Go.Proofs.YtkcdmonmgnmojaaDoor
