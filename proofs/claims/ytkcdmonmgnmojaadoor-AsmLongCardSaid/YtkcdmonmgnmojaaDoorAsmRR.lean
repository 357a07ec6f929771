/- The reference's Read: the instruction whose line it is. -/
import Derived.Test.YtkcdmonmgnmojaaDoorAsmRP
import Derived.Test.YtkcdmonmgnmojaaDoorAsmV5
import Derived.Test.YtkcdmonmgnmojaaDoorAsmD9
import Derived.Test.YtkcdmonmgnmojaaDoorRSplit
import Derived.Test.YtkcdmonmgnmojaaDoorAsmG
import Derived.Test.YtkcdmonmgnmojaaDoorAsmW
namespace Go.Proofs.YtkcdmonmgnmojaaDoor
open Go.RowKit

theorem pcs_le9 (c : UInt8) (l : List UInt8) : ∀ x ∈ pcs c l, x.length ≤ l.length := by
  induction l with
  | nil => intro x hx; simp [pcs] at hx; simp [hx]
  | cons a l ih =>
    intro x hx
    have hh : ((pcs c l).headD []).length ≤ l.length := by
      cases h : pcs c l with
      | nil => simp
      | cons y r => exact ih y (by rw [h]; simp)
    unfold pcs at hx
    split at hx
    · rcases List.mem_cons.1 hx with rfl | hx
      · simp
      · have := ih x hx
        rw [List.length_cons]; omega
    · rcases List.mem_cons.1 hx with rfl | hx
      · simp only [List.length_cons]; omega
      · have := ih x (List.mem_of_mem_tail hx)
        rw [List.length_cons]; omega

def ABox (W : World) (B : Nat) (n1 n2 n3 n4 : Int) : Prop := W.heap[B]? = some (.cells #[.int .u32 0, .int .u32 n1, .int .u32 n2, .int .u32 n3, .int .u32 n4] 72 (0, 0))
section
variable {W W' : World} {B N : Nat} {n1 n2 n3 n4 : Int}
theorem ABox.lt (h : ABox W B n1 n2 n3 n4) : B < W.heap.size := (Array.getElem?_eq_some_iff.1 h).1
theorem ABox.cells (h : ABox W B n1 n2 n3 n4) : W.cell? ⟨B, 0, none⟩ = some (.int .u32 0) ∧ W.cell? ⟨B, 1, none⟩ = some (.int .u32 n1) ∧ W.cell? ⟨B, 2, none⟩ = some (.int .u32 n2) ∧ W.cell? ⟨B, 3, none⟩ = some (.int .u32 n3) ∧ W.cell? ⟨B, 4, none⟩ = some (.int .u32 n4) := by
  refine ⟨?_, ?_, ?_, ?_, ?_⟩ <;> simp [World.cell?, show W.heap[B]? = _ from h]
theorem ABox.frozen (h : ABox W B n1 n2 n3 n4) (j : Nat) : W.frozen? ⟨B, j, none⟩ = false := by simp [World.frozen?, show W.heap[B]? = _ from h]
theorem ABox.kept (h : ABox W B n1 n2 n3 n4) (hb : Below W.heap.size W W') : ABox W' B n1 n2 n3 n4 := (hb.block B h.lt).trans h
theorem ABox.set (h : ABox W B n1 n2 n3 n4) (j : Nat) (v : Value) : (W.setCell ⟨B, j, none⟩ v).heap[B]? = some (.cells ((#[.int .u32 0, .int .u32 n1, .int .u32 n2, .int .u32 n3, .int .u32 n4] : Array Value).setIfInBounds j v) 72 (0, 0)) := by
  have h0 : W.heap[B]? = some (.cells #[.int .u32 0, .int .u32 n1, .int .u32 n2, .int .u32 n3, .int .u32 n4] 72 (0, 0)) := h
  rw [setCell_eq_setRow W B j _ _ _ _ h0]
  exact setRow_heap _ B _ _ _ _ h0
theorem ABox.set1 (h : ABox W B n1 n2 n3 n4) (v : Int) : ABox (W.setCell ⟨B, 1, none⟩ (.int .u32 v)) B v n2 n3 n4 := h.set 1 _
theorem ABox.set2 (h : ABox W B n1 n2 n3 n4) (v : Int) : ABox (W.setCell ⟨B, 2, none⟩ (.int .u32 v)) B n1 v n3 n4 := h.set 2 _
theorem ABox.set3 (h : ABox W B n1 n2 n3 n4) (v : Int) : ABox (W.setCell ⟨B, 3, none⟩ (.int .u32 v)) B n1 n2 v n4 := h.set 3 _
theorem ABox.set4 (h : ABox W B n1 n2 n3 n4) (v : Int) : ABox (W.setCell ⟨B, 4, none⟩ (.int .u32 v)) B n1 n2 n3 v := h.set 4 _
end
theorem res_rread (tmps : Array Value) (w : World) {b : Nat} {e : Ins} {x : Bool} (ha : tmps[2]?.getD undef = .pointer (some ⟨b, 0, none⟩)) (hx : tmps[3]?.getD undef = .bool x) (hbox : InBox w b e) :
    (results Tryd.f14 tmps).run Tryd.prog w = .ok (.tuple #[insV e, .bool x]) w := by
  obtain ⟨h0, h1, h2, h3, h4⟩ := hbox.cells
  simp [results, ha, hx, h0, h1, h2, h3, h4, go_sem, insV]
theorem wordsB_get {j : Nat} (hj : j < 22) : wordsB[j]? = some (wordB (j : Int)) := by
  unfold wordsB wordB shOf
  rw [List.getElem?_map, List.getD_eq_getElem?_getD, show ((j : Int)).toNat = j by omega, List.getElem?_eq_getElem (show j < shs.length from hj)]
  rfl
theorem rd9 (X : ByteArray) (l : List UInt8) (W : World) (h : X.data.toList = l) (hs : X.size ≤ 1000000) : Calls Tryd.prog 44 #[.string X] W fun e w' => e = .returned (.int .u32 (rnum l)) ∧ Below W.heap.size W w' := by
  subst h
  exact rdigits9_any X W hs

set_option maxRecDepth 100000 in
set_option maxHeartbeats 8000000 in
theorem aread9_any (s : ByteArray) (w : World) (hs : s.size ≤ 1000000) :
    Calls Tryd.prog 14 #[.string s] w fun r W' => r = .returned (.tuple #[insV (readX s.data.toList), .bool (readOk s.data.toList)]) ∧ Below w.heap.size w W' := by
  obtain ⟨l, hl⟩ : ∃ l, s.data.toList = l := ⟨_, rfl⟩
  have hst : s.toList = l := by rw [ByteArray.toList_eq, hl]
  have hlen : l.length = s.size := by rw [← hl]; exact Array.length_toList
  have hsp := fun W => rsplit_cells s 32 32 W rfl hs
  have hmiss := @rr_miss l
  have hhit := @rr_hit l
  have hpl : ∀ p ∈ pcs 32 l, p.length ≤ 1000000 := fun p hp => by have := pcs_le9 32 l p hp; omega
  have hpn : (pcs 32 l).length ≤ 1000001 := by have := pcs_len 32 l; omega
  have hne := pcs_ne 32 l
  rw [hl] at hsp ⊢
  obtain ⟨ps, hps⟩ : ∃ ps, pcs 32 l = ps := ⟨_, rfl⟩
  rw [hps] at hsp hmiss hhit hpl hpn hne
  obtain ⟨p0, hp0⟩ := get_some (List.length_pos_iff.2 hne)
  have hp0d : ps.getD 0 [] = p0 := by rw [List.getD_eq_getElem?_getD, hp0]; rfl
  have hl0 : 0 < ps.length := get_lt hp0
  have hl1 : (0 : Int) < (ps.length : Int) := by omega
  have hr0 := InBox.new w Ins.zero
  have hsp' := Lib.hid hsp
  have hmiss' := Lib.hid (fun h => @hmiss p0 hp0d h)
  have hhit' := Lib.hid (fun (j : Nat) (e : Ins) (h1 : j < 22) (h2 : ((shOf j).w == p0) = true) (h3 : (C j ps).find? (fitsS l) = some e) => @hhit p0 j e h1 hp0d h2 h3)
  have hpl' := Lib.hid hpl
  have hst' := Lib.hid hst
  have hr0' := Lib.hid hr0
  have hp0' := Lib.hid hp0
  clear hsp hmiss hhit hpl hst hr0 hps hne hp0d hl hlen hp0
  go_enter Tryd.func14, Tryd.ntmps14
  go_wp2_with fail
  refine (hsp'.out _).mono ?_
  rintro e w1 ⟨b, cp, rfl, hc, ⟨hcp, hcm⟩, hb1⟩
  have hr1 := hr0'.out.kept hb1
  have hB1 := ((Below.refl _ w).alloc (Nat.le_refl _) (.cells #[.int .i64 0, .int .i64 0, .int .i64 0, .int .i64 0, .int .u32 0] 24)).trans (hb1.mono (by simp))
  have hc1 : ∀ (W : World), Below w1.heap.size w1 W → ∀ (j : Nat) x, ps[j]? = some x → W.cell? ⟨b, j, none⟩ = some (.string ⟨x.toArray⟩) := fun W hW j x hx => (hW.cell (p := ⟨b, j, none⟩) (cell_lt (hc j x hx))).trans (hc j x hx)
  have hbl : b < w1.heap.size := cell_lt (hc 0 p0 hp0'.out)
  have hnl : w.heap.size < w1.heap.size := hr1.lt
  have hc' := Lib.hid hc1
  have hr1' := Lib.hid hr1
  have hB1' := Lib.hid hB1
  have hA0 : ABox (w1.alloc (.cells #[.int .u32 0, .int .u32 0, .int .u32 0, .int .u32 0, .int .u32 0] 72)) w1.heap.size (upto ps 1 1) (upto ps 1 2) (upto ps 1 3) (upto ps 1 4) := heap_alloc_new w1 _
  have hAl := (Below.refl w1.heap.size w1).alloc (Nat.le_refl _) (.cells #[.int .u32 0, .int .u32 0, .int .u32 0, .int .u32 0, .int .u32 0] 72)
  clear hc hc1 hr1 hB1 hb1
  go_wp2_with fail
  go_loopw [6, 7] (fun kv _ wr => ∃ k : Nat, 1 ≤ k ∧ k ≤ 5 ∧ k ≤ ps.length ∧ kv = .int .i64 k ∧ ABox wr w1.heap.size (upto ps k 1) (upto ps k 2) (upto ps k 3) (upto ps k 4) ∧ Below w1.heap.size w1 wr) (fun kv _ _ => 5 - (intOf kv).toNat)
  case atStart => exact ⟨1, Nat.le_refl _, by omega, by omega, rfl, hA0, hAl⟩
  case round =>
    obtain ⟨k, hk1, hk5, hkl, rfl, hab, hbr⟩ := hrel
    by_cases hgo : k < ps.length ∧ k < 5
    · obtain ⟨hlt, hlt5⟩ := hgo
      obtain ⟨p, hp⟩ := get_some hlt
      have hpz := hpl'.out p (List.mem_of_getElem? hp)
      have hcell := hc'.out _ hbr k p hp
      have t1 : decide ((k : Int) < (ps.length : Int)) = true := by rw [decide_eq_true_iff]; omega
      have t2 : decide ((k : Int) < 5) = true := by rw [decide_eq_true_iff]; omega
      have hnw := Lib.hid (upto_new ps k hp)
      have hsm := Lib.hid (upto_same ps k)
      have hps : (⟨p.toArray⟩ : ByteArray).size = p.length := by simp [ByteArray.size]
      have hpd : (⟨p.toArray⟩ : ByteArray).data.toList = p := rfl
      obtain ⟨P, hP⟩ : ∃ P, (⟨p.toArray⟩ : ByteArray) = P := ⟨_, rfl⟩
      rw [hP] at hcell hps hpd
      have hptl : P.toList = p := by rw [ByteArray.toList_eq, hpd]
      have hk4 : k = 1 ∨ k = 2 ∨ k = 3 ∨ k = 4 := by omega
      clear hp hP
      rcases hk4 with rfl | rfl | rfl | rfl
      · rcases p with _ | ⟨x, r⟩
        · have x0 : P.toList.isEmpty = true := by rw [hptl]; rfl
          have hdr := Lib.hid (show dropRO ([] : List UInt8) = [] from rfl)
          have hPs : P.size ≤ 1000000 := by rw [hps]; simp
          clear hptl hps
          go_wp2_with fail
          refine (rd9 P [] _ hpd (by exact hPs)).mono ?_
          rintro e w2 ⟨rfl, hb2⟩
          have hab2 := hab.kept hb2
          obtain ⟨c0, c1, c2, c3, c4⟩ := hab2.cells
          have f1 := hab2.frozen 1
          go_wp2_with fail
          go_roundw
          case rel =>
            refine ⟨2, by omega, by omega, by omega, by go_num, ?_, below_set (hbr.trans (hb2.mono hbr.size)) _ _ (Nat.le_refl _) _⟩
            have hz := hab2.set1 (rnum [])
            have e1 := hnw.out
            have e2 := hsm.out 2 (by omega)
            have e3 := hsm.out 3 (by omega)
            have e4 := hsm.out 4 (by omega)
            rw [e1, e2, e3, e4]
            rw [hdr.out]
            exact hz
          case measure => simp [intOf]
        · have x0 : P.toList.isEmpty = false := by rw [hptl]; rfl
          have hP0 : 0 < P.size := by rw [hps]; simp
          obtain ⟨y, hy⟩ : ∃ y, P[0]'hP0 = y := ⟨_, rfl⟩
          have hyx : y = x := by
            have h1 : P.data.toList[0]? = some y := by rw [← hy, List.getElem?_eq_getElem (by rw [show P.data.toList.length = P.size from Array.length_toList]; exact hP0)]; rfl
            rw [hpd] at h1
            simpa using h1.symm
          subst hyx
          clear hptl
          have hex : (P.extract 1 P.size).data.toList = r := by rw [ext_drop, hpd]; rfl
          have hp1 : 1 ≤ P.size := hP0
          have hes : (P.extract 1 P.size).size ≤ 1000000 := by rw [ByteArray.size_extract, hps]; simp only [List.length_cons] at hpz ⊢; omega
          have hPs : P.size ≤ 1000000 := by rw [hps]; exact hpz
          clear hps hpz
          by_cases hy114 : y = 114
          · have hdr := Lib.hid (show dropRO (y :: r) = r by unfold dropRO; rw [if_pos (by simp [hy114])]; rfl)
            have y1 : ((y.toNat : Int) == 114) = true := by rw [hy114]; rfl
            clear hy114
            go_wp2_with fail
            refine (rd9 (P.extract 1 P.size) r _ hex (by exact hes)).mono ?_
            rintro e w2 ⟨rfl, hb2⟩
            have hab2 := hab.kept hb2
            obtain ⟨c0, c1, c2, c3, c4⟩ := hab2.cells
            have f1 := hab2.frozen 1
            go_wp2_with fail
            go_roundw
            case rel =>
              refine ⟨2, by omega, by omega, by omega, by go_num, ?_, below_set (hbr.trans (hb2.mono hbr.size)) _ _ (Nat.le_refl _) _⟩
              have hz := hab2.set1 (rnum r)
              have e1 := hnw.out
              have e2 := hsm.out 2 (by omega)
              have e3 := hsm.out 3 (by omega)
              have e4 := hsm.out 4 (by omega)
              rw [e1, e2, e3, e4]
              rw [hdr.out]
              exact hz
            case measure => simp [intOf]
          by_cases hy111 : y = 111
          · have hdr := Lib.hid (show dropRO (y :: r) = r by unfold dropRO; rw [if_pos (by simp [hy111])]; rfl)
            have y1 : ((y.toNat : Int) == 114) = false := by rw [hy111]; rfl
            have y2 : ((y.toNat : Int) == 111) = true := by rw [hy111]; rfl
            clear hy111 hy114
            go_wp2_with fail
            refine (rd9 (P.extract 1 P.size) r _ hex (by exact hes)).mono ?_
            rintro e w2 ⟨rfl, hb2⟩
            have hab2 := hab.kept hb2
            obtain ⟨c0, c1, c2, c3, c4⟩ := hab2.cells
            have f1 := hab2.frozen 1
            go_wp2_with fail
            go_roundw
            case rel =>
              refine ⟨2, by omega, by omega, by omega, by go_num, ?_, below_set (hbr.trans (hb2.mono hbr.size)) _ _ (Nat.le_refl _) _⟩
              have hz := hab2.set1 (rnum r)
              have e1 := hnw.out
              have e2 := hsm.out 2 (by omega)
              have e3 := hsm.out 3 (by omega)
              have e4 := hsm.out 4 (by omega)
              rw [e1, e2, e3, e4]
              rw [hdr.out]
              exact hz
            case measure => simp [intOf]
          have hdr := Lib.hid (show dropRO (y :: r) = y :: r by unfold dropRO; rw [if_neg (by simp [hy114, hy111])])
          have y1 : ((y.toNat : Int) == 114) = false := by rw [beq_eq_false_iff_ne]; intro e; exact hy114 (UInt8.toNat_inj.1 (show y.toNat = 114 by omega))
          have y2 : ((y.toNat : Int) == 111) = false := by rw [beq_eq_false_iff_ne]; intro e; exact hy111 (UInt8.toNat_inj.1 (show y.toNat = 111 by omega))
          clear hy114 hy111
          go_wp2_with fail
          refine (rd9 P (y :: r) _ hpd (by exact hPs)).mono ?_
          rintro e w2 ⟨rfl, hb2⟩
          have hab2 := hab.kept hb2
          obtain ⟨c0, c1, c2, c3, c4⟩ := hab2.cells
          have f1 := hab2.frozen 1
          go_wp2_with fail
          go_roundw
          case rel =>
            refine ⟨2, by omega, by omega, by omega, by go_num, ?_, below_set (hbr.trans (hb2.mono hbr.size)) _ _ (Nat.le_refl _) _⟩
            have hz := hab2.set1 (rnum (y :: r))
            have e1 := hnw.out
            have e2 := hsm.out 2 (by omega)
            have e3 := hsm.out 3 (by omega)
            have e4 := hsm.out 4 (by omega)
            rw [e1, e2, e3, e4]
            rw [hdr.out]
            exact hz
          case measure => simp [intOf]
      · rcases p with _ | ⟨x, r⟩
        · have x0 : P.toList.isEmpty = true := by rw [hptl]; rfl
          have hdr := Lib.hid (show dropRO ([] : List UInt8) = [] from rfl)
          have hPs : P.size ≤ 1000000 := by rw [hps]; simp
          clear hptl hps
          go_wp2_with fail
          refine (rd9 P [] _ hpd (by exact hPs)).mono ?_
          rintro e w2 ⟨rfl, hb2⟩
          have hab2 := hab.kept hb2
          obtain ⟨c0, c1, c2, c3, c4⟩ := hab2.cells
          have f2 := hab2.frozen 2
          go_wp2_with fail
          go_roundw
          case rel =>
            refine ⟨3, by omega, by omega, by omega, by go_num, ?_, below_set (hbr.trans (hb2.mono hbr.size)) _ _ (Nat.le_refl _) _⟩
            have hz := hab2.set2 (rnum [])
            have e1 := hsm.out 1 (by omega)
            have e2 := hnw.out
            have e3 := hsm.out 3 (by omega)
            have e4 := hsm.out 4 (by omega)
            rw [e1, e2, e3, e4]
            rw [hdr.out]
            exact hz
          case measure => simp [intOf]
        · have x0 : P.toList.isEmpty = false := by rw [hptl]; rfl
          have hP0 : 0 < P.size := by rw [hps]; simp
          obtain ⟨y, hy⟩ : ∃ y, P[0]'hP0 = y := ⟨_, rfl⟩
          have hyx : y = x := by
            have h1 : P.data.toList[0]? = some y := by rw [← hy, List.getElem?_eq_getElem (by rw [show P.data.toList.length = P.size from Array.length_toList]; exact hP0)]; rfl
            rw [hpd] at h1
            simpa using h1.symm
          subst hyx
          clear hptl
          have hex : (P.extract 1 P.size).data.toList = r := by rw [ext_drop, hpd]; rfl
          have hp1 : 1 ≤ P.size := hP0
          have hes : (P.extract 1 P.size).size ≤ 1000000 := by rw [ByteArray.size_extract, hps]; simp only [List.length_cons] at hpz ⊢; omega
          have hPs : P.size ≤ 1000000 := by rw [hps]; exact hpz
          clear hps hpz
          by_cases hy114 : y = 114
          · have hdr := Lib.hid (show dropRO (y :: r) = r by unfold dropRO; rw [if_pos (by simp [hy114])]; rfl)
            have y1 : ((y.toNat : Int) == 114) = true := by rw [hy114]; rfl
            clear hy114
            go_wp2_with fail
            refine (rd9 (P.extract 1 P.size) r _ hex (by exact hes)).mono ?_
            rintro e w2 ⟨rfl, hb2⟩
            have hab2 := hab.kept hb2
            obtain ⟨c0, c1, c2, c3, c4⟩ := hab2.cells
            have f2 := hab2.frozen 2
            go_wp2_with fail
            go_roundw
            case rel =>
              refine ⟨3, by omega, by omega, by omega, by go_num, ?_, below_set (hbr.trans (hb2.mono hbr.size)) _ _ (Nat.le_refl _) _⟩
              have hz := hab2.set2 (rnum r)
              have e1 := hsm.out 1 (by omega)
              have e2 := hnw.out
              have e3 := hsm.out 3 (by omega)
              have e4 := hsm.out 4 (by omega)
              rw [e1, e2, e3, e4]
              rw [hdr.out]
              exact hz
            case measure => simp [intOf]
          by_cases hy111 : y = 111
          · have hdr := Lib.hid (show dropRO (y :: r) = r by unfold dropRO; rw [if_pos (by simp [hy111])]; rfl)
            have y1 : ((y.toNat : Int) == 114) = false := by rw [hy111]; rfl
            have y2 : ((y.toNat : Int) == 111) = true := by rw [hy111]; rfl
            clear hy111 hy114
            go_wp2_with fail
            refine (rd9 (P.extract 1 P.size) r _ hex (by exact hes)).mono ?_
            rintro e w2 ⟨rfl, hb2⟩
            have hab2 := hab.kept hb2
            obtain ⟨c0, c1, c2, c3, c4⟩ := hab2.cells
            have f2 := hab2.frozen 2
            go_wp2_with fail
            go_roundw
            case rel =>
              refine ⟨3, by omega, by omega, by omega, by go_num, ?_, below_set (hbr.trans (hb2.mono hbr.size)) _ _ (Nat.le_refl _) _⟩
              have hz := hab2.set2 (rnum r)
              have e1 := hsm.out 1 (by omega)
              have e2 := hnw.out
              have e3 := hsm.out 3 (by omega)
              have e4 := hsm.out 4 (by omega)
              rw [e1, e2, e3, e4]
              rw [hdr.out]
              exact hz
            case measure => simp [intOf]
          have hdr := Lib.hid (show dropRO (y :: r) = y :: r by unfold dropRO; rw [if_neg (by simp [hy114, hy111])])
          have y1 : ((y.toNat : Int) == 114) = false := by rw [beq_eq_false_iff_ne]; intro e; exact hy114 (UInt8.toNat_inj.1 (show y.toNat = 114 by omega))
          have y2 : ((y.toNat : Int) == 111) = false := by rw [beq_eq_false_iff_ne]; intro e; exact hy111 (UInt8.toNat_inj.1 (show y.toNat = 111 by omega))
          clear hy114 hy111
          go_wp2_with fail
          refine (rd9 P (y :: r) _ hpd (by exact hPs)).mono ?_
          rintro e w2 ⟨rfl, hb2⟩
          have hab2 := hab.kept hb2
          obtain ⟨c0, c1, c2, c3, c4⟩ := hab2.cells
          have f2 := hab2.frozen 2
          go_wp2_with fail
          go_roundw
          case rel =>
            refine ⟨3, by omega, by omega, by omega, by go_num, ?_, below_set (hbr.trans (hb2.mono hbr.size)) _ _ (Nat.le_refl _) _⟩
            have hz := hab2.set2 (rnum (y :: r))
            have e1 := hsm.out 1 (by omega)
            have e2 := hnw.out
            have e3 := hsm.out 3 (by omega)
            have e4 := hsm.out 4 (by omega)
            rw [e1, e2, e3, e4]
            rw [hdr.out]
            exact hz
          case measure => simp [intOf]
      · rcases p with _ | ⟨x, r⟩
        · have x0 : P.toList.isEmpty = true := by rw [hptl]; rfl
          have hdr := Lib.hid (show dropRO ([] : List UInt8) = [] from rfl)
          have hPs : P.size ≤ 1000000 := by rw [hps]; simp
          clear hptl hps
          go_wp2_with fail
          refine (rd9 P [] _ hpd (by exact hPs)).mono ?_
          rintro e w2 ⟨rfl, hb2⟩
          have hab2 := hab.kept hb2
          obtain ⟨c0, c1, c2, c3, c4⟩ := hab2.cells
          have f3 := hab2.frozen 3
          go_wp2_with fail
          go_roundw
          case rel =>
            refine ⟨4, by omega, by omega, by omega, by go_num, ?_, below_set (hbr.trans (hb2.mono hbr.size)) _ _ (Nat.le_refl _) _⟩
            have hz := hab2.set3 (rnum [])
            have e1 := hsm.out 1 (by omega)
            have e2 := hsm.out 2 (by omega)
            have e3 := hnw.out
            have e4 := hsm.out 4 (by omega)
            rw [e1, e2, e3, e4]
            rw [hdr.out]
            exact hz
          case measure => simp [intOf]
        · have x0 : P.toList.isEmpty = false := by rw [hptl]; rfl
          have hP0 : 0 < P.size := by rw [hps]; simp
          obtain ⟨y, hy⟩ : ∃ y, P[0]'hP0 = y := ⟨_, rfl⟩
          have hyx : y = x := by
            have h1 : P.data.toList[0]? = some y := by rw [← hy, List.getElem?_eq_getElem (by rw [show P.data.toList.length = P.size from Array.length_toList]; exact hP0)]; rfl
            rw [hpd] at h1
            simpa using h1.symm
          subst hyx
          clear hptl
          have hex : (P.extract 1 P.size).data.toList = r := by rw [ext_drop, hpd]; rfl
          have hp1 : 1 ≤ P.size := hP0
          have hes : (P.extract 1 P.size).size ≤ 1000000 := by rw [ByteArray.size_extract, hps]; simp only [List.length_cons] at hpz ⊢; omega
          have hPs : P.size ≤ 1000000 := by rw [hps]; exact hpz
          clear hps hpz
          by_cases hy114 : y = 114
          · have hdr := Lib.hid (show dropRO (y :: r) = r by unfold dropRO; rw [if_pos (by simp [hy114])]; rfl)
            have y1 : ((y.toNat : Int) == 114) = true := by rw [hy114]; rfl
            clear hy114
            go_wp2_with fail
            refine (rd9 (P.extract 1 P.size) r _ hex (by exact hes)).mono ?_
            rintro e w2 ⟨rfl, hb2⟩
            have hab2 := hab.kept hb2
            obtain ⟨c0, c1, c2, c3, c4⟩ := hab2.cells
            have f3 := hab2.frozen 3
            go_wp2_with fail
            go_roundw
            case rel =>
              refine ⟨4, by omega, by omega, by omega, by go_num, ?_, below_set (hbr.trans (hb2.mono hbr.size)) _ _ (Nat.le_refl _) _⟩
              have hz := hab2.set3 (rnum r)
              have e1 := hsm.out 1 (by omega)
              have e2 := hsm.out 2 (by omega)
              have e3 := hnw.out
              have e4 := hsm.out 4 (by omega)
              rw [e1, e2, e3, e4]
              rw [hdr.out]
              exact hz
            case measure => simp [intOf]
          by_cases hy111 : y = 111
          · have hdr := Lib.hid (show dropRO (y :: r) = r by unfold dropRO; rw [if_pos (by simp [hy111])]; rfl)
            have y1 : ((y.toNat : Int) == 114) = false := by rw [hy111]; rfl
            have y2 : ((y.toNat : Int) == 111) = true := by rw [hy111]; rfl
            clear hy111 hy114
            go_wp2_with fail
            refine (rd9 (P.extract 1 P.size) r _ hex (by exact hes)).mono ?_
            rintro e w2 ⟨rfl, hb2⟩
            have hab2 := hab.kept hb2
            obtain ⟨c0, c1, c2, c3, c4⟩ := hab2.cells
            have f3 := hab2.frozen 3
            go_wp2_with fail
            go_roundw
            case rel =>
              refine ⟨4, by omega, by omega, by omega, by go_num, ?_, below_set (hbr.trans (hb2.mono hbr.size)) _ _ (Nat.le_refl _) _⟩
              have hz := hab2.set3 (rnum r)
              have e1 := hsm.out 1 (by omega)
              have e2 := hsm.out 2 (by omega)
              have e3 := hnw.out
              have e4 := hsm.out 4 (by omega)
              rw [e1, e2, e3, e4]
              rw [hdr.out]
              exact hz
            case measure => simp [intOf]
          have hdr := Lib.hid (show dropRO (y :: r) = y :: r by unfold dropRO; rw [if_neg (by simp [hy114, hy111])])
          have y1 : ((y.toNat : Int) == 114) = false := by rw [beq_eq_false_iff_ne]; intro e; exact hy114 (UInt8.toNat_inj.1 (show y.toNat = 114 by omega))
          have y2 : ((y.toNat : Int) == 111) = false := by rw [beq_eq_false_iff_ne]; intro e; exact hy111 (UInt8.toNat_inj.1 (show y.toNat = 111 by omega))
          clear hy114 hy111
          go_wp2_with fail
          refine (rd9 P (y :: r) _ hpd (by exact hPs)).mono ?_
          rintro e w2 ⟨rfl, hb2⟩
          have hab2 := hab.kept hb2
          obtain ⟨c0, c1, c2, c3, c4⟩ := hab2.cells
          have f3 := hab2.frozen 3
          go_wp2_with fail
          go_roundw
          case rel =>
            refine ⟨4, by omega, by omega, by omega, by go_num, ?_, below_set (hbr.trans (hb2.mono hbr.size)) _ _ (Nat.le_refl _) _⟩
            have hz := hab2.set3 (rnum (y :: r))
            have e1 := hsm.out 1 (by omega)
            have e2 := hsm.out 2 (by omega)
            have e3 := hnw.out
            have e4 := hsm.out 4 (by omega)
            rw [e1, e2, e3, e4]
            rw [hdr.out]
            exact hz
          case measure => simp [intOf]
      · rcases p with _ | ⟨x, r⟩
        · have x0 : P.toList.isEmpty = true := by rw [hptl]; rfl
          have hdr := Lib.hid (show dropRO ([] : List UInt8) = [] from rfl)
          have hPs : P.size ≤ 1000000 := by rw [hps]; simp
          clear hptl hps
          go_wp2_with fail
          refine (rd9 P [] _ hpd (by exact hPs)).mono ?_
          rintro e w2 ⟨rfl, hb2⟩
          have hab2 := hab.kept hb2
          obtain ⟨c0, c1, c2, c3, c4⟩ := hab2.cells
          have f4 := hab2.frozen 4
          go_wp2_with fail
          go_roundw
          case rel =>
            refine ⟨5, by omega, by omega, by omega, by go_num, ?_, below_set (hbr.trans (hb2.mono hbr.size)) _ _ (Nat.le_refl _) _⟩
            have hz := hab2.set4 (rnum [])
            have e1 := hsm.out 1 (by omega)
            have e2 := hsm.out 2 (by omega)
            have e3 := hsm.out 3 (by omega)
            have e4 := hnw.out
            rw [e1, e2, e3, e4]
            rw [hdr.out]
            exact hz
          case measure => simp [intOf]
        · have x0 : P.toList.isEmpty = false := by rw [hptl]; rfl
          have hP0 : 0 < P.size := by rw [hps]; simp
          obtain ⟨y, hy⟩ : ∃ y, P[0]'hP0 = y := ⟨_, rfl⟩
          have hyx : y = x := by
            have h1 : P.data.toList[0]? = some y := by rw [← hy, List.getElem?_eq_getElem (by rw [show P.data.toList.length = P.size from Array.length_toList]; exact hP0)]; rfl
            rw [hpd] at h1
            simpa using h1.symm
          subst hyx
          clear hptl
          have hex : (P.extract 1 P.size).data.toList = r := by rw [ext_drop, hpd]; rfl
          have hp1 : 1 ≤ P.size := hP0
          have hes : (P.extract 1 P.size).size ≤ 1000000 := by rw [ByteArray.size_extract, hps]; simp only [List.length_cons] at hpz ⊢; omega
          have hPs : P.size ≤ 1000000 := by rw [hps]; exact hpz
          clear hps hpz
          by_cases hy114 : y = 114
          · have hdr := Lib.hid (show dropRO (y :: r) = r by unfold dropRO; rw [if_pos (by simp [hy114])]; rfl)
            have y1 : ((y.toNat : Int) == 114) = true := by rw [hy114]; rfl
            clear hy114
            go_wp2_with fail
            refine (rd9 (P.extract 1 P.size) r _ hex (by exact hes)).mono ?_
            rintro e w2 ⟨rfl, hb2⟩
            have hab2 := hab.kept hb2
            obtain ⟨c0, c1, c2, c3, c4⟩ := hab2.cells
            have f4 := hab2.frozen 4
            go_wp2_with fail
            go_roundw
            case rel =>
              refine ⟨5, by omega, by omega, by omega, by go_num, ?_, below_set (hbr.trans (hb2.mono hbr.size)) _ _ (Nat.le_refl _) _⟩
              have hz := hab2.set4 (rnum r)
              have e1 := hsm.out 1 (by omega)
              have e2 := hsm.out 2 (by omega)
              have e3 := hsm.out 3 (by omega)
              have e4 := hnw.out
              rw [e1, e2, e3, e4]
              rw [hdr.out]
              exact hz
            case measure => simp [intOf]
          by_cases hy111 : y = 111
          · have hdr := Lib.hid (show dropRO (y :: r) = r by unfold dropRO; rw [if_pos (by simp [hy111])]; rfl)
            have y1 : ((y.toNat : Int) == 114) = false := by rw [hy111]; rfl
            have y2 : ((y.toNat : Int) == 111) = true := by rw [hy111]; rfl
            clear hy111 hy114
            go_wp2_with fail
            refine (rd9 (P.extract 1 P.size) r _ hex (by exact hes)).mono ?_
            rintro e w2 ⟨rfl, hb2⟩
            have hab2 := hab.kept hb2
            obtain ⟨c0, c1, c2, c3, c4⟩ := hab2.cells
            have f4 := hab2.frozen 4
            go_wp2_with fail
            go_roundw
            case rel =>
              refine ⟨5, by omega, by omega, by omega, by go_num, ?_, below_set (hbr.trans (hb2.mono hbr.size)) _ _ (Nat.le_refl _) _⟩
              have hz := hab2.set4 (rnum r)
              have e1 := hsm.out 1 (by omega)
              have e2 := hsm.out 2 (by omega)
              have e3 := hsm.out 3 (by omega)
              have e4 := hnw.out
              rw [e1, e2, e3, e4]
              rw [hdr.out]
              exact hz
            case measure => simp [intOf]
          have hdr := Lib.hid (show dropRO (y :: r) = y :: r by unfold dropRO; rw [if_neg (by simp [hy114, hy111])])
          have y1 : ((y.toNat : Int) == 114) = false := by rw [beq_eq_false_iff_ne]; intro e; exact hy114 (UInt8.toNat_inj.1 (show y.toNat = 114 by omega))
          have y2 : ((y.toNat : Int) == 111) = false := by rw [beq_eq_false_iff_ne]; intro e; exact hy111 (UInt8.toNat_inj.1 (show y.toNat = 111 by omega))
          clear hy114 hy111
          go_wp2_with fail
          refine (rd9 P (y :: r) _ hpd (by exact hPs)).mono ?_
          rintro e w2 ⟨rfl, hb2⟩
          have hab2 := hab.kept hb2
          obtain ⟨c0, c1, c2, c3, c4⟩ := hab2.cells
          have f4 := hab2.frozen 4
          go_wp2_with fail
          go_roundw
          case rel =>
            refine ⟨5, by omega, by omega, by omega, by go_num, ?_, below_set (hbr.trans (hb2.mono hbr.size)) _ _ (Nat.le_refl _) _⟩
            have hz := hab2.set4 (rnum (y :: r))
            have e1 := hsm.out 1 (by omega)
            have e2 := hsm.out 2 (by omega)
            have e3 := hsm.out 3 (by omega)
            have e4 := hnw.out
            rw [e1, e2, e3, e4]
            rw [hdr.out]
            exact hz
          case measure => simp [intOf]
    · have e1 := upto_end (j := 1) hgo (by omega)
      have e2 := upto_end (j := 2) hgo (by omega)
      have e3 := upto_end (j := 3) hgo (by omega)
      have e4 := upto_end (j := 4) hgo (by omega)
      rw [e1, e2, e3, e4] at hab
      have b1 := rAt_bd ps 1
      have b2 := rAt_bd ps 2
      have b3 := rAt_bd ps 3
      have wc1 : IntKind.i64.wrap (rAt ps 1) = rAt ps 1 := by simp [IntKind.wrap, IntKind.signed, IntKind.bits]; omega
      have wc2 : IntKind.i64.wrap (rAt ps 2) = rAt ps 2 := by simp [IntKind.wrap, IntKind.signed, IntKind.bits]; omega
      have wc3 : IntKind.i64.wrap (rAt ps 3) = rAt ps 3 := by simp [IntKind.wrap, IntKind.signed, IntKind.bits]; omega
      have hcs : (decide ((k : Int) < (ps.length : Int)) = false ∧ decide (k < ps.length) = false ∧ ¬ (k < ps.length)) ∨ (k = 5 ∧ decide (((5 : Nat) : Int) < (ps.length : Int)) = true ∧ decide ((5 : Int) < (ps.length : Int)) = true) := by
        by_cases hkk : k < ps.length
        · exact .inr ⟨by omega, by rw [decide_eq_true_iff]; omega, by rw [decide_eq_true_iff]; omega⟩
        · exact .inl ⟨by rw [decide_eq_false_iff_not]; omega, by rw [decide_eq_false_iff_not]; omega, hkk⟩
      clear b1 b2 b3 e1 e2 e3 e4 hgo hk1 hk5 hkl
      rcases hcs with ⟨t1, t2, t3⟩ | ⟨rfl, t1, t2⟩
      all_goals
        obtain ⟨c0, c1, c2, c3, c4⟩ := hab.cells
        go_wp2_with fail
        refine (rwords_any _).mono ?_
        rintro e w3 ⟨bw, rfl, hcw, hlw, hb3⟩
        clear c0 c1 c2 c3 c4
        have hB3 := hbr.trans (hb3.mono hbr.size)
        have hab3 := Lib.hid (hab.kept hb3)
        have hcw' := Lib.hid (fun (W : World) (hW : Below w3.heap.size w3 W) (j : Nat) (x : ByteArray) (hx : wordsB[j]? = some x) => (hW.cell (p := ⟨bw, j, none⟩) (cell_lt (hcw j x hx))).trans (hcw j x hx))
        have hB3' := Lib.hid hB3
        have hs13 : w1.heap.size ≤ w3.heap.size := hB3.size
        clear hab hbr hb3 hcw hB3
        go_wp2_with fail
        go_loopw [11, 12, 14, 60] (fun _ _ _ jv wr2 => ∃ j : Nat, j ≤ 22 ∧ jv = .int .i64 j ∧ (∀ i : Nat, i < j → ((shOf i).w == p0) = true → (C i ps).find? (fitsS l) = none) ∧ Below w3.heap.size w3 wr2) (fun _ _ _ jv _ => 22 - (intOf jv).toNat)
        case atStart => exact ⟨0, Nat.zero_le _, rfl, fun i h => absurd h (Nat.not_lt_zero _), Below.refl _ _⟩
        case round =>
          obtain ⟨j, hj, rfl, hno, hbj⟩ := hrel
          have hB4 : Below w1.heap.size w1 wr := hB3'.out.trans (hbj.mono hs13)
          have hr4 := hr1'.out.kept hB4
          have hBw : Below w.heap.size w wr := hB1'.out.trans (hB4.mono hB1'.out.size)
          by_cases hlt : j < 22
          · have hltI : (j : Int) < 22 := by omega
            have hltD : decide ((j : Int) < 22) = true := decide_eq_true hltI
            obtain ⟨c0, c1, c2, c3, c4⟩ := (hab3.out.kept hbj).cells
            have hq0 := hc'.out wr hB4 0 p0 hp0'.out
            have hw := hcw'.out wr hbj j (wordB (j : Int)) (wordsB_get hlt)
            have hfind := Lib.hid (fun (e : Ins) (h2 : ((shOf (j : Int)).w == p0) = true) (h3 : (C j ps).find? (fitsS l) = some e) => hhit'.out j e hlt h2 h3)
            have hnext := Lib.hid (fun (h : ((shOf (j : Int)).w == p0) = true → (C j ps).find? (fitsS l) = none) => (fun i hi => by
              by_cases hij : i < j
              · exact hno i hij
              · rw [show i = j by omega]; exact h : ∀ i : Nat, i < j + 1 → ((shOf i).w == p0) = true → (C i ps).find? (fitsS l) = none))
            have hWl : (wordB (j : Int)).toList = (shOf (j : Int)).w := by rw [ByteArray.toList_eq]; rfl
            obtain ⟨WB, hWB⟩ : ∃ x, wordB (j : Int) = x := ⟨_, rfl⟩
            rw [hWB] at hw hWl
            have hsz := hBw.size
            clear hno hWB
            rcases hq : ((shOf (j : Int)).w == p0) with _ | _
            · have hx : (WB.toList == p0) = false := by rw [hWl]; exact hq
              have hq' := Lib.hid hq
              clear hq hWl
              go_wp2_with fail
              go_roundw
              case rel => exact ⟨j + 1, by omega, by go_num, hnext.out (fun h => by rw [hq'.out] at h; cases h), hbj⟩
              case measure => simp [intOf]; omega
            · have hx : (WB.toList == p0) = true := by rw [hWl]; exact hq
              have hq' := Lib.hid hq
              clear hq hWl
              go_wp2_with fail
              have hC0 : ∀ cs : Array Value, cs.toList = insE.all (C 0 ps) → InSl (wr.alloc (.cells cs 24)) (wr.alloc (.cells cs 24)).heap.size (some ⟨wr.heap.size, 0, none⟩) (C 0 ps) := fun cs h => ⟨by simpa using SlOf.new wr cs 24 (C 0 ps) h, C_ok 0 (by omega) ps⟩
              have hC1 := hC0 (insE.all (C 0 ps)).toArray rfl
              have hbA := (Below.refl wr.heap.size wr).alloc (Nat.le_refl _) (.cells (insE.all (C 0 ps)).toArray 24)
              obtain ⟨w5, hw5⟩ : ∃ x, wr.alloc (.cells (insE.all (C 0 ps)).toArray 24) = x := ⟨_, rfl⟩
              have hw5' : wr.alloc (.cells #[.int .i64 0, .int .i64 0, .int .i64 0, .int .i64 0, .int .u32 0, .int .i64 0, .int .i64 (rAt ps 1), .int .i64 0, .int .i64 0, .int .u32 (rAt ps 2), .int .i64 0, .int .i64 (rAt ps 1), .int .i64 (rAt ps 2), .int .i64 0, .int .u32 0, .int .i64 0, .int .i64 (rAt ps 1), .int .i64 (rAt ps 2), .int .i64 (rAt ps 3), .int .u32 0, .int .i64 0, .int .i64 (rAt ps 1), .int .i64 (rAt ps 2), .int .i64 0, .int .u32 (rAt ps 3), .int .i64 0, .int .i64 (rAt ps 1), .int .i64 (rAt ps 2), .int .i64 (rAt ps 3), .int .u32 (rAt ps 4), .int .i64 0, .int .i64 0, .int .i64 0, .int .i64 0, .int .u32 (rAt ps 1), .int .i64 0, .int .i64 0, .int .i64 0, .int .i64 (rAt ps 2), .int .u32 (rAt ps 1)] 24) = w5 := hw5
              rw [hw5] at hC1 hbA
              rw [hw5']
              obtain ⟨sb, hsb⟩ : ∃ n, wr.heap.size = n := ⟨_, rfl⟩
              rw [hsb] at hC1
              have hs5 : sb + 1 = w5.heap.size := by rw [← hw5, World.size_alloc, hsb]
              have hB5 : Below w3.heap.size w3 w5 := hbj.trans (hbA.mono hbj.size)
              have hr5 := hr4.kept hbA
              have hBw5 := hBw.trans (hbA.mono hsz)
              simp only [hsb]
              have hC' := Lib.hid hC1
              have hB5' := Lib.hid hB5
              have hr5' := Lib.hid hr5
              have hBw5' := Lib.hid hBw5
              clear hC0 hC1 hbA hw5 hw5' hB4 hr4 hBw hbj c0 c1 c2 c3 c4 hq0 hw hx hB5 hr5 hBw5
              go_loopw [14, 102] (fun _ tv wr3 => ∃ t : Nat, t ≤ 8 ∧ tv = .int .i64 t ∧ (∀ e ∈ (C j ps).take t, fitsS l e = false) ∧ Below w5.heap.size w5 wr3) (fun _ tv _ => 8 - (intOf tv).toNat)
              case atStart => exact ⟨0, Nat.zero_le _, rfl, (fun e h => by cases h), Below.refl _ _⟩
              case round =>
                obtain ⟨t, ht, rfl, hnf, hbt⟩ := hrel
                by_cases ht8 : t < 8
                · have ht8I : (t : Int) < 8 := by omega
                  have ht8D : decide ((t : Int) < 8) = true := decide_eq_true ht8I
                  obtain ⟨e, he⟩ := get_some (show t < (C 0 ps).length from ht8)
                  obtain ⟨hke, b5, o5, hA5, hlb5, g0, g1, g2, g3, g4⟩ := (hC'.out.below hbt (Nat.le_refl _)).get he
                  injection hA5 with hA5
                  injection hA5 with hA5 hO5
                  subst hA5 hO5
                  simp only [Nat.zero_add] at g0 g1 g2 g3 g4
                  have hce := C_at (op := (j : Int)) he
                  have hok := C_ok (j : Int) (by omega) ps _ (List.mem_of_getElem? hce)
                  have hR := fun W => rright_any (⟨(j : Int), e.a, e.b, e.c, e.n⟩ : Ins) W
                  have hbx := InBox.new wr (⟨(j : Int), e.a, e.b, e.c, e.n⟩ : Ins)
                  have hstep : fitsS l ⟨(j : Int), e.a, e.b, e.c, e.n⟩ = false → ∀ x ∈ (C j ps).take (t + 1), fitsS l x = false := fun h x hx => by
                    rw [take_snoc hce] at hx
                    rcases List.mem_append.1 hx with hx | hx
                    · exact hnf x hx
                    · rw [List.mem_singleton.1 hx]; exact h
                  have hhitE : fitsS l ⟨(j : Int), e.a, e.b, e.c, e.n⟩ = true → _ := fun h => hfind.out _ hq'.out (find_at hnf hce h)
                  have hrE := hr5'.out.kept hbt
                  have hBE := hBw5'.out.trans (hbt.mono hBw5'.out.size)
                  have hszE := hBE.size
                  have hLn := fun h W => rline_any (⟨(j : Int), e.a, e.b, e.c, e.n⟩ : Ins) W h hok
                  obtain ⟨eo, ea, eb, ec, en⟩ := e
                  unfold insV at hR hLn
                  simp only at hR hLn hbx hstep hhitE g0 g1 g2 g3 g4 hok
                  have hne6 : w.heap.size ≠ wr.heap.size := by have := hrE.lt; omega
                  have hstep' := Lib.hid hstep
                  have hhitE' := Lib.hid hhitE
                  have hbx' := Lib.hid hbx
                  have hR' := Lib.hid hR
                  have hrE' := Lib.hid hrE
                  have hBE' := Lib.hid hBE
                  clear hnf hce he hR hbx hstep hhitE hrE hBE hke hok
                  rcases hq2 : insB ⟨(j : Int), ea, eb, ec, en⟩ with _ | _
                  · rw [hq2] at hR'
                    have hnf2 := Lib.hid (hstep'.out (fits_no1 hq2))
                    clear hLn hq2
                    go_wp2_with fail
                    refine (hR'.out _).mono ?_
                    rintro e6 w6 ⟨rfl, hb6⟩
                    have hB6 := hbt.trans (((Below.refl _ wr).alloc (Nat.le_refl _) _).trans (hb6.mono (by simp)) |>.mono hbt.size)
                    go_wp2_with fail
                    go_roundw
                    case rel => exact ⟨t + 1, by omega, by go_num, hnf2.out, hB6⟩
                    case measure => simp [intOf]; omega
                  · rw [hq2] at hR'
                    have hLn' := Lib.hid (hLn hq2)
                    clear hLn
                    by_cases hll : lineL ⟨(j : Int), ea, eb, ec, en⟩ = l
                    · have hret := Lib.hid (hhitE'.out (fits_yes hq2 hll))
                      have hstr : ((lineS ⟨(j : Int), ea, eb, ec, en⟩).toList == s.toList) = true := by rw [hst'.out, ByteArray.toList_eq]; simp [lineS, hll]
                      obtain ⟨LS, hLS⟩ : ∃ x, lineS ⟨(j : Int), ea, eb, ec, en⟩ = x := ⟨_, rfl⟩
                      rw [hLS] at hLn' hstr
                      clear hq2 hll hLS
                      go_wp2_with fail
                      refine (hR'.out _).mono ?_
                      rintro e6 w6 ⟨rfl, hb6⟩
                      have hbx6 := hbx'.out.kept hb6
                      obtain ⟨d0, d1, d2, d3, d4⟩ := hbx6.cells
                      go_wp2_with fail
                      refine (hLn'.out _).mono ?_
                      rintro e7 w7 ⟨rfl, hb7⟩
                      have hbx7 := hbx6.kept hb7
                      clear d0 d1 d2 d3 d4
                      obtain ⟨d0, d1, d2, d3, d4⟩ := hbx7.cells
                      have hr7 := (((hrE'.out.kept ((Below.refl _ wr).alloc (Nat.le_refl _) _)).kept hb6).kept hb7)
                      have hB7a := (((hBE'.out.alloc hszE _).trans (hb6.mono (by rw [World.size_alloc]; omega))))
                      have hB7 := hB7a.trans (hb7.mono hB7a.size)
                      obtain ⟨y0, y1, y2, y3, y4⟩ := hr7.cells
                      have z0 := hr7.frozen 0
                      have z1 := hr7.frozen 1
                      have z2 := hr7.frozen 2
                      have z3 := hr7.frozen 3
                      have z4 := hr7.frozen 4
                      go_wp2_with fail
                      refine bodyPost_ret (res_rread _ _ rfl rfl (hr7.set5 ⟨(j : Int), ea, eb, ec, en⟩)) rfl ?_
                      exact ⟨by rw [hret.out.1, hret.out.2], below_set5 hB7 _ (Nat.le_refl _) _ _ _ _ _⟩
                    · have hnf2 := Lib.hid (hstep'.out (fits_no2 hll))
                      have hstr : ((lineS ⟨(j : Int), ea, eb, ec, en⟩).toList == s.toList) = false := by
                        rw [beq_eq_false_iff_ne, hst'.out, ByteArray.toList_eq]
                        simpa [lineS] using hll
                      obtain ⟨LS, hLS⟩ : ∃ x, lineS ⟨(j : Int), ea, eb, ec, en⟩ = x := ⟨_, rfl⟩
                      rw [hLS] at hLn' hstr
                      clear hq2 hll hLS
                      go_wp2_with fail
                      refine (hR'.out _).mono ?_
                      rintro e6 w6 ⟨rfl, hb6⟩
                      have hbx6 := hbx'.out.kept hb6
                      obtain ⟨d0, d1, d2, d3, d4⟩ := hbx6.cells
                      go_wp2_with fail
                      refine (hLn'.out _).mono ?_
                      rintro e7 w7 ⟨rfl, hb7⟩
                      have hB6a := hbt.alloc hbt.size (.cells #[.int .i64 (j : Int), .int .i64 ea, .int .i64 eb, .int .i64 ec, .int .u32 en] 24)
                      have hB6b := hB6a.trans (hb6.mono hB6a.size)
                      have hB7 := hB6b.trans (hb7.mono hB6b.size)
                      go_wp2_with fail
                      go_roundw
                      case rel => exact ⟨t + 1, by omega, by go_num, hnf2.out, hB7⟩
                      case measure => simp [intOf]; omega
                · have ht88 : t = 8 := by omega
                  subst ht88
                  have hn9 := Lib.hid (hnext.out (fun _ => find_none (fun x hx => hnf x (by rw [List.take_of_length_le (by rw [C_len]; omega)]; exact hx))))
                  have hB9 := hB5'.out.trans (hbt.mono hB5'.out.size)
                  clear hnf
                  go_wp2_with fail
                  go_roundw
                  case rel => exact ⟨j + 1, by omega, by go_num, hn9.out, hB9⟩
                  case measure => simp [intOf]; omega
          · have hj22 : j = 22 := by omega
            subst hj22
            have hm := Lib.hid (hmiss'.out hno)
            obtain ⟨y0, y1, y2, y3, y4⟩ := hr4.cells
            have z0 := hr4.frozen 0
            have z1 := hr4.frozen 1
            have z2 := hr4.frozen 2
            have z3 := hr4.frozen 3
            have z4 := hr4.frozen 4
            clear hno
            go_wp2_with fail
            refine bodyPost_ret (res_rread _ _ rfl rfl (hr4.set5 Ins.zero)) rfl ?_
            exact ⟨by rw [hm.out.1, hm.out.2], below_set5 hBw _ (Nat.le_refl _) _ _ _ _ _⟩

end Go.Proofs.YtkcdmonmgnmojaaDoor
