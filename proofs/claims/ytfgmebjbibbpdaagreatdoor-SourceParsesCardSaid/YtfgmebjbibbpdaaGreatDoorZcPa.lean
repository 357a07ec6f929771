/- Sources, the reference's: the object of a line. -/
import Derived.Test.YtfgmebjbibbpdaaGreatDoorZs1
import Derived.Lib.Hide
import Derived.Deep.QuietTactic
import Derived.BigQuiet
import Derived.Below
import Derived.IntWalk
import Derived.Test.YtfgmebjbibbpdaaGreatDoorZs5
import Derived.Test.YtfgmebjbibbpdaaGreatDoorZs6
import Derived.Test.YtfgmebjbibbpdaaGreatDoorZs7
namespace Go.Proofs.YtfgmebjbibbpdaaGreatDoor
open Go.RowKit

def upto (ps : List (List UInt8)) (k j : Nat) : Int := if j < k then rAt ps j else 0
theorem upto_end {ps : List (List UInt8)} {k j : Nat} (hk : ¬(k < ps.length ∧ k < 5)) (hj : j < 5) : upto ps k j = rAt ps j := by
  unfold upto
  split
  · rfl
  · unfold rAt
    rw [if_neg (by omega)]
theorem upto_same (ps : List (List UInt8)) (k j : Nat) (h : j ≠ k) : upto ps (k + 1) j = upto ps k j := by
  unfold upto
  by_cases hj : j < k
  · rw [if_pos hj, if_pos (by omega)]
  · rw [if_neg hj, if_neg (by omega)]
theorem upto_new (ps : List (List UInt8)) (k : Nat) {p : List UInt8} (hp : ps[k]? = some p) : upto ps (k + 1) k = rnum (dropRO p) := by
  unfold upto rAt
  have hk := (List.getElem?_eq_some_iff.1 hp).1
  rw [if_pos (by omega), if_pos hk, List.getD_eq_getElem?_getD, hp]
  rfl
def C (op : Int) (ps : List (List UInt8)) : List Ins := cands op (rAt ps 1) (rAt ps 2) (rAt ps 3) (rAt ps 1) (rAt ps 2) (rAt ps 3) (rAt ps 4)
theorem C_len (op : Int) (ps : List (List UInt8)) : (C op ps).length = 8 := rfl
theorem C_op (op : Int) (ps : List (List UInt8)) : C op ps = (C 0 ps).map fun e => ⟨op, e.a, e.b, e.c, e.n⟩ := rfl
theorem C_at {op : Int} {ps : List (List UInt8)} {t : Nat} {e : Ins} (h : (C 0 ps)[t]? = some e) : (C op ps)[t]? = some ⟨op, e.a, e.b, e.c, e.n⟩ := by
  rw [C_op, List.getElem?_map, h]
  rfl
theorem C_ok (op : Int) (ho : 0 ≤ op ∧ op < 100) (ps : List (List UInt8)) : ∀ e ∈ C op ps, e.ok := cands_ok ho (rAt_bd _ _) (rAt_bd _ _) (rAt_bd _ _) (rAt_bd _ _) (rAt_bd _ _) (rAt_bd _ _) (rAt_bd _ _)
theorem find_at {α : Type} {l : List α} {p : α → Bool} {t : Nat} {e : α} (h : ∀ x ∈ l.take t, p x = false) (he : l[t]? = some e) (hp : p e = true) : l.find? p = some e := by
  have hlt := (List.getElem?_eq_some_iff.1 he).1
  have hd : l.drop t = e :: l.drop (t + 1) := by
    rw [List.drop_eq_getElem_cons hlt]
    rw [List.getElem?_eq_getElem hlt] at he
    rw [Option.some.inj he]
  have h1 : (l.take t).find? p = none := by
    rw [List.find?_eq_none]
    intro x hx hp'
    rw [h x hx] at hp'
    cases hp'
  have : l = l.take t ++ l.drop t := (List.take_append_drop t l).symm
  rw [this, List.find?_append, h1, hd, List.find?_cons, hp]
  rfl
theorem find_none {α : Type} {l : List α} {p : α → Bool} (h : ∀ x ∈ l, p x = false) : l.find? p = none := by
  rw [List.find?_eq_none]
  intro x hx hp'
  rw [h x hx] at hp'
  cases hp'
theorem rr_find {l p0 : List UInt8} {j : Nat} (hj : j < 22) (hp0 : (pcs 32 l).getD 0 [] = p0) (hw : ((shOf j).w == p0) = true) : rread l = (C j (pcs 32 l)).find? (fitsS l) := by
  have hk : known (j : Int) = true := known_iff.2 (by omega)
  have h1 := word_find (j : Int) hk
  rw [beq_iff_eq] at hw
  rw [hw] at h1
  unfold rread
  rw [hp0, h1]
  rfl
theorem rr_hit {l p0 : List UInt8} {j : Nat} {e : Ins} (hj : j < 22) (hp0 : (pcs 32 l).getD 0 [] = p0) (hw : ((shOf j).w == p0) = true) (hf : (C j (pcs 32 l)).find? (fitsS l) = some e) : readX l = e ∧ readOk l = true := by
  have := rr_find hj hp0 hw
  rw [hf, read_same] at this
  unfold readX readOk
  rw [this]
  exact ⟨rfl, rfl⟩
theorem rr_miss {l p0 : List UInt8} (hp0 : (pcs 32 l).getD 0 [] = p0) (h : ∀ i : Nat, i < 22 → ((shOf i).w == p0) = true → (C i (pcs 32 l)).find? (fitsS l) = none) : readX l = Ins.zero ∧ readOk l = false := by
  have : readI l = none := by
    rw [← read_same]
    cases hx : shs.findIdx? fun x => x.w == p0 with
    | none => unfold rread; rw [hp0, hx]
    | some j =>
      obtain ⟨hj, hw, _⟩ := List.findIdx?_eq_some_iff_getElem.1 hx
      have h22 : shs.length = 22 := rfl
      have he : shs[j] = shOf j := by
        unfold shOf
        rw [List.getD_eq_getElem?_getD, show ((j : Int)).toNat = j by omega, List.getElem?_eq_getElem hj]
        rfl
      rw [he] at hw
      rw [rr_find (by omega) hp0 hw]
      exact h j (by omega) hw
  unfold readX readOk
  rw [this]
  exact ⟨rfl, rfl⟩
theorem fits_no1 {l : List UInt8} {e : Ins} (h : insB e = false) : fitsS l e = false := by unfold fitsS; rw [h]; rfl
theorem fits_no2 {l : List UInt8} {e : Ins} (h : lineL e ≠ l) : fitsS l e = false := by unfold fitsS; rw [decide_eq_false h, Bool.and_false]
theorem fits_yes {l : List UInt8} {e : Ins} (h : insB e = true) (h2 : lineL e = l) : fitsS l e = true := by unfold fitsS; rw [h, decide_eq_true h2]; rfl

end Go.Proofs.YtfgmebjbibbpdaaGreatDoor

namespace Go.Proofs.YtfgmebjbibbpdaaGreatDoor
open Go.RowKit

theorem val_u64' {a b : Int} (h : a = b) : Value.int .u64 a = .int .u64 b := by rw [h]
theorem rnum_yes {l : List UInt8} (h : l.all digB = true) (h2 : l.length ≤ 10) : rnum l = ((dv l % 4294967296 : Nat) : Int) := by unfold rnum; rw [if_pos ⟨h, h2⟩]
theorem rnum_no {l : List UInt8} (h : ¬(l.all digB = true ∧ l.length ≤ 10)) : rnum l = 0 := by unfold rnum; rw [if_neg h]
theorem all_no9 {l : List UInt8} {k : Nat} {x : UInt8} (hx : l[k]? = some x) (hd : digB x = false) : ¬ l.all digB = true := fun h => by
  have := List.all_eq_true.1 h x (List.mem_of_getElem? hx)
  rw [hd] at this
  cases this

set_option maxRecDepth 100000 in
set_option maxHeartbeats 1000000 in
theorem rdigits9_any (s : ByteArray) (w : World) (_hs : s.size ≤ 1000000) :
    Calls Tryz.prog 47 #[.string s] w fun e w' => e = .returned (.int .u32 (rnum s.data.toList)) ∧ Below w.heap.size w w' := by
  obtain ⟨l, hl⟩ : ∃ l, s.data.toList = l := ⟨_, rfl⟩
  have hlen : l.length = s.size := by rw [← hl]; exact Array.length_toList
  rw [hl]
  have hl' := Lib.hid hl
  have hlen' := Lib.hid hlen
  clear hl hlen
  go_enter Tryz.func47, Tryz.ntmps47
  go_wp2_with fail
  go_loopw [3, 4] (fun m j wr => ∃ k : Nat, k ≤ s.size ∧ k ≤ 10 ∧ (l.take k).all digB = true ∧ m = .int .u64 ((dv (l.take k) : Nat) : Int) ∧ j = .int .i64 k ∧ Below w.heap.size w wr)
    (fun _ j _ => s.size - (intOf j).toNat)
  case atStart => exact ⟨0, Nat.zero_le _, by omega, rfl, rfl, rfl, Below.refl _ _⟩
  case round =>
    obtain ⟨k, hk, hk10, hall, rfl, rfl, hbr⟩ := hrel
    have hsz := hbr.size
    have hmx := dv_lt hall
    have hp10 : (10 : Nat) ^ (l.take k).length ≤ 10 ^ 10 := Nat.pow_le_pow_right (by omega) (by rw [List.length_take]; omega)
    have hm10 : dv (l.take k) < 10000000000 := by omega
    clear hmx hp10
    by_cases hlt : k < s.size
    · obtain ⟨x, hx⟩ : ∃ x, s[k]'hlt = x := ⟨_, rfl⟩
      have hxl : l[k]? = some x := by
        rw [← hl'.out, ← hx, List.getElem?_eq_getElem (by rw [hl'.out, hlen'.out]; exact hlt)]
        rfl
      have hxt : x.toNat < 256 := UInt8.toNat_lt x
      have hstep := Lib.hid (take_snoc hxl)
      have hxl' := Lib.hid hxl
      have hall' := Lib.hid hall
      clear hxl hall
      by_cases hd : 48 ≤ x.toNat ∧ x.toNat ≤ 57
      · obtain ⟨hd1, hd2⟩ := hd
        have d1 : decide ((x.toNat : Int) < 48) = false := by rw [decide_eq_false_iff_not]; omega
        have d2 : decide ((57 : Int) < (x.toNat : Int)) = false := by rw [decide_eq_false_iff_not]; omega
        by_cases h13 : 9 < k
        · have d3 : decide (9 < k) = true := by rw [decide_eq_true_iff]; exact h13
          have hf := Lib.hid (rnum_no (l := l) (fun h => by have := h.2; have := hlen'.out; omega))
          go_wp2_with fail
          go_ret
          exact ⟨by rw [hf.out]; rfl, hbr⟩
        · have d3 : decide (9 < k) = false := by rw [decide_eq_false_iff_not]; exact h13
          obtain ⟨D, hD⟩ : ∃ D, dv (l.take k) = D := ⟨_, rfl⟩
          rw [hD] at hm10 ⊢
          have hD' := Lib.hid hD
          clear hD
          have e1 : IntKind.u64.wrap (10 * (D : Int)) = 10 * (D : Int) := by simp [IntKind.wrap, IntKind.signed, IntKind.bits]; omega
          have e2 : IntKind.u8.wrap ((x.toNat : Int) - 48) = (x.toNat : Int) - 48 := wrap_u8 (by omega) (by omega)
          have e3 : IntKind.u64.wrap ((x.toNat : Int) - 48) = (x.toNat : Int) - 48 := by simp [IntKind.wrap, IntKind.signed, IntKind.bits]; omega
          have e4 : IntKind.u64.wrap (10 * (D : Int) + ((x.toNat : Int) - 48)) = 10 * (D : Int) + ((x.toNat : Int) - 48) := by simp [IntKind.wrap, IntKind.signed, IntKind.bits]; omega
          go_wp2_with fail
          go_roundw
          case rel => exact ⟨k + 1, by omega, by omega, by rw [hstep.out, List.all_append, hall'.out]; simp [digB, hd1, hd2], val_u64' (by rw [hstep.out, dv_snoc, hD'.out]; omega), by go_num, hbr⟩
          case measure => simp [intOf]; omega
      · have hf := Lib.hid (rnum_no (l := l) (fun h => all_no9 hxl'.out (by unfold digB; simp only [Bool.and_eq_false_iff, decide_eq_false_iff_not]; omega) h.1))
        rcases d1 : decide ((x.toNat : Int) < 48) with _ | _
        · have d2 : decide ((57 : Int) < (x.toNat : Int)) = true := by
            have := of_decide_eq_false d1
            rw [decide_eq_true_iff]; omega
          go_wp2_with fail
          go_ret
          exact ⟨by rw [hf.out]; rfl, hbr⟩
        · go_wp2_with fail
          go_ret
          exact ⟨by rw [hf.out]; rfl, hbr⟩
    · have ht : l.take k = l := take_all (by rw [hlen'.out]; exact hlt)
      rw [ht] at hall hm10 ⊢
      have hf := Lib.hid (rnum_yes hall (by rw [hlen'.out]; omega))
      have hw3 : IntKind.u32.wrap ((dv l : Nat) : Int) = ((dv l % 4294967296 : Nat) : Int) := by simp [IntKind.wrap, IntKind.signed, IntKind.bits]
      clear hall ht
      go_wp2_with fail
      go_ret
      exact ⟨by rw [hf.out]; rfl, hbr⟩

end Go.Proofs.YtfgmebjbibbpdaaGreatDoor

namespace Go.Proofs.YtfgmebjbibbpdaaGreatDoor
open Go.RowKit

theorem pcs_le9 (c : UInt8) (l : List UInt8) : ∀ x ∈ pcs c l, x.length ≤ l.length := by
  induction l with
  | nil => intro x hx; simp [pcs] at hx; simp [hx]
  | cons a l ih =>
    intro x hx
    have hh : ((pcs c l).headD []).length ≤ l.length := by
      cases h : pcs c l with
      | nil => simp
      | cons y r => exact ih y (by rw [h]; simp)
    unfold pcs at hx
    split at hx
    · rcases List.mem_cons.1 hx with rfl | hx
      · simp
      · have := ih x hx
        rw [List.length_cons]; omega
    · rcases List.mem_cons.1 hx with rfl | hx
      · simp only [List.length_cons]; omega
      · have := ih x (List.mem_of_mem_tail hx)
        rw [List.length_cons]; omega

def ABox (W : World) (B : Nat) (n1 n2 n3 n4 : Int) : Prop := W.heap[B]? = some (.cells #[.int .u32 0, .int .u32 n1, .int .u32 n2, .int .u32 n3, .int .u32 n4] 92 (0, 0))
section
variable {W W' : World} {B N : Nat} {n1 n2 n3 n4 : Int}
theorem ABox.lt (h : ABox W B n1 n2 n3 n4) : B < W.heap.size := (Array.getElem?_eq_some_iff.1 h).1
theorem ABox.cells (h : ABox W B n1 n2 n3 n4) : W.cell? ⟨B, 0, none⟩ = some (.int .u32 0) ∧ W.cell? ⟨B, 1, none⟩ = some (.int .u32 n1) ∧ W.cell? ⟨B, 2, none⟩ = some (.int .u32 n2) ∧ W.cell? ⟨B, 3, none⟩ = some (.int .u32 n3) ∧ W.cell? ⟨B, 4, none⟩ = some (.int .u32 n4) := by
  refine ⟨?_, ?_, ?_, ?_, ?_⟩ <;> simp [World.cell?, show W.heap[B]? = _ from h]
theorem ABox.frozen (h : ABox W B n1 n2 n3 n4) (j : Nat) : W.frozen? ⟨B, j, none⟩ = false := by simp [World.frozen?, show W.heap[B]? = _ from h]
theorem ABox.kept (h : ABox W B n1 n2 n3 n4) (hb : Below W.heap.size W W') : ABox W' B n1 n2 n3 n4 := (hb.block B h.lt).trans h
theorem ABox.set (h : ABox W B n1 n2 n3 n4) (j : Nat) (v : Value) : (W.setCell ⟨B, j, none⟩ v).heap[B]? = some (.cells ((#[.int .u32 0, .int .u32 n1, .int .u32 n2, .int .u32 n3, .int .u32 n4] : Array Value).setIfInBounds j v) 92 (0, 0)) := by
  have h0 : W.heap[B]? = some (.cells #[.int .u32 0, .int .u32 n1, .int .u32 n2, .int .u32 n3, .int .u32 n4] 92 (0, 0)) := h
  rw [setCell_eq_setRow W B j _ _ _ _ h0]
  exact setRow_heap _ B _ _ _ _ h0
theorem ABox.set1 (h : ABox W B n1 n2 n3 n4) (v : Int) : ABox (W.setCell ⟨B, 1, none⟩ (.int .u32 v)) B v n2 n3 n4 := h.set 1 _
theorem ABox.set2 (h : ABox W B n1 n2 n3 n4) (v : Int) : ABox (W.setCell ⟨B, 2, none⟩ (.int .u32 v)) B n1 v n3 n4 := h.set 2 _
theorem ABox.set3 (h : ABox W B n1 n2 n3 n4) (v : Int) : ABox (W.setCell ⟨B, 3, none⟩ (.int .u32 v)) B n1 n2 v n4 := h.set 3 _
theorem ABox.set4 (h : ABox W B n1 n2 n3 n4) (v : Int) : ABox (W.setCell ⟨B, 4, none⟩ (.int .u32 v)) B n1 n2 n3 v := h.set 4 _
end
theorem res_rread (tmps : Array Value) (w : World) {b : Nat} {e : Ins} {x : Bool} (ha : tmps[2]?.getD undef = .pointer (some ⟨b, 0, none⟩)) (hx : tmps[3]?.getD undef = .bool x) (hbox : InBox w b e) :
    (results Tryz.f26 tmps).run Tryz.prog w = .ok (.tuple #[insV e, .bool x]) w := by
  obtain ⟨h0, h1, h2, h3, h4⟩ := hbox.cells
  simp [results, ha, hx, h0, h1, h2, h3, h4, go_sem, insV]
theorem wordsB_get {j : Nat} (hj : j < 22) : wordsB[j]? = some (wordB (j : Int)) := by
  unfold wordsB wordB shOf
  rw [List.getElem?_map, List.getD_eq_getElem?_getD, show ((j : Int)).toNat = j by omega, List.getElem?_eq_getElem (show j < shs.length from hj)]
  rfl
theorem rd9 (X : ByteArray) (l : List UInt8) (W : World) (h : X.data.toList = l) (hs : X.size ≤ 1000000) : Calls Tryz.prog 47 #[.string X] W fun e w' => e = .returned (.int .u32 (rnum l)) ∧ Below W.heap.size W w' := by
  subst h
  exact rdigits9_any X W hs

set_option maxRecDepth 100000 in
set_option maxHeartbeats 8000000 in
theorem aread9_any (s : ByteArray) (w : World) (hs : s.size ≤ 1000000) :
    Calls Tryz.prog 26 #[.string s] w fun r W' => r = .returned (.tuple #[insV (readX s.data.toList), .bool (readOk s.data.toList)]) ∧ Below w.heap.size w W' := by
  obtain ⟨l, hl⟩ : ∃ l, s.data.toList = l := ⟨_, rfl⟩
  have hst : s.toList = l := by rw [ByteArray.toList_eq, hl]
  have hlen : l.length = s.size := by rw [← hl]; exact Array.length_toList
  have hsp := fun W => rsplit_cells s 32 32 W rfl hs
  have hmiss := @rr_miss l
  have hhit := @rr_hit l
  have hpl : ∀ p ∈ pcs 32 l, p.length ≤ 1000000 := fun p hp => by have := pcs_le9 32 l p hp; omega
  have hpn : (pcs 32 l).length ≤ 1000001 := by have := pcs_len 32 l; omega
  have hne := pcs_ne 32 l
  rw [hl] at hsp ⊢
  obtain ⟨ps, hps⟩ : ∃ ps, pcs 32 l = ps := ⟨_, rfl⟩
  rw [hps] at hsp hmiss hhit hpl hpn hne
  obtain ⟨p0, hp0⟩ := get_some (List.length_pos_iff.2 hne)
  have hp0d : ps.getD 0 [] = p0 := by rw [List.getD_eq_getElem?_getD, hp0]; rfl
  have hl0 : 0 < ps.length := get_lt hp0
  have hl1 : (0 : Int) < (ps.length : Int) := by omega
  have hr0 := InBox.new w Ins.zero
  have hsp' := Lib.hid hsp
  have hmiss' := Lib.hid (fun h => @hmiss p0 hp0d h)
  have hhit' := Lib.hid (fun (j : Nat) (e : Ins) (h1 : j < 22) (h2 : ((shOf j).w == p0) = true) (h3 : (C j ps).find? (fitsS l) = some e) => @hhit p0 j e h1 hp0d h2 h3)
  have hpl' := Lib.hid hpl
  have hst' := Lib.hid hst
  have hr0' := Lib.hid hr0
  have hp0' := Lib.hid hp0
  clear hsp hmiss hhit hpl hst hr0 hps hne hp0d hl hlen hp0
  go_enter Tryz.func26, Tryz.ntmps26
  go_wp2_with fail
  refine (hsp'.out _).mono ?_
  rintro e w1 ⟨b, cp, rfl, hc, ⟨hcp, hcm⟩, hb1⟩
  have hr1 := hr0'.out.kept hb1
  have hB1 := ((Below.refl _ w).alloc (Nat.le_refl _) (.cells #[.int .i64 0, .int .i64 0, .int .i64 0, .int .i64 0, .int .u32 0] 73)).trans (hb1.mono (by simp))
  have hc1 : ∀ (W : World), Below w1.heap.size w1 W → ∀ (j : Nat) x, ps[j]? = some x → W.cell? ⟨b, j, none⟩ = some (.string ⟨x.toArray⟩) := fun W hW j x hx => (hW.cell (p := ⟨b, j, none⟩) (cell_lt (hc j x hx))).trans (hc j x hx)
  have hbl : b < w1.heap.size := cell_lt (hc 0 p0 hp0'.out)
  have hnl : w.heap.size < w1.heap.size := hr1.lt
  have hc' := Lib.hid hc1
  have hr1' := Lib.hid hr1
  have hB1' := Lib.hid hB1
  have hA0 : ABox (w1.alloc (.cells #[.int .u32 0, .int .u32 0, .int .u32 0, .int .u32 0, .int .u32 0] 92)) w1.heap.size (upto ps 1 1) (upto ps 1 2) (upto ps 1 3) (upto ps 1 4) := heap_alloc_new w1 _
  have hAl := (Below.refl w1.heap.size w1).alloc (Nat.le_refl _) (.cells #[.int .u32 0, .int .u32 0, .int .u32 0, .int .u32 0, .int .u32 0] 92)
  clear hc hc1 hr1 hB1 hb1
  go_wp2_with fail
  go_loopw [6, 7] (fun kv _ wr => ∃ k : Nat, 1 ≤ k ∧ k ≤ 5 ∧ k ≤ ps.length ∧ kv = .int .i64 k ∧ ABox wr w1.heap.size (upto ps k 1) (upto ps k 2) (upto ps k 3) (upto ps k 4) ∧ Below w1.heap.size w1 wr) (fun kv _ _ => 5 - (intOf kv).toNat)
  case atStart => exact ⟨1, Nat.le_refl _, by omega, by omega, rfl, hA0, hAl⟩
  case round =>
    obtain ⟨k, hk1, hk5, hkl, rfl, hab, hbr⟩ := hrel
    by_cases hgo : k < ps.length ∧ k < 5
    · obtain ⟨hlt, hlt5⟩ := hgo
      obtain ⟨p, hp⟩ := get_some hlt
      have hpz := hpl'.out p (List.mem_of_getElem? hp)
      have hcell := hc'.out _ hbr k p hp
      have t1 : decide ((k : Int) < (ps.length : Int)) = true := by rw [decide_eq_true_iff]; omega
      have t2 : decide ((k : Int) < 5) = true := by rw [decide_eq_true_iff]; omega
      have hnw := Lib.hid (upto_new ps k hp)
      have hsm := Lib.hid (upto_same ps k)
      have hps : (⟨p.toArray⟩ : ByteArray).size = p.length := by simp [ByteArray.size]
      have hpd : (⟨p.toArray⟩ : ByteArray).data.toList = p := rfl
      obtain ⟨P, hP⟩ : ∃ P, (⟨p.toArray⟩ : ByteArray) = P := ⟨_, rfl⟩
      rw [hP] at hcell hps hpd
      have hptl : P.toList = p := by rw [ByteArray.toList_eq, hpd]
      have hk4 : k = 1 ∨ k = 2 ∨ k = 3 ∨ k = 4 := by omega
      clear hp hP
      rcases hk4 with rfl | rfl | rfl | rfl
      · rcases p with _ | ⟨x, r⟩
        · have x0 : P.toList.isEmpty = true := by rw [hptl]; rfl
          have hdr := Lib.hid (show dropRO ([] : List UInt8) = [] from rfl)
          have hPs : P.size ≤ 1000000 := by rw [hps]; simp
          clear hptl hps
          go_wp2_with fail
          refine (rd9 P [] _ hpd (by exact hPs)).mono ?_
          rintro e w2 ⟨rfl, hb2⟩
          have hab2 := hab.kept hb2
          obtain ⟨c0, c1, c2, c3, c4⟩ := hab2.cells
          have f1 := hab2.frozen 1
          go_wp2_with fail
          go_roundw
          case rel =>
            refine ⟨2, by omega, by omega, by omega, by go_num, ?_, below_set (hbr.trans (hb2.mono hbr.size)) _ _ (Nat.le_refl _) _⟩
            have hz := hab2.set1 (rnum [])
            have e1 := hnw.out
            have e2 := hsm.out 2 (by omega)
            have e3 := hsm.out 3 (by omega)
            have e4 := hsm.out 4 (by omega)
            rw [e1, e2, e3, e4]
            rw [hdr.out]
            exact hz
          case measure => simp [intOf]
        · have x0 : P.toList.isEmpty = false := by rw [hptl]; rfl
          have hP0 : 0 < P.size := by rw [hps]; simp
          obtain ⟨y, hy⟩ : ∃ y, P[0]'hP0 = y := ⟨_, rfl⟩
          have hyx : y = x := by
            have h1 : P.data.toList[0]? = some y := by rw [← hy, List.getElem?_eq_getElem (by rw [show P.data.toList.length = P.size from Array.length_toList]; exact hP0)]; rfl
            rw [hpd] at h1
            simpa using h1.symm
          subst hyx
          clear hptl
          have hex : (P.extract 1 P.size).data.toList = r := by rw [ext_drop, hpd]; rfl
          have hp1 : 1 ≤ P.size := hP0
          have hes : (P.extract 1 P.size).size ≤ 1000000 := by rw [ByteArray.size_extract, hps]; simp only [List.length_cons] at hpz ⊢; omega
          have hPs : P.size ≤ 1000000 := by rw [hps]; exact hpz
          clear hps hpz
          by_cases hy114 : y = 114
          · have hdr := Lib.hid (show dropRO (y :: r) = r by unfold dropRO; rw [if_pos (by simp [hy114])]; rfl)
            have y1 : ((y.toNat : Int) == 114) = true := by rw [hy114]; rfl
            clear hy114
            go_wp2_with fail
            refine (rd9 (P.extract 1 P.size) r _ hex (by exact hes)).mono ?_
            rintro e w2 ⟨rfl, hb2⟩
            have hab2 := hab.kept hb2
            obtain ⟨c0, c1, c2, c3, c4⟩ := hab2.cells
            have f1 := hab2.frozen 1
            go_wp2_with fail
            go_roundw
            case rel =>
              refine ⟨2, by omega, by omega, by omega, by go_num, ?_, below_set (hbr.trans (hb2.mono hbr.size)) _ _ (Nat.le_refl _) _⟩
              have hz := hab2.set1 (rnum r)
              have e1 := hnw.out
              have e2 := hsm.out 2 (by omega)
              have e3 := hsm.out 3 (by omega)
              have e4 := hsm.out 4 (by omega)
              rw [e1, e2, e3, e4]
              rw [hdr.out]
              exact hz
            case measure => simp [intOf]
          by_cases hy111 : y = 111
          · have hdr := Lib.hid (show dropRO (y :: r) = r by unfold dropRO; rw [if_pos (by simp [hy111])]; rfl)
            have y1 : ((y.toNat : Int) == 114) = false := by rw [hy111]; rfl
            have y2 : ((y.toNat : Int) == 111) = true := by rw [hy111]; rfl
            clear hy111 hy114
            go_wp2_with fail
            refine (rd9 (P.extract 1 P.size) r _ hex (by exact hes)).mono ?_
            rintro e w2 ⟨rfl, hb2⟩
            have hab2 := hab.kept hb2
            obtain ⟨c0, c1, c2, c3, c4⟩ := hab2.cells
            have f1 := hab2.frozen 1
            go_wp2_with fail
            go_roundw
            case rel =>
              refine ⟨2, by omega, by omega, by omega, by go_num, ?_, below_set (hbr.trans (hb2.mono hbr.size)) _ _ (Nat.le_refl _) _⟩
              have hz := hab2.set1 (rnum r)
              have e1 := hnw.out
              have e2 := hsm.out 2 (by omega)
              have e3 := hsm.out 3 (by omega)
              have e4 := hsm.out 4 (by omega)
              rw [e1, e2, e3, e4]
              rw [hdr.out]
              exact hz
            case measure => simp [intOf]
          have hdr := Lib.hid (show dropRO (y :: r) = y :: r by unfold dropRO; rw [if_neg (by simp [hy114, hy111])])
          have y1 : ((y.toNat : Int) == 114) = false := by rw [beq_eq_false_iff_ne]; intro e; exact hy114 (UInt8.toNat_inj.1 (show y.toNat = 114 by omega))
          have y2 : ((y.toNat : Int) == 111) = false := by rw [beq_eq_false_iff_ne]; intro e; exact hy111 (UInt8.toNat_inj.1 (show y.toNat = 111 by omega))
          clear hy114 hy111
          go_wp2_with fail
          refine (rd9 P (y :: r) _ hpd (by exact hPs)).mono ?_
          rintro e w2 ⟨rfl, hb2⟩
          have hab2 := hab.kept hb2
          obtain ⟨c0, c1, c2, c3, c4⟩ := hab2.cells
          have f1 := hab2.frozen 1
          go_wp2_with fail
          go_roundw
          case rel =>
            refine ⟨2, by omega, by omega, by omega, by go_num, ?_, below_set (hbr.trans (hb2.mono hbr.size)) _ _ (Nat.le_refl _) _⟩
            have hz := hab2.set1 (rnum (y :: r))
            have e1 := hnw.out
            have e2 := hsm.out 2 (by omega)
            have e3 := hsm.out 3 (by omega)
            have e4 := hsm.out 4 (by omega)
            rw [e1, e2, e3, e4]
            rw [hdr.out]
            exact hz
          case measure => simp [intOf]
      · rcases p with _ | ⟨x, r⟩
        · have x0 : P.toList.isEmpty = true := by rw [hptl]; rfl
          have hdr := Lib.hid (show dropRO ([] : List UInt8) = [] from rfl)
          have hPs : P.size ≤ 1000000 := by rw [hps]; simp
          clear hptl hps
          go_wp2_with fail
          refine (rd9 P [] _ hpd (by exact hPs)).mono ?_
          rintro e w2 ⟨rfl, hb2⟩
          have hab2 := hab.kept hb2
          obtain ⟨c0, c1, c2, c3, c4⟩ := hab2.cells
          have f2 := hab2.frozen 2
          go_wp2_with fail
          go_roundw
          case rel =>
            refine ⟨3, by omega, by omega, by omega, by go_num, ?_, below_set (hbr.trans (hb2.mono hbr.size)) _ _ (Nat.le_refl _) _⟩
            have hz := hab2.set2 (rnum [])
            have e1 := hsm.out 1 (by omega)
            have e2 := hnw.out
            have e3 := hsm.out 3 (by omega)
            have e4 := hsm.out 4 (by omega)
            rw [e1, e2, e3, e4]
            rw [hdr.out]
            exact hz
          case measure => simp [intOf]
        · have x0 : P.toList.isEmpty = false := by rw [hptl]; rfl
          have hP0 : 0 < P.size := by rw [hps]; simp
          obtain ⟨y, hy⟩ : ∃ y, P[0]'hP0 = y := ⟨_, rfl⟩
          have hyx : y = x := by
            have h1 : P.data.toList[0]? = some y := by rw [← hy, List.getElem?_eq_getElem (by rw [show P.data.toList.length = P.size from Array.length_toList]; exact hP0)]; rfl
            rw [hpd] at h1
            simpa using h1.symm
          subst hyx
          clear hptl
          have hex : (P.extract 1 P.size).data.toList = r := by rw [ext_drop, hpd]; rfl
          have hp1 : 1 ≤ P.size := hP0
          have hes : (P.extract 1 P.size).size ≤ 1000000 := by rw [ByteArray.size_extract, hps]; simp only [List.length_cons] at hpz ⊢; omega
          have hPs : P.size ≤ 1000000 := by rw [hps]; exact hpz
          clear hps hpz
          by_cases hy114 : y = 114
          · have hdr := Lib.hid (show dropRO (y :: r) = r by unfold dropRO; rw [if_pos (by simp [hy114])]; rfl)
            have y1 : ((y.toNat : Int) == 114) = true := by rw [hy114]; rfl
            clear hy114
            go_wp2_with fail
            refine (rd9 (P.extract 1 P.size) r _ hex (by exact hes)).mono ?_
            rintro e w2 ⟨rfl, hb2⟩
            have hab2 := hab.kept hb2
            obtain ⟨c0, c1, c2, c3, c4⟩ := hab2.cells
            have f2 := hab2.frozen 2
            go_wp2_with fail
            go_roundw
            case rel =>
              refine ⟨3, by omega, by omega, by omega, by go_num, ?_, below_set (hbr.trans (hb2.mono hbr.size)) _ _ (Nat.le_refl _) _⟩
              have hz := hab2.set2 (rnum r)
              have e1 := hsm.out 1 (by omega)
              have e2 := hnw.out
              have e3 := hsm.out 3 (by omega)
              have e4 := hsm.out 4 (by omega)
              rw [e1, e2, e3, e4]
              rw [hdr.out]
              exact hz
            case measure => simp [intOf]
          by_cases hy111 : y = 111
          · have hdr := Lib.hid (show dropRO (y :: r) = r by unfold dropRO; rw [if_pos (by simp [hy111])]; rfl)
            have y1 : ((y.toNat : Int) == 114) = false := by rw [hy111]; rfl
            have y2 : ((y.toNat : Int) == 111) = true := by rw [hy111]; rfl
            clear hy111 hy114
            go_wp2_with fail
            refine (rd9 (P.extract 1 P.size) r _ hex (by exact hes)).mono ?_
            rintro e w2 ⟨rfl, hb2⟩
            have hab2 := hab.kept hb2
            obtain ⟨c0, c1, c2, c3, c4⟩ := hab2.cells
            have f2 := hab2.frozen 2
            go_wp2_with fail
            go_roundw
            case rel =>
              refine ⟨3, by omega, by omega, by omega, by go_num, ?_, below_set (hbr.trans (hb2.mono hbr.size)) _ _ (Nat.le_refl _) _⟩
              have hz := hab2.set2 (rnum r)
              have e1 := hsm.out 1 (by omega)
              have e2 := hnw.out
              have e3 := hsm.out 3 (by omega)
              have e4 := hsm.out 4 (by omega)
              rw [e1, e2, e3, e4]
              rw [hdr.out]
              exact hz
            case measure => simp [intOf]
          have hdr := Lib.hid (show dropRO (y :: r) = y :: r by unfold dropRO; rw [if_neg (by simp [hy114, hy111])])
          have y1 : ((y.toNat : Int) == 114) = false := by rw [beq_eq_false_iff_ne]; intro e; exact hy114 (UInt8.toNat_inj.1 (show y.toNat = 114 by omega))
          have y2 : ((y.toNat : Int) == 111) = false := by rw [beq_eq_false_iff_ne]; intro e; exact hy111 (UInt8.toNat_inj.1 (show y.toNat = 111 by omega))
          clear hy114 hy111
          go_wp2_with fail
          refine (rd9 P (y :: r) _ hpd (by exact hPs)).mono ?_
          rintro e w2 ⟨rfl, hb2⟩
          have hab2 := hab.kept hb2
          obtain ⟨c0, c1, c2, c3, c4⟩ := hab2.cells
          have f2 := hab2.frozen 2
          go_wp2_with fail
          go_roundw
          case rel =>
            refine ⟨3, by omega, by omega, by omega, by go_num, ?_, below_set (hbr.trans (hb2.mono hbr.size)) _ _ (Nat.le_refl _) _⟩
            have hz := hab2.set2 (rnum (y :: r))
            have e1 := hsm.out 1 (by omega)
            have e2 := hnw.out
            have e3 := hsm.out 3 (by omega)
            have e4 := hsm.out 4 (by omega)
            rw [e1, e2, e3, e4]
            rw [hdr.out]
            exact hz
          case measure => simp [intOf]
      · rcases p with _ | ⟨x, r⟩
        · have x0 : P.toList.isEmpty = true := by rw [hptl]; rfl
          have hdr := Lib.hid (show dropRO ([] : List UInt8) = [] from rfl)
          have hPs : P.size ≤ 1000000 := by rw [hps]; simp
          clear hptl hps
          go_wp2_with fail
          refine (rd9 P [] _ hpd (by exact hPs)).mono ?_
          rintro e w2 ⟨rfl, hb2⟩
          have hab2 := hab.kept hb2
          obtain ⟨c0, c1, c2, c3, c4⟩ := hab2.cells
          have f3 := hab2.frozen 3
          go_wp2_with fail
          go_roundw
          case rel =>
            refine ⟨4, by omega, by omega, by omega, by go_num, ?_, below_set (hbr.trans (hb2.mono hbr.size)) _ _ (Nat.le_refl _) _⟩
            have hz := hab2.set3 (rnum [])
            have e1 := hsm.out 1 (by omega)
            have e2 := hsm.out 2 (by omega)
            have e3 := hnw.out
            have e4 := hsm.out 4 (by omega)
            rw [e1, e2, e3, e4]
            rw [hdr.out]
            exact hz
          case measure => simp [intOf]
        · have x0 : P.toList.isEmpty = false := by rw [hptl]; rfl
          have hP0 : 0 < P.size := by rw [hps]; simp
          obtain ⟨y, hy⟩ : ∃ y, P[0]'hP0 = y := ⟨_, rfl⟩
          have hyx : y = x := by
            have h1 : P.data.toList[0]? = some y := by rw [← hy, List.getElem?_eq_getElem (by rw [show P.data.toList.length = P.size from Array.length_toList]; exact hP0)]; rfl
            rw [hpd] at h1
            simpa using h1.symm
          subst hyx
          clear hptl
          have hex : (P.extract 1 P.size).data.toList = r := by rw [ext_drop, hpd]; rfl
          have hp1 : 1 ≤ P.size := hP0
          have hes : (P.extract 1 P.size).size ≤ 1000000 := by rw [ByteArray.size_extract, hps]; simp only [List.length_cons] at hpz ⊢; omega
          have hPs : P.size ≤ 1000000 := by rw [hps]; exact hpz
          clear hps hpz
          by_cases hy114 : y = 114
          · have hdr := Lib.hid (show dropRO (y :: r) = r by unfold dropRO; rw [if_pos (by simp [hy114])]; rfl)
            have y1 : ((y.toNat : Int) == 114) = true := by rw [hy114]; rfl
            clear hy114
            go_wp2_with fail
            refine (rd9 (P.extract 1 P.size) r _ hex (by exact hes)).mono ?_
            rintro e w2 ⟨rfl, hb2⟩
            have hab2 := hab.kept hb2
            obtain ⟨c0, c1, c2, c3, c4⟩ := hab2.cells
            have f3 := hab2.frozen 3
            go_wp2_with fail
            go_roundw
            case rel =>
              refine ⟨4, by omega, by omega, by omega, by go_num, ?_, below_set (hbr.trans (hb2.mono hbr.size)) _ _ (Nat.le_refl _) _⟩
              have hz := hab2.set3 (rnum r)
              have e1 := hsm.out 1 (by omega)
              have e2 := hsm.out 2 (by omega)
              have e3 := hnw.out
              have e4 := hsm.out 4 (by omega)
              rw [e1, e2, e3, e4]
              rw [hdr.out]
              exact hz
            case measure => simp [intOf]
          by_cases hy111 : y = 111
          · have hdr := Lib.hid (show dropRO (y :: r) = r by unfold dropRO; rw [if_pos (by simp [hy111])]; rfl)
            have y1 : ((y.toNat : Int) == 114) = false := by rw [hy111]; rfl
            have y2 : ((y.toNat : Int) == 111) = true := by rw [hy111]; rfl
            clear hy111 hy114
            go_wp2_with fail
            refine (rd9 (P.extract 1 P.size) r _ hex (by exact hes)).mono ?_
            rintro e w2 ⟨rfl, hb2⟩
            have hab2 := hab.kept hb2
            obtain ⟨c0, c1, c2, c3, c4⟩ := hab2.cells
            have f3 := hab2.frozen 3
            go_wp2_with fail
            go_roundw
            case rel =>
              refine ⟨4, by omega, by omega, by omega, by go_num, ?_, below_set (hbr.trans (hb2.mono hbr.size)) _ _ (Nat.le_refl _) _⟩
              have hz := hab2.set3 (rnum r)
              have e1 := hsm.out 1 (by omega)
              have e2 := hsm.out 2 (by omega)
              have e3 := hnw.out
              have e4 := hsm.out 4 (by omega)
              rw [e1, e2, e3, e4]
              rw [hdr.out]
              exact hz
            case measure => simp [intOf]
          have hdr := Lib.hid (show dropRO (y :: r) = y :: r by unfold dropRO; rw [if_neg (by simp [hy114, hy111])])
          have y1 : ((y.toNat : Int) == 114) = false := by rw [beq_eq_false_iff_ne]; intro e; exact hy114 (UInt8.toNat_inj.1 (show y.toNat = 114 by omega))
          have y2 : ((y.toNat : Int) == 111) = false := by rw [beq_eq_false_iff_ne]; intro e; exact hy111 (UInt8.toNat_inj.1 (show y.toNat = 111 by omega))
          clear hy114 hy111
          go_wp2_with fail
          refine (rd9 P (y :: r) _ hpd (by exact hPs)).mono ?_
          rintro e w2 ⟨rfl, hb2⟩
          have hab2 := hab.kept hb2
          obtain ⟨c0, c1, c2, c3, c4⟩ := hab2.cells
          have f3 := hab2.frozen 3
          go_wp2_with fail
          go_roundw
          case rel =>
            refine ⟨4, by omega, by omega, by omega, by go_num, ?_, below_set (hbr.trans (hb2.mono hbr.size)) _ _ (Nat.le_refl _) _⟩
            have hz := hab2.set3 (rnum (y :: r))
            have e1 := hsm.out 1 (by omega)
            have e2 := hsm.out 2 (by omega)
            have e3 := hnw.out
            have e4 := hsm.out 4 (by omega)
            rw [e1, e2, e3, e4]
            rw [hdr.out]
            exact hz
          case measure => simp [intOf]
      · rcases p with _ | ⟨x, r⟩
        · have x0 : P.toList.isEmpty = true := by rw [hptl]; rfl
          have hdr := Lib.hid (show dropRO ([] : List UInt8) = [] from rfl)
          have hPs : P.size ≤ 1000000 := by rw [hps]; simp
          clear hptl hps
          go_wp2_with fail
          refine (rd9 P [] _ hpd (by exact hPs)).mono ?_
          rintro e w2 ⟨rfl, hb2⟩
          have hab2 := hab.kept hb2
          obtain ⟨c0, c1, c2, c3, c4⟩ := hab2.cells
          have f4 := hab2.frozen 4
          go_wp2_with fail
          go_roundw
          case rel =>
            refine ⟨5, by omega, by omega, by omega, by go_num, ?_, below_set (hbr.trans (hb2.mono hbr.size)) _ _ (Nat.le_refl _) _⟩
            have hz := hab2.set4 (rnum [])
            have e1 := hsm.out 1 (by omega)
            have e2 := hsm.out 2 (by omega)
            have e3 := hsm.out 3 (by omega)
            have e4 := hnw.out
            rw [e1, e2, e3, e4]
            rw [hdr.out]
            exact hz
          case measure => simp [intOf]
        · have x0 : P.toList.isEmpty = false := by rw [hptl]; rfl
          have hP0 : 0 < P.size := by rw [hps]; simp
          obtain ⟨y, hy⟩ : ∃ y, P[0]'hP0 = y := ⟨_, rfl⟩
          have hyx : y = x := by
            have h1 : P.data.toList[0]? = some y := by rw [← hy, List.getElem?_eq_getElem (by rw [show P.data.toList.length = P.size from Array.length_toList]; exact hP0)]; rfl
            rw [hpd] at h1
            simpa using h1.symm
          subst hyx
          clear hptl
          have hex : (P.extract 1 P.size).data.toList = r := by rw [ext_drop, hpd]; rfl
          have hp1 : 1 ≤ P.size := hP0
          have hes : (P.extract 1 P.size).size ≤ 1000000 := by rw [ByteArray.size_extract, hps]; simp only [List.length_cons] at hpz ⊢; omega
          have hPs : P.size ≤ 1000000 := by rw [hps]; exact hpz
          clear hps hpz
          by_cases hy114 : y = 114
          · have hdr := Lib.hid (show dropRO (y :: r) = r by unfold dropRO; rw [if_pos (by simp [hy114])]; rfl)
            have y1 : ((y.toNat : Int) == 114) = true := by rw [hy114]; rfl
            clear hy114
            go_wp2_with fail
            refine (rd9 (P.extract 1 P.size) r _ hex (by exact hes)).mono ?_
            rintro e w2 ⟨rfl, hb2⟩
            have hab2 := hab.kept hb2
            obtain ⟨c0, c1, c2, c3, c4⟩ := hab2.cells
            have f4 := hab2.frozen 4
            go_wp2_with fail
            go_roundw
            case rel =>
              refine ⟨5, by omega, by omega, by omega, by go_num, ?_, below_set (hbr.trans (hb2.mono hbr.size)) _ _ (Nat.le_refl _) _⟩
              have hz := hab2.set4 (rnum r)
              have e1 := hsm.out 1 (by omega)
              have e2 := hsm.out 2 (by omega)
              have e3 := hsm.out 3 (by omega)
              have e4 := hnw.out
              rw [e1, e2, e3, e4]
              rw [hdr.out]
              exact hz
            case measure => simp [intOf]
          by_cases hy111 : y = 111
          · have hdr := Lib.hid (show dropRO (y :: r) = r by unfold dropRO; rw [if_pos (by simp [hy111])]; rfl)
            have y1 : ((y.toNat : Int) == 114) = false := by rw [hy111]; rfl
            have y2 : ((y.toNat : Int) == 111) = true := by rw [hy111]; rfl
            clear hy111 hy114
            go_wp2_with fail
            refine (rd9 (P.extract 1 P.size) r _ hex (by exact hes)).mono ?_
            rintro e w2 ⟨rfl, hb2⟩
            have hab2 := hab.kept hb2
            obtain ⟨c0, c1, c2, c3, c4⟩ := hab2.cells
            have f4 := hab2.frozen 4
            go_wp2_with fail
            go_roundw
            case rel =>
              refine ⟨5, by omega, by omega, by omega, by go_num, ?_, below_set (hbr.trans (hb2.mono hbr.size)) _ _ (Nat.le_refl _) _⟩
              have hz := hab2.set4 (rnum r)
              have e1 := hsm.out 1 (by omega)
              have e2 := hsm.out 2 (by omega)
              have e3 := hsm.out 3 (by omega)
              have e4 := hnw.out
              rw [e1, e2, e3, e4]
              rw [hdr.out]
              exact hz
            case measure => simp [intOf]
          have hdr := Lib.hid (show dropRO (y :: r) = y :: r by unfold dropRO; rw [if_neg (by simp [hy114, hy111])])
          have y1 : ((y.toNat : Int) == 114) = false := by rw [beq_eq_false_iff_ne]; intro e; exact hy114 (UInt8.toNat_inj.1 (show y.toNat = 114 by omega))
          have y2 : ((y.toNat : Int) == 111) = false := by rw [beq_eq_false_iff_ne]; intro e; exact hy111 (UInt8.toNat_inj.1 (show y.toNat = 111 by omega))
          clear hy114 hy111
          go_wp2_with fail
          refine (rd9 P (y :: r) _ hpd (by exact hPs)).mono ?_
          rintro e w2 ⟨rfl, hb2⟩
          have hab2 := hab.kept hb2
          obtain ⟨c0, c1, c2, c3, c4⟩ := hab2.cells
          have f4 := hab2.frozen 4
          go_wp2_with fail
          go_roundw
          case rel =>
            refine ⟨5, by omega, by omega, by omega, by go_num, ?_, below_set (hbr.trans (hb2.mono hbr.size)) _ _ (Nat.le_refl _) _⟩
            have hz := hab2.set4 (rnum (y :: r))
            have e1 := hsm.out 1 (by omega)
            have e2 := hsm.out 2 (by omega)
            have e3 := hsm.out 3 (by omega)
            have e4 := hnw.out
            rw [e1, e2, e3, e4]
            rw [hdr.out]
            exact hz
          case measure => simp [intOf]
    · have e1 := upto_end (j := 1) hgo (by omega)
      have e2 := upto_end (j := 2) hgo (by omega)
      have e3 := upto_end (j := 3) hgo (by omega)
      have e4 := upto_end (j := 4) hgo (by omega)
      rw [e1, e2, e3, e4] at hab
      have b1 := rAt_bd ps 1
      have b2 := rAt_bd ps 2
      have b3 := rAt_bd ps 3
      have wc1 : IntKind.i64.wrap (rAt ps 1) = rAt ps 1 := by simp [IntKind.wrap, IntKind.signed, IntKind.bits]; omega
      have wc2 : IntKind.i64.wrap (rAt ps 2) = rAt ps 2 := by simp [IntKind.wrap, IntKind.signed, IntKind.bits]; omega
      have wc3 : IntKind.i64.wrap (rAt ps 3) = rAt ps 3 := by simp [IntKind.wrap, IntKind.signed, IntKind.bits]; omega
      have hcs : (decide ((k : Int) < (ps.length : Int)) = false ∧ decide (k < ps.length) = false ∧ ¬ (k < ps.length)) ∨ (k = 5 ∧ decide (((5 : Nat) : Int) < (ps.length : Int)) = true ∧ decide ((5 : Int) < (ps.length : Int)) = true) := by
        by_cases hkk : k < ps.length
        · exact .inr ⟨by omega, by rw [decide_eq_true_iff]; omega, by rw [decide_eq_true_iff]; omega⟩
        · exact .inl ⟨by rw [decide_eq_false_iff_not]; omega, by rw [decide_eq_false_iff_not]; omega, hkk⟩
      clear b1 b2 b3 e1 e2 e3 e4 hgo hk1 hk5 hkl
      rcases hcs with ⟨t1, t2, t3⟩ | ⟨rfl, t1, t2⟩
      all_goals
        obtain ⟨c0, c1, c2, c3, c4⟩ := hab.cells
        go_wp2_with fail
        refine (rwords_any _).mono ?_
        rintro e w3 ⟨bw, rfl, hcw, hlw, hb3⟩
        clear c0 c1 c2 c3 c4
        have hB3 := hbr.trans (hb3.mono hbr.size)
        have hab3 := Lib.hid (hab.kept hb3)
        have hcw' := Lib.hid (fun (W : World) (hW : Below w3.heap.size w3 W) (j : Nat) (x : ByteArray) (hx : wordsB[j]? = some x) => (hW.cell (p := ⟨bw, j, none⟩) (cell_lt (hcw j x hx))).trans (hcw j x hx))
        have hB3' := Lib.hid hB3
        have hs13 : w1.heap.size ≤ w3.heap.size := hB3.size
        clear hab hbr hb3 hcw hB3
        go_wp2_with fail
        go_loopw [11, 12, 14, 60] (fun _ _ _ jv wr2 => ∃ j : Nat, j ≤ 22 ∧ jv = .int .i64 j ∧ (∀ i : Nat, i < j → ((shOf i).w == p0) = true → (C i ps).find? (fitsS l) = none) ∧ Below w3.heap.size w3 wr2) (fun _ _ _ jv _ => 22 - (intOf jv).toNat)
        case atStart => exact ⟨0, Nat.zero_le _, rfl, fun i h => absurd h (Nat.not_lt_zero _), Below.refl _ _⟩
        case round =>
          obtain ⟨j, hj, rfl, hno, hbj⟩ := hrel
          have hB4 : Below w1.heap.size w1 wr := hB3'.out.trans (hbj.mono hs13)
          have hr4 := hr1'.out.kept hB4
          have hBw : Below w.heap.size w wr := hB1'.out.trans (hB4.mono hB1'.out.size)
          by_cases hlt : j < 22
          · have hltI : (j : Int) < 22 := by omega
            have hltD : decide ((j : Int) < 22) = true := decide_eq_true hltI
            obtain ⟨c0, c1, c2, c3, c4⟩ := (hab3.out.kept hbj).cells
            have hq0 := hc'.out wr hB4 0 p0 hp0'.out
            have hw := hcw'.out wr hbj j (wordB (j : Int)) (wordsB_get hlt)
            have hfind := Lib.hid (fun (e : Ins) (h2 : ((shOf (j : Int)).w == p0) = true) (h3 : (C j ps).find? (fitsS l) = some e) => hhit'.out j e hlt h2 h3)
            have hnext := Lib.hid (fun (h : ((shOf (j : Int)).w == p0) = true → (C j ps).find? (fitsS l) = none) => (fun i hi => by
              by_cases hij : i < j
              · exact hno i hij
              · rw [show i = j by omega]; exact h : ∀ i : Nat, i < j + 1 → ((shOf i).w == p0) = true → (C i ps).find? (fitsS l) = none))
            have hWl : (wordB (j : Int)).toList = (shOf (j : Int)).w := by rw [ByteArray.toList_eq]; rfl
            obtain ⟨WB, hWB⟩ : ∃ x, wordB (j : Int) = x := ⟨_, rfl⟩
            rw [hWB] at hw hWl
            have hsz := hBw.size
            clear hno hWB
            rcases hq : ((shOf (j : Int)).w == p0) with _ | _
            · have hx : (WB.toList == p0) = false := by rw [hWl]; exact hq
              have hq' := Lib.hid hq
              clear hq hWl
              go_wp2_with fail
              go_roundw
              case rel => exact ⟨j + 1, by omega, by go_num, hnext.out (fun h => by rw [hq'.out] at h; cases h), hbj⟩
              case measure => simp [intOf]; omega
            · have hx : (WB.toList == p0) = true := by rw [hWl]; exact hq
              have hq' := Lib.hid hq
              clear hq hWl
              go_wp2_with fail
              have hC0 : ∀ cs : Array Value, cs.toList = insE.all (C 0 ps) → InSl (wr.alloc (.cells cs 73)) (wr.alloc (.cells cs 73)).heap.size (some ⟨wr.heap.size, 0, none⟩) (C 0 ps) := fun cs h => ⟨by simpa using SlOf.new wr cs 73 (C 0 ps) h, C_ok 0 (by omega) ps⟩
              have hC1 := hC0 (insE.all (C 0 ps)).toArray rfl
              have hbA := (Below.refl wr.heap.size wr).alloc (Nat.le_refl _) (.cells (insE.all (C 0 ps)).toArray 73)
              obtain ⟨w5, hw5⟩ : ∃ x, wr.alloc (.cells (insE.all (C 0 ps)).toArray 73) = x := ⟨_, rfl⟩
              have hw5' : wr.alloc (.cells #[.int .i64 0, .int .i64 0, .int .i64 0, .int .i64 0, .int .u32 0, .int .i64 0, .int .i64 (rAt ps 1), .int .i64 0, .int .i64 0, .int .u32 (rAt ps 2), .int .i64 0, .int .i64 (rAt ps 1), .int .i64 (rAt ps 2), .int .i64 0, .int .u32 0, .int .i64 0, .int .i64 (rAt ps 1), .int .i64 (rAt ps 2), .int .i64 (rAt ps 3), .int .u32 0, .int .i64 0, .int .i64 (rAt ps 1), .int .i64 (rAt ps 2), .int .i64 0, .int .u32 (rAt ps 3), .int .i64 0, .int .i64 (rAt ps 1), .int .i64 (rAt ps 2), .int .i64 (rAt ps 3), .int .u32 (rAt ps 4), .int .i64 0, .int .i64 0, .int .i64 0, .int .i64 0, .int .u32 (rAt ps 1), .int .i64 0, .int .i64 0, .int .i64 0, .int .i64 (rAt ps 2), .int .u32 (rAt ps 1)] 73) = w5 := hw5
              rw [hw5] at hC1 hbA
              rw [hw5']
              obtain ⟨sb, hsb⟩ : ∃ n, wr.heap.size = n := ⟨_, rfl⟩
              rw [hsb] at hC1
              have hs5 : sb + 1 = w5.heap.size := by rw [← hw5, World.size_alloc, hsb]
              have hB5 : Below w3.heap.size w3 w5 := hbj.trans (hbA.mono hbj.size)
              have hr5 := hr4.kept hbA
              have hBw5 := hBw.trans (hbA.mono hsz)
              simp only [hsb]
              have hC' := Lib.hid hC1
              have hB5' := Lib.hid hB5
              have hr5' := Lib.hid hr5
              have hBw5' := Lib.hid hBw5
              clear hC0 hC1 hbA hw5 hw5' hB4 hr4 hBw hbj c0 c1 c2 c3 c4 hq0 hw hx hB5 hr5 hBw5
              go_loopw [14, 102] (fun _ tv wr3 => ∃ t : Nat, t ≤ 8 ∧ tv = .int .i64 t ∧ (∀ e ∈ (C j ps).take t, fitsS l e = false) ∧ Below w5.heap.size w5 wr3) (fun _ tv _ => 8 - (intOf tv).toNat)
              case atStart => exact ⟨0, Nat.zero_le _, rfl, (fun e h => by cases h), Below.refl _ _⟩
              case round =>
                obtain ⟨t, ht, rfl, hnf, hbt⟩ := hrel
                by_cases ht8 : t < 8
                · have ht8I : (t : Int) < 8 := by omega
                  have ht8D : decide ((t : Int) < 8) = true := decide_eq_true ht8I
                  obtain ⟨e, he⟩ := get_some (show t < (C 0 ps).length from ht8)
                  obtain ⟨hke, b5, o5, hA5, hlb5, g0, g1, g2, g3, g4⟩ := (hC'.out.below hbt (Nat.le_refl _)).get he
                  injection hA5 with hA5
                  injection hA5 with hA5 hO5
                  subst hA5 hO5
                  simp only [Nat.zero_add] at g0 g1 g2 g3 g4
                  have hce := C_at (op := (j : Int)) he
                  have hok := C_ok (j : Int) (by omega) ps _ (List.mem_of_getElem? hce)
                  have hR := fun W => rright_any (⟨(j : Int), e.a, e.b, e.c, e.n⟩ : Ins) W
                  have hbx := InBox.new wr (⟨(j : Int), e.a, e.b, e.c, e.n⟩ : Ins)
                  have hstep : fitsS l ⟨(j : Int), e.a, e.b, e.c, e.n⟩ = false → ∀ x ∈ (C j ps).take (t + 1), fitsS l x = false := fun h x hx => by
                    rw [take_snoc hce] at hx
                    rcases List.mem_append.1 hx with hx | hx
                    · exact hnf x hx
                    · rw [List.mem_singleton.1 hx]; exact h
                  have hhitE : fitsS l ⟨(j : Int), e.a, e.b, e.c, e.n⟩ = true → _ := fun h => hfind.out _ hq'.out (find_at hnf hce h)
                  have hrE := hr5'.out.kept hbt
                  have hBE := hBw5'.out.trans (hbt.mono hBw5'.out.size)
                  have hszE := hBE.size
                  have hLn := fun h W => rline_any (⟨(j : Int), e.a, e.b, e.c, e.n⟩ : Ins) W h hok
                  obtain ⟨eo, ea, eb, ec, en⟩ := e
                  unfold insV at hR hLn
                  simp only at hR hLn hbx hstep hhitE g0 g1 g2 g3 g4 hok
                  have hne6 : w.heap.size ≠ wr.heap.size := by have := hrE.lt; omega
                  have hstep' := Lib.hid hstep
                  have hhitE' := Lib.hid hhitE
                  have hbx' := Lib.hid hbx
                  have hR' := Lib.hid hR
                  have hrE' := Lib.hid hrE
                  have hBE' := Lib.hid hBE
                  clear hnf hce he hR hbx hstep hhitE hrE hBE hke hok
                  rcases hq2 : insB ⟨(j : Int), ea, eb, ec, en⟩ with _ | _
                  · rw [hq2] at hR'
                    have hnf2 := Lib.hid (hstep'.out (fits_no1 hq2))
                    clear hLn hq2
                    go_wp2_with fail
                    refine (hR'.out _).mono ?_
                    rintro e6 w6 ⟨rfl, hb6⟩
                    have hB6 := hbt.trans (((Below.refl _ wr).alloc (Nat.le_refl _) _).trans (hb6.mono (by simp)) |>.mono hbt.size)
                    go_wp2_with fail
                    go_roundw
                    case rel => exact ⟨t + 1, by omega, by go_num, hnf2.out, hB6⟩
                    case measure => simp [intOf]; omega
                  · rw [hq2] at hR'
                    have hLn' := Lib.hid (hLn hq2)
                    clear hLn
                    by_cases hll : lineL ⟨(j : Int), ea, eb, ec, en⟩ = l
                    · have hret := Lib.hid (hhitE'.out (fits_yes hq2 hll))
                      have hstr : ((lineS ⟨(j : Int), ea, eb, ec, en⟩).toList == s.toList) = true := by rw [hst'.out, ByteArray.toList_eq]; simp [lineS, hll]
                      obtain ⟨LS, hLS⟩ : ∃ x, lineS ⟨(j : Int), ea, eb, ec, en⟩ = x := ⟨_, rfl⟩
                      rw [hLS] at hLn' hstr
                      clear hq2 hll hLS
                      go_wp2_with fail
                      refine (hR'.out _).mono ?_
                      rintro e6 w6 ⟨rfl, hb6⟩
                      have hbx6 := hbx'.out.kept hb6
                      obtain ⟨d0, d1, d2, d3, d4⟩ := hbx6.cells
                      go_wp2_with fail
                      refine (hLn'.out _).mono ?_
                      rintro e7 w7 ⟨rfl, hb7⟩
                      have hbx7 := hbx6.kept hb7
                      clear d0 d1 d2 d3 d4
                      obtain ⟨d0, d1, d2, d3, d4⟩ := hbx7.cells
                      have hr7 := (((hrE'.out.kept ((Below.refl _ wr).alloc (Nat.le_refl _) _)).kept hb6).kept hb7)
                      have hB7a := (((hBE'.out.alloc hszE _).trans (hb6.mono (by rw [World.size_alloc]; omega))))
                      have hB7 := hB7a.trans (hb7.mono hB7a.size)
                      obtain ⟨y0, y1, y2, y3, y4⟩ := hr7.cells
                      have z0 := hr7.frozen 0
                      have z1 := hr7.frozen 1
                      have z2 := hr7.frozen 2
                      have z3 := hr7.frozen 3
                      have z4 := hr7.frozen 4
                      go_wp2_with fail
                      refine bodyPost_ret (res_rread _ _ rfl rfl (hr7.set5 ⟨(j : Int), ea, eb, ec, en⟩)) rfl ?_
                      exact ⟨by rw [hret.out.1, hret.out.2], below_set5 hB7 _ (Nat.le_refl _) _ _ _ _ _⟩
                    · have hnf2 := Lib.hid (hstep'.out (fits_no2 hll))
                      have hstr : ((lineS ⟨(j : Int), ea, eb, ec, en⟩).toList == s.toList) = false := by
                        rw [beq_eq_false_iff_ne, hst'.out, ByteArray.toList_eq]
                        simpa [lineS] using hll
                      obtain ⟨LS, hLS⟩ : ∃ x, lineS ⟨(j : Int), ea, eb, ec, en⟩ = x := ⟨_, rfl⟩
                      rw [hLS] at hLn' hstr
                      clear hq2 hll hLS
                      go_wp2_with fail
                      refine (hR'.out _).mono ?_
                      rintro e6 w6 ⟨rfl, hb6⟩
                      have hbx6 := hbx'.out.kept hb6
                      obtain ⟨d0, d1, d2, d3, d4⟩ := hbx6.cells
                      go_wp2_with fail
                      refine (hLn'.out _).mono ?_
                      rintro e7 w7 ⟨rfl, hb7⟩
                      have hB6a := hbt.alloc hbt.size (.cells #[.int .i64 (j : Int), .int .i64 ea, .int .i64 eb, .int .i64 ec, .int .u32 en] 73)
                      have hB6b := hB6a.trans (hb6.mono hB6a.size)
                      have hB7 := hB6b.trans (hb7.mono hB6b.size)
                      go_wp2_with fail
                      go_roundw
                      case rel => exact ⟨t + 1, by omega, by go_num, hnf2.out, hB7⟩
                      case measure => simp [intOf]; omega
                · have ht88 : t = 8 := by omega
                  subst ht88
                  have hn9 := Lib.hid (hnext.out (fun _ => find_none (fun x hx => hnf x (by rw [List.take_of_length_le (by rw [C_len]; omega)]; exact hx))))
                  have hB9 := hB5'.out.trans (hbt.mono hB5'.out.size)
                  clear hnf
                  go_wp2_with fail
                  go_roundw
                  case rel => exact ⟨j + 1, by omega, by go_num, hn9.out, hB9⟩
                  case measure => simp [intOf]; omega
          · have hj22 : j = 22 := by omega
            subst hj22
            have hm := Lib.hid (hmiss'.out hno)
            obtain ⟨y0, y1, y2, y3, y4⟩ := hr4.cells
            have z0 := hr4.frozen 0
            have z1 := hr4.frozen 1
            have z2 := hr4.frozen 2
            have z3 := hr4.frozen 3
            have z4 := hr4.frozen 4
            clear hno
            go_wp2_with fail
            refine bodyPost_ret (res_rread _ _ rfl rfl (hr4.set5 Ins.zero)) rfl ?_
            exact ⟨by rw [hm.out.1, hm.out.2], below_set5 hBw _ (Nat.le_refl _) _ _ _ _ _⟩

end Go.Proofs.YtfgmebjbibbpdaaGreatDoor

namespace Go.Proofs.YtfgmebjbibbpdaaGreatDoor
open Go.RowKit
attribute [local go_sem] Oper.semAt_some

theorem res_rhd9 (tmps : Array Value) (w : World) {b : Nat} {kd pr pe off dl ow : Int} {x : Bool} (ha : tmps[2]?.getD undef = .pointer (some ⟨b, 0, none⟩)) (hx : tmps[3]?.getD undef = .bool x) (hbox : RowB w b (tkR kd pr pe off dl ow) 46) :
    (results Tryz.f27 tmps).run Tryz.prog w = .ok (.tuple #[.agg (tkR kd pr pe off dl ow), .bool x]) w := by
  have h0 := hbox.cell 0
  have h1 := hbox.cell 1
  have h2 := hbox.cell 2
  have h3 := hbox.cell 3
  have h4 := hbox.cell 4
  have h5 := hbox.cell 5
  have h6 := hbox.cell 6
  simp only [tkR, List.getElem?_toArray, List.getElem?_cons_zero, List.getElem?_cons_succ] at h0 h1 h2 h3 h4 h5 h6
  simp [results, ha, hx, h0, h1, h2, h3, h4, h5, h6, go_sem, tkR]
/-- What the region keeps. -/
def RvS (w5 : World) (g off : Nat) (n0 n1 n2 n3 n4 : Int) (w' : World) : Prop :=
  Below w5.heap.size w5 w' ∧ w'.cell? ⟨g, off, none⟩ = some (.int .i64 n0) ∧ w'.cell? ⟨g, off + 1, none⟩ = some (.int .i64 n1) ∧ w'.cell? ⟨g, off + 2, none⟩ = some (.int .i64 n2) ∧ w'.cell? ⟨g, off + 3, none⟩ = some (.int .i64 n3) ∧ w'.cell? ⟨g, off + 4, none⟩ = some (.int .i64 n4)
theorem RvS.below {w5 w w' : World} {g off : Nat} {n0 n1 n2 n3 n4 : Int} (h : RvS w5 g off n0 n1 n2 n3 n4 w) (hb : Below w.heap.size w w') : RvS w5 g off n0 n1 n2 n3 n4 w' := by
  obtain ⟨h1, h3, h4, h5, h6, h7⟩ := h
  have key : ∀ {p : Addr} {u : Value}, w.cell? p = some u → w'.cell? p = some u := fun {p u} hc => (hb.cell (p := p) (cell_lt hc)).trans hc
  exact ⟨h1.trans (hb.mono h1.size), key h3, key h4, key h5, key h6, key h7⟩
set_option maxRecDepth 100000 in
set_option maxHeartbeats 4000000 in
theorem rhd9_any (s : ByteArray) (w : World) (hs : s.size ≤ 1000000) :
    Calls Tryz.prog 27 #[.string s] w (RHeadR s.data.toList w) := by
  obtain ⟨l, hl⟩ : ∃ l, s.data.toList = l := ⟨_, rfl⟩
  have hlen : l.length = s.size := by rw [← hl]; exact Array.length_toList
  obtain ⟨q, hq⟩ : ∃ q, pcs 32 l = q := ⟨_, rfl⟩
  have hsp := fun W => rsplit_cells s 32 32 W rfl hs
  have hqs : ∀ x ∈ q, x.length ≤ 1000000 := fun x hx => by
    have := pcs_mem 32 l x (by rw [hq]; exact hx)
    omega
  have hqn : q.length ≤ 1000001 := by have := pcs_len 32 l; rw [hq] at this; omega
  rw [hl] at hsp ⊢
  rw [hq] at hsp
  unfold RHeadR
  rw [← readT_same]
  by_cases h7 : q.length = 7
  · obtain ⟨x0, x1, x2, x3, x4, x5, x6, rfl⟩ : ∃ x0 x1 x2 x3 x4 x5 x6, q = [x0, x1, x2, x3, x4, x5, x6] := by
      match q, h7 with
      | [a, b, c, d, e, f, g], _ => exact ⟨a, b, c, d, e, f, g, rfl⟩
    obtain ⟨n2, hn2⟩ : ∃ x, numR x2 = x := ⟨_, rfl⟩
    obtain ⟨n3, hn3⟩ : ∃ x, numR x3 = x := ⟨_, rfl⟩
    obtain ⟨n4, hn4⟩ : ∃ x, numR x4 = x := ⟨_, rfl⟩
    obtain ⟨n5, hn5⟩ : ∃ x, numR x5 = x := ⟨_, rfl⟩
    obtain ⟨n6, hn6⟩ : ∃ x, numR x6 = x := ⟨_, rfl⟩
    have HRD : readTR l = [(⟨1, n2, n3, n4, n5, n6, []⟩ : Tk), ⟨2, n2, n3, n4, n5, n6, []⟩].find? (fitT l) := by
      unfold readTR
      rw [hq, if_pos (show [x0, x1, x2, x3, x4, x5, x6].length = 7 from rfl)]
      simp [headC, hn2, hn3, hn4, hn5, hn6]
    have hRD := Lib.hid HRD
    have hl' := Lib.hid hl
    have hsp' := Lib.hid hsp
    have hwh := fun (W : World) (b cp : Nat) (hc : SlOf strs W W.heap.size (some ⟨b, 2, none⟩) (toB [x2, x3, x4, x5, x6])) => rwhole_any (some ⟨b, 2, none⟩) (cp - 2) [x2, x3, x4, x5, x6] W (by simp) (fun p hp => hqs p (List.mem_cons_of_mem _ (List.mem_cons_of_mem _ hp))) hc
    simp only [List.map_cons, List.map_nil, digNV_R, hn2, hn3, hn4, hn5, hn6] at hwh
    have HWH := Lib.hid hwh
    clear hsp hq hl hqs h7 HRD hwh hn2 hn3 hn4 hn5 hn6 hqn
    go_enter Tryz.func27, Tryz.ntmps27
    go_wp2_with fail
    have hnew := RowB.new w (tkR 0 0 0 0 0 0) 46
    have hb0 := (Below.refl w.heap.size w).alloc (Nat.le_refl _) (.cells (tkR 0 0 0 0 0 0) 46)
    obtain ⟨w0, hw0⟩ : ∃ x, w.alloc (.cells (tkR 0 0 0 0 0 0) 46) = x := ⟨_, rfl⟩
    rw [hw0] at hnew hb0
    unfold tkR at hw0
    rw [hw0]
    obtain ⟨n, hn⟩ : ∃ n, w.heap.size = n := ⟨_, rfl⟩
    rw [hn] at hnew hb0 ⊢
    refine (hsp'.out _).mono ?_
    rintro e w1 ⟨lb, cp, rfl, hc1, ⟨hcp, hcm⟩, hb1⟩
    have hcp7 : 7 ≤ cp := hcp
    have hc2 : ¬ cp = 2 := by omega
    have c20 : (2 : Int) ≤ (cp : Int) := by omega
    have HX1 := Lib.hid (hnew.kept hb1)
    have HB1 := Lib.hid (hb0.trans (hb1.mono (by have := hb0.size; omega)))
    have hsl := Lib.hid (sl_strs (w := w1) (B := w1.heap.size) (b := lb) (off := 2) (ps := [x2, x3, x4, x5, x6]) (cell_lt (hc1 0 x0 rfl)) (fun j x hj => by
      rw [Nat.add_comm 2 j]
      exact hc1 (j + 2) x hj))
    clear hnew hb0 hw0 hb1 hc1 hcp
    go_wp2_with fail
    refine (HWH.out w1 lb cp hsl.out).mono ?_
    rintro e w4 ⟨v, rfl, hown, hb4⟩
    obtain ⟨g0, c', rfl, hcl, hne, hnl⟩ := hown.sl
    obtain ⟨g, off, rfl, hg, hg0⟩ := hnl 0 n2 rfl
    have m0 : w4.cell? ⟨g, off, none⟩ = some (.int .i64 n2) := by simpa [ints, Enc.of1] using hg0 0 _ rfl
    have m1 : w4.cell? ⟨g, off + 1, none⟩ = some (.int .i64 n3) := by
      obtain ⟨g', off', he, _, hg1⟩ := hnl 1 n3 rfl
      injection he with he
      injection he with he1 he2 he3
      subst he1 he2
      simpa [ints, Enc.of1] using hg1 0 _ rfl
    have m2 : w4.cell? ⟨g, off + 2, none⟩ = some (.int .i64 n4) := by
      obtain ⟨g', off', he, _, hg1⟩ := hnl 2 n4 rfl
      injection he with he
      injection he with he1 he2 he3
      subst he1 he2
      simpa [ints, Enc.of1] using hg1 0 _ rfl
    have m3 : w4.cell? ⟨g, off + 3, none⟩ = some (.int .i64 n5) := by
      obtain ⟨g', off', he, _, hg1⟩ := hnl 3 n5 rfl
      injection he with he
      injection he with he1 he2 he3
      subst he1 he2
      simpa [ints, Enc.of1] using hg1 0 _ rfl
    have m4 : w4.cell? ⟨g, off + 4, none⟩ = some (.int .i64 n6) := by
      obtain ⟨g', off', he, _, hg1⟩ := hnl 4 n6 rfl
      injection he with he
      injection he with he1 he2 he3
      subst he1 he2
      simpa [ints, Enc.of1] using hg1 0 _ rfl
    have HX4 := Lib.hid (HX1.out.kept hb4)
    have HB4 := Lib.hid (HB1.out.trans (hb4.mono (by have := HB1.out.size; omega)))
    have hRv := Lib.hid (show RvS w4 g off n2 n3 n4 n5 n6 w4 from ⟨Below.refl _ _, m0, m1, m2, m3, m4⟩)
    have hcc : 5 ≤ c' := hcl.1
    have hnb4 : n < w4.heap.size := HX4.out.lt
    have hgl := Lib.hid (show g < w4.heap.size from hg)
    clear hown hcl hne hnl hg hg0 hb4 m0 m1 m2 m3 m4 hsl HWH hsp'
    go_wp2_with fail
    go_loopw [6] (fun kv wr => ∃ k : Nat, 1 ≤ k ∧ k ≤ 3 ∧ kv = .int .i64 k ∧ (∀ j : Nat, 1 ≤ j → j < k → fitT l ⟨(j : Int), n2, n3, n4, n5, n6, []⟩ = false) ∧ Below w4.heap.size w4 wr) (fun kv _ => 4 - (intOf kv).toNat)
    case atStart => exact ⟨1, Nat.le_refl _, by omega, rfl, fun j h1 h2 => by omega, Below.refl _ _⟩
    case round =>
      obtain ⟨k, hk1, hk3, rfl, hno, hbr⟩ := hrel
      by_cases hk : k = 3
      · subst hk
        have HNO := Lib.hid (show readTR l = none by
          rw [hRD.out, List.find?_cons_of_neg (by rw [show fitT l ⟨1, n2, n3, n4, n5, n6, []⟩ = false from hno 1 (by omega) (by omega)]; decide), List.find?_cons_of_neg (by rw [show fitT l ⟨2, n2, n3, n4, n5, n6, []⟩ = false from hno 2 (by omega) (by omega)]; decide)]
          rfl)
        have HXR := HX4.out.below hbr hnb4
        have HBR := Lib.hid (HB4.out.trans (hbr.mono (Nat.le_of_lt hnb4)))
        have d0 := HXR.cell 0
        have d1 := HXR.cell 1
        have d2 := HXR.cell 2
        have d3 := HXR.cell 3
        have d4 := HXR.cell 4
        have d5 := HXR.cell 5
        have d6 := HXR.cell 6
        unfold tkR at d0 d1 d2 d3 d4 d5 d6
        simp only [List.getElem?_toArray, List.getElem?_cons_zero, List.getElem?_cons_succ] at d0 d1 d2 d3 d4 d5 d6
        have df0 := HXR.frozen 0
        have df1 := HXR.frozen 1
        have df2 := HXR.frozen 2
        have df3 := HXR.frozen 3
        have df4 := HXR.frozen 4
        have df5 := HXR.frozen 5
        have df6 := HXR.frozen 6
        have HXr := Lib.hid HXR
        clear HXR
        go_wp2_with fail
        have HXR := HXr.out
        unfold tkR at HXR
        refine bodyPost_ret (res_rhd9 _ _ rfl rfl (row_set7 _ _ _ _ _ _ _ (.int .i64 0) (.int .i64 0) (.int .i64 0) (.int .i64 0) (.int .i64 0) (.int .i64 0) (.slice none 0 0) HXR)) rfl ?_
        exact ⟨0, 0, 0, 0, 0, 0, by rw [HNO.out]; rfl, (fun t ht => by rw [HNO.out] at ht; cases ht), by rw [hn]; exact below_s7 HBR.out n (Nat.le_refl _) _ _ _ _ _ _ _⟩
      · have hk2 : k ≤ 2 := by omega
        have t1 : decide ((k : Int) ≤ 2) = true := by rw [decide_eq_true_iff]; omega
        have t2 : decide (k ≤ 2) = true := by rw [decide_eq_true_iff]; omega
        have HNJ := Lib.hid hno
        have HBr := Lib.hid hbr
        have hRr := Lib.hid (hRv.out.below hbr)
        clear hno hbr hRv
        go_wp2_with fail
        have hSd : (fun w' : World => Below w4.heap.size w4 w' ∧ w'.cell? ⟨g, off, none⟩ = some (.int .i64 n2) ∧ w'.cell? ⟨g, off + 1, none⟩ = some (.int .i64 n3) ∧ w'.cell? ⟨g, off + 2, none⟩ = some (.int .i64 n4) ∧ w'.cell? ⟨g, off + 3, none⟩ = some (.int .i64 n5) ∧ w'.cell? ⟨g, off + 4, none⟩ = some (.int .i64 n6)) wr.drew := hRr.out.below (Below.refl _ wr).drew
        have hbz := HBr.out.trans ((Below.refl wr.heap.size wr).drew.mono HBr.out.size)
        refine wp_region_held_drew (S := (fun w' : World => Below w4.heap.size w4 w' ∧ w'.cell? ⟨g, off, none⟩ = some (.int .i64 n2) ∧ w'.cell? ⟨g, off + 1, none⟩ = some (.int .i64 n3) ∧ w'.cell? ⟨g, off + 2, none⟩ = some (.int .i64 n4) ∧ w'.cell? ⟨g, off + 3, none⟩ = some (.int .i64 n5) ∧ w'.cell? ⟨g, off + 4, none⟩ = some (.int .i64 n6))) (by kernel_rfl) hSd (fun hHeld => ?_)
        generalize wr.drew = wz at hSd hHeld hbz ⊢
        have hHeld : (fun w' : World => Below w4.heap.size w4 w' ∧ w'.cell? ⟨g, off, none⟩ = some (.int .i64 n2) ∧ w'.cell? ⟨g, off + 1, none⟩ = some (.int .i64 n3) ∧ w'.cell? ⟨g, off + 2, none⟩ = some (.int .i64 n4) ∧ w'.cell? ⟨g, off + 3, none⟩ = some (.int .i64 n5) ∧ w'.cell? ⟨g, off + 4, none⟩ = some (.int .i64 n6)) wz := hHeld
        refine tkH 0 ?_
        try first | simp only [pS, List.set] | simp only [pN]
        refine tkH 1 ?_
        try first | simp only [pS, List.set] | simp only [pN]
        refine tkH 4 ?_
        try first | simp only [pS, List.set] | simp only [pN]
        refine tkH 7 ?_
        try first | simp only [pS, List.set] | simp only [pN]
        refine tkH 10 ?_
        try first | simp only [pS, List.set] | simp only [pN]
        refine tkH 13 ?_
        try first | simp only [pS, List.set] | simp only [pN]
        refine tkH 2 ?_
        try first | simp only [pS, List.set] | simp only [pN]
        refine tkH 5 ?_
        try first | simp only [pS, List.set] | simp only [pN]
        refine tkH 8 ?_
        try first | simp only [pS, List.set] | simp only [pN]
        refine tkH 11 ?_
        try first | simp only [pS, List.set] | simp only [pN]
        refine tkH 14 ?_
        try first | simp only [pS, List.set] | simp only [pN]
        refine tkH 3 ?_
        try first | simp only [pS, List.set] | simp only [pN]
        refine tkH 6 ?_
        try first | simp only [pS, List.set] | simp only [pN]
        refine tkH 9 ?_
        try first | simp only [pS, List.set] | simp only [pN]
        refine tkH 12 ?_
        try first | simp only [pS, List.set] | simp only [pN]
        refine tkH 15 ?_
        try first | simp only [pS, List.set] | simp only [pN]
        refine tkH 16 ?_
        try first | simp only [pS, List.set] | simp only [pN]
        have hnew := RowB.new wz (tkR 0 0 0 0 0 0) 46
        have hsz := hHeld.1.size
        have hSx := RvS.below (show RvS w4 g off n2 n3 n4 n5 n6 wz from hHeld) ((Below.refl wz.heap.size wz).alloc (Nat.le_refl _) (.cells #[.int .i64 0, .int .i64 0, .int .i64 0, .int .i64 0, .int .i64 0, .int .i64 0, .slice none 0 0] 46))
        refine wpAnyH_ready (rs := [17]) (by kernel_rfl) (by simp) ?_
        refine AllReadyH.cons (o := ?_) ?_ (fun K hK => ?_) AllReadyH.nil
        rotate_left
        · (simp only [List.getElem?_toArray, List.getElem?_cons_succ, List.getElem?_cons_zero]; rfl)
        go_simp
        refine hK.out _ _ hSx (fun hHeld => ?_)
        clear hK K
        try first | simp only [pS, List.set] | simp only [pN]
        obtain ⟨wa, hwa⟩ : ∃ x, wz.alloc (.cells #[.int .i64 0, .int .i64 0, .int .i64 0, .int .i64 0, .int .i64 0, .int .i64 0, .slice none 0 0] 46) = x := ⟨_, rfl⟩
        obtain ⟨nb, hnb⟩ : ∃ x, wz.heap.size = x := ⟨_, rfl⟩
        have hnew2 : RowB wa nb (tkR 0 0 0 0 0 0) 46 := by rw [← hwa, ← hnb]; exact hnew
        rw [hwa] at hHeld ⊢
        rw [hnb] at hsz ⊢
        clear hSx hnew
        unfold tkR at hnew2
        have b0 := hnew2.cell 0
        have b1 := hnew2.cell 1
        have b2 := hnew2.cell 2
        have b3 := hnew2.cell 3
        have b4 := hnew2.cell 4
        have b5 := hnew2.cell 5
        have b6 := hnew2.cell 6
        simp only [List.getElem?_toArray, List.getElem?_cons_zero, List.getElem?_cons_succ] at b0 b1 b2 b3 b4 b5 b6
        have f0 := hnew2.frozen 0
        have f1 := hnew2.frozen 1
        have f2 := hnew2.frozen 2
        have f3 := hnew2.frozen 3
        have f4 := hnew2.frozen 4
        have f5 := hnew2.frozen 5
        have f6 := hnew2.frozen 6
        refine wpAnyH_ready (rs := [18]) (by kernel_rfl) (by simp) ?_
        refine AllReadyH.cons (o := ?_) ?_ (fun K hK => ?_) AllReadyH.nil
        rotate_left
        · (simp only [List.getElem?_toArray, List.getElem?_cons_succ, List.getElem?_cons_zero]; rfl)
        go_simp
        obtain ⟨wS, hwS⟩ : ∃ x, (((((((wa.setCell ⟨nb, 0, none⟩ (.int .i64 (k : Int))).setCell ⟨nb, 1, none⟩ (.int .i64 n2)).setCell ⟨nb, 2, none⟩ (.int .i64 n3)).setCell ⟨nb, 3, none⟩ (.int .i64 n4)).setCell ⟨nb, 4, none⟩ (.int .i64 n5)).setCell ⟨nb, 5, none⟩ (.int .i64 n6)).setCell ⟨nb, 6, none⟩ (.slice none 0 0)) = x := ⟨_, rfl⟩
        have hzz : RowB wS nb (tkR (k : Int) n2 n3 n4 n5 n6) 46 := by rw [← hwS]; exact row_set7 _ _ _ _ _ _ _ (.int .i64 (k : Int)) (.int .i64 n2) (.int .i64 n3) (.int .i64 n4) (.int .i64 n5) (.int .i64 n6) (.slice none 0 0) hnew2
        have hSx : (fun w' : World => Below w4.heap.size w4 w' ∧ w'.cell? ⟨g, off, none⟩ = some (.int .i64 n2) ∧ w'.cell? ⟨g, off + 1, none⟩ = some (.int .i64 n3) ∧ w'.cell? ⟨g, off + 2, none⟩ = some (.int .i64 n4) ∧ w'.cell? ⟨g, off + 3, none⟩ = some (.int .i64 n5) ∧ w'.cell? ⟨g, off + 4, none⟩ = some (.int .i64 n6)) wS := by
          rw [← hwS]
          obtain ⟨h1, h2, h3, h4, h5, h6⟩ := hHeld
          have hg : g < w4.heap.size := hgl.out
          refine ⟨below_s7 h1 nb hsz _ _ _ _ _ _ _, ?_, ?_, ?_, ?_, ?_⟩
          all_goals (rw [cell_set7 _ _ _ _ _ _ _ _ _ _ _ (by omega)]; assumption)
        rw [hwS]
        refine hK.out _ _ hSx (fun hHeld => ?_)
        clear hK K
        try first | simp only [pS, List.set] | simp only [pN]
        refine wpAnyH_done (by kernel_rfl) ?_ _
        have HZ := Lib.hid hzz
        have HBS := Lib.hid hHeld.1
        clear hzz hHeld hSd hSx hwS hnew2 hwa hnb hbz b0 f0 b1 f1 b2 f2 b3 f3 b4 f4 b5 f5 b6 f6
        have c0 := HZ.out.cell 0
        have c1 := HZ.out.cell 1
        have c2 := HZ.out.cell 2
        have c3 := HZ.out.cell 3
        have c4 := HZ.out.cell 4
        have c5 := HZ.out.cell 5
        have c6 := HZ.out.cell 6
        unfold tkR at c0 c1 c2 c3 c4 c5 c6
        simp only [List.getElem?_toArray, List.getElem?_cons_zero, List.getElem?_cons_succ] at c0 c1 c2 c3 c4 c5 c6
        have hhd := rhead_any ⟨(k : Int), n2, n3, n4, n5, n6, []⟩ none 0 0 wS
        unfold tkV at hhd
        have HHD := Lib.hid hhd
        clear hhd
        have hfit : fitT l ⟨(k : Int), n2, n3, n4, n5, n6, []⟩ = (headB1 ⟨(k : Int), n2, n3, n4, n5, n6, []⟩ && decide (headL ⟨(k : Int), n2, n3, n4, n5, n6, []⟩ = l)) := rfl
        go_wp2_with fail
        refine HHD.out.mono ?_
        rintro e w6 ⟨sH, rfl, hHs, hHl, hb6⟩
        clear c0 c1 c2 c3 c4 c5 c6
        have HB6 := Lib.hid (HBS.out.trans (hb6.mono HBS.out.size))
        have HZ6 := Lib.hid (HZ.out.kept hb6)
        clear hb6
        rcases hq1 : headB1 ⟨(k : Int), n2, n3, n4, n5, n6, []⟩ with _ | _
        · have HF := Lib.hid (show fitT l ⟨(k : Int), n2, n3, n4, n5, n6, []⟩ = false by rw [hfit]; rw [hq1, Bool.false_and])
          clear hfit hq1 hHs
          go_wp2_with fail
          go_roundw
          case rel =>
            refine ⟨k + 1, by omega, by omega, by go_num, fun j h1 h2 => ?_, HB6.out⟩
            by_cases hj : j = k
            · rw [hj]; exact HF.out
            · exact HNJ.out j h1 (by omega)
          case measure => simp [intOf]; omega
        · have hSH := hHs hq1
          by_cases hls : headL ⟨(k : Int), n2, n3, n4, n5, n6, []⟩ = l
          · have HYES := Lib.hid (show readTR l = some ⟨(k : Int), n2, n3, n4, n5, n6, []⟩ by
              have hf : fitT l ⟨(k : Int), n2, n3, n4, n5, n6, []⟩ = true := by rw [hfit, hq1, hls]; simp
              rw [hRD.out]
              have hk12 : k = 1 ∨ k = 2 := by omega
              rcases hk12 with rfl | rfl
              · exact List.find?_cons_of_pos hf
              · rw [List.find?_cons_of_neg (by rw [show fitT l ⟨1, n2, n3, n4, n5, n6, []⟩ = false from HNJ.out 1 (by omega) (by omega)]; decide)]
                exact List.find?_cons_of_pos hf)
            have hst : (sH.toList == s.toList) = true := by rw [hSH, ByteArray.toList_eq, ByteArray.toList_eq, hl'.out]; simp [hls]
            clear hfit hq1 hHs hls hSH
            have hXN := HX4.out.below HB6.out hnb4
            have d0 := hXN.cell 0
            have d1 := hXN.cell 1
            have d2 := hXN.cell 2
            have d3 := hXN.cell 3
            have d4 := hXN.cell 4
            have d5 := hXN.cell 5
            have d6 := hXN.cell 6
            unfold tkR at d0 d1 d2 d3 d4 d5 d6
            simp only [List.getElem?_toArray, List.getElem?_cons_zero, List.getElem?_cons_succ] at d0 d1 d2 d3 d4 d5 d6
            have df0 := hXN.frozen 0
            have df1 := hXN.frozen 1
            have df2 := hXN.frozen 2
            have df3 := hXN.frozen 3
            have df4 := hXN.frozen 4
            have df5 := hXN.frozen 5
            have df6 := hXN.frozen 6
            have e0 := HZ6.out.cell 0
            have e1 := HZ6.out.cell 1
            have e2 := HZ6.out.cell 2
            have e3 := HZ6.out.cell 3
            have e4 := HZ6.out.cell 4
            have e5 := HZ6.out.cell 5
            have e6 := HZ6.out.cell 6
            unfold tkR at e0 e1 e2 e3 e4 e5 e6
            simp only [List.getElem?_toArray, List.getElem?_cons_zero, List.getElem?_cons_succ] at e0 e1 e2 e3 e4 e5 e6
            have HXN := Lib.hid hXN
            have HBn := Lib.hid (HB4.out.trans (HB6.out.mono (Nat.le_of_lt hnb4)))
            clear hXN
            go_wp2_with fail
            have hXN := HXN.out
            unfold tkR at hXN
            refine bodyPost_ret (res_rhd9 _ _ rfl rfl (row_set7 _ _ _ _ _ _ _ (.int .i64 (k : Int)) (.int .i64 n2) (.int .i64 n3) (.int .i64 n4) (.int .i64 n5) (.int .i64 n6) (.slice none 0 0) hXN)) rfl ?_
            exact ⟨(k : Int), n2, n3, n4, n5, n6, by rw [HYES.out]; rfl, (fun t ht => by rw [HYES.out] at ht; exact (Option.some.inj ht).symm), by rw [hn]; exact below_s7 HBn.out n (Nat.le_refl _) _ _ _ _ _ _ _⟩
          · have hst : (sH.toList == s.toList) = false := by rw [beq_eq_false_iff_ne, hSH, ByteArray.toList_eq, ByteArray.toList_eq, hl'.out]; simpa using hls
            have HF := Lib.hid (show fitT l ⟨(k : Int), n2, n3, n4, n5, n6, []⟩ = false by rw [hfit]; rw [hq1, Bool.true_and]; exact decide_eq_false hls)
            clear hfit hq1 hHs hls hSH
            go_wp2_with fail
            go_roundw
            case rel =>
              refine ⟨k + 1, by omega, by omega, by go_num, fun j h1 h2 => ?_, HB6.out⟩
              by_cases hj : j = k
              · rw [hj]; exact HF.out
              · exact HNJ.out j h1 (by omega)
            case measure => simp [intOf]; omega
  · have HNO := Lib.hid (show readTR l = none by unfold readTR; rw [hq, if_neg h7])
    have t1 : ((q.length : Int) != 7) = true := by simp; omega
    have hsp' := Lib.hid hsp
    clear hsp hq hqs hl
    go_enter Tryz.func27, Tryz.ntmps27
    go_wp2_with fail
    have hnew := RowB.new w (tkR 0 0 0 0 0 0) 46
    have hb0 := (Below.refl w.heap.size w).alloc (Nat.le_refl _) (.cells (tkR 0 0 0 0 0 0) 46)
    obtain ⟨w0, hw0⟩ : ∃ x, w.alloc (.cells (tkR 0 0 0 0 0 0) 46) = x := ⟨_, rfl⟩
    rw [hw0] at hnew hb0
    unfold tkR at hw0
    rw [hw0]
    obtain ⟨n, hn⟩ : ∃ n, w.heap.size = n := ⟨_, rfl⟩
    rw [hn] at hnew hb0 ⊢
    refine (hsp'.out _).mono ?_
    rintro e w1 ⟨lb, cp, rfl, -, -, hb1⟩
    have HXR := hnew.kept hb1
    have HBR := Lib.hid (hb0.trans (hb1.mono (by have := hb0.size; omega)))
    clear hnew hb0 hb1 hw0
    have d0 := HXR.cell 0
    have d1 := HXR.cell 1
    have d2 := HXR.cell 2
    have d3 := HXR.cell 3
    have d4 := HXR.cell 4
    have d5 := HXR.cell 5
    have d6 := HXR.cell 6
    unfold tkR at d0 d1 d2 d3 d4 d5 d6
    simp only [List.getElem?_toArray, List.getElem?_cons_zero, List.getElem?_cons_succ] at d0 d1 d2 d3 d4 d5 d6
    have df0 := HXR.frozen 0
    have df1 := HXR.frozen 1
    have df2 := HXR.frozen 2
    have df3 := HXR.frozen 3
    have df4 := HXR.frozen 4
    have df5 := HXR.frozen 5
    have df6 := HXR.frozen 6
    have HXr := Lib.hid HXR
    clear HXR
    go_wp2_with fail
    have HXR := HXr.out
    unfold tkR at HXR
    refine bodyPost_ret (res_rhd9 _ _ rfl rfl (row_set7 _ _ _ _ _ _ _ (.int .i64 0) (.int .i64 0) (.int .i64 0) (.int .i64 0) (.int .i64 0) (.int .i64 0) (.slice none 0 0) HXR)) rfl ?_
    exact ⟨0, 0, 0, 0, 0, 0, by rw [HNO.out]; rfl, (fun t ht => by rw [HNO.out] at ht; cases ht), by rw [hn]; exact below_s7 HBR.out n (Nat.le_refl _) _ _ _ _ _ _ _⟩

end Go.Proofs.YtfgmebjbibbpdaaGreatDoor

namespace Go.Proofs.YtfgmebjbibbpdaaGreatDoor
open Go.RowKit

/-- The last place that is kept, as the reference looks for it. -/
def iniF : List (List UInt8) → Nat → Nat → Nat
  | [], _, a => a
  | x :: l, i, a => iniF l (i + 1) (if x = iniW ∧ a = 0 then i else a)
theorem iniF_pos : ∀ (l : List (List UInt8)) (i a : Nat), a ≠ 0 → iniF l i a = a
  | [], _, _, _ => rfl
  | x :: l, i, a, h => by rw [iniF, if_neg (fun e => h e.2), iniF_pos l (i + 1) a h]
theorem iniF_zero : ∀ (l : List (List UInt8)) (i : Nat), 0 < i → iniF l i 0 = match l.findIdx? (fun x => x == iniW) with
    | some k => i + k
    | none => 0
  | [], _, _ => rfl
  | x :: l, i, h => by
    rw [iniF, List.findIdx?_cons]
    by_cases hx : x = iniW
    · rw [if_pos ⟨hx, rfl⟩, iniF_pos l (i + 1) i (by omega), if_pos (by simpa using hx)]
      rfl
    · rw [if_neg (fun e => hx e.1), iniF_zero l (i + 1) (by omega), if_neg (by simpa using hx)]
      cases l.findIdx? (fun x => x == iniW) with
      | none => rfl
      | some k =>
        show i + 1 + k = i + (k + 1)
        omega
theorem iniF_idx {q : List (List UInt8)} (h : q[0]? ≠ some iniW) : (8 ≤ iniF q 0 0 ↔ 8 ≤ idxF q iniW) ∧ (8 ≤ idxF q iniW → (idxF q iniW).toNat = iniF q 0 0) := by
  cases q with
  | nil =>
    have e0 : idxF [] iniW = -1 := rfl
    rw [e0]
    exact ⟨⟨(fun e => by cases e), (fun e => by omega)⟩, (fun e => by omega)⟩
  | cons x l =>
    have hx : ¬ x = iniW := fun e => h (by rw [e]; rfl)
    have h1 : iniF (x :: l) 0 0 = iniF l 1 0 := by rw [iniF, if_neg (fun e => hx e.1)]
    rw [h1, iniF_zero l 1 (by omega)]
    unfold idxF
    rw [List.findIdx?_cons, if_neg (by simpa using hx)]
    cases l.findIdx? (fun x => x == iniW) with
    | none =>
      show (8 ≤ 0 ↔ (8 : Int) ≤ -1) ∧ ((8 : Int) ≤ -1 → Int.toNat (-1) = 0)
      omega
    | some k =>
      show (8 ≤ 1 + k ↔ (8 : Int) ≤ ((k + 1 : Nat) : Int)) ∧ ((8 : Int) ≤ ((k + 1 : Nat) : Int) → Int.toNat ((k + 1 : Nat) : Int) = 1 + k)
      omega
theorem iniF_le : ∀ (l : List (List UInt8)) (i a : Nat), a < i + l.length ∨ a = 0 → iniF l i a < i + l.length ∨ iniF l i a = 0
  | [], _, _, h => h
  | x :: l, i, a, h => by
    rw [iniF]
    have := iniF_le l (i + 1) (if x = iniW ∧ a = 0 then i else a) (by
      simp only [List.length_cons] at h
      split <;> omega)
    simp only [List.length_cons]
    omega
theorem iniF_lt (l : List (List UInt8)) (_i : Nat) (h : 0 < iniF l 0 0) : iniF l 0 0 < l.length := by
  have := iniF_le l 0 0 (.inr rfl)
  omega
theorem numR_bd (l : List UInt8) : -9 ≤ numR l ∧ numR l < 100000000000000 := by
  unfold numR
  split
  · next h =>
    have h1 := dv_lt h.1
    have h2 : (10 : Nat) ^ l.length ≤ 10 ^ 14 := Nat.pow_le_pow_right (by omega) h.2
    omega
  · omega
def candJ (q : List (List UInt8)) (j : Nat) (k : Int) : Oj := objC numR (fun qs => qs.map rnum) k j q
theorem fitJ_no {l : List UInt8} {j : Nat} {k : Int} (h : (pcs 32 l)[0]? = some iniW) : fitO l (candJ (pcs 32 l) j k) = false := by
  cases hf : fitO l (candJ (pcs 32 l) j k) with
  | false => rfl
  | true =>
    unfold fitO at hf
    rw [Bool.and_eq_true, decide_eq_true_iff] at hf
    have h1 : (pcs 32 l)[0]? = some objW := by rw [← hf.2, obj_pcs]; rfl
    rw [h] at h1
    exact absurd (Option.some.inj h1) (by decide)
theorem readOR_J (l : List UInt8) : readOR l = if 9 ≤ (pcs 32 l).length ∧ 8 ≤ iniF (pcs 32 l) 0 0 ∧ (0 ≤ numR ((pcs 32 l).getD 5 []) ∧ numR ((pcs 32 l).getD 5 []) < 4294967296) then ([1, 2, 3, 4, 5, 6].map (candJ (pcs 32 l) (iniF (pcs 32 l) 0 0))).find? (fitO l) else none := by
  unfold readOR
  by_cases h0 : (pcs 32 l)[0]? = some iniW
  · have hx : idxF (pcs 32 l) iniW = 0 := by
      cases hq : pcs 32 l with
      | nil => rw [hq] at h0; cases h0
      | cons x r =>
        rw [hq] at h0
        have : x = iniW := Option.some.inj h0
        unfold idxF
        rw [List.findIdx?_cons, if_pos (by simpa using this)]
        rfl
    rw [hx, if_neg (fun h => by have := h.2.1; omega)]
    symm
    split
    · rw [List.find?_eq_none]
      intro o ho
      obtain ⟨k, _, rfl⟩ := List.mem_map.1 ho
      rw [fitJ_no h0]
      decide
    · rfl
  · obtain ⟨h1, h2⟩ := iniF_idx h0
    by_cases hc : 9 ≤ (pcs 32 l).length ∧ 8 ≤ idxF (pcs 32 l) iniW ∧ (0 ≤ numR ((pcs 32 l).getD 5 []) ∧ numR ((pcs 32 l).getD 5 []) < 4294967296)
    · rw [if_pos hc, if_pos ⟨hc.1, h1.2 hc.2.1, hc.2.2⟩]
      have : candR (pcs 32 l) = candJ (pcs 32 l) (iniF (pcs 32 l) 0 0) := by
        funext k
        unfold candR candJ
        rw [h2 hc.2.1]
      rw [this]
    · rw [if_neg hc, if_neg (fun h => hc ⟨h.1, h1.1 h.2.1, h.2.2⟩)]
theorem find6 {l : List UInt8} {f : Int → Oj} {k : Nat} (hk : 1 ≤ k ∧ k ≤ 6) (hn : ∀ j : Nat, 1 ≤ j → j < k → fitO l (f j) = false) (hy : fitO l (f k) = true) : ([1, 2, 3, 4, 5, 6].map f).find? (fitO l) = some (f k) := by
  have : k = 1 ∨ k = 2 ∨ k = 3 ∨ k = 4 ∨ k = 5 ∨ k = 6 := by omega
  rcases this with rfl | rfl | rfl | rfl | rfl | rfl
  · have y : fitO l (f 1) = true := hy
    show ([1, 2, 3, 4, 5, 6].map f).find? (fitO l) = some (f 1)
    simp [y]
  · have y : fitO l (f 2) = true := hy
    have n1 : fitO l (f 1) = false := hn 1 (by omega) (by omega)
    show ([1, 2, 3, 4, 5, 6].map f).find? (fitO l) = some (f 2)
    simp [y, n1]
  · have y : fitO l (f 3) = true := hy
    have n1 : fitO l (f 1) = false := hn 1 (by omega) (by omega)
    have n2 : fitO l (f 2) = false := hn 2 (by omega) (by omega)
    show ([1, 2, 3, 4, 5, 6].map f).find? (fitO l) = some (f 3)
    simp [y, n1, n2]
  · have y : fitO l (f 4) = true := hy
    have n1 : fitO l (f 1) = false := hn 1 (by omega) (by omega)
    have n2 : fitO l (f 2) = false := hn 2 (by omega) (by omega)
    have n3 : fitO l (f 3) = false := hn 3 (by omega) (by omega)
    show ([1, 2, 3, 4, 5, 6].map f).find? (fitO l) = some (f 4)
    simp [y, n1, n2, n3]
  · have y : fitO l (f 5) = true := hy
    have n1 : fitO l (f 1) = false := hn 1 (by omega) (by omega)
    have n2 : fitO l (f 2) = false := hn 2 (by omega) (by omega)
    have n3 : fitO l (f 3) = false := hn 3 (by omega) (by omega)
    have n4 : fitO l (f 4) = false := hn 4 (by omega) (by omega)
    show ([1, 2, 3, 4, 5, 6].map f).find? (fitO l) = some (f 5)
    simp [y, n1, n2, n3, n4]
  · have y : fitO l (f 6) = true := hy
    have n1 : fitO l (f 1) = false := hn 1 (by omega) (by omega)
    have n2 : fitO l (f 2) = false := hn 2 (by omega) (by omega)
    have n3 : fitO l (f 3) = false := hn 3 (by omega) (by omega)
    have n4 : fitO l (f 4) = false := hn 4 (by omega) (by omega)
    have n5 : fitO l (f 5) = false := hn 5 (by omega) (by omega)
    show ([1, 2, 3, 4, 5, 6].map f).find? (fitO l) = some (f 6)
    simp [y, n1, n2, n3, n4, n5]
theorem find6_no {l : List UInt8} {f : Int → Oj} (hn : ∀ j : Nat, 1 ≤ j → j < 7 → fitO l (f j) = false) : ([1, 2, 3, 4, 5, 6].map f).find? (fitO l) = none := by
  rw [List.find?_eq_none]
  intro o ho
  obtain ⟨k, hk, rfl⟩ := List.mem_map.1 ho
  simp only [List.mem_cons, List.not_mem_nil, or_false] at hk
  rcases hk with rfl | rfl | rfl | rfl | rfl | rfl
  · rw [show fitO l (f 1) = false from hn 1 (by omega) (by omega)]; decide
  · rw [show fitO l (f 2) = false from hn 2 (by omega) (by omega)]; decide
  · rw [show fitO l (f 3) = false from hn 3 (by omega) (by omega)]; decide
  · rw [show fitO l (f 4) = false from hn 4 (by omega) (by omega)]; decide
  · rw [show fitO l (f 5) = false from hn 5 (by omega) (by omega)]; decide
  · rw [show fitO l (f 6) = false from hn 6 (by omega) (by omega)]; decide
/-- The object under way: its own block, its words and readers. -/
def St2 (w2 : World) (nb : Nat) (kd wd sl cp st : Int) (I : Option Addr) (ni ci : Nat) (wr : Int) (R : Option Addr) (nr cr : Nat) (ini rd : List Int) (w : World) : Prop :=
  RowB w nb (ojR kd wd sl cp st I ni ci wr R nr cr) 42 ∧ FarS (ints .u32) 38 w w2.heap.size nb I ni ci ini ∧ FarS (ints .i64) 3 w w2.heap.size nb R nr cr rd ∧ Below w2.heap.size w2 w ∧ w2.heap.size ≤ nb
section
variable {w2 w w' : World} {nb : Nat} {kd wd sl cp st : Int} {I : Option Addr} {ni ci : Nat} {wr : Int} {R : Option Addr} {nr cr : Nat} {ini rd : List Int}
theorem St2.below (h : St2 w2 nb kd wd sl cp st I ni ci wr R nr cr ini rd w) (hb : Below w.heap.size w w') : St2 w2 nb kd wd sl cp st I ni ci wr R nr cr ini rd w' :=
  ⟨h.1.kept hb, h.2.1.below hb, h.2.2.1.below hb, h.2.2.2.1.trans (hb.mono h.2.2.2.1.size), h.2.2.2.2⟩
theorem St2.setk (h : St2 w2 nb kd wd sl cp st I ni ci wr R nr cr ini rd w) (k : Int) : St2 w2 nb k wd sl cp st I ni ci wr R nr cr ini rd (w.setCell ⟨nb, 0, none⟩ (.int .i64 k)) :=
  ⟨h.1.set 0 (.int .i64 k), h.2.1.set nb 0 _ (Or.inr rfl), h.2.2.1.set nb 0 _ (Or.inr rfl), below_set1 h.2.2.2.1 nb 0 h.2.2.2.2 _, h.2.2.2.2⟩
theorem St2.app (h : St2 w2 nb kd wd sl cp st I ni ci wr R nr cr ini rd w) {A' : Option Addr} {M c' : Nat} {z : Int} (ho : Own (ints .u32) 38 w2.heap.size w' (.slice A' M c') (ini ++ [z])) (hb : Below w2.heap.size w w')
    (hk : ∀ k, k < w.heap.size → some k ≠ (Value.slice I ni ci).ownBlock → w'.heap[k]? = w.heap[k]?) (hv : (Value.slice A' M c').ownBlock = (Value.slice I ni ci).ownBlock ∨ (Value.slice A' M c').ownBlock = some w.heap.size) :
    St2 w2 nb kd wd sl cp st A' M c' wr R nr cr (ini ++ [z]) rd (w'.setCell ⟨nb, 5, none⟩ (.slice A' M c')) := by
  obtain ⟨h1, h2, h3, h4, h5⟩ := h
  have hnb := h1.lt
  have hr : RowB w' nb (ojR kd wd sl cp st I ni ci wr R nr cr) 42 := (hk nb hnb (fun e => h2.2 e.symm)).trans h1
  have hf : FarS (ints .u32) 38 w' w2.heap.size nb A' M c' (ini ++ [z]) := ⟨ho, fun e => by
    rcases hv with hv | hv
    · rw [hv] at e; exact h2.2 e
    · rw [hv] at e
      have := Option.some.inj e
      omega⟩
  have hg : FarS (ints .i64) 3 w' w2.heap.size nb R nr cr rd := ⟨own_keepT (lo := w2.heap.size) h3.1 (KeepT.app h2.1 (by decide) hk), h3.2⟩
  exact ⟨hr.set 5 (.slice A' M c'), hf.set nb 5 _ (Or.inr rfl), hg.set nb 5 _ (Or.inr rfl), below_set1 (h4.trans hb) nb 5 h5 _, h5⟩
end
/-- A region whose ways all end alike, but for what is told of them. -/
theorem region_cut {ι : Type} {P : Program} {id : Nat} {ops : Array Oper} {b : Bool} {a : Act} {w : World} {Q : Exit → Act → World → Prop} (A : ι → Act) (X : ι → World → Prop)
    (h : (Code.region id ops b).wp P (fun e a w => e = .normal ∧ ∃ i, a = A i ∧ X i w) a w) (hq : ∀ i w, X i w → Q .normal (A i) w) : (Code.region id ops b).wp P Q a w :=
  Code.wp_mono (fun e a w ⟨he, i, ha, hx⟩ => by
    subst he ha
    exact hq i w hx) h

end Go.Proofs.YtfgmebjbibbpdaaGreatDoor

namespace Go.Proofs.YtfgmebjbibbpdaaGreatDoor
open Go.RowKit
attribute [local go_sem] Oper.semAt_some

theorem res_rob9 (tmps : Array Value) (w : World) {b : Nat} {kd wd sl cp st : Int} {I : Option Addr} {ni ci : Nat} {wr : Int} {R : Option Addr} {nr cr : Nat} {x : Bool} (ha : tmps[2]?.getD undef = .pointer (some ⟨b, 0, none⟩)) (hx : tmps[3]?.getD undef = .bool x) (hbox : RowB w b (ojR kd wd sl cp st I ni ci wr R nr cr) 42) :
    (results Tryz.f28 tmps).run Tryz.prog w = .ok (.tuple #[.agg (ojR kd wd sl cp st I ni ci wr R nr cr), .bool x]) w := by
  have h0 := hbox.cell 0
  have h1 := hbox.cell 1
  have h2 := hbox.cell 2
  have h3 := hbox.cell 3
  have h4 := hbox.cell 4
  have h5 := hbox.cell 5
  have h6 := hbox.cell 6
  have h7 := hbox.cell 7
  simp only [ojR, List.getElem?_toArray, List.getElem?_cons_zero, List.getElem?_cons_succ] at h0 h1 h2 h3 h4 h5 h6 h7
  simp [results, ha, hx, h0, h1, h2, h3, h4, h5, h6, h7, go_sem, ojR]
set_option maxRecDepth 100000 in
set_option maxHeartbeats 40000000 in
theorem rob9_any (s : ByteArray) (w : World) (hs : s.size ≤ 19000) :
    Calls Tryz.prog 28 #[.string s] w (RObjR s.data.toList w) := by
  obtain ⟨l, hl⟩ : ∃ l, s.data.toList = l := ⟨_, rfl⟩
  have hlen : l.length = s.size := by rw [← hl]; exact Array.length_toList
  obtain ⟨q, hq⟩ : ∃ q, pcs 32 l = q := ⟨_, rfl⟩
  have hsp := fun W => rsplit_cells s 32 32 W rfl (by omega)
  have hql : q.length ≤ 20000 := by have := pcs_len_le 32 l; rw [hq] at this; omega
  have hqs : ∀ x ∈ q, x.length ≤ 1000000 := fun x hx => by
    have := pcs_mem 32 l x (by rw [hq]; exact hx)
    omega
  have hq0 : 0 < q.length := by
    rw [← hq]
    cases h : pcs 32 l with
    | nil => exact absurd h (pcs_ne 32 l)
    | cons a r => simp
  rw [hl] at hsp ⊢
  rw [hq] at hsp
  unfold RObjR
  rw [← readO_same (show l.length ≤ 65536 by omega)]
  obtain ⟨J, hJ⟩ : ∃ x, iniF q 0 0 = x := ⟨_, rfl⟩
  have hrd := readOR_J l
  rw [hq, hJ] at hrd
  have hRD := Lib.hid hrd
  have hQS := Lib.hid hqs
  have HQ := Lib.hid hq
  have hl' := Lib.hid hl
  have hsp' := Lib.hid hsp
  have HLEN := Lib.hid hlen
  have HJ := Lib.hid hJ
  clear hsp hq hl hqs hlen hrd hJ
  obtain ⟨qn, hqn⟩ : ∃ x, q.length = x := ⟨_, rfl⟩
  rw [hqn] at hsp' hql hq0 hRD
  have HQN := Lib.hid hqn
  clear hqn
  go_enter Tryz.func28, Tryz.ntmps28
  go_wp2_with fail
  have hnew := RowB.new w (ojR 0 0 0 0 0 none 0 0 0 none 0 0) 42
  have hb0 := (Below.refl w.heap.size w).alloc (Nat.le_refl _) (.cells (ojR 0 0 0 0 0 none 0 0 0 none 0 0) 42)
  obtain ⟨w0, hw0⟩ : ∃ x, w.alloc (.cells (ojR 0 0 0 0 0 none 0 0 0 none 0 0) 42) = x := ⟨_, rfl⟩
  rw [hw0] at hnew hb0
  unfold ojR at hw0
  rw [hw0]
  obtain ⟨n, hn⟩ : ∃ n, w.heap.size = n := ⟨_, rfl⟩
  rw [hn] at hnew hb0 ⊢
  refine (hsp'.out _).mono ?_
  rintro e w1 ⟨lb, cp, rfl, hc1, ⟨hcp, hcm⟩, hb1⟩
  have HX1 := Lib.hid (hnew.kept hb1)
  have HB1 := Lib.hid (hb0.trans (hb1.mono (by have := hb0.size; omega)))
  have HC1 := Lib.hid hc1
  clear hnew hb0 hw0 hb1 hc1 hsp'
  go_wp2_with fail
  go_loopw [5, 19] (fun a j wr => ∃ k A : Nat, k ≤ qn ∧ j = .int .i64 k ∧ a = .int .i64 A ∧ A ≤ k ∧ iniF (q.drop k) k A = J ∧ wr = w1) (fun _ j _ => qn - (intOf j).toNat)
  case atStart => exact ⟨0, 0, Nat.zero_le _, rfl, rfl, Nat.le_refl _, HJ.out, rfl⟩
  case round =>
    obtain ⟨k, A, hk, rfl, rfl, hAk, hini, hwr⟩ := hrel
    subst hwr
    by_cases hlt : k < qn
    · have hltI : (k : Int) < (qn : Int) := by omega
      have hltD : decide ((k : Int) < (qn : Int)) = true := decide_eq_true hltI
      have hltN : decide (k < qn) = true := decide_eq_true hlt
      obtain ⟨x, hx⟩ := get_some (show k < q.length by rw [HQN.out]; exact hlt)
      have hcx := HC1.out k x hx
      have hd : q.drop k = x :: q.drop (k + 1) := by
        rw [List.drop_eq_getElem_cons (get_lt hx)]
        congr 1
        exact Option.some.inj ((List.getElem?_eq_getElem (get_lt hx)).symm.trans hx)
      rw [hd, iniF] at hini
      have HINI := Lib.hid hini
      obtain ⟨X, hX⟩ : ∃ X, (⟨x.toArray⟩ : ByteArray) = X := ⟨_, rfl⟩
      have hXt : X.toList = x := by rw [← hX, ByteArray.toList_eq]
      rw [hX] at hcx
      have HXT := Lib.hid hXt
      clear hini hd hx hX hXt
      by_cases hw : x = iniW
      · have t1 : (X.toList == [105, 110, 105, 116]) = true := by rw [HXT.out, hw]; rfl
        by_cases hA0 : A = 0
        · have t2 : ((A : Int) == 0) = true := by rw [hA0]; rfl
          have t3 : (A == 0) = true := by rw [hA0]; rfl
          have HI2 := Lib.hid (show iniF (q.drop (k + 1)) (k + 1) k = J by have := HINI.out; rw [if_pos ⟨hw, hA0⟩] at this; exact this)
          clear hw hA0
          go_wp2_with fail
          go_roundw
          case rel => exact ⟨k + 1, k, by omega, by go_num, rfl, by omega, HI2.out, trivial⟩
          case measure => simp [intOf]; omega
        · have t2 : ((A : Int) == 0) = false := by rw [beq_eq_false_iff_ne]; omega
          have t3 : (A == 0) = false := by rw [beq_eq_false_iff_ne]; omega
          have HI2 := Lib.hid (show iniF (q.drop (k + 1)) (k + 1) A = J by have := HINI.out; rw [if_neg (fun e => hA0 e.2)] at this; exact this)
          clear hw hA0
          go_wp2_with fail
          go_roundw
          case rel => exact ⟨k + 1, A, by omega, by go_num, rfl, by omega, HI2.out, trivial⟩
          case measure => simp [intOf]; omega
      · have t1 : (X.toList == [105, 110, 105, 116]) = false := by rw [HXT.out, beq_eq_false_iff_ne]; exact hw
        have HI2 := Lib.hid (show iniF (q.drop (k + 1)) (k + 1) A = J by have := HINI.out; rw [if_neg (fun e => hw e.1)] at this; exact this)
        clear hw
        go_wp2_with fail
        go_roundw
        case rel => exact ⟨k + 1, A, by omega, by go_num, rfl, by omega, HI2.out, trivial⟩
        case measure => simp [intOf]; omega
    · have hkn : k = qn := by omega
      subst hkn
      have hAJ : A = J := by rw [List.drop_eq_nil_of_le (by rw [HQN.out]; omega)] at hini; exact hini
      subst hAJ
      have hnl : decide ((k : Int) < (k : Int)) = false := by simp
      have hnl2 : decide (k < k) = false := by simp
      clear hini
      by_cases h9 : k < 9
      · have t1 : decide ((k : Int) < 9) = true := by rw [decide_eq_true_iff]; omega
        have t1' : decide (k < 9) = true := by rw [decide_eq_true_iff]; omega
        have HNO := Lib.hid (show readOR l = none by rw [hRD.out, if_neg (fun h => by have := h.1; omega)])
        clear h9
        have hxz := HX1.out
        have d0 := hxz.cell 0
        have d1 := hxz.cell 1
        have d2 := hxz.cell 2
        have d3 := hxz.cell 3
        have d4 := hxz.cell 4
        have d5 := hxz.cell 5
        have d6 := hxz.cell 6
        have d7 := hxz.cell 7
        unfold ojR at d0 d1 d2 d3 d4 d5 d6 d7
        simp only [List.getElem?_toArray, List.getElem?_cons_zero, List.getElem?_cons_succ] at d0 d1 d2 d3 d4 d5 d6 d7
        have df0 := hxz.frozen 0
        have df1 := hxz.frozen 1
        have df2 := hxz.frozen 2
        have df3 := hxz.frozen 3
        have df4 := hxz.frozen 4
        have df5 := hxz.frozen 5
        have df6 := hxz.frozen 6
        have df7 := hxz.frozen 7
        have HXZ := Lib.hid hxz
        have HBZ := Lib.hid HB1.out
        clear hxz
        go_wp2_with fail
        have hxz := HXZ.out
        unfold ojR at hxz
        refine bodyPost_ret (res_rob9 _ _ rfl rfl (row_set8 _ _ _ _ _ _ _ _ (.int .i64 0) (.int .i64 0) (.int .i64 0) (.int .i64 0) (.int .u32 0) (.slice none 0 0) (.int .i64 0) (.slice none 0 0) hxz)) rfl ?_
        exact ⟨0, 0, 0, 0, 0, none, 0, 0, 0, none, 0, 0, by rw [HNO.out]; rfl, (fun o ho => by rw [HNO.out] at ho; cases ho), by rw [hn]; exact below_s8 HBZ.out n (Nat.le_refl _) _ _ _ _ _ _ _ _⟩
      · have t1 : decide ((k : Int) < 9) = false := by rw [decide_eq_false_iff_not]; omega
        have t1' : decide (k < 9) = false := by rw [decide_eq_false_iff_not]; omega
        by_cases h8 : A < 8
        · have t2 : decide ((A : Int) < 8) = true := by rw [decide_eq_true_iff]; omega
          have t2' : decide (A < 8) = true := by rw [decide_eq_true_iff]; omega
          have HNO := Lib.hid (show readOR l = none by rw [hRD.out, if_neg (fun h => by have := h.2.1; omega)])
          clear h8 h9
          have hxz := HX1.out
          have d0 := hxz.cell 0
          have d1 := hxz.cell 1
          have d2 := hxz.cell 2
          have d3 := hxz.cell 3
          have d4 := hxz.cell 4
          have d5 := hxz.cell 5
          have d6 := hxz.cell 6
          have d7 := hxz.cell 7
          unfold ojR at d0 d1 d2 d3 d4 d5 d6 d7
          simp only [List.getElem?_toArray, List.getElem?_cons_zero, List.getElem?_cons_succ] at d0 d1 d2 d3 d4 d5 d6 d7
          have df0 := hxz.frozen 0
          have df1 := hxz.frozen 1
          have df2 := hxz.frozen 2
          have df3 := hxz.frozen 3
          have df4 := hxz.frozen 4
          have df5 := hxz.frozen 5
          have df6 := hxz.frozen 6
          have df7 := hxz.frozen 7
          have HXZ := Lib.hid hxz
          have HBZ := Lib.hid HB1.out
          clear hxz
          go_wp2_with fail
          have hxz := HXZ.out
          unfold ojR at hxz
          refine bodyPost_ret (res_rob9 _ _ rfl rfl (row_set8 _ _ _ _ _ _ _ _ (.int .i64 0) (.int .i64 0) (.int .i64 0) (.int .i64 0) (.int .u32 0) (.slice none 0 0) (.int .i64 0) (.slice none 0 0) hxz)) rfl ?_
          exact ⟨0, 0, 0, 0, 0, none, 0, 0, 0, none, 0, 0, by rw [HNO.out]; rfl, (fun o ho => by rw [HNO.out] at ho; cases ho), by rw [hn]; exact below_s8 HBZ.out n (Nat.le_refl _) _ _ _ _ _ _ _ _⟩
        · have t2 : decide ((A : Int) < 8) = false := by rw [decide_eq_false_iff_not]; omega
          have t2' : decide (A < 8) = false := by rw [decide_eq_false_iff_not]; omega
          have hA8 : 8 ≤ A := by omega
          have hAk2 : A < k := by
            rcases Nat.lt_or_ge A k with h | h
            · exact h
            · exfalso
              have e : A = k := by omega
              rcases Nat.lt_or_ge (iniF q 0 0) q.length with h2 | h2
              · rw [HJ.out, HQN.out] at h2; omega
              · exact absurd (iniF_lt q 0 (by rw [HJ.out]; omega)) (by rw [HJ.out, HQN.out]; omega)
          have h7q : 7 ≤ q.length := by rw [HQN.out]; omega
          have hlb1 : lb < wr.heap.size := by
            obtain ⟨y0, hy0⟩ := get_some (show 0 < q.length by omega)
            exact cell_lt (HC1.out 0 y0 hy0)
          have h5 := five_of q h7q
          have hsl := Lib.hid (sl_strs (w := wr) (B := wr.heap.size) (b := lb) (off := 2) (ps := (q.drop 2).take 5) hlb1 (fun j x hj => by
            have hj2 : q[2 + j]? = some x := by
              rw [List.getElem?_take] at hj
              split at hj
              · rw [List.getElem?_drop] at hj; exact hj
              · cases hj
            exact HC1.out (2 + j) x hj2))
          have hpl : ∀ p ∈ (q.drop 2).take 5, p.length ≤ 1000000 := fun p hp => hQS.out p (List.mem_of_mem_drop (List.mem_of_mem_take hp))
          rw [h5] at hsl hpl
          have g1 : (2 : Int) ≤ (cp : Int) := by omega
          have g2 : (7 : Int) ≤ (cp : Int) := by omega
          have g3 : ¬ cp = 2 := by omega
          clear h8 h9 h7q
          go_wp2_with fail
          refine (rwhole_any (some ⟨lb, 2, none⟩) (cp - 2) _ wr (by simp) hpl hsl.out).mono ?_
          rintro e w2 ⟨v, rfl, hown, hb2⟩
          obtain ⟨x2, hx2⟩ : ∃ x, numR (q.getD 2 []) = x := ⟨_, rfl⟩
          obtain ⟨x3, hx3⟩ : ∃ x, numR (q.getD 3 []) = x := ⟨_, rfl⟩
          obtain ⟨x4, hx4⟩ : ∃ x, numR (q.getD 4 []) = x := ⟨_, rfl⟩
          obtain ⟨x5, hx5⟩ : ∃ x, numR (q.getD 5 []) = x := ⟨_, rfl⟩
          obtain ⟨x6, hx6⟩ : ∃ x, numR (q.getD 6 []) = x := ⟨_, rfl⟩
          simp only [List.map_cons, List.map_nil, digNV_R, hx2, hx3, hx4, hx5, hx6] at hown
          obtain ⟨g0, c', rfl, hcl, hne, hnl0⟩ := hown.sl
          obtain ⟨g, off, rfl, hg, hg0⟩ := hnl0 0 x2 rfl
          have m0 : w2.cell? ⟨g, off, none⟩ = some (.int .i64 x2) := by simpa [ints, Enc.of1] using hg0 0 _ rfl
          have m1 : w2.cell? ⟨g, off + 1, none⟩ = some (.int .i64 x3) := by
            obtain ⟨g', off', he, _, hg1⟩ := hnl0 1 x3 rfl
            injection he with he
            injection he with he1 he2 he3
            subst he1 he2
            simpa [ints, Enc.of1] using hg1 0 _ rfl
          have m2 : w2.cell? ⟨g, off + 2, none⟩ = some (.int .i64 x4) := by
            obtain ⟨g', off', he, _, hg1⟩ := hnl0 2 x4 rfl
            injection he with he
            injection he with he1 he2 he3
            subst he1 he2
            simpa [ints, Enc.of1] using hg1 0 _ rfl
          have m3 : w2.cell? ⟨g, off + 3, none⟩ = some (.int .i64 x5) := by
            obtain ⟨g', off', he, _, hg1⟩ := hnl0 3 x5 rfl
            injection he with he
            injection he with he1 he2 he3
            subst he1 he2
            simpa [ints, Enc.of1] using hg1 0 _ rfl
          have m4 : w2.cell? ⟨g, off + 4, none⟩ = some (.int .i64 x6) := by
            obtain ⟨g', off', he, _, hg1⟩ := hnl0 4 x6 rfl
            injection he with he
            injection he with he1 he2 he3
            subst he1 he2
            simpa [ints, Enc.of1] using hg1 0 _ rfl
          have hb5 := numR_bd (q.getD 5 [])
          rw [hx5] at hb5
          have HX2 := Lib.hid (And.intro hx2 (And.intro hx3 (And.intro hx4 (And.intro hx5 hx6))))
          have HC2 := Lib.hid (show ∀ (j : Nat) x, q[j]? = some x → w2.cell? ⟨lb, j, none⟩ = some (.string ⟨x.toArray⟩) from fun j x hj => (hb2.cell (p := ⟨lb, j, none⟩) hlb1).trans (HC1.out j x hj))
          have hlb2 : lb < w2.heap.size := by have := hb2.size; omega
          have hcc : 5 ≤ c' := hcl.1
          have HX := Lib.hid (HX1.out.kept hb2)
          have HB := Lib.hid (HB1.out.trans (hb2.mono (by have h1 := HB1.out.size; rw [hn] at h1; exact h1)))
          have hnlo : n < w2.heap.size := HX.out.lt
          have hgb := hg
          clear hown hcl hne hnl0 hg hg0 h5 hsl hpl hx2 hx3 hx4 hx5 hx6 hb2
          rcases hbad : decide (x5 < 0) with _ | _
          · rcases hbad2 : decide ((4294967295 : Int) < x5) with _ | _
            · go_wp2_with fail
              obtain ⟨rdl, hrdl⟩ : ∃ x, ((q.take A).drop 8).map numR = x := ⟨_, rfl⟩
              have hrl : ((q.take A).drop 8).length = A - 8 := by
                have h1 : A ≤ q.length := by rw [HQN.out]; omega
                rw [List.length_drop, List.length_take]; omega
              have HNM := Lib.hid (show ∀ W, Below w2.heap.size w2 W → Calls Tryz.prog 49 #[.slice (some ⟨lb, 8, none⟩) (A - 8) (cp - 8)] W fun e w' => ∃ v, e = .returned v ∧ Own (ints .i64) 3 W.heap.size w' v rdl ∧ Below W.heap.size W w' from fun W hW => by
                have h9 := rwhole_any (some ⟨lb, 8, none⟩) (cp - 8) ((q.take A).drop 8) W (by rw [hrl]; omega) (fun p hp => hQS.out p (List.mem_of_mem_take (List.mem_of_mem_drop hp))) (sl_strs (by have := hW.size; omega) (fun j x hj => by
                  have hj2 : q[8 + j]? = some x := by
                    rw [List.getElem?_drop, List.getElem?_take] at hj
                    split at hj
                    · exact hj
                    · cases hj
                  exact (hW.cell (p := ⟨lb, 8 + j, none⟩) hlb2).trans (HC2.out (8 + j) x hj2)))
                have hdn : digNV = numR := by funext z; exact digNV_R z
                rw [hrl, hdn, hrdl] at h9
                exact h9)
              have HRL := Lib.hid (show rdl.length = A - 8 by rw [← hrdl, List.length_map, hrl])
              have HRB := Lib.hid (show ∀ z ∈ rdl, -9223372036854775808 ≤ z ∧ z ≤ 9223372036854775807 from fun z hz => by
                rw [← hrdl] at hz
                obtain ⟨p, _, rfl⟩ := List.mem_map.1 hz
                have := numR_bd p
                omega)
              have HRDL := Lib.hid hrdl
              have HW5 := Lib.hid (show IntKind.u32.wrap x5 = x5 by
                have h1 := of_decide_eq_false hbad
                have h2 := of_decide_eq_false hbad2
                simp [IntKind.wrap, IntKind.signed, IntKind.bits]; omega)
              clear hrdl hrl
              refine region_cut (ι := Nat × Option Addr × Nat) (fun i => { tmps := #[.string s, undef, .pointer (some { block := n, off := 0 }), .bool false, .slice (some { block := lb, off := 0 }) k cp, .int IntKind.i64 ↑A, u6, u7, .slice (some { block := g, off := off }) 5 c', .pointer (some { block := i.1, off := 0 }), undef, undef, undef, undef, undef, .string s, .slice (some { block := lb, off := 0 }) k cp, .slice (some { block := lb, off := 0 }) k cp, .int IntKind.i64 ↑k, .int IntKind.i64 ↑k, .bool false, u21, u22, u23, u24, u25, u26, u27, u28, u29, u30, u31, .slice (some { block := lb, off := 0 }) k cp, .int IntKind.i64 ↑k, .bool false, .bool false, .int IntKind.i64 ↑A, .bool false, .bool false, undef, .slice (some { block := lb, off := 0 }) k cp, .slice (some { block := lb, off := 2 }) 5 (cp - 2), .slice (some { block := g, off := off }) 5 c', .slice (some { block := g, off := off }) 5 c', .pointer (some { block := g, off := off + 3 }), .int IntKind.i64 x5, .bool false, .bool false, .slice (some { block := g, off := off }) 5 c', .pointer (some { block := g, off := off + 3 }), .int IntKind.i64 x5, .bool false, .bool false, undef, .slice (some { block := g, off := off }) 5 c', .pointer (some { block := g, off := off }), .int IntKind.i64 x2, .slice (some { block := g, off := off }) 5 c', .pointer (some { block := g, off := off + 1 }), .int IntKind.i64 x3, .slice (some { block := g, off := off }) 5 c', .pointer (some { block := g, off := off + 2 }), .int IntKind.i64 x4, .slice (some { block := g, off := off }) 5 c', .pointer (some { block := g, off := off + 3 }), .int IntKind.i64 x5, .int IntKind.u32 x5, .slice (some { block := g, off := off }) 5 c', .pointer (some { block := g, off := off + 4 }), .int IntKind.i64 x6, .slice (some { block := lb, off := 0 }) k cp, .int IntKind.i64 ↑A, .slice (some { block := lb, off := 8 }) (A - 8) (cp - 8), .slice i.2.1 rdl.length i.2.2, .agg #[.int IntKind.i64 0, .int IntKind.i64 x2, .int IntKind.i64 x3, .int IntKind.i64 x4, .int IntKind.u32 x5, .slice none 0 0, .int IntKind.i64 x6, .slice i.2.1 rdl.length i.2.2], undef, undef, undef, undef, undef, undef, undef, undef, undef, undef, undef, undef, undef, undef, undef, undef, undef, undef, undef, undef, undef, undef, undef, undef, undef, undef, undef, undef, undef, undef, undef, undef, undef, undef, undef, undef], defers := [] }) (fun i wS => (w2.heap.size ≤ i.1 ∧ Below w2.heap.size w2 wS ∧ RowB wS i.1 (ojR 0 x2 x3 x4 x5 none 0 0 x6 i.2.1 rdl.length i.2.2) 42 ∧ FarS (ints .i64) 3 wS w2.heap.size i.1 i.2.1 rdl.length i.2.2 rdl)) ?_ ?_
              · have hSd : (fun w' : World => Below w2.heap.size w2 w' ∧ w'.cell? ⟨g, off, none⟩ = some (.int .i64 x2) ∧ w'.cell? ⟨g, off + 1, none⟩ = some (.int .i64 x3) ∧ w'.cell? ⟨g, off + 2, none⟩ = some (.int .i64 x4) ∧ w'.cell? ⟨g, off + 3, none⟩ = some (.int .i64 x5) ∧ w'.cell? ⟨g, off + 4, none⟩ = some (.int .i64 x6)) w2.drew := RjS.below (show RjS w2 g off x2 x3 x4 x5 x6 w2 from ⟨Below.refl _ _, m0, m1, m2, m3, m4⟩) (Below.refl _ w2).drew
                have e8 : (8 : Int) ≤ (A : Int) := by omega
                have e9 : (A : Int) ≤ (cp : Int) := by omega
                have w8 : IntKind.i64.wrap 8 = 8 := by decide
                have t8 : Int.toNat 8 = 8 := rfl
                have q8 : ¬ cp = 8 := by omega
                refine wp_region_held_drew (S := (fun w' : World => Below w2.heap.size w2 w' ∧ w'.cell? ⟨g, off, none⟩ = some (.int .i64 x2) ∧ w'.cell? ⟨g, off + 1, none⟩ = some (.int .i64 x3) ∧ w'.cell? ⟨g, off + 2, none⟩ = some (.int .i64 x4) ∧ w'.cell? ⟨g, off + 3, none⟩ = some (.int .i64 x5) ∧ w'.cell? ⟨g, off + 4, none⟩ = some (.int .i64 x6))) (by kernel_rfl) hSd (fun hHeld => ?_)
                generalize w2.drew = wz at hSd hHeld ⊢
                have hHeld : (fun w' : World => Below w2.heap.size w2 w' ∧ w'.cell? ⟨g, off, none⟩ = some (.int .i64 x2) ∧ w'.cell? ⟨g, off + 1, none⟩ = some (.int .i64 x3) ∧ w'.cell? ⟨g, off + 2, none⟩ = some (.int .i64 x4) ∧ w'.cell? ⟨g, off + 3, none⟩ = some (.int .i64 x5) ∧ w'.cell? ⟨g, off + 4, none⟩ = some (.int .i64 x6)) wz := hHeld
                refine tkH 0 ?_
                try first | simp only [pS, List.set] | simp only [pN]
                refine tkH 3 ?_
                try first | simp only [pS, List.set] | simp only [pN]
                refine tkH 6 ?_
                try first | simp only [pS, List.set] | simp only [pN]
                refine tkH 9 ?_
                try first | simp only [pS, List.set] | simp only [pN]
                refine tkH 13 ?_
                try first | simp only [pS, List.set] | simp only [pN]
                refine tkH 16 ?_
                try first | simp only [pS, List.set] | simp only [pN]
                refine tkH 17 ?_
                try first | simp only [pS, List.set] | simp only [pN]
                refine tkH 1 ?_
                try first | simp only [pS, List.set] | simp only [pN]
                refine tkH 4 ?_
                try first | simp only [pS, List.set] | simp only [pN]
                refine tkH 7 ?_
                try first | simp only [pS, List.set] | simp only [pN]
                refine tkH 10 ?_
                try first | simp only [pS, List.set] | simp only [pN]
                refine tkH 14 ?_
                try first | simp only [pS, List.set] | simp only [pN]
                refine tkH 18 ?_
                try first | simp only [pS, List.set] | simp only [pN]
                refine tkH 2 ?_
                try first | simp only [pS, List.set] | simp only [pN]
                refine tkH 5 ?_
                try first | simp only [pS, List.set] | simp only [pN]
                refine tkH 8 ?_
                try first | simp only [pS, List.set] | simp only [pN]
                refine tkH 11 ?_
                try first | simp only [pS, List.set] | simp only [pN]
                refine tkH 15 ?_
                try first | simp only [pS, List.set] | simp only [pN]
                refine tkH 12 ?_
                try first | simp only [pS, List.set] | simp only [pN]
                refine wpAnyH_ready (rs := [19, 21]) (by kernel_rfl) (by simp) ?_
                refine AllReadyH.cons (o := ?_) ?_ (fun K hK => ?_) ?_
                rotate_left
                · (simp only [List.getElem?_toArray, List.getElem?_cons_succ, List.getElem?_cons_zero]; rfl)
                · go_simp
                  go_at_call 49
                  refine (HNM.out wz hHeld.1).mono ?_
                  rintro ex wx ⟨v2, rfl, hown2, hbx⟩
                  obtain ⟨A2, c2, rfl, hcl2, hne2, hsl2⟩ := hown2.sl
                  have hbz : w2.heap.size ≤ wz.heap.size := hHeld.1.size
                  have hSx := RjS.below (show RjS w2 g off x2 x3 x4 x5 x6 wz from hHeld) hbx
                  refine hK.out _ _ hSx (fun hHeld => ?_)
                  clear hK K
                  try first | simp only [pS, List.set] | simp only [pN]
                  refine tkH 20 ?_
                  try first | simp only [pS, List.set] | simp only [pN]
                  refine wpAnyH_ready (rs := [21]) (by kernel_rfl) (by simp) ?_
                  refine AllReadyH.cons (o := ?_) ?_ (fun K hK => ?_) AllReadyH.nil
                  rotate_left
                  · (simp only [List.getElem?_toArray, List.getElem?_cons_succ, List.getElem?_cons_zero]; rfl)
                  go_simp
                  have hnew := RowB.new (wx) (ojR 0 0 0 0 0 none 0 0 0 none 0 0) 42
                  have hsz := hHeld.1.size
                  have hSx := RjS.below (show RjS w2 g off x2 x3 x4 x5 x6 _ from hHeld) ((Below.refl (wx).heap.size (wx)).alloc (Nat.le_refl _) (.cells #[.int .i64 0, .int .i64 0, .int .i64 0, .int .i64 0, .int .u32 0, .slice none 0 0, .int .i64 0, .slice none 0 0] 42))
                  refine hK.out _ _ hSx (fun hHeld => ?_)
                  clear hK K
                  try first | simp only [pS, List.set] | simp only [pN]
                  obtain ⟨wa, hwa⟩ : ∃ x, (wx).alloc (.cells #[.int .i64 0, .int .i64 0, .int .i64 0, .int .i64 0, .int .u32 0, .slice none 0 0, .int .i64 0, .slice none 0 0] 42) = x := ⟨_, rfl⟩
                  obtain ⟨nb, hnb⟩ : ∃ x, (wx).heap.size = x := ⟨_, rfl⟩
                  have hnew2 : RowB wa nb (ojR 0 0 0 0 0 none 0 0 0 none 0 0) 42 := by rw [← hwa, ← hnb]; exact hnew
                  rw [hwa] at hHeld ⊢
                  rw [hnb] at hsz ⊢
                  have hS2 : (RjS w2 g off x2 x3 x4 x5 x6 wa) ∧ ∃ (kd wd sl cp st : Int) (I : Option Addr) (ni ci : Nat) (wr : Int) (R : Option Addr) (nr cr : Nat), RowB wa nb (ojR kd wd sl cp st I ni ci wr R nr cr) 42 := ⟨hHeld, 0, 0, 0, 0, 0, none, 0, 0, 0, none, 0, 0, hnew2⟩
                  clear hHeld
                  refine wpAnyH_strong (S' := fun w' => (Below w2.heap.size w2 w' ∧ w'.cell? ⟨g, off, none⟩ = some (.int .i64 x2) ∧ w'.cell? ⟨g, off + 1, none⟩ = some (.int .i64 x3) ∧ w'.cell? ⟨g, off + 2, none⟩ = some (.int .i64 x4) ∧ w'.cell? ⟨g, off + 3, none⟩ = some (.int .i64 x5) ∧ w'.cell? ⟨g, off + 4, none⟩ = some (.int .i64 x6)) ∧ ∃ (kd wd sl cp st : Int) (I : Option Addr) (ni ci : Nat) (wr : Int) (R : Option Addr) (nr cr : Nat), RowB w' nb (ojR kd wd sl cp st I ni ci wr R nr cr) 42) (fun w h => h.1) _ _ _ _ ?_
                  have hHeld := hS2
                  have hFA := (hown2.farA (lo := w2.heap.size) (nb := nb) hbz hnb).below (w' := wa) (by rw [← hwa]; exact (Below.refl _ _).alloc (Nat.le_refl _) _)
                  obtain ⟨y0, y1, y2, y3, y4, y5, y6, y7, y8, y9, y10, y11, hz⟩ := hHeld.2
                  unfold ojR at hz
                  have b0 := hz.cell 0
                  have b1 := hz.cell 1
                  have b2 := hz.cell 2
                  have b3 := hz.cell 3
                  have b4 := hz.cell 4
                  have b5 := hz.cell 5
                  have b6 := hz.cell 6
                  have b7 := hz.cell 7
                  simp only [List.getElem?_toArray, List.getElem?_cons_zero, List.getElem?_cons_succ] at b0 b1 b2 b3 b4 b5 b6 b7
                  have f0 := hz.frozen 0
                  have f1 := hz.frozen 1
                  have f2 := hz.frozen 2
                  have f3 := hz.frozen 3
                  have f4 := hz.frozen 4
                  have f5 := hz.frozen 5
                  have f6 := hz.frozen 6
                  have f7 := hz.frozen 7
                  refine wpAnyH_ready (rs := [22]) (by kernel_rfl) (by simp) ?_
                  refine AllReadyH.cons (o := ?_) ?_ (fun K hK => ?_) AllReadyH.nil
                  rotate_left
                  · (simp only [List.getElem?_toArray, List.getElem?_cons_succ, List.getElem?_cons_zero]; rfl)
                  go_simp
                  have hSr := RjS.set8 (show RjS w2 g off x2 x3 x4 x5 x6 wa from hHeld.1) hsz hgb (.int .i64 0) (.int .i64 x2) (.int .i64 x3) (.int .i64 x4) (.int .u32 x5) (.slice none 0 0) (.int .i64 x6) (.slice A2 rdl.length c2)
                  have hzz := row_set8 (w := wa) (b := nb) (t := 42) _ _ _ _ _ _ _ _ (.int .i64 0) (.int .i64 x2) (.int .i64 x3) (.int .i64 x4) (.int .u32 x5) (.slice none 0 0) (.int .i64 x6) (.slice A2 rdl.length c2) hz
                  have hFR := hFA.set8 nb (Or.inr rfl) (.int .i64 0) (.int .i64 x2) (.int .i64 x3) (.int .i64 x4) (.int .u32 x5) (.slice none 0 0) (.int .i64 x6) (.slice A2 rdl.length c2)
                  try rw [HW5.out]
                  obtain ⟨wS, hwS⟩ : ∃ x, ((((((((wa.setCell ⟨nb, 0, none⟩ (.int .i64 0)).setCell ⟨nb, 1, none⟩ (.int .i64 x2)).setCell ⟨nb, 2, none⟩ (.int .i64 x3)).setCell ⟨nb, 3, none⟩ (.int .i64 x4)).setCell ⟨nb, 4, none⟩ (.int .u32 x5)).setCell ⟨nb, 5, none⟩ (.slice none 0 0)).setCell ⟨nb, 6, none⟩ (.int .i64 x6)).setCell ⟨nb, 7, none⟩ (.slice A2 rdl.length c2)) = x := ⟨_, rfl⟩
                  rw [hwS] at hSr hzz hFR ⊢
                  clear hwS
                  have hzz : RowB wS nb (ojR 0 x2 x3 x4 x5 none 0 0 x6 A2 rdl.length c2) 42 := hzz
                  obtain ⟨s1, s2, s3, s4, s5, s6⟩ := hSr
                  have hSx : (Below w2.heap.size w2 wS ∧ wS.cell? ⟨g, off, none⟩ = some (.int .i64 x2) ∧ wS.cell? ⟨g, off + 1, none⟩ = some (.int .i64 x3) ∧ wS.cell? ⟨g, off + 2, none⟩ = some (.int .i64 x4) ∧ wS.cell? ⟨g, off + 3, none⟩ = some (.int .i64 x5) ∧ wS.cell? ⟨g, off + 4, none⟩ = some (.int .i64 x6)) ∧ ∃ (kd wd sl cp st : Int) (I : Option Addr) (ni ci : Nat) (wr : Int) (R : Option Addr) (nr cr : Nat), RowB wS nb (ojR kd wd sl cp st I ni ci wr R nr cr) 42 := ⟨⟨s1, s2, s3, s4, s5, s6⟩, _, _, _, _, _, _, _, _, _, _, _, _, hzz⟩
                  refine hK.out _ _ hSx (fun hHeld => ?_)
                  clear hK K
                  try first | simp only [pS, List.set] | simp only [pN]
                  refine wpAnyH_done (by kernel_rfl) ?_ _
                  exact ⟨rfl, (nb, A2, c2), rfl, hsz, s1, hzz, hFR⟩
                · refine AllReadyH.cons (o := ?_) ?_ (fun K hK => ?_) AllReadyH.nil
                  rotate_left
                  · (simp only [List.getElem?_toArray, List.getElem?_cons_succ, List.getElem?_cons_zero]; rfl)
                  · go_simp
                    have hnew := RowB.new (wz) (ojR 0 0 0 0 0 none 0 0 0 none 0 0) 42
                    have hsz := hHeld.1.size
                    have hSx := RjS.below (show RjS w2 g off x2 x3 x4 x5 x6 _ from hHeld) ((Below.refl (wz).heap.size (wz)).alloc (Nat.le_refl _) (.cells #[.int .i64 0, .int .i64 0, .int .i64 0, .int .i64 0, .int .u32 0, .slice none 0 0, .int .i64 0, .slice none 0 0] 42))
                    refine hK.out _ _ hSx (fun hHeld => ?_)
                    clear hK K
                    try first | simp only [pS, List.set] | simp only [pN]
                    obtain ⟨wa, hwa⟩ : ∃ x, (wz).alloc (.cells #[.int .i64 0, .int .i64 0, .int .i64 0, .int .i64 0, .int .u32 0, .slice none 0 0, .int .i64 0, .slice none 0 0] 42) = x := ⟨_, rfl⟩
                    obtain ⟨nb, hnb⟩ : ∃ x, (wz).heap.size = x := ⟨_, rfl⟩
                    have hnew2 : RowB wa nb (ojR 0 0 0 0 0 none 0 0 0 none 0 0) 42 := by rw [← hwa, ← hnb]; exact hnew
                    rw [hwa] at hHeld ⊢
                    rw [hnb] at hsz ⊢
                    have hS2 : (RjS w2 g off x2 x3 x4 x5 x6 wa) ∧ ∃ (kd wd sl cp st : Int) (I : Option Addr) (ni ci : Nat) (wr : Int) (R : Option Addr) (nr cr : Nat), RowB wa nb (ojR kd wd sl cp st I ni ci wr R nr cr) 42 := ⟨hHeld, 0, 0, 0, 0, 0, none, 0, 0, 0, none, 0, 0, hnew2⟩
                    clear hHeld
                    refine wpAnyH_strong (S' := fun w' => (Below w2.heap.size w2 w' ∧ w'.cell? ⟨g, off, none⟩ = some (.int .i64 x2) ∧ w'.cell? ⟨g, off + 1, none⟩ = some (.int .i64 x3) ∧ w'.cell? ⟨g, off + 2, none⟩ = some (.int .i64 x4) ∧ w'.cell? ⟨g, off + 3, none⟩ = some (.int .i64 x5) ∧ w'.cell? ⟨g, off + 4, none⟩ = some (.int .i64 x6)) ∧ ∃ (kd wd sl cp st : Int) (I : Option Addr) (ni ci : Nat) (wr : Int) (R : Option Addr) (nr cr : Nat), RowB w' nb (ojR kd wd sl cp st I ni ci wr R nr cr) 42) (fun w h => h.1) _ _ _ _ ?_
                    have hHeld := hS2
                    have hsa : wa.heap.size = nb + 1 := by rw [← hwa, World.size_alloc, hnb]
                    refine wpAnyH_ready (rs := [19]) (by kernel_rfl) (by simp) ?_
                    refine AllReadyH.cons (o := ?_) ?_ (fun K hK => ?_) AllReadyH.nil
                    rotate_left
                    · (simp only [List.getElem?_toArray, List.getElem?_cons_succ, List.getElem?_cons_zero]; rfl)
                    go_simp
                    go_at_call 49
                    refine (HNM.out wa hHeld.1.1).mono ?_
                    rintro ex wb ⟨v2, rfl, hown2, hbx⟩
                    obtain ⟨A2, c2, rfl, hcl2, hne2, hsl2⟩ := hown2.sl
                    have hSx : (RjS w2 g off x2 x3 x4 x5 x6 wb) ∧ ∃ (kd wd sl cp st : Int) (I : Option Addr) (ni ci : Nat) (wr : Int) (R : Option Addr) (nr cr : Nat), RowB wb nb (ojR kd wd sl cp st I ni ci wr R nr cr) 42 := ⟨RjS.below (show RjS w2 g off x2 x3 x4 x5 x6 wa from hHeld.1) hbx, by obtain ⟨-, y0, y1, y2, y3, y4, y5, y6, y7, y8, y9, y10, y11, hr⟩ := hHeld; exact ⟨y0, y1, y2, y3, y4, y5, y6, y7, y8, y9, y10, y11, hr.kept hbx⟩⟩
                    refine hK.out _ _ hSx (fun hHeld => ?_)
                    clear hK K
                    try first | simp only [pS, List.set] | simp only [pN]
                    refine tkH 20 ?_
                    try first | simp only [pS, List.set] | simp only [pN]
                    obtain ⟨y0, y1, y2, y3, y4, y5, y6, y7, y8, y9, y10, y11, hz⟩ := hHeld.2
                    unfold ojR at hz
                    have b0 := hz.cell 0
                    have b1 := hz.cell 1
                    have b2 := hz.cell 2
                    have b3 := hz.cell 3
                    have b4 := hz.cell 4
                    have b5 := hz.cell 5
                    have b6 := hz.cell 6
                    have b7 := hz.cell 7
                    simp only [List.getElem?_toArray, List.getElem?_cons_zero, List.getElem?_cons_succ] at b0 b1 b2 b3 b4 b5 b6 b7
                    have f0 := hz.frozen 0
                    have f1 := hz.frozen 1
                    have f2 := hz.frozen 2
                    have f3 := hz.frozen 3
                    have f4 := hz.frozen 4
                    have f5 := hz.frozen 5
                    have f6 := hz.frozen 6
                    have f7 := hz.frozen 7
                    have hFA := hown2.farB (lo := w2.heap.size) (nb := nb) (by rw [hsa]; omega) (by rw [hsa]; omega)
                    refine wpAnyH_ready (rs := [22]) (by kernel_rfl) (by simp) ?_
                    refine AllReadyH.cons (o := ?_) ?_ (fun K hK => ?_) AllReadyH.nil
                    rotate_left
                    · (simp only [List.getElem?_toArray, List.getElem?_cons_succ, List.getElem?_cons_zero]; rfl)
                    go_simp
                    have hSr := RjS.set8 (show RjS w2 g off x2 x3 x4 x5 x6 wb from hHeld.1) hsz hgb (.int .i64 0) (.int .i64 x2) (.int .i64 x3) (.int .i64 x4) (.int .u32 x5) (.slice none 0 0) (.int .i64 x6) (.slice A2 rdl.length c2)
                    have hzz := row_set8 (w := wb) (b := nb) (t := 42) _ _ _ _ _ _ _ _ (.int .i64 0) (.int .i64 x2) (.int .i64 x3) (.int .i64 x4) (.int .u32 x5) (.slice none 0 0) (.int .i64 x6) (.slice A2 rdl.length c2) hz
                    have hFR := hFA.set8 nb (Or.inr rfl) (.int .i64 0) (.int .i64 x2) (.int .i64 x3) (.int .i64 x4) (.int .u32 x5) (.slice none 0 0) (.int .i64 x6) (.slice A2 rdl.length c2)
                    try rw [HW5.out]
                    obtain ⟨wS, hwS⟩ : ∃ x, ((((((((wb.setCell ⟨nb, 0, none⟩ (.int .i64 0)).setCell ⟨nb, 1, none⟩ (.int .i64 x2)).setCell ⟨nb, 2, none⟩ (.int .i64 x3)).setCell ⟨nb, 3, none⟩ (.int .i64 x4)).setCell ⟨nb, 4, none⟩ (.int .u32 x5)).setCell ⟨nb, 5, none⟩ (.slice none 0 0)).setCell ⟨nb, 6, none⟩ (.int .i64 x6)).setCell ⟨nb, 7, none⟩ (.slice A2 rdl.length c2)) = x := ⟨_, rfl⟩
                    rw [hwS] at hSr hzz hFR ⊢
                    clear hwS
                    have hzz : RowB wS nb (ojR 0 x2 x3 x4 x5 none 0 0 x6 A2 rdl.length c2) 42 := hzz
                    obtain ⟨s1, s2, s3, s4, s5, s6⟩ := hSr
                    have hSx : (Below w2.heap.size w2 wS ∧ wS.cell? ⟨g, off, none⟩ = some (.int .i64 x2) ∧ wS.cell? ⟨g, off + 1, none⟩ = some (.int .i64 x3) ∧ wS.cell? ⟨g, off + 2, none⟩ = some (.int .i64 x4) ∧ wS.cell? ⟨g, off + 3, none⟩ = some (.int .i64 x5) ∧ wS.cell? ⟨g, off + 4, none⟩ = some (.int .i64 x6)) ∧ ∃ (kd wd sl cp st : Int) (I : Option Addr) (ni ci : Nat) (wr : Int) (R : Option Addr) (nr cr : Nat), RowB wS nb (ojR kd wd sl cp st I ni ci wr R nr cr) 42 := ⟨⟨s1, s2, s3, s4, s5, s6⟩, _, _, _, _, _, _, _, _, _, _, _, _, hzz⟩
                    refine hK.out _ _ hSx (fun hHeld => ?_)
                    clear hK K
                    try first | simp only [pS, List.set] | simp only [pN]
                    refine wpAnyH_done (by kernel_rfl) ?_ _
                    exact ⟨rfl, (nb, A2, c2), rfl, hsz, s1, hzz, hFR⟩
              · rintro ⟨nb, A2, c2⟩ wS ⟨hlo, hbS, hzS, hfS⟩
                simp only at hlo hzS hfS
                obtain ⟨L, hL⟩ : ∃ x, (q.drop (A + 1)).length = x := ⟨_, rfl⟩
                have hLe : L = k - (A + 1) := by rw [← hL, List.length_drop, HQN.out]
                have HZ := Lib.hid hzS
                have HBS := Lib.hid hbS
                have HFS := Lib.hid hfS
                have HL := Lib.hid hL
                have h1A : (A : Int) + 1 ≤ (cp : Int) := by omega
                clear hzS hbS hfS hL m0 m1 m2 m3 m4
                go_wp2_with fail
                · have hL0 : L = 0 := by omega
                  rw [← hLe]
                  have hLB : L ≤ 20000 := by omega
                  have HLB := Lib.hid hLB
                  clear hLe
                  go_loopw [80] (fun j wt => j = .int .i64 0 ∧ wt = wS) (fun _ _ => 0)
                  case atStart => exact ⟨rfl, rfl⟩
                  case round =>
                    obtain ⟨rfl, hwt⟩ := hrel
                    subst hwt
                    have hmn : decide ((0 : Int) < (L : Int)) = false := by rw [hL0]; rfl
                    have hmn2 : decide (0 < L) = false := by rw [hL0]; rfl
                    obtain ⟨ini9, hini9⟩ : ∃ x, (q.drop (A + 1)).map rnum = x := ⟨_, rfl⟩
                    have HWF := Lib.hid (show ∀ z ∈ ini9, (Lit.int .u32 z).wf = true from fun z hz => by
                      rw [← hini9] at hz
                      obtain ⟨y, _, rfl⟩ := List.mem_map.1 hz
                      have := rnum_bd y
                      exact u32_to this.1 this.2)
                    have hin0 : ini9 = [] := by rw [← hini9, List.eq_nil_of_length_eq_zero (HL.out.trans hL0)]; rfl
                    obtain ⟨I9, hI9⟩ : ∃ x : Option Addr, x = none := ⟨_, rfl⟩
                    obtain ⟨c9, hc9⟩ : ∃ x : Nat, x = 0 := ⟨_, rfl⟩
                    have HS9 := Lib.hid (show St2 w2 nb 0 x2 x3 x4 x5 I9 L c9 x6 A2 rdl.length c2 ini9 rdl wr by
                      rw [hI9, hc9, hin0, hL0]
                      exact ⟨HZ.out, ⟨Own.nil _ _, fun e => by cases e⟩, HFS.out, HBS.out, hlo⟩)
                    clear hI9 hc9 hin0 hL0
                    have hkl : ini9.length = L := by rw [← hini9, List.length_map, HL.out]
                    go_wp2_with fail
                    go_loopw [12] (fun kv wt => ∃ (p : Nat) (kd : Int), 1 ≤ p ∧ p ≤ 7 ∧ kv = .int .i64 p ∧ St2 w2 nb kd x2 x3 x4 x5 I9 L c9 x6 A2 rdl.length c2 ini9 rdl wt ∧ ∀ j : Nat, 1 ≤ j → j < p → fitO l (candJ q A (j : Int)) = false) (fun kv _ => 8 - (intOf kv).toNat)
                    case atStart => exact ⟨1, 0, Nat.le_refl _, by omega, rfl, HS9.out, fun j h1 h2 => by omega⟩
                    case round =>
                      obtain ⟨p, kd, hp1, hp7, rfl, hst, hno⟩ := hrel
                      by_cases hp : p = 7
                      · subst hp
                        have HNO := Lib.hid (show readOR l = none by
                          rw [hRD.out]
                          split
                          · exact find6_no hno
                          · rfl)
                        have hHB := HB.out.trans (hst.2.2.2.1.mono (Nat.le_of_lt hnlo))
                        have hHX := HX.out.below hst.2.2.2.1 hnlo
                        have hxz := hHX
                        have d0 := hxz.cell 0
                        have d1 := hxz.cell 1
                        have d2 := hxz.cell 2
                        have d3 := hxz.cell 3
                        have d4 := hxz.cell 4
                        have d5 := hxz.cell 5
                        have d6 := hxz.cell 6
                        have d7 := hxz.cell 7
                        unfold ojR at d0 d1 d2 d3 d4 d5 d6 d7
                        simp only [List.getElem?_toArray, List.getElem?_cons_zero, List.getElem?_cons_succ] at d0 d1 d2 d3 d4 d5 d6 d7
                        have df0 := hxz.frozen 0
                        have df1 := hxz.frozen 1
                        have df2 := hxz.frozen 2
                        have df3 := hxz.frozen 3
                        have df4 := hxz.frozen 4
                        have df5 := hxz.frozen 5
                        have df6 := hxz.frozen 6
                        have df7 := hxz.frozen 7
                        have HXZ := Lib.hid hxz
                        have HBZ := Lib.hid hHB
                        clear hxz
                        go_wp2_with fail
                        have hxz := HXZ.out
                        unfold ojR at hxz
                        refine bodyPost_ret (res_rob9 _ _ rfl rfl (row_set8 _ _ _ _ _ _ _ _ (.int .i64 0) (.int .i64 0) (.int .i64 0) (.int .i64 0) (.int .u32 0) (.slice none 0 0) (.int .i64 0) (.slice none 0 0) hxz)) rfl ?_
                        exact ⟨0, 0, 0, 0, 0, none, 0, 0, 0, none, 0, 0, by rw [HNO.out]; rfl, (fun o ho => by rw [HNO.out] at ho; cases ho), by rw [hn]; exact below_s8 HBZ.out n (Nat.le_refl _) _ _ _ _ _ _ _ _⟩
                      · have tp : decide ((p : Int) ≤ 6) = true := by rw [decide_eq_true_iff]; omega
                        have tp' : decide (p ≤ 6) = true := by rw [decide_eq_true_iff]; omega
                        have HNJ := Lib.hid hno
                        have HST := Lib.hid hst
                        have hz9 := hst.1
                        have cb0 := hz9.cell 0
                        have cb1 := hz9.cell 1
                        have cb2 := hz9.cell 2
                        have cb3 := hz9.cell 3
                        have cb4 := hz9.cell 4
                        have cb5 := hz9.cell 5
                        have cb6 := hz9.cell 6
                        have cb7 := hz9.cell 7
                        unfold ojR at cb0 cb1 cb2 cb3 cb4 cb5 cb6 cb7
                        simp only [List.getElem?_toArray, List.getElem?_cons_zero, List.getElem?_cons_succ] at cb0 cb1 cb2 cb3 cb4 cb5 cb6 cb7
                        have cbf0 := hz9.frozen 0
                        have cbf1 := hz9.frozen 1
                        have cbf2 := hz9.frozen 2
                        have cbf3 := hz9.frozen 3
                        have cbf4 := hz9.frozen 4
                        have cbf5 := hz9.frozen 5
                        have cbf6 := hz9.frozen 6
                        have cbf7 := hz9.frozen 7
                        clear hz9
                        have HSK := Lib.hid (hst.setk (p : Int))
                        have hcj : candJ q A (p : Int) = (⟨(p : Int), x2, x3, x4, x5, (q.drop (A + 1)).map rnum, x6, rdl⟩ : Oj) := by
                          unfold candJ objC
                          rw [HX2.out.1, HX2.out.2.1, HX2.out.2.2.1, HX2.out.2.2.2.1, HX2.out.2.2.2.2, HRDL.out]
                        rw [hini9] at hcj
                        have HCJ := Lib.hid hcj
                        have HOL := Lib.hid (show ∀ W : World, St2 w2 nb (p : Int) x2 x3 x4 x5 I9 L c9 x6 A2 rdl.length c2 ini9 rdl W → Calls Tryz.prog 21 #[.agg #[.int .i64 p, .int .i64 x2, .int .i64 x3, .int .i64 x4, .int .u32 x5, .slice I9 L c9, .int .i64 x6, .slice A2 rdl.length c2]] W (LineR ⟨(p : Int), x2, x3, x4, x5, ini9, x6, rdl⟩ W) from fun W hW => by
                          have h9 := rline_ob ⟨(p : Int), x2, x3, x4, x5, ini9, x6, rdl⟩ I9 c9 A2 c2 W (by
                            have h1 := of_decide_eq_false hbad
                            have h2 := of_decide_eq_false hbad2
                            show 0 ≤ x5 ∧ x5 < 4294967296
                            omega) (by show ini9.length ≤ 20000; have := HLB.out; omega) (by show rdl.length ≤ 20000; have := HRL.out; omega) ⟨hW.2.1.sl, HWF.out⟩ hW.2.2.1.sl
                          unfold ojV at h9
                          simp only at h9
                          rw [hkl] at h9
                          exact h9)
                        clear hst hno hcj
                        go_wp2_with fail
                        refine (HOL.out _ HSK.out).mono ?_
                        rintro e w8 ⟨sH, rfl, hHs, hHl, hb8⟩
                        have HS8 := Lib.hid (HSK.out.below hb8)
                        clear hb8 cb0 cbf0 cb1 cbf1 cb2 cbf2 cb3 cbf3 cb4 cbf4 cb5 cbf5 cb6 cbf6 cb7 cbf7
                        have hfit : fitO l ⟨(p : Int), x2, x3, x4, x5, ini9, x6, rdl⟩ = (objB ⟨(p : Int), x2, x3, x4, x5, ini9, x6, rdl⟩ && decide (objL ⟨(p : Int), x2, x3, x4, x5, ini9, x6, rdl⟩ = l)) := rfl
                        rcases hq1 : objB ⟨(p : Int), x2, x3, x4, x5, ini9, x6, rdl⟩ with _ | _
                        · have HF := Lib.hid (show fitO l (candJ q A (p : Int)) = false by rw [HCJ.out, hfit, hq1, Bool.false_and])
                          clear hfit hq1 hHs
                          go_wp2_with fail
                          go_roundw
                          case rel =>
                            refine ⟨p + 1, (p : Int), by omega, by omega, by go_num, HS8.out, fun j h1 h2 => ?_⟩
                            by_cases hj : j = p
                            · rw [hj]; exact HF.out
                            · exact HNJ.out j h1 (by omega)
                          case measure => simp [intOf]; omega
                        · have hSH := hHs hq1
                          by_cases hls : objL ⟨(p : Int), x2, x3, x4, x5, ini9, x6, rdl⟩ = l
                          · have HYES := Lib.hid (show readOR l = some ⟨(p : Int), x2, x3, x4, x5, ini9, x6, rdl⟩ by
                              rw [hRD.out, if_pos ⟨by omega, hA8, by
                                have h1 := of_decide_eq_false hbad
                                have h2 := of_decide_eq_false hbad2
                                rw [HX2.out.2.2.2.1]
                                omega⟩]
                              rw [find6 (f := candJ q A) (k := p) ⟨hp1, by omega⟩ HNJ.out (by rw [HCJ.out, hfit, hq1, hls]; simp), HCJ.out])
                            have hst : (sH.toList == s.toList) = true := by rw [hSH, ByteArray.toList_eq, ByteArray.toList_eq, hl'.out]; simp [hls]
                            clear hfit hq1 hHs hls hSH
                            have hxn := HX.out.below HS8.out.2.2.2.1 hnlo
                            have hz8 := HS8.out.1
                            have d0 := hxn.cell 0
                            have d1 := hxn.cell 1
                            have d2 := hxn.cell 2
                            have d3 := hxn.cell 3
                            have d4 := hxn.cell 4
                            have d5 := hxn.cell 5
                            have d6 := hxn.cell 6
                            have d7 := hxn.cell 7
                            unfold ojR at d0 d1 d2 d3 d4 d5 d6 d7
                            simp only [List.getElem?_toArray, List.getElem?_cons_zero, List.getElem?_cons_succ] at d0 d1 d2 d3 d4 d5 d6 d7
                            have df0 := hxn.frozen 0
                            have df1 := hxn.frozen 1
                            have df2 := hxn.frozen 2
                            have df3 := hxn.frozen 3
                            have df4 := hxn.frozen 4
                            have df5 := hxn.frozen 5
                            have df6 := hxn.frozen 6
                            have df7 := hxn.frozen 7
                            have e0 := hz8.cell 0
                            have e1 := hz8.cell 1
                            have e2 := hz8.cell 2
                            have e3 := hz8.cell 3
                            have e4 := hz8.cell 4
                            have e5 := hz8.cell 5
                            have e6 := hz8.cell 6
                            have e7 := hz8.cell 7
                            unfold ojR at e0 e1 e2 e3 e4 e5 e6 e7
                            simp only [List.getElem?_toArray, List.getElem?_cons_zero, List.getElem?_cons_succ] at e0 e1 e2 e3 e4 e5 e6 e7
                            have HXN := Lib.hid hxn
                            have HBn := Lib.hid (HB.out.trans (HS8.out.2.2.2.1.mono (Nat.le_of_lt hnlo)))
                            clear hxn hz8
                            go_wp2_with fail
                            have hxn := HXN.out
                            unfold ojR at hxn
                            refine bodyPost_ret (res_rob9 _ _ rfl rfl (row_set8 _ _ _ _ _ _ _ _ (.int .i64 (p : Int)) (.int .i64 x2) (.int .i64 x3) (.int .i64 x4) (.int .u32 x5) (.slice I9 L c9) (.int .i64 x6) (.slice A2 rdl.length c2) hxn)) rfl ?_
                            refine ⟨(p : Int), x2, x3, x4, x5, I9, L, c9, x6, A2, rdl.length, c2, by rw [HYES.out]; rfl, (fun o ho => ?_), by rw [hn]; exact below_s8 HBn.out n (Nat.le_refl _) _ _ _ _ _ _ _ _⟩
                            rw [HYES.out] at ho
                            have ho' := (Option.some.inj ho).symm
                            subst ho'
                            rw [hn]
                            exact ⟨rfl, rfl, rfl, rfl, rfl, rfl, hkl, rfl, ⟨(HS8.out.2.1.set8 n (Or.inl hnlo) (.int .i64 (p : Int)) (.int .i64 x2) (.int .i64 x3) (.int .i64 x4) (.int .u32 x5) (.slice I9 L c9) (.int .i64 x6) (.slice A2 rdl.length c2)).1.mono (Nat.le_of_lt hnlo), HWF.out⟩, (HS8.out.2.2.1.set8 n (Or.inl hnlo) (.int .i64 (p : Int)) (.int .i64 x2) (.int .i64 x3) (.int .i64 x4) (.int .u32 x5) (.slice I9 L c9) (.int .i64 x6) (.slice A2 rdl.length c2)).1.mono (Nat.le_of_lt hnlo)⟩
                          · have HF := Lib.hid (show fitO l (candJ q A (p : Int)) = false by rw [HCJ.out, hfit, hq1, Bool.true_and]; exact decide_eq_false hls)
                            have hst : (sH.toList == s.toList) = false := by rw [beq_eq_false_iff_ne, hSH, ByteArray.toList_eq, ByteArray.toList_eq, hl'.out]; simpa using hls
                            clear hfit hq1 hHs hls hSH
                            go_wp2_with fail
                            go_roundw
                            case rel =>
                              refine ⟨p + 1, (p : Int), by omega, by omega, by go_num, HS8.out, fun j h1 h2 => ?_⟩
                              by_cases hj : j = p
                              · rw [hj]; exact HF.out
                              · exact HNJ.out j h1 (by omega)
                            case measure => simp [intOf]; omega
                · rw [← hLe]
                  have hLB : L ≤ 20000 := by omega
                  have HLB := Lib.hid hLB
                  clear hLe
                  go_loopw [80] (fun j wt => ∃ (m : Nat) (I : Option Addr) (ci : Nat), m ≤ L ∧ j = .int .i64 m ∧ St2 w2 nb 0 x2 x3 x4 x5 I m ci x6 A2 rdl.length c2 (((q.drop (A + 1)).take m).map rnum) rdl wt) (fun j _ => L - (intOf j).toNat)
                  case atStart => exact ⟨0, none, 0, Nat.zero_le _, rfl, HZ.out, ⟨Own.nil _ _, fun e => by cases e⟩, HFS.out, HBS.out, hlo⟩
                  case round =>
                    obtain ⟨m, I, ci, hm, rfl, hst⟩ := hrel
                    by_cases hml : m < L
                    · have HML := Lib.hid hml
                      have hmI : (m : Int) < (L : Int) := by omega
                      have hmD : decide ((m : Int) < (L : Int)) = true := decide_eq_true hmI
                      have hmN : decide (m < L) = true := decide_eq_true hml
                      obtain ⟨x, hx⟩ := get_some (show m < (q.drop (A + 1)).length by rw [HL.out]; exact hml)
                      have hqx : q[A + 1 + m]? = some x := by rw [List.getElem?_drop] at hx; exact hx
                      have hcell : wr.cell? ⟨lb, A + 1 + m, none⟩ = some (.string ⟨x.toArray⟩) := (hst.2.2.2.1.cell (p := ⟨lb, A + 1 + m, none⟩) hlb2).trans (HC2.out _ x hqx)
                      have hxs := hQS.out x (List.mem_of_getElem? hqx)
                      obtain ⟨X, hX⟩ : ∃ X, (⟨x.toArray⟩ : ByteArray) = X := ⟨_, rfl⟩
                      have hXl : X.data.toList = x := by rw [← hX]
                      have hXs : X.size ≤ 1000000 := by rw [← hX]; simpa [ByteArray.size] using hxs
                      rw [hX] at hcell
                      have HD := Lib.hid (fun W => rd9 X x W hXl hXs)
                      have HST := Lib.hid hst
                      clear hX hXl hXs hxs hst hqx
                      go_wp2_with fail
                      refine wp_region_held_drew (S := (fun _ : World => True)) (by kernel_rfl) trivial (fun hHeld => ?_)
                      have HSz := Lib.hid (HST.out.below (Below.refl wr.heap.size wr).drew)
                      generalize wr.drew = wz at HSz ⊢
                      have cz : wz.cell? ⟨nb, 5, none⟩ = some (.slice I m ci) := (HSz.out.1.cell 5).trans rfl
                      refine tkH 0 ?_
                      try first | simp only [pS, List.set] | simp only [pN]
                      refine tkH 2 ?_
                      try first | simp only [pS, List.set] | simp only [pN]
                      refine wpAnyH_ready (rs := [1, 3]) (by kernel_rfl) (by simp) ?_
                      refine AllReadyH.cons (o := ?_) ?_ (fun K hK => ?_) ?_
                      rotate_left
                      · (simp only [List.getElem?_toArray, List.getElem?_cons_succ, List.getElem?_cons_zero]; rfl)
                      · go_simp
                        refine hK.out _ _ trivial (fun hHeld => ?_)
                        clear hK K
                        try first | simp only [pS, List.set] | simp only [pN]
                        refine wpAnyH_ready (rs := [3]) (by kernel_rfl) (by simp) ?_
                        refine AllReadyH.cons (o := ?_) ?_ (fun K hK => ?_) AllReadyH.nil
                        rotate_left
                        · (simp only [List.getElem?_toArray, List.getElem?_cons_succ, List.getElem?_cons_zero]; rfl)
                        · go_simp
                          go_at_call 47
                          refine (HD.out wz).mono ?_
                          rintro ex wy ⟨rfl, hby⟩
                          have HSy := Lib.hid (HSz.out.below hby)
                          have cy : wy.cell? ⟨nb, 5, none⟩ = some (.slice I m ci) := (hby.cell (p := ⟨nb, 5, none⟩) (cell_lt cz)).trans cz
                          clear hby
                          refine hK.out _ _ trivial (fun hHeld => ?_)
                          clear hK K
                          try first | simp only [pS, List.set] | simp only [pN]
                          refine wpAnyH_ready (rs := [4]) (by kernel_rfl) (by simp) ?_
                          refine AllReadyH.cons (o := ?_) ?_ (fun K hK => ?_) AllReadyH.nil
                          rotate_left
                          · (simp only [List.getElem?_toArray, List.getElem?_cons_succ, List.getElem?_cons_zero]; rfl)
                          · go_simp
                            have HSa := Lib.hid (HSy.out.below ((Below.refl wy.heap.size wy).alloc (Nat.le_refl _) (.cells #[.int .u32 (rnum x)] 38)))
                            have ca : (wy.alloc (.cells #[.int .u32 (rnum x)] 38)).cell? ⟨nb, 5, none⟩ = some (.slice I m ci) := (World.cell?_alloc_lt wy _ _ (cell_lt cy)).trans cy
                            refine hK.out _ _ trivial (fun hHeld => ?_)
                            clear hK K
                            try first | simp only [pS, List.set] | simp only [pN]
                            refine wpAnyH_ready (rs := [5]) (by kernel_rfl) (by simp) ?_
                            refine AllReadyH.cons (o := ?_) ?_ (fun K hK => ?_) AllReadyH.nil
                            rotate_left
                            · (simp only [List.getElem?_toArray, List.getElem?_cons_succ, List.getElem?_cons_zero]; rfl)
                            · refine step_app2 (by rfl) (.tmp 85) (.tmp 88) 39 (by rfl) u32Ty w2.heap.size HSa.out.2.1.1 (by rfl) (cells_new' wy [.int .u32 (rnum x)] _ _ rfl) (by rfl) (by rfl) (by simp [Value.oneCell']) (by have := HML.out; have := HLB.out; unfold maxLen; simp; omega) (by have := HML.out; have := HLB.out; simp; omega) (Nat.le_trans HSa.out.2.2.2.2 (Nat.le_of_lt HSa.out.1.lt)) ?_
                              intro v' w9 hown9 hb9 hblk9 hvb9
                              obtain ⟨M, A', c9', rfl⟩ : ∃ M A' c', v' = .slice A' M c' := (by obtain ⟨A', c', h⟩ := own_slice hown9; exact ⟨_, A', c', h⟩)
                              have hS9 := St2.app HSa.out (Own.app hown9 rfl) hb9 hblk9 hvb9
                              have hr9 : RowB w9 nb _ 42 := (hblk9 nb HSa.out.1.lt (fun e => HSa.out.2.1.2 e.symm)).trans HSa.out.1
                              have c9x : w9.cell? ⟨nb, 5, none⟩ = some (.slice I m ci) := (hr9.cell 5).trans rfl
                              have f9x := hr9.frozen 5
                              have HS9x := Lib.hid hS9
                              clear hS9 hr9 hown9 hb9 hblk9 hvb9
                              refine hK.out _ _ trivial (fun hHeld => ?_)
                              clear hK K
                              try first | simp only [pS, List.set] | simp only [pN]
                              refine tkH 6 ?_
                              try first | simp only [pS, List.set] | simp only [pN]
                              refine wpAnyH_ready (rs := [7]) (by kernel_rfl) (by simp) ?_
                              refine AllReadyH.cons (o := ?_) ?_ (fun K hK => ?_) AllReadyH.nil
                              rotate_left
                              · (simp only [List.getElem?_toArray, List.getElem?_cons_succ, List.getElem?_cons_zero]; rfl)
                              · go_simp
                                refine hK.out _ _ trivial (fun hHeld => ?_)
                                clear hK K
                                try first | simp only [pS, List.set] | simp only [pN]
                                refine wpAnyH_done (by kernel_rfl) ?_ _
                                obtain ⟨w10, hw10⟩ : ∃ x, w9.setCell ⟨nb, 5, none⟩ (.slice A' M c9') = x := ⟨_, rfl⟩
                                rw [hw10] at HS9x ⊢
                                clear hw10 c9x f9x
                                have hM := (HS9x.out.2.1.1.bd).1
                                rw [List.length_append, List.length_singleton, List.length_map, List.length_take, HL.out] at hM
                                have hml2 := HML.out
                                have hM2 : M = m + 1 := by omega
                                subst hM2
                                go_wp2_with fail
                                go_roundw
                                case rel =>
                                  have := HML.out
                                  refine ⟨m + 1, A', c9', by omega, by go_num, ?_⟩
                                  rw [take_snoc hx, List.map_append]
                                  exact HS9x.out
                                case measure => have := HML.out; simp [intOf]; omega
                      · refine AllReadyH.cons (o := ?_) ?_ (fun K hK => ?_) AllReadyH.nil
                        rotate_left
                        · (simp only [List.getElem?_toArray, List.getElem?_cons_succ, List.getElem?_cons_zero]; rfl)
                        · go_simp
                          go_at_call 47
                          refine (HD.out wz).mono ?_
                          rintro ex wy ⟨rfl, hby⟩
                          have HSy := Lib.hid (HSz.out.below hby)
                          have cy : wy.cell? ⟨nb, 5, none⟩ = some (.slice I m ci) := (hby.cell (p := ⟨nb, 5, none⟩) (cell_lt cz)).trans cz
                          clear hby
                          refine hK.out _ _ trivial (fun hHeld => ?_)
                          clear hK K
                          try first | simp only [pS, List.set] | simp only [pN]
                          refine wpAnyH_ready (rs := [1, 4]) (by kernel_rfl) (by simp) ?_
                          refine AllReadyH.cons (o := ?_) ?_ (fun K hK => ?_) ?_
                          rotate_left
                          · (simp only [List.getElem?_toArray, List.getElem?_cons_succ, List.getElem?_cons_zero]; rfl)
                          · go_simp
                            refine hK.out _ _ trivial (fun hHeld => ?_)
                            clear hK K
                            try first | simp only [pS, List.set] | simp only [pN]
                            refine wpAnyH_ready (rs := [4]) (by kernel_rfl) (by simp) ?_
                            refine AllReadyH.cons (o := ?_) ?_ (fun K hK => ?_) AllReadyH.nil
                            rotate_left
                            · (simp only [List.getElem?_toArray, List.getElem?_cons_succ, List.getElem?_cons_zero]; rfl)
                            · go_simp
                              have HSa := Lib.hid (HSy.out.below ((Below.refl wy.heap.size wy).alloc (Nat.le_refl _) (.cells #[.int .u32 (rnum x)] 38)))
                              have ca : (wy.alloc (.cells #[.int .u32 (rnum x)] 38)).cell? ⟨nb, 5, none⟩ = some (.slice I m ci) := (World.cell?_alloc_lt wy _ _ (cell_lt cy)).trans cy
                              refine hK.out _ _ trivial (fun hHeld => ?_)
                              clear hK K
                              try first | simp only [pS, List.set] | simp only [pN]
                              refine wpAnyH_ready (rs := [5]) (by kernel_rfl) (by simp) ?_
                              refine AllReadyH.cons (o := ?_) ?_ (fun K hK => ?_) AllReadyH.nil
                              rotate_left
                              · (simp only [List.getElem?_toArray, List.getElem?_cons_succ, List.getElem?_cons_zero]; rfl)
                              · refine step_app2 (by rfl) (.tmp 85) (.tmp 88) 39 (by rfl) u32Ty w2.heap.size HSa.out.2.1.1 (by rfl) (cells_new' wy [.int .u32 (rnum x)] _ _ rfl) (by rfl) (by rfl) (by simp [Value.oneCell']) (by have := HML.out; have := HLB.out; unfold maxLen; simp; omega) (by have := HML.out; have := HLB.out; simp; omega) (Nat.le_trans HSa.out.2.2.2.2 (Nat.le_of_lt HSa.out.1.lt)) ?_
                                intro v' w9 hown9 hb9 hblk9 hvb9
                                obtain ⟨M, A', c9', rfl⟩ : ∃ M A' c', v' = .slice A' M c' := (by obtain ⟨A', c', h⟩ := own_slice hown9; exact ⟨_, A', c', h⟩)
                                have hS9 := St2.app HSa.out (Own.app hown9 rfl) hb9 hblk9 hvb9
                                have hr9 : RowB w9 nb _ 42 := (hblk9 nb HSa.out.1.lt (fun e => HSa.out.2.1.2 e.symm)).trans HSa.out.1
                                have c9x : w9.cell? ⟨nb, 5, none⟩ = some (.slice I m ci) := (hr9.cell 5).trans rfl
                                have f9x := hr9.frozen 5
                                have HS9x := Lib.hid hS9
                                clear hS9 hr9 hown9 hb9 hblk9 hvb9
                                refine hK.out _ _ trivial (fun hHeld => ?_)
                                clear hK K
                                try first | simp only [pS, List.set] | simp only [pN]
                                refine tkH 6 ?_
                                try first | simp only [pS, List.set] | simp only [pN]
                                refine wpAnyH_ready (rs := [7]) (by kernel_rfl) (by simp) ?_
                                refine AllReadyH.cons (o := ?_) ?_ (fun K hK => ?_) AllReadyH.nil
                                rotate_left
                                · (simp only [List.getElem?_toArray, List.getElem?_cons_succ, List.getElem?_cons_zero]; rfl)
                                · go_simp
                                  refine hK.out _ _ trivial (fun hHeld => ?_)
                                  clear hK K
                                  try first | simp only [pS, List.set] | simp only [pN]
                                  refine wpAnyH_done (by kernel_rfl) ?_ _
                                  obtain ⟨w10, hw10⟩ : ∃ x, w9.setCell ⟨nb, 5, none⟩ (.slice A' M c9') = x := ⟨_, rfl⟩
                                  rw [hw10] at HS9x ⊢
                                  clear hw10 c9x f9x
                                  have hM := (HS9x.out.2.1.1.bd).1
                                  rw [List.length_append, List.length_singleton, List.length_map, List.length_take, HL.out] at hM
                                  have hml2 := HML.out
                                  have hM2 : M = m + 1 := by omega
                                  subst hM2
                                  go_wp2_with fail
                                  go_roundw
                                  case rel =>
                                    have := HML.out
                                    refine ⟨m + 1, A', c9', by omega, by go_num, ?_⟩
                                    rw [take_snoc hx, List.map_append]
                                    exact HS9x.out
                                  case measure => have := HML.out; simp [intOf]; omega
                          · refine AllReadyH.cons (o := ?_) ?_ (fun K hK => ?_) AllReadyH.nil
                            rotate_left
                            · (simp only [List.getElem?_toArray, List.getElem?_cons_succ, List.getElem?_cons_zero]; rfl)
                            · go_simp
                              have HSa := Lib.hid (HSy.out.below ((Below.refl wy.heap.size wy).alloc (Nat.le_refl _) (.cells #[.int .u32 (rnum x)] 38)))
                              have ca : (wy.alloc (.cells #[.int .u32 (rnum x)] 38)).cell? ⟨nb, 5, none⟩ = some (.slice I m ci) := (World.cell?_alloc_lt wy _ _ (cell_lt cy)).trans cy
                              refine hK.out _ _ trivial (fun hHeld => ?_)
                              clear hK K
                              try first | simp only [pS, List.set] | simp only [pN]
                              refine wpAnyH_ready (rs := [1]) (by kernel_rfl) (by simp) ?_
                              refine AllReadyH.cons (o := ?_) ?_ (fun K hK => ?_) AllReadyH.nil
                              rotate_left
                              · (simp only [List.getElem?_toArray, List.getElem?_cons_succ, List.getElem?_cons_zero]; rfl)
                              · go_simp
                                refine hK.out _ _ trivial (fun hHeld => ?_)
                                clear hK K
                                try first | simp only [pS, List.set] | simp only [pN]
                                refine wpAnyH_ready (rs := [5]) (by kernel_rfl) (by simp) ?_
                                refine AllReadyH.cons (o := ?_) ?_ (fun K hK => ?_) AllReadyH.nil
                                rotate_left
                                · (simp only [List.getElem?_toArray, List.getElem?_cons_succ, List.getElem?_cons_zero]; rfl)
                                · refine step_app2 (by rfl) (.tmp 85) (.tmp 88) 39 (by rfl) u32Ty w2.heap.size HSa.out.2.1.1 (by rfl) (cells_new' wy [.int .u32 (rnum x)] _ _ rfl) (by rfl) (by rfl) (by simp [Value.oneCell']) (by have := HML.out; have := HLB.out; unfold maxLen; simp; omega) (by have := HML.out; have := HLB.out; simp; omega) (Nat.le_trans HSa.out.2.2.2.2 (Nat.le_of_lt HSa.out.1.lt)) ?_
                                  intro v' w9 hown9 hb9 hblk9 hvb9
                                  obtain ⟨M, A', c9', rfl⟩ : ∃ M A' c', v' = .slice A' M c' := (by obtain ⟨A', c', h⟩ := own_slice hown9; exact ⟨_, A', c', h⟩)
                                  have hS9 := St2.app HSa.out (Own.app hown9 rfl) hb9 hblk9 hvb9
                                  have hr9 : RowB w9 nb _ 42 := (hblk9 nb HSa.out.1.lt (fun e => HSa.out.2.1.2 e.symm)).trans HSa.out.1
                                  have c9x : w9.cell? ⟨nb, 5, none⟩ = some (.slice I m ci) := (hr9.cell 5).trans rfl
                                  have f9x := hr9.frozen 5
                                  have HS9x := Lib.hid hS9
                                  clear hS9 hr9 hown9 hb9 hblk9 hvb9
                                  refine hK.out _ _ trivial (fun hHeld => ?_)
                                  clear hK K
                                  try first | simp only [pS, List.set] | simp only [pN]
                                  refine tkH 6 ?_
                                  try first | simp only [pS, List.set] | simp only [pN]
                                  refine wpAnyH_ready (rs := [7]) (by kernel_rfl) (by simp) ?_
                                  refine AllReadyH.cons (o := ?_) ?_ (fun K hK => ?_) AllReadyH.nil
                                  rotate_left
                                  · (simp only [List.getElem?_toArray, List.getElem?_cons_succ, List.getElem?_cons_zero]; rfl)
                                  · go_simp
                                    refine hK.out _ _ trivial (fun hHeld => ?_)
                                    clear hK K
                                    try first | simp only [pS, List.set] | simp only [pN]
                                    refine wpAnyH_done (by kernel_rfl) ?_ _
                                    obtain ⟨w10, hw10⟩ : ∃ x, w9.setCell ⟨nb, 5, none⟩ (.slice A' M c9') = x := ⟨_, rfl⟩
                                    rw [hw10] at HS9x ⊢
                                    clear hw10 c9x f9x
                                    have hM := (HS9x.out.2.1.1.bd).1
                                    rw [List.length_append, List.length_singleton, List.length_map, List.length_take, HL.out] at hM
                                    have hml2 := HML.out
                                    have hM2 : M = m + 1 := by omega
                                    subst hM2
                                    go_wp2_with fail
                                    go_roundw
                                    case rel =>
                                      have := HML.out
                                      refine ⟨m + 1, A', c9', by omega, by go_num, ?_⟩
                                      rw [take_snoc hx, List.map_append]
                                      exact HS9x.out
                                    case measure => have := HML.out; simp [intOf]; omega
                    · have hmL : L = m := by omega
                      subst hmL
                      have hmn : decide ((L : Int) < (L : Int)) = false := by simp
                      have hmn2 : decide (L < L) = false := by simp
                      rw [List.take_of_length_le (by rw [HL.out]; exact Nat.le_refl _)] at hst
                      obtain ⟨ini9, hini9⟩ : ∃ x, (q.drop (A + 1)).map rnum = x := ⟨_, rfl⟩
                      have HWF := Lib.hid (show ∀ z ∈ ini9, (Lit.int .u32 z).wf = true from fun z hz => by
                        rw [← hini9] at hz
                        obtain ⟨y, _, rfl⟩ := List.mem_map.1 hz
                        have := rnum_bd y
                        exact u32_to this.1 this.2)
                      rw [hini9] at hst
                      obtain ⟨I9, hI9⟩ : ∃ x, I = x := ⟨_, rfl⟩
                      obtain ⟨c9, hc9⟩ : ∃ x, ci = x := ⟨_, rfl⟩
                      rw [hI9, hc9] at hst
                      have HS9 := Lib.hid hst
                      clear hst hI9 hc9
                      have hkl : ini9.length = L := by rw [← hini9, List.length_map, HL.out]
                      go_wp2_with fail
                      go_loopw [12] (fun kv wt => ∃ (p : Nat) (kd : Int), 1 ≤ p ∧ p ≤ 7 ∧ kv = .int .i64 p ∧ St2 w2 nb kd x2 x3 x4 x5 I9 L c9 x6 A2 rdl.length c2 ini9 rdl wt ∧ ∀ j : Nat, 1 ≤ j → j < p → fitO l (candJ q A (j : Int)) = false) (fun kv _ => 8 - (intOf kv).toNat)
                      case atStart => exact ⟨1, 0, Nat.le_refl _, by omega, rfl, HS9.out, fun j h1 h2 => by omega⟩
                      case round =>
                        obtain ⟨p, kd, hp1, hp7, rfl, hst, hno⟩ := hrel
                        by_cases hp : p = 7
                        · subst hp
                          have HNO := Lib.hid (show readOR l = none by
                            rw [hRD.out]
                            split
                            · exact find6_no hno
                            · rfl)
                          have hHB := HB.out.trans (hst.2.2.2.1.mono (Nat.le_of_lt hnlo))
                          have hHX := HX.out.below hst.2.2.2.1 hnlo
                          have hxz := hHX
                          have d0 := hxz.cell 0
                          have d1 := hxz.cell 1
                          have d2 := hxz.cell 2
                          have d3 := hxz.cell 3
                          have d4 := hxz.cell 4
                          have d5 := hxz.cell 5
                          have d6 := hxz.cell 6
                          have d7 := hxz.cell 7
                          unfold ojR at d0 d1 d2 d3 d4 d5 d6 d7
                          simp only [List.getElem?_toArray, List.getElem?_cons_zero, List.getElem?_cons_succ] at d0 d1 d2 d3 d4 d5 d6 d7
                          have df0 := hxz.frozen 0
                          have df1 := hxz.frozen 1
                          have df2 := hxz.frozen 2
                          have df3 := hxz.frozen 3
                          have df4 := hxz.frozen 4
                          have df5 := hxz.frozen 5
                          have df6 := hxz.frozen 6
                          have df7 := hxz.frozen 7
                          have HXZ := Lib.hid hxz
                          have HBZ := Lib.hid hHB
                          clear hxz
                          go_wp2_with fail
                          have hxz := HXZ.out
                          unfold ojR at hxz
                          refine bodyPost_ret (res_rob9 _ _ rfl rfl (row_set8 _ _ _ _ _ _ _ _ (.int .i64 0) (.int .i64 0) (.int .i64 0) (.int .i64 0) (.int .u32 0) (.slice none 0 0) (.int .i64 0) (.slice none 0 0) hxz)) rfl ?_
                          exact ⟨0, 0, 0, 0, 0, none, 0, 0, 0, none, 0, 0, by rw [HNO.out]; rfl, (fun o ho => by rw [HNO.out] at ho; cases ho), by rw [hn]; exact below_s8 HBZ.out n (Nat.le_refl _) _ _ _ _ _ _ _ _⟩
                        · have tp : decide ((p : Int) ≤ 6) = true := by rw [decide_eq_true_iff]; omega
                          have tp' : decide (p ≤ 6) = true := by rw [decide_eq_true_iff]; omega
                          have HNJ := Lib.hid hno
                          have HST := Lib.hid hst
                          have hz9 := hst.1
                          have cb0 := hz9.cell 0
                          have cb1 := hz9.cell 1
                          have cb2 := hz9.cell 2
                          have cb3 := hz9.cell 3
                          have cb4 := hz9.cell 4
                          have cb5 := hz9.cell 5
                          have cb6 := hz9.cell 6
                          have cb7 := hz9.cell 7
                          unfold ojR at cb0 cb1 cb2 cb3 cb4 cb5 cb6 cb7
                          simp only [List.getElem?_toArray, List.getElem?_cons_zero, List.getElem?_cons_succ] at cb0 cb1 cb2 cb3 cb4 cb5 cb6 cb7
                          have cbf0 := hz9.frozen 0
                          have cbf1 := hz9.frozen 1
                          have cbf2 := hz9.frozen 2
                          have cbf3 := hz9.frozen 3
                          have cbf4 := hz9.frozen 4
                          have cbf5 := hz9.frozen 5
                          have cbf6 := hz9.frozen 6
                          have cbf7 := hz9.frozen 7
                          clear hz9
                          have HSK := Lib.hid (hst.setk (p : Int))
                          have hcj : candJ q A (p : Int) = (⟨(p : Int), x2, x3, x4, x5, (q.drop (A + 1)).map rnum, x6, rdl⟩ : Oj) := by
                            unfold candJ objC
                            rw [HX2.out.1, HX2.out.2.1, HX2.out.2.2.1, HX2.out.2.2.2.1, HX2.out.2.2.2.2, HRDL.out]
                          rw [hini9] at hcj
                          have HCJ := Lib.hid hcj
                          have HOL := Lib.hid (show ∀ W : World, St2 w2 nb (p : Int) x2 x3 x4 x5 I9 L c9 x6 A2 rdl.length c2 ini9 rdl W → Calls Tryz.prog 21 #[.agg #[.int .i64 p, .int .i64 x2, .int .i64 x3, .int .i64 x4, .int .u32 x5, .slice I9 L c9, .int .i64 x6, .slice A2 rdl.length c2]] W (LineR ⟨(p : Int), x2, x3, x4, x5, ini9, x6, rdl⟩ W) from fun W hW => by
                            have h9 := rline_ob ⟨(p : Int), x2, x3, x4, x5, ini9, x6, rdl⟩ I9 c9 A2 c2 W (by
                              have h1 := of_decide_eq_false hbad
                              have h2 := of_decide_eq_false hbad2
                              show 0 ≤ x5 ∧ x5 < 4294967296
                              omega) (by show ini9.length ≤ 20000; have := HLB.out; omega) (by show rdl.length ≤ 20000; have := HRL.out; omega) ⟨hW.2.1.sl, HWF.out⟩ hW.2.2.1.sl
                            unfold ojV at h9
                            simp only at h9
                            rw [hkl] at h9
                            exact h9)
                          clear hst hno hcj
                          go_wp2_with fail
                          refine (HOL.out _ HSK.out).mono ?_
                          rintro e w8 ⟨sH, rfl, hHs, hHl, hb8⟩
                          have HS8 := Lib.hid (HSK.out.below hb8)
                          clear hb8 cb0 cbf0 cb1 cbf1 cb2 cbf2 cb3 cbf3 cb4 cbf4 cb5 cbf5 cb6 cbf6 cb7 cbf7
                          have hfit : fitO l ⟨(p : Int), x2, x3, x4, x5, ini9, x6, rdl⟩ = (objB ⟨(p : Int), x2, x3, x4, x5, ini9, x6, rdl⟩ && decide (objL ⟨(p : Int), x2, x3, x4, x5, ini9, x6, rdl⟩ = l)) := rfl
                          rcases hq1 : objB ⟨(p : Int), x2, x3, x4, x5, ini9, x6, rdl⟩ with _ | _
                          · have HF := Lib.hid (show fitO l (candJ q A (p : Int)) = false by rw [HCJ.out, hfit, hq1, Bool.false_and])
                            clear hfit hq1 hHs
                            go_wp2_with fail
                            go_roundw
                            case rel =>
                              refine ⟨p + 1, (p : Int), by omega, by omega, by go_num, HS8.out, fun j h1 h2 => ?_⟩
                              by_cases hj : j = p
                              · rw [hj]; exact HF.out
                              · exact HNJ.out j h1 (by omega)
                            case measure => simp [intOf]; omega
                          · have hSH := hHs hq1
                            by_cases hls : objL ⟨(p : Int), x2, x3, x4, x5, ini9, x6, rdl⟩ = l
                            · have HYES := Lib.hid (show readOR l = some ⟨(p : Int), x2, x3, x4, x5, ini9, x6, rdl⟩ by
                                rw [hRD.out, if_pos ⟨by omega, hA8, by
                                  have h1 := of_decide_eq_false hbad
                                  have h2 := of_decide_eq_false hbad2
                                  rw [HX2.out.2.2.2.1]
                                  omega⟩]
                                rw [find6 (f := candJ q A) (k := p) ⟨hp1, by omega⟩ HNJ.out (by rw [HCJ.out, hfit, hq1, hls]; simp), HCJ.out])
                              have hst : (sH.toList == s.toList) = true := by rw [hSH, ByteArray.toList_eq, ByteArray.toList_eq, hl'.out]; simp [hls]
                              clear hfit hq1 hHs hls hSH
                              have hxn := HX.out.below HS8.out.2.2.2.1 hnlo
                              have hz8 := HS8.out.1
                              have d0 := hxn.cell 0
                              have d1 := hxn.cell 1
                              have d2 := hxn.cell 2
                              have d3 := hxn.cell 3
                              have d4 := hxn.cell 4
                              have d5 := hxn.cell 5
                              have d6 := hxn.cell 6
                              have d7 := hxn.cell 7
                              unfold ojR at d0 d1 d2 d3 d4 d5 d6 d7
                              simp only [List.getElem?_toArray, List.getElem?_cons_zero, List.getElem?_cons_succ] at d0 d1 d2 d3 d4 d5 d6 d7
                              have df0 := hxn.frozen 0
                              have df1 := hxn.frozen 1
                              have df2 := hxn.frozen 2
                              have df3 := hxn.frozen 3
                              have df4 := hxn.frozen 4
                              have df5 := hxn.frozen 5
                              have df6 := hxn.frozen 6
                              have df7 := hxn.frozen 7
                              have e0 := hz8.cell 0
                              have e1 := hz8.cell 1
                              have e2 := hz8.cell 2
                              have e3 := hz8.cell 3
                              have e4 := hz8.cell 4
                              have e5 := hz8.cell 5
                              have e6 := hz8.cell 6
                              have e7 := hz8.cell 7
                              unfold ojR at e0 e1 e2 e3 e4 e5 e6 e7
                              simp only [List.getElem?_toArray, List.getElem?_cons_zero, List.getElem?_cons_succ] at e0 e1 e2 e3 e4 e5 e6 e7
                              have HXN := Lib.hid hxn
                              have HBn := Lib.hid (HB.out.trans (HS8.out.2.2.2.1.mono (Nat.le_of_lt hnlo)))
                              clear hxn hz8
                              go_wp2_with fail
                              have hxn := HXN.out
                              unfold ojR at hxn
                              refine bodyPost_ret (res_rob9 _ _ rfl rfl (row_set8 _ _ _ _ _ _ _ _ (.int .i64 (p : Int)) (.int .i64 x2) (.int .i64 x3) (.int .i64 x4) (.int .u32 x5) (.slice I9 L c9) (.int .i64 x6) (.slice A2 rdl.length c2) hxn)) rfl ?_
                              refine ⟨(p : Int), x2, x3, x4, x5, I9, L, c9, x6, A2, rdl.length, c2, by rw [HYES.out]; rfl, (fun o ho => ?_), by rw [hn]; exact below_s8 HBn.out n (Nat.le_refl _) _ _ _ _ _ _ _ _⟩
                              rw [HYES.out] at ho
                              have ho' := (Option.some.inj ho).symm
                              subst ho'
                              rw [hn]
                              exact ⟨rfl, rfl, rfl, rfl, rfl, rfl, hkl, rfl, ⟨(HS8.out.2.1.set8 n (Or.inl hnlo) (.int .i64 (p : Int)) (.int .i64 x2) (.int .i64 x3) (.int .i64 x4) (.int .u32 x5) (.slice I9 L c9) (.int .i64 x6) (.slice A2 rdl.length c2)).1.mono (Nat.le_of_lt hnlo), HWF.out⟩, (HS8.out.2.2.1.set8 n (Or.inl hnlo) (.int .i64 (p : Int)) (.int .i64 x2) (.int .i64 x3) (.int .i64 x4) (.int .u32 x5) (.slice I9 L c9) (.int .i64 x6) (.slice A2 rdl.length c2)).1.mono (Nat.le_of_lt hnlo)⟩
                            · have HF := Lib.hid (show fitO l (candJ q A (p : Int)) = false by rw [HCJ.out, hfit, hq1, Bool.true_and]; exact decide_eq_false hls)
                              have hst : (sH.toList == s.toList) = false := by rw [beq_eq_false_iff_ne, hSH, ByteArray.toList_eq, ByteArray.toList_eq, hl'.out]; simpa using hls
                              clear hfit hq1 hHs hls hSH
                              go_wp2_with fail
                              go_roundw
                              case rel =>
                                refine ⟨p + 1, (p : Int), by omega, by omega, by go_num, HS8.out, fun j h1 h2 => ?_⟩
                                by_cases hj : j = p
                                · rw [hj]; exact HF.out
                                · exact HNJ.out j h1 (by omega)
                              case measure => simp [intOf]; omega
            · have HNO := Lib.hid (show readOR l = none by rw [hRD.out, if_neg (fun h => by have h1 := h.2.2.2; rw [HX2.out.2.2.2.1] at h1; have := of_decide_eq_true hbad2; omega)])
              have hxz := HX.out
              have d0 := hxz.cell 0
              have d1 := hxz.cell 1
              have d2 := hxz.cell 2
              have d3 := hxz.cell 3
              have d4 := hxz.cell 4
              have d5 := hxz.cell 5
              have d6 := hxz.cell 6
              have d7 := hxz.cell 7
              unfold ojR at d0 d1 d2 d3 d4 d5 d6 d7
              simp only [List.getElem?_toArray, List.getElem?_cons_zero, List.getElem?_cons_succ] at d0 d1 d2 d3 d4 d5 d6 d7
              have df0 := hxz.frozen 0
              have df1 := hxz.frozen 1
              have df2 := hxz.frozen 2
              have df3 := hxz.frozen 3
              have df4 := hxz.frozen 4
              have df5 := hxz.frozen 5
              have df6 := hxz.frozen 6
              have df7 := hxz.frozen 7
              have HXZ := Lib.hid hxz
              have HBZ := Lib.hid HB.out
              clear hxz
              go_wp2_with fail
              have hxz := HXZ.out
              unfold ojR at hxz
              refine bodyPost_ret (res_rob9 _ _ rfl rfl (row_set8 _ _ _ _ _ _ _ _ (.int .i64 0) (.int .i64 0) (.int .i64 0) (.int .i64 0) (.int .u32 0) (.slice none 0 0) (.int .i64 0) (.slice none 0 0) hxz)) rfl ?_
              exact ⟨0, 0, 0, 0, 0, none, 0, 0, 0, none, 0, 0, by rw [HNO.out]; rfl, (fun o ho => by rw [HNO.out] at ho; cases ho), by rw [hn]; exact below_s8 HBZ.out n (Nat.le_refl _) _ _ _ _ _ _ _ _⟩
          · have HNO := Lib.hid (show readOR l = none by rw [hRD.out, if_neg (fun h => by have h1 := h.2.2.1; rw [HX2.out.2.2.2.1] at h1; have := of_decide_eq_true hbad; omega)])
            have hxz := HX.out
            have d0 := hxz.cell 0
            have d1 := hxz.cell 1
            have d2 := hxz.cell 2
            have d3 := hxz.cell 3
            have d4 := hxz.cell 4
            have d5 := hxz.cell 5
            have d6 := hxz.cell 6
            have d7 := hxz.cell 7
            unfold ojR at d0 d1 d2 d3 d4 d5 d6 d7
            simp only [List.getElem?_toArray, List.getElem?_cons_zero, List.getElem?_cons_succ] at d0 d1 d2 d3 d4 d5 d6 d7
            have df0 := hxz.frozen 0
            have df1 := hxz.frozen 1
            have df2 := hxz.frozen 2
            have df3 := hxz.frozen 3
            have df4 := hxz.frozen 4
            have df5 := hxz.frozen 5
            have df6 := hxz.frozen 6
            have df7 := hxz.frozen 7
            have HXZ := Lib.hid hxz
            have HBZ := Lib.hid HB.out
            clear hxz
            go_wp2_with fail
            have hxz := HXZ.out
            unfold ojR at hxz
            refine bodyPost_ret (res_rob9 _ _ rfl rfl (row_set8 _ _ _ _ _ _ _ _ (.int .i64 0) (.int .i64 0) (.int .i64 0) (.int .i64 0) (.int .u32 0) (.slice none 0 0) (.int .i64 0) (.slice none 0 0) hxz)) rfl ?_
            exact ⟨0, 0, 0, 0, 0, none, 0, 0, 0, none, 0, 0, by rw [HNO.out]; rfl, (fun o ho => by rw [HNO.out] at ho; cases ho), by rw [hn]; exact below_s8 HBZ.out n (Nat.le_refl _) _ _ _ _ _ _ _ _⟩

end Go.Proofs.YtfgmebjbibbpdaaGreatDoor
