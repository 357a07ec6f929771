/- Texts joined: Sources: the task of a first line. Sources: an object's line, read: its parts. Sources: what a slice holds in far blocks; record.Read of what stands behind. Sources: what a reader holds in memory. Sources: the object of a line. -/
import Derived.Test.YtfgmebjbibbpdaaGreatDoorZs6
import Derived.Test.YtfgmebjbibbpdaaGreatDoorZs4
import Derived.Test.YtfgmebjbibbpdaaGreatDoorZs3
import Derived.OneCell
namespace Go.Proofs.YtfgmebjbibbpdaaGreatDoor
open Go.RowKit
attribute [local go_sem] Oper.semAt_some

theorem row_set7 {w : World} {b : Nat} {t : TypeId} (a0 a1 a2 a3 a4 a5 a6 : Value) (v0 v1 v2 v3 v4 v5 v6 : Value) (h : RowB w b #[a0, a1, a2, a3, a4, a5, a6] t) : RowB (((((((w.setCell ⟨b, 0, none⟩ v0).setCell ⟨b, 1, none⟩ v1).setCell ⟨b, 2, none⟩ v2).setCell ⟨b, 3, none⟩ v3).setCell ⟨b, 4, none⟩ v4).setCell ⟨b, 5, none⟩ v5).setCell ⟨b, 6, none⟩ v6) b #[v0, v1, v2, v3, v4, v5, v6] t := by
  have h7 := ((((((h.set 0 v0).set 1 v1).set 2 v2).set 3 v3).set 4 v4).set 5 v5).set 6 v6
  simp only [List.setIfInBounds_toArray, List.set_cons_zero, List.set_cons_succ] at h7
  exact h7
theorem below_s7 {N : Nat} {w0 w : World} (h : Below N w0 w) (b : Nat) (hb : N ≤ b) (v0 v1 v2 v3 v4 v5 v6 : Value) : Below N w0 (((((((w.setCell ⟨b, 0, none⟩ v0).setCell ⟨b, 1, none⟩ v1).setCell ⟨b, 2, none⟩ v2).setCell ⟨b, 3, none⟩ v3).setCell ⟨b, 4, none⟩ v4).setCell ⟨b, 5, none⟩ v5).setCell ⟨b, 6, none⟩ v6) :=
  below_set1 (below_set1 (below_set1 (below_set1 (below_set1 (below_set1 (below_set1 h b 0 hb _) b 1 hb _) b 2 hb _) b 3 hb _) b 4 hb _) b 5 hb _) b 6 hb _
theorem cell_set7 (w : World) (b : Nat) (v0 v1 v2 v3 v4 v5 v6 : Value) (m j : Nat) (h : m ≠ b) : (((((((w.setCell ⟨b, 0, none⟩ v0).setCell ⟨b, 1, none⟩ v1).setCell ⟨b, 2, none⟩ v2).setCell ⟨b, 3, none⟩ v3).setCell ⟨b, 4, none⟩ v4).setCell ⟨b, 5, none⟩ v5).setCell ⟨b, 6, none⟩ v6).cell? ⟨m, j, none⟩ = w.cell? ⟨m, j, none⟩ := by
  have hk : ∀ (W : World) (i : Nat) (v : Value), (W.setCell ⟨b, i, none⟩ v).cell? ⟨m, j, none⟩ = W.cell? ⟨m, j, none⟩ := fun W i v => World.cell?_setCell_far W ⟨b, i, none⟩ ⟨m, j, none⟩ v (fun e => h e.symm)
  rw [hk, hk, hk, hk, hk, hk, hk]
theorem row_set7_far {w : World} {b m : Nat} {arr : Array Value} {t : TypeId} (h : RowB w m arr t) (hm : m ≠ b) (v0 v1 v2 v3 v4 v5 v6 : Value) : RowB (((((((w.setCell ⟨b, 0, none⟩ v0).setCell ⟨b, 1, none⟩ v1).setCell ⟨b, 2, none⟩ v2).setCell ⟨b, 3, none⟩ v3).setCell ⟨b, 4, none⟩ v4).setCell ⟨b, 5, none⟩ v5).setCell ⟨b, 6, none⟩ v6) m arr t :=
  ((((((h.other b 0 v0 hm).other b 1 v1 hm).other b 2 v2 hm).other b 3 v3 hm).other b 4 v4 hm).other b 5 v5 hm).other b 6 v6 hm
def tkR (kd pr pe off dl ow : Int) : Array Value := #[.int .i64 kd, .int .i64 pr, .int .i64 pe, .int .i64 off, .int .i64 dl, .int .i64 ow, .slice none 0 0]
theorem res_rhead (tmps : Array Value) (w : World) {b : Nat} {kd pr pe off dl ow : Int} {x : Bool} (ha : tmps[2]?.getD undef = .pointer (some ⟨b, 0, none⟩)) (hx : tmps[3]?.getD undef = .bool x) (hbox : RowB w b (tkR kd pr pe off dl ow) 46) :
    (results Tryz.f45 tmps).run Tryz.prog w = .ok (.tuple #[.agg (tkR kd pr pe off dl ow), .bool x]) w := by
  have h0 := hbox.cell 0
  have h1 := hbox.cell 1
  have h2 := hbox.cell 2
  have h3 := hbox.cell 3
  have h4 := hbox.cell 4
  have h5 := hbox.cell 5
  have h6 := hbox.cell 6
  simp only [tkR, List.getElem?_toArray, List.getElem?_cons_zero, List.getElem?_cons_succ] at h0 h1 h2 h3 h4 h5 h6
  simp [results, ha, hx, h0, h1, h2, h3, h4, h5, h6, go_sem, tkR]
/-- What the region keeps. -/
def RtS (w5 : World) (lb : Nat) (x1 : ByteArray) (g off : Nat) (n0 n1 n2 n3 n4 : Int) (w' : World) : Prop :=
  Below w5.heap.size w5 w' ∧ w'.cell? ⟨lb, 1, none⟩ = some (.string x1) ∧ w'.cell? ⟨g, off, none⟩ = some (.int .i64 n0) ∧ w'.cell? ⟨g, off + 1, none⟩ = some (.int .i64 n1) ∧ w'.cell? ⟨g, off + 2, none⟩ = some (.int .i64 n2) ∧ w'.cell? ⟨g, off + 3, none⟩ = some (.int .i64 n3) ∧ w'.cell? ⟨g, off + 4, none⟩ = some (.int .i64 n4)
theorem RtS.below {w5 w w' : World} {lb g off : Nat} {x1 : ByteArray} {n0 n1 n2 n3 n4 : Int} (h : RtS w5 lb x1 g off n0 n1 n2 n3 n4 w) (hb : Below w.heap.size w w') : RtS w5 lb x1 g off n0 n1 n2 n3 n4 w' := by
  obtain ⟨h1, h2, h3, h4, h5, h6, h7⟩ := h
  have key : ∀ {p : Addr} {u : Value}, w.cell? p = some u → w'.cell? p = some u := fun {p u} hc => (hb.cell (p := p) (cell_lt hc)).trans hc
  exact ⟨h1.trans (hb.mono h1.size), key h2, key h3, key h4, key h5, key h6, key h7⟩
def RtS2 (w5 : World) (lb : Nat) (x1 : ByteArray) (g off : Nat) (n0 n1 n2 n3 n4 : Int) (nb : Nat) (w' : World) : Prop := RtS w5 lb x1 g off n0 n1 n2 n3 n4 w' ∧ ∃ kd pr pe o dl ow, RowB w' nb (tkR kd pr pe o dl ow) 46
theorem RtS.set7 {w5 w : World} {lb g off nb : Nat} {x1 : ByteArray} {n0 n1 n2 n3 n4 : Int} (h : RtS w5 lb x1 g off n0 n1 n2 n3 n4 w) (hn : w5.heap.size ≤ nb) (hl : lb < w5.heap.size) (hg : g < w5.heap.size) (v0 v1 v2 v3 v4 v5 v6 : Value) : RtS w5 lb x1 g off n0 n1 n2 n3 n4 (((((((w.setCell ⟨nb, 0, none⟩ v0).setCell ⟨nb, 1, none⟩ v1).setCell ⟨nb, 2, none⟩ v2).setCell ⟨nb, 3, none⟩ v3).setCell ⟨nb, 4, none⟩ v4).setCell ⟨nb, 5, none⟩ v5).setCell ⟨nb, 6, none⟩ v6) := by
  obtain ⟨h1, h2, h3, h4, h5, h6, h7⟩ := h
  refine ⟨below_s7 h1 nb hn _ _ _ _ _ _ _, ?_, ?_, ?_, ?_, ?_, ?_⟩
  · rw [cell_set7 _ _ _ _ _ _ _ _ _ _ _ (by omega)]; exact h2
  all_goals (rw [cell_set7 _ _ _ _ _ _ _ _ _ _ _ (by omega)]; assumption)
theorem numG_bd (l : List UInt8) : -1 ≤ numG l ∧ numG l < 10000000000000 := by
  by_cases h : l.all digB = true ∧ l ≠ [] ∧ l.length ≤ 13
  · rw [numG_yes h]
    have h1 := dv_lt h.1
    have h2 : (10 : Nat) ^ l.length ≤ 10 ^ 13 := Nat.pow_le_pow_right (by omega) h.2.2
    omega
  · rw [numG_no h]; omega
theorem idx_from (ws : List (List UInt8)) (x : List UInt8) : ∀ (l : List (List UInt8)) (i : Nat), Lib.idxFromS (l.map fun p => (⟨p.toArray⟩ : ByteArray)) ⟨x.toArray⟩ i = match l.findIdx? fun z => z == x with
    | some k => ((i + k : Nat) : Int)
    | none => -1
  | [], i => rfl
  | z :: l, i => by
    rw [List.map_cons, Lib.idxFromS, List.findIdx?_cons, idx_from ws x l (i + 1)]
    by_cases h : z = x
    · subst h
      rw [if_pos rfl, if_pos (by simp)]
      simp
    · rw [if_neg (fun e => h (by injection e with e; exact congrArg Array.toList e)), if_neg (by simp [h])]
      cases l.findIdx? fun z => z == x with
      | none => rfl
      | some k =>
        show ((i + 1 + k : Nat) : Int) = ((i + (k + 1) : Nat) : Int)
        rw [show i + 1 + k = i + (k + 1) by omega]
theorem idx_F (ws : List (List UInt8)) (x : List UInt8) : Lib.idxOfS (ws.map fun p => (⟨p.toArray⟩ : ByteArray)) ⟨x.toArray⟩ = idxF ws x := by
  have := idx_from ws x ws 0
  unfold Lib.idxOfS idxF
  rw [this]
  cases ws.findIdx? fun z => z == x with
  | none => rfl
  | some k => simp
theorem pcs_mem (c : UInt8) (l : List UInt8) : ∀ x ∈ pcs c l, x.length ≤ l.length := by
  induction l with
  | nil => intro x hx; simp [pcs] at hx; simp [hx]
  | cons a l ih =>
    intro x hx
    have hh : ((pcs c l).headD []).length ≤ l.length := by
      cases h : pcs c l with
      | nil => simp
      | cons y r => exact ih y (by rw [h]; simp)
    unfold pcs at hx
    split at hx
    · rcases List.mem_cons.1 hx with rfl | hx
      · simp
      · have := ih x hx
        rw [List.length_cons]; omega
    · rcases List.mem_cons.1 hx with rfl | hx
      · simp only [List.length_cons]; omega
      · have := ih x (List.mem_of_mem_tail hx)
        rw [List.length_cons]; omega
theorem sl_strs {w : World} {B b off : Nat} {ps : List (List UInt8)} (hb : b < B) (hc : ∀ (j : Nat) x, ps[j]? = some x → w.cell? ⟨b, off + j, none⟩ = some (.string ⟨x.toArray⟩)) : SlOf strs w B (some ⟨b, off, none⟩) (toB ps) := fun k p hk => by
  unfold toB at hk
  rw [List.getElem?_map] at hk
  cases h : ps[k]? with
  | none => rw [h] at hk; cases hk
  | some x =>
    rw [h] at hk
    have hp : p = ⟨x.toArray⟩ := (Option.some.inj hk).symm
    subst hp
    refine ⟨b, off, rfl, hb, fun j u hj => ?_⟩
    cases j with
    | zero =>
      have : u = .string ⟨x.toArray⟩ := by simpa [strs, Enc.of1] using hj.symm
      subst this
      simpa [strs, Enc.of1] using hc k x h
    | succ j => simp [strs, Enc.of1] at hj
theorem tkKd_bd (w : List UInt8) : 0 ≤ tkKd w ∧ tkKd w ≤ 2 := by
  unfold tkKd idxF
  simp only [List.findIdx?_cons, List.findIdx?_nil]
  cases (perW == w) <;> cases (spoW == w) <;> simp
theorem tkKd_idx (x : List UInt8) : Lib.idxOfS [⟨#[112, 101, 114, 105, 111, 100, 105, 99]⟩, ⟨#[115, 112, 111, 114, 97, 100, 105, 99]⟩] ⟨x.toArray⟩ + 1 = tkKd x := by
  unfold tkKd
  rw [← idx_F]
  rfl
/-- What reading a first line answers. -/
def RHeadR (l : List UInt8) (w : World) (e : Ending) (w' : World) : Prop := ∃ kd pr pe off dl ow : Int, e = .returned (.tuple #[.agg (tkR kd pr pe off dl ow), .bool (readTG l).isSome]) ∧ (∀ t, readTG l = some t → t = ⟨kd, pr, pe, off, dl, ow, []⟩) ∧ Below w.heap.size w w'
set_option maxRecDepth 100000 in
set_option maxHeartbeats 800000 in
theorem srhead_any (s : ByteArray) (w : World) (hs : s.size ≤ 1000000) (hT : Tab w) (hM : Mx w) :
    Calls Tryz.prog 45 #[.string s] w (RHeadR s.data.toList w) := by
  obtain ⟨l, hl⟩ : ∃ l, s.data.toList = l := ⟨_, rfl⟩
  have hlen : l.length = s.size := by rw [← hl]; exact Array.length_toList
  obtain ⟨q, hq⟩ : ∃ q, pcs 32 l = q := ⟨_, rfl⟩
  have hsp := fun W hM => split_any s 32 W hM hs
  have hqs : ∀ x ∈ q, x.length ≤ 1000000 := fun x hx => by
    have := pcs_mem 32 l x (by rw [hq]; exact hx)
    omega
  rw [hl] at hsp ⊢
  rw [hq] at hsp
  by_cases h7 : q.length = 7
  · obtain ⟨x0, x1, x2, x3, x4, x5, x6, rfl⟩ : ∃ x0 x1 x2 x3 x4 x5 x6, q = [x0, x1, x2, x3, x4, x5, x6] := by
      match q, h7 with
      | [a, b, c, d, e, f, g], _ => exact ⟨a, b, c, d, e, f, g, rfl⟩
    have HRD : readTG l = if headB1 ⟨tkKd x1, numG x2, numG x3, numG x4, numG x5, numG x6, []⟩ = true ∧ headL ⟨tkKd x1, numG x2, numG x3, numG x4, numG x5, numG x6, []⟩ = l then some ⟨tkKd x1, numG x2, numG x3, numG x4, numG x5, numG x6, []⟩ else none := by
      unfold readTG
      rw [hq]
      simp [headC]
    have hkb := tkKd_bd x1
    have hki := tkKd_idx x1
    obtain ⟨KI, hKI⟩ : ∃ x, Lib.idxOfS [⟨#[112, 101, 114, 105, 111, 100, 105, 99]⟩, ⟨#[115, 112, 111, 114, 97, 100, 105, 99]⟩] ⟨x1.toArray⟩ = x := ⟨_, rfl⟩
    rw [hKI] at hki
    rw [← hki] at HRD hkb
    have HEW := Lib.hid (show IntKind.i64.wrap (KI + 1) = KI + 1 by simp [IntKind.wrap, IntKind.signed, IntKind.bits]; omega)
    have HKI := Lib.hid hKI
    have hRD := Lib.hid HRD
    clear hKI hki
    have hQS := Lib.hid hqs
    have hl' := Lib.hid hl
    have hsp' := Lib.hid hsp
    clear hsp hq hl hqs h7 HRD
    go_enter Tryz.func45, Tryz.ntmps45
    go_wp2_with fail
    have hnew := RowB.new w (tkR 0 0 0 0 0 0) 46
    have hb0 := (Below.refl w.heap.size w).alloc (Nat.le_refl _) (.cells (tkR 0 0 0 0 0 0) 46)
    obtain ⟨w0, hw0⟩ : ∃ x, w.alloc (.cells (tkR 0 0 0 0 0 0) 46) = x := ⟨_, rfl⟩
    rw [hw0] at hnew hb0
    unfold tkR at hw0
    rw [hw0]
    have hs0 : w0.heap.size = w.heap.size + 1 := by rw [← hw0, World.size_alloc]
    obtain ⟨n, hn⟩ : ∃ n, w.heap.size = n := ⟨_, rfl⟩
    rw [hn] at hnew hb0 hs0 ⊢
    refine (hsp'.out _ (hM.below (by rw [hn]; exact hb0))).mono ?_
    rintro e w1 ⟨rfl, hc1, hb1⟩
    have hbox1 := Lib.hid (hnew.kept hb1)
    have hB1 := Lib.hid (hb0.trans (hb1.mono (by have := hb0.size; omega)))
    rw [hs0] at hc1
    have HT1 := Lib.hid (show Tab w1 from hT.below (by rw [hn]; exact hB1.out))
    have HC1 := Lib.hid hc1
    have hlb : n + 1 < w1.heap.size := cell_lt (hc1 0 x0 rfl)
    rw [hs0]
    clear hnew hb0 hw0 hb1 hc1 hT hM hs0
    have hk := tkinds_any w1
    unfold tkA at hk
    have HK := Lib.hid hk
    clear hk
    go_wp2_with fail
    refine HK.out.mono ?_
    rintro e w2 ⟨rfl, hb2⟩
    have hkn := RowB.new w2 #[.string ⟨#[]⟩, .string ⟨#[112, 101, 114, 105, 111, 100, 105, 99]⟩, .string ⟨#[115, 112, 111, 114, 97, 100, 105, 99]⟩] 102
    have hb3 := hb2.trans ((Below.refl w2.heap.size w2).alloc (Nat.le_refl _) (.cells #[.string ⟨#[]⟩, .string ⟨#[112, 101, 114, 105, 111, 100, 105, 99]⟩, .string ⟨#[115, 112, 111, 114, 97, 100, 105, 99]⟩] 102) |>.mono hb2.size)
    go_wp2_with fail
    obtain ⟨w3, hw3⟩ : ∃ x, w2.alloc (.cells #[.string ⟨#[]⟩, .string ⟨#[112, 101, 114, 105, 111, 100, 105, 99]⟩, .string ⟨#[115, 112, 111, 114, 97, 100, 105, 99]⟩] 102) = x := ⟨_, rfl⟩
    obtain ⟨kb, hkb⟩ : ∃ x, w2.heap.size = x := ⟨_, rfl⟩
    rw [hw3] at hkn hb3 ⊢
    rw [hkb] at hkn ⊢
    have hsl := Lib.hid (sl_strs (w := w3) (B := w3.heap.size) (b := n + 1) (off := 2) (ps := [x2, x3, x4, x5, x6]) (by have := hb3.size; omega) (fun j x hj => by
      rw [Nat.add_comm 2 j]
      exact (hb3.cell (p := ⟨n + 1, j + 2, none⟩) hlb).trans (HC1.out (j + 2) x hj)))
    refine (snumbers_any (some ⟨n + 1, 2, none⟩) 5 [x2, x3, x4, x5, x6] w3 (by simp) (fun p hp => hQS.out p (List.mem_cons_of_mem _ (List.mem_cons_of_mem _ hp))) hsl.out).mono ?_
    rintro e w4 ⟨v, rfl, hown, hb4⟩
    obtain ⟨g0, c', rfl, hcl, hne, hnl⟩ := hown.sl
    obtain ⟨g, off, rfl, hg, hg0⟩ := hnl 0 (numG x2) rfl
    have m0 : w4.cell? ⟨g, off, none⟩ = some (.int .i64 (numG x2)) := by simpa [ints, Enc.of1] using hg0 0 _ rfl
    have m1 : w4.cell? ⟨g, off + 1, none⟩ = some (.int .i64 (numG x3)) := by
      obtain ⟨g', off', he, _, hg1⟩ := hnl 1 (numG x3) rfl
      injection he with he
      injection he with he1 he2 he3
      subst he1 he2
      simpa [ints, Enc.of1] using hg1 0 _ rfl
    have m2 : w4.cell? ⟨g, off + 2, none⟩ = some (.int .i64 (numG x4)) := by
      obtain ⟨g', off', he, _, hg1⟩ := hnl 2 (numG x4) rfl
      injection he with he
      injection he with he1 he2 he3
      subst he1 he2
      simpa [ints, Enc.of1] using hg1 0 _ rfl
    have m3 : w4.cell? ⟨g, off + 3, none⟩ = some (.int .i64 (numG x5)) := by
      obtain ⟨g', off', he, _, hg1⟩ := hnl 3 (numG x5) rfl
      injection he with he
      injection he with he1 he2 he3
      subst he1 he2
      simpa [ints, Enc.of1] using hg1 0 _ rfl
    have m4 : w4.cell? ⟨g, off + 4, none⟩ = some (.int .i64 (numG x6)) := by
      obtain ⟨g', off', he, _, hg1⟩ := hnl 4 (numG x6) rfl
      injection he with he
      injection he with he1 he2 he3
      subst he1 he2
      simpa [ints, Enc.of1] using hg1 0 _ rfl
    have hkn4 := Lib.hid (hkn.kept hb4)
    have hB4 := Lib.hid (hB1.out.trans ((hb3.trans (hb4.mono hb3.size)).mono (by omega)))
    have hbox4 := Lib.hid ((hbox1.out.kept hb3).kept hb4)
    have HT4 := Lib.hid ((HT1.out.below hb3).below hb4)
    have o1 : w4.cell? ⟨n + 1, 1, none⟩ = some (.string ⟨x1.toArray⟩) := (hb4.cell (p := ⟨n + 1, 1, none⟩) (show n + 1 < w3.heap.size by have := hb3.size; omega)).trans ((hb3.cell (p := ⟨n + 1, 1, none⟩) hlb).trans (HC1.out 1 x1 rfl))
    have hRt := Lib.hid (show RtS w4 (n + 1) ⟨x1.toArray⟩ g off (numG x2) (numG x3) (numG x4) (numG x5) (numG x6) w4 from ⟨Below.refl _ _, o1, m0, m1, m2, m3, m4⟩)
    have hcc : 5 ≤ c' := hcl.1
    have hnb4 : n < w4.heap.size := by have := hbox4.out.lt; exact this
    have hlb4 : n + 1 < w4.heap.size := cell_lt o1
    have hgb4 : g < w4.heap.size := hg
    clear hown hcl hne hnl hg hg0 hb3 hb4 hkn hb2 hw3 hkb m0 m1 m2 m3 m4 o1 hlb hsl
    go_wp2_with fail
    have HIX := Lib.hid (show ∀ W, Below w4.heap.size w4 W → Calls Tryz.prog 72 #[.slice (some ⟨kb, 1, none⟩) 2 2, .string ⟨x1.toArray⟩] W fun e w' => e = .returned (.int .i64 KI) ∧ w' = W from fun W hW => by
      have h := Tryz.slices_Index_string kb 1 2 2 [⟨#[112, 101, 114, 105, 111, 100, 105, 99]⟩, ⟨#[115, 112, 111, 114, 97, 100, 105, 99]⟩] ⟨x1.toArray⟩ W (by decide) (by decide) (fun j hj => by
        have hk := hkn4.out.below hW hkn4.out.lt
        match j, hj with
        | 0, _ => exact (hk.cell 1).trans rfl
        | 1, _ => exact (hk.cell 2).trans rfl)
      rw [show List.take 2 [(⟨#[112, 101, 114, 105, 111, 100, 105, 99]⟩ : ByteArray), ⟨#[115, 112, 111, 114, 97, 100, 105, 99]⟩] = [⟨#[112, 101, 114, 105, 111, 100, 105, 99]⟩, ⟨#[115, 112, 111, 114, 97, 100, 105, 99]⟩] from rfl, HKI.out] at h
      exact h)
    have hSd : RtS w4 (n + 1) ⟨x1.toArray⟩ g off (numG x2) (numG x3) (numG x4) (numG x5) (numG x6) w4.drew := hRt.out.below (Below.refl _ w4).drew
    refine wp_region_held_drew (S := (fun w' : World => Below w4.heap.size w4 w' ∧ w'.cell? ⟨n + 1, 1, none⟩ = some (.string ⟨x1.toArray⟩) ∧ w'.cell? ⟨g, off, none⟩ = some (.int .i64 (numG x2)) ∧ w'.cell? ⟨g, off + 1, none⟩ = some (.int .i64 (numG x3)) ∧ w'.cell? ⟨g, off + 2, none⟩ = some (.int .i64 (numG x4)) ∧ w'.cell? ⟨g, off + 3, none⟩ = some (.int .i64 (numG x5)) ∧ w'.cell? ⟨g, off + 4, none⟩ = some (.int .i64 (numG x6)))) (by kernel_rfl) hSd (fun hHeld => ?_)
    generalize w4.drew = wz at hSd hHeld ⊢
    have hHeld : (fun w' : World => Below w4.heap.size w4 w' ∧ w'.cell? ⟨n + 1, 1, none⟩ = some (.string ⟨x1.toArray⟩) ∧ w'.cell? ⟨g, off, none⟩ = some (.int .i64 (numG x2)) ∧ w'.cell? ⟨g, off + 1, none⟩ = some (.int .i64 (numG x3)) ∧ w'.cell? ⟨g, off + 2, none⟩ = some (.int .i64 (numG x4)) ∧ w'.cell? ⟨g, off + 3, none⟩ = some (.int .i64 (numG x5)) ∧ w'.cell? ⟨g, off + 4, none⟩ = some (.int .i64 (numG x6))) wz := hHeld
    refine tkH 0 ?_
    try simp only [Act.put, List.setIfInBounds_toArray, List.set_cons_zero, List.set_cons_succ]
    refine tkH 1 ?_
    try simp only [Act.put, List.setIfInBounds_toArray, List.set_cons_zero, List.set_cons_succ]
    refine tkH 6 ?_
    try simp only [Act.put, List.setIfInBounds_toArray, List.set_cons_zero, List.set_cons_succ]
    refine tkH 9 ?_
    try simp only [Act.put, List.setIfInBounds_toArray, List.set_cons_zero, List.set_cons_succ]
    refine tkH 12 ?_
    try simp only [Act.put, List.setIfInBounds_toArray, List.set_cons_zero, List.set_cons_succ]
    refine tkH 15 ?_
    try simp only [Act.put, List.setIfInBounds_toArray, List.set_cons_zero, List.set_cons_succ]
    refine tkH 18 ?_
    try simp only [Act.put, List.setIfInBounds_toArray, List.set_cons_zero, List.set_cons_succ]
    refine tkH 2 ?_
    try simp only [Act.put, List.setIfInBounds_toArray, List.set_cons_zero, List.set_cons_succ]
    refine tkH 7 ?_
    try simp only [Act.put, List.setIfInBounds_toArray, List.set_cons_zero, List.set_cons_succ]
    refine tkH 10 ?_
    try simp only [Act.put, List.setIfInBounds_toArray, List.set_cons_zero, List.set_cons_succ]
    refine tkH 13 ?_
    try simp only [Act.put, List.setIfInBounds_toArray, List.set_cons_zero, List.set_cons_succ]
    refine tkH 16 ?_
    try simp only [Act.put, List.setIfInBounds_toArray, List.set_cons_zero, List.set_cons_succ]
    refine tkH 19 ?_
    try simp only [Act.put, List.setIfInBounds_toArray, List.set_cons_zero, List.set_cons_succ]
    refine tkH 3 ?_
    try simp only [Act.put, List.setIfInBounds_toArray, List.set_cons_zero, List.set_cons_succ]
    refine tkH 8 ?_
    try simp only [Act.put, List.setIfInBounds_toArray, List.set_cons_zero, List.set_cons_succ]
    refine tkH 11 ?_
    try simp only [Act.put, List.setIfInBounds_toArray, List.set_cons_zero, List.set_cons_succ]
    refine tkH 14 ?_
    try simp only [Act.put, List.setIfInBounds_toArray, List.set_cons_zero, List.set_cons_succ]
    refine tkH 17 ?_
    try simp only [Act.put, List.setIfInBounds_toArray, List.set_cons_zero, List.set_cons_succ]
    refine tkH 20 ?_
    try simp only [Act.put, List.setIfInBounds_toArray, List.set_cons_zero, List.set_cons_succ]
    refine wpAnyH_ready (rs := [4, 22]) (by kernel_rfl) (by simp) ?_
    refine AllReadyH.cons (o := ?_) ?_ (fun K hK => ?_) ?_
    rotate_left
    · (simp only [List.getElem?_toArray, List.getElem?_cons_succ, List.getElem?_cons_zero]; rfl)
    · go_simp
      go_at_call 72
      refine (HIX.out _ hHeld.1).mono ?_
      rintro e wx ⟨rfl, hwx⟩
      have hwy := hwx.symm
      clear hwx
      subst hwy
      have hSx := hHeld
      refine hK.out _ _ hSx (fun hHeld => ?_)
      clear hK K
      try simp only [Act.put, List.setIfInBounds_toArray, List.set_cons_zero, List.set_cons_succ]
      refine tkH 5 ?_
      try simp only [Act.put, List.setIfInBounds_toArray, List.set_cons_zero, List.set_cons_succ]
      refine tkH 21 ?_
      try simp only [Act.put, List.setIfInBounds_toArray, List.set_cons_zero, List.set_cons_succ]
      refine wpAnyH_ready (rs := [22]) (by kernel_rfl) (by simp) ?_
      refine AllReadyH.cons (o := ?_) ?_ (fun K hK => ?_) AllReadyH.nil
      rotate_left
      · (simp only [List.getElem?_toArray, List.getElem?_cons_succ, List.getElem?_cons_zero]; rfl)
      go_simp
      have hnew := RowB.new (wz) (tkR 0 0 0 0 0 0) 46
      have hsz := hHeld.1.size
      have hSx := RtS.below (show RtS w4 (n + 1) ⟨x1.toArray⟩ g off (numG x2) (numG x3) (numG x4) (numG x5) (numG x6) _ from hHeld) ((Below.refl (wz).heap.size (wz)).alloc (Nat.le_refl _) (.cells #[.int .i64 0, .int .i64 0, .int .i64 0, .int .i64 0, .int .i64 0, .int .i64 0, .slice none 0 0] 46))
      refine hK.out _ _ hSx (fun hHeld => ?_)
      clear hK K
      try simp only [Act.put, List.setIfInBounds_toArray, List.set_cons_zero, List.set_cons_succ]
      obtain ⟨wa, hwa⟩ : ∃ x, (wz).alloc (.cells #[.int .i64 0, .int .i64 0, .int .i64 0, .int .i64 0, .int .i64 0, .int .i64 0, .slice none 0 0] 46) = x := ⟨_, rfl⟩
      obtain ⟨nb, hnb⟩ : ∃ x, (wz).heap.size = x := ⟨_, rfl⟩
      have hnew2 : RowB wa nb (tkR 0 0 0 0 0 0) 46 := by rw [← hwa, ← hnb]; exact hnew
      rw [hwa] at hHeld ⊢
      rw [hnb] at hsz ⊢
      clear hwa hnb hnew
      have hS2 : (RtS w4 (n + 1) ⟨x1.toArray⟩ g off (numG x2) (numG x3) (numG x4) (numG x5) (numG x6) wa) ∧ ∃ kd pr pe o dl ow, RowB wa nb (tkR kd pr pe o dl ow) 46 := ⟨hHeld, _, _, _, _, _, _, hnew2⟩
      clear hnew2 hHeld
      refine wpAnyH_strong (S' := fun w' => (Below w4.heap.size w4 w' ∧ w'.cell? ⟨n + 1, 1, none⟩ = some (.string ⟨x1.toArray⟩) ∧ w'.cell? ⟨g, off, none⟩ = some (.int .i64 (numG x2)) ∧ w'.cell? ⟨g, off + 1, none⟩ = some (.int .i64 (numG x3)) ∧ w'.cell? ⟨g, off + 2, none⟩ = some (.int .i64 (numG x4)) ∧ w'.cell? ⟨g, off + 3, none⟩ = some (.int .i64 (numG x5)) ∧ w'.cell? ⟨g, off + 4, none⟩ = some (.int .i64 (numG x6))) ∧ ∃ kd pr pe o dl ow, RowB w' nb (tkR kd pr pe o dl ow) 46) (fun w h => h.1) _ _ _ _ ?_
      have hHeld := hS2
      obtain ⟨q0, q1, q2, q3, q4, q5, hz⟩ := hHeld.2
      unfold tkR at hz
      have b0 := hz.cell 0
      have b1 := hz.cell 1
      have b2 := hz.cell 2
      have b3 := hz.cell 3
      have b4 := hz.cell 4
      have b5 := hz.cell 5
      have b6 := hz.cell 6
      simp only [List.getElem?_toArray, List.getElem?_cons_zero, List.getElem?_cons_succ] at b0 b1 b2 b3 b4 b5 b6
      have f0 := hz.frozen 0
      have f1 := hz.frozen 1
      have f2 := hz.frozen 2
      have f3 := hz.frozen 3
      have f4 := hz.frozen 4
      have f5 := hz.frozen 5
      have f6 := hz.frozen 6
      refine wpAnyH_ready (rs := [23]) (by kernel_rfl) (by simp) ?_
      refine AllReadyH.cons (o := ?_) ?_ (fun K hK => ?_) AllReadyH.nil
      rotate_left
      · (simp only [List.getElem?_toArray, List.getElem?_cons_succ, List.getElem?_cons_zero]; rfl)
      go_simp
      have hSr := RtS.set7 (show RtS w4 (n + 1) ⟨x1.toArray⟩ g off (numG x2) (numG x3) (numG x4) (numG x5) (numG x6) wa from hHeld.1) hsz hlb4 hgb4 (.int .i64 (KI + 1)) (.int .i64 (numG x2)) (.int .i64 (numG x3)) (.int .i64 (numG x4)) (.int .i64 (numG x5)) (.int .i64 (numG x6)) (.slice none 0 0)
      have hzz := row_set7 (w := wa) (b := nb) (t := 46) _ _ _ _ _ _ _ (.int .i64 (KI + 1)) (.int .i64 (numG x2)) (.int .i64 (numG x3)) (.int .i64 (numG x4)) (.int .i64 (numG x5)) (.int .i64 (numG x6)) (.slice none 0 0) hz
      try rw [HEW.out]
      obtain ⟨wS, hwS⟩ : ∃ x, (((((((wa.setCell ⟨nb, 0, none⟩ (.int .i64 (KI + 1))).setCell ⟨nb, 1, none⟩ (.int .i64 (numG x2))).setCell ⟨nb, 2, none⟩ (.int .i64 (numG x3))).setCell ⟨nb, 3, none⟩ (.int .i64 (numG x4))).setCell ⟨nb, 4, none⟩ (.int .i64 (numG x5))).setCell ⟨nb, 5, none⟩ (.int .i64 (numG x6))).setCell ⟨nb, 6, none⟩ (.slice none 0 0)) = x := ⟨_, rfl⟩
      rw [hwS] at hSr hzz ⊢
      clear hwS
      have hzz : RowB wS nb (tkR (KI + 1) (numG x2) (numG x3) (numG x4) (numG x5) (numG x6)) 46 := hzz
      obtain ⟨s1, s2, s3, s4, s5, s6, s7⟩ := hSr
      have hSx : (Below w4.heap.size w4 wS ∧ wS.cell? ⟨n + 1, 1, none⟩ = some (.string ⟨x1.toArray⟩) ∧ wS.cell? ⟨g, off, none⟩ = some (.int .i64 (numG x2)) ∧ wS.cell? ⟨g, off + 1, none⟩ = some (.int .i64 (numG x3)) ∧ wS.cell? ⟨g, off + 2, none⟩ = some (.int .i64 (numG x4)) ∧ wS.cell? ⟨g, off + 3, none⟩ = some (.int .i64 (numG x5)) ∧ wS.cell? ⟨g, off + 4, none⟩ = some (.int .i64 (numG x6))) ∧ ∃ kd pr pe o dl ow, RowB wS nb (tkR kd pr pe o dl ow) 46 := ⟨⟨s1, s2, s3, s4, s5, s6, s7⟩, _, _, _, _, _, _, hzz⟩
      refine hK.out _ _ hSx (fun hHeld => ?_)
      clear hK K
      try simp only [Act.put, List.setIfInBounds_toArray, List.set_cons_zero, List.set_cons_succ]
      refine wpAnyH_done (by kernel_rfl) ?_ _
      have HZ := Lib.hid hzz
      have HBB := Lib.hid s1
      clear s1 s2 s3 s4 s5 s6 s7 hSx hzz hHeld hz b0 b1 b2 b3 b4 b5 b6 f0 f1 f2 f3 f4 f5 f6 hSd
      have c0 := HZ.out.cell 0
      have c1 := HZ.out.cell 1
      have c2 := HZ.out.cell 2
      have c3 := HZ.out.cell 3
      have c4 := HZ.out.cell 4
      have c5 := HZ.out.cell 5
      have c6 := HZ.out.cell 6
      unfold tkR at c0 c1 c2 c3 c4 c5 c6
      simp only [List.getElem?_toArray, List.getElem?_cons_zero, List.getElem?_cons_succ] at c0 c1 c2 c3 c4 c5 c6
      have HBX := Lib.hid (hbox4.out.below HBB.out hnb4)
      have hnw : n ≤ w4.heap.size := by omega
      have HBS := Lib.hid (hB4.out.trans (HBB.out.mono hnw))
      have hnl6 : n ≤ wS.heap.size := by have := HBB.out.size; omega
      have hhd := head_any ⟨KI + 1, numG x2, numG x3, numG x4, numG x5, numG x6, []⟩ none 0 0 wS (fun z hz => by
        have h2 := numG_bd x2
        have h3 := numG_bd x3
        have h4 := numG_bd x4
        have h5 := numG_bd x5
        have h6 := numG_bd x6
        simp only [Tk.five, List.mem_cons, List.not_mem_nil, or_false] at hz
        rcases hz with rfl | rfl | rfl | rfl | rfl <;> omega) (HT4.out.below HBB.out)
      unfold tkV at hhd
      have HHD := Lib.hid hhd
      clear hhd
      go_wp2_with fail
      refine HHD.out.mono ?_
      rintro e w6 ⟨sH, rfl, hHs, hHl, hb6⟩
      clear c0 c1 c2 c3 c4 c5 c6
      rcases hq : headB1 ⟨KI + 1, numG x2, numG x3, numG x4, numG x5, numG x6, []⟩ with _ | _
      · have HNO := Lib.hid (show readTG l = none by rw [hRD.out, if_neg (by rw [hq]; rintro ⟨h, _⟩; cases h)])
        clear hq hHs
        have hbox6 := (HBX.out).kept hb6
        have d0 := hbox6.cell 0
        have d1 := hbox6.cell 1
        have d2 := hbox6.cell 2
        have d3 := hbox6.cell 3
        have d4 := hbox6.cell 4
        have d5 := hbox6.cell 5
        have d6 := hbox6.cell 6
        unfold tkR at d0 d1 d2 d3 d4 d5 d6
        simp only [List.getElem?_toArray, List.getElem?_cons_zero, List.getElem?_cons_succ] at d0 d1 d2 d3 d4 d5 d6
        have df0 := hbox6.frozen 0
        have df1 := hbox6.frozen 1
        have df2 := hbox6.frozen 2
        have df3 := hbox6.frozen 3
        have df4 := hbox6.frozen 4
        have df5 := hbox6.frozen 5
        have df6 := hbox6.frozen 6
        have hz6 := HZ.out.kept hb6
        have e0 := hz6.cell 0
        have e1 := hz6.cell 1
        have e2 := hz6.cell 2
        have e3 := hz6.cell 3
        have e4 := hz6.cell 4
        have e5 := hz6.cell 5
        have e6 := hz6.cell 6
        unfold tkR at e0 e1 e2 e3 e4 e5 e6
        simp only [List.getElem?_toArray, List.getElem?_cons_zero, List.getElem?_cons_succ] at e0 e1 e2 e3 e4 e5 e6
        have HB6 := Lib.hid (HBS.out.trans (hb6.mono hnl6))
        have HX6 := Lib.hid hbox6
        clear hb6 hbox6 hz6
        go_wp2_with fail
        unfold tkR at HX6
        refine bodyPost_ret (res_rhead _ _ rfl rfl (row_set7 _ _ _ _ _ _ _ (.int .i64 (KI + 1)) (.int .i64 (numG x2)) (.int .i64 (numG x3)) (.int .i64 (numG x4)) (.int .i64 (numG x5)) (.int .i64 (numG x6)) (.slice none 0 0) HX6.out)) rfl ?_
        exact ⟨KI + 1, numG x2, numG x3, numG x4, numG x5, numG x6, by rw [HNO.out]; rfl, (fun t ht => by rw [HNO.out] at ht; cases ht), by rw [hn]; exact below_s7 HB6.out n (Nat.le_refl _) _ _ _ _ _ _ _⟩
      · have hSH := hHs hq
        by_cases hls : headL ⟨KI + 1, numG x2, numG x3, numG x4, numG x5, numG x6, []⟩ = l
        · have HYES := Lib.hid (show readTG l = some ⟨KI + 1, numG x2, numG x3, numG x4, numG x5, numG x6, []⟩ by rw [hRD.out, if_pos ⟨hq, hls⟩])
          have hst : (sH.toList == s.toList) = true := by rw [hSH, ByteArray.toList_eq, ByteArray.toList_eq, hl'.out]; simp [hls]
          clear hq hHs hls hSH
          have hbox6 := (HBX.out).kept hb6
          have d0 := hbox6.cell 0
          have d1 := hbox6.cell 1
          have d2 := hbox6.cell 2
          have d3 := hbox6.cell 3
          have d4 := hbox6.cell 4
          have d5 := hbox6.cell 5
          have d6 := hbox6.cell 6
          unfold tkR at d0 d1 d2 d3 d4 d5 d6
          simp only [List.getElem?_toArray, List.getElem?_cons_zero, List.getElem?_cons_succ] at d0 d1 d2 d3 d4 d5 d6
          have df0 := hbox6.frozen 0
          have df1 := hbox6.frozen 1
          have df2 := hbox6.frozen 2
          have df3 := hbox6.frozen 3
          have df4 := hbox6.frozen 4
          have df5 := hbox6.frozen 5
          have df6 := hbox6.frozen 6
          have hz6 := HZ.out.kept hb6
          have e0 := hz6.cell 0
          have e1 := hz6.cell 1
          have e2 := hz6.cell 2
          have e3 := hz6.cell 3
          have e4 := hz6.cell 4
          have e5 := hz6.cell 5
          have e6 := hz6.cell 6
          unfold tkR at e0 e1 e2 e3 e4 e5 e6
          simp only [List.getElem?_toArray, List.getElem?_cons_zero, List.getElem?_cons_succ] at e0 e1 e2 e3 e4 e5 e6
          have HB6 := Lib.hid (HBS.out.trans (hb6.mono hnl6))
          have HX6 := Lib.hid hbox6
          clear hb6 hbox6 hz6
          go_wp2_with fail
          unfold tkR at HX6
          refine bodyPost_ret (res_rhead _ _ rfl rfl (row_set7 _ _ _ _ _ _ _ (.int .i64 (KI + 1)) (.int .i64 (numG x2)) (.int .i64 (numG x3)) (.int .i64 (numG x4)) (.int .i64 (numG x5)) (.int .i64 (numG x6)) (.slice none 0 0) HX6.out)) rfl ?_
          exact ⟨KI + 1, numG x2, numG x3, numG x4, numG x5, numG x6, by rw [HYES.out]; rfl, (fun t ht => by rw [HYES.out] at ht; exact (Option.some.inj ht).symm), by rw [hn]; exact below_s7 HB6.out n (Nat.le_refl _) _ _ _ _ _ _ _⟩
        · have HNO := Lib.hid (show readTG l = none by rw [hRD.out, if_neg (fun h => hls h.2)])
          have hst : (sH.toList == s.toList) = false := by rw [beq_eq_false_iff_ne, hSH, ByteArray.toList_eq, ByteArray.toList_eq, hl'.out]; simpa using hls
          clear hq hHs hls hSH
          have hbox6 := (HBX.out).kept hb6
          have d0 := hbox6.cell 0
          have d1 := hbox6.cell 1
          have d2 := hbox6.cell 2
          have d3 := hbox6.cell 3
          have d4 := hbox6.cell 4
          have d5 := hbox6.cell 5
          have d6 := hbox6.cell 6
          unfold tkR at d0 d1 d2 d3 d4 d5 d6
          simp only [List.getElem?_toArray, List.getElem?_cons_zero, List.getElem?_cons_succ] at d0 d1 d2 d3 d4 d5 d6
          have df0 := hbox6.frozen 0
          have df1 := hbox6.frozen 1
          have df2 := hbox6.frozen 2
          have df3 := hbox6.frozen 3
          have df4 := hbox6.frozen 4
          have df5 := hbox6.frozen 5
          have df6 := hbox6.frozen 6
          have hz6 := HZ.out.kept hb6
          have e0 := hz6.cell 0
          have e1 := hz6.cell 1
          have e2 := hz6.cell 2
          have e3 := hz6.cell 3
          have e4 := hz6.cell 4
          have e5 := hz6.cell 5
          have e6 := hz6.cell 6
          unfold tkR at e0 e1 e2 e3 e4 e5 e6
          simp only [List.getElem?_toArray, List.getElem?_cons_zero, List.getElem?_cons_succ] at e0 e1 e2 e3 e4 e5 e6
          have HB6 := Lib.hid (HBS.out.trans (hb6.mono hnl6))
          have HX6 := Lib.hid hbox6
          clear hb6 hbox6 hz6
          go_wp2_with fail
          unfold tkR at HX6
          refine bodyPost_ret (res_rhead _ _ rfl rfl (row_set7 _ _ _ _ _ _ _ (.int .i64 (KI + 1)) (.int .i64 (numG x2)) (.int .i64 (numG x3)) (.int .i64 (numG x4)) (.int .i64 (numG x5)) (.int .i64 (numG x6)) (.slice none 0 0) HX6.out)) rfl ?_
          exact ⟨KI + 1, numG x2, numG x3, numG x4, numG x5, numG x6, by rw [HNO.out]; rfl, (fun t ht => by rw [HNO.out] at ht; cases ht), by rw [hn]; exact below_s7 HB6.out n (Nat.le_refl _) _ _ _ _ _ _ _⟩
    · refine AllReadyH.cons (o := ?_) ?_ (fun K hK => ?_) AllReadyH.nil
      rotate_left
      · (simp only [List.getElem?_toArray, List.getElem?_cons_succ, List.getElem?_cons_zero]; rfl)
      · go_simp
        have hnew := RowB.new (wz) (tkR 0 0 0 0 0 0) 46
        have hsz := hHeld.1.size
        have hSx := RtS.below (show RtS w4 (n + 1) ⟨x1.toArray⟩ g off (numG x2) (numG x3) (numG x4) (numG x5) (numG x6) _ from hHeld) ((Below.refl (wz).heap.size (wz)).alloc (Nat.le_refl _) (.cells #[.int .i64 0, .int .i64 0, .int .i64 0, .int .i64 0, .int .i64 0, .int .i64 0, .slice none 0 0] 46))
        refine hK.out _ _ hSx (fun hHeld => ?_)
        clear hK K
        try simp only [Act.put, List.setIfInBounds_toArray, List.set_cons_zero, List.set_cons_succ]
        obtain ⟨wa, hwa⟩ : ∃ x, (wz).alloc (.cells #[.int .i64 0, .int .i64 0, .int .i64 0, .int .i64 0, .int .i64 0, .int .i64 0, .slice none 0 0] 46) = x := ⟨_, rfl⟩
        obtain ⟨nb, hnb⟩ : ∃ x, (wz).heap.size = x := ⟨_, rfl⟩
        have hnew2 : RowB wa nb (tkR 0 0 0 0 0 0) 46 := by rw [← hwa, ← hnb]; exact hnew
        rw [hwa] at hHeld ⊢
        rw [hnb] at hsz ⊢
        clear hwa hnb hnew
        have hS2 : (RtS w4 (n + 1) ⟨x1.toArray⟩ g off (numG x2) (numG x3) (numG x4) (numG x5) (numG x6) wa) ∧ ∃ kd pr pe o dl ow, RowB wa nb (tkR kd pr pe o dl ow) 46 := ⟨hHeld, _, _, _, _, _, _, hnew2⟩
        clear hnew2 hHeld
        refine wpAnyH_strong (S' := fun w' => (Below w4.heap.size w4 w' ∧ w'.cell? ⟨n + 1, 1, none⟩ = some (.string ⟨x1.toArray⟩) ∧ w'.cell? ⟨g, off, none⟩ = some (.int .i64 (numG x2)) ∧ w'.cell? ⟨g, off + 1, none⟩ = some (.int .i64 (numG x3)) ∧ w'.cell? ⟨g, off + 2, none⟩ = some (.int .i64 (numG x4)) ∧ w'.cell? ⟨g, off + 3, none⟩ = some (.int .i64 (numG x5)) ∧ w'.cell? ⟨g, off + 4, none⟩ = some (.int .i64 (numG x6))) ∧ ∃ kd pr pe o dl ow, RowB w' nb (tkR kd pr pe o dl ow) 46) (fun w h => h.1) _ _ _ _ ?_
        have hHeld := hS2
        refine wpAnyH_ready (rs := [4]) (by kernel_rfl) (by simp) ?_
        refine AllReadyH.cons (o := ?_) ?_ (fun K hK => ?_) AllReadyH.nil
        rotate_left
        · (simp only [List.getElem?_toArray, List.getElem?_cons_succ, List.getElem?_cons_zero]; rfl)
        go_simp
        go_at_call 72
        refine (HIX.out _ hHeld.1.1).mono ?_
        rintro e wx ⟨rfl, hwx⟩
        have hwy := hwx.symm
        clear hwx
        subst hwy
        have hSx := hHeld
        refine hK.out _ _ hSx (fun hHeld => ?_)
        clear hK K
        try simp only [Act.put, List.setIfInBounds_toArray, List.set_cons_zero, List.set_cons_succ]
        refine tkH 5 ?_
        try simp only [Act.put, List.setIfInBounds_toArray, List.set_cons_zero, List.set_cons_succ]
        refine tkH 21 ?_
        try simp only [Act.put, List.setIfInBounds_toArray, List.set_cons_zero, List.set_cons_succ]
        obtain ⟨q0, q1, q2, q3, q4, q5, hz⟩ := hHeld.2
        unfold tkR at hz
        have b0 := hz.cell 0
        have b1 := hz.cell 1
        have b2 := hz.cell 2
        have b3 := hz.cell 3
        have b4 := hz.cell 4
        have b5 := hz.cell 5
        have b6 := hz.cell 6
        simp only [List.getElem?_toArray, List.getElem?_cons_zero, List.getElem?_cons_succ] at b0 b1 b2 b3 b4 b5 b6
        have f0 := hz.frozen 0
        have f1 := hz.frozen 1
        have f2 := hz.frozen 2
        have f3 := hz.frozen 3
        have f4 := hz.frozen 4
        have f5 := hz.frozen 5
        have f6 := hz.frozen 6
        refine wpAnyH_ready (rs := [23]) (by kernel_rfl) (by simp) ?_
        refine AllReadyH.cons (o := ?_) ?_ (fun K hK => ?_) AllReadyH.nil
        rotate_left
        · (simp only [List.getElem?_toArray, List.getElem?_cons_succ, List.getElem?_cons_zero]; rfl)
        go_simp
        have hSr := RtS.set7 (show RtS w4 (n + 1) ⟨x1.toArray⟩ g off (numG x2) (numG x3) (numG x4) (numG x5) (numG x6) wa from hHeld.1) hsz hlb4 hgb4 (.int .i64 (KI + 1)) (.int .i64 (numG x2)) (.int .i64 (numG x3)) (.int .i64 (numG x4)) (.int .i64 (numG x5)) (.int .i64 (numG x6)) (.slice none 0 0)
        have hzz := row_set7 (w := wa) (b := nb) (t := 46) _ _ _ _ _ _ _ (.int .i64 (KI + 1)) (.int .i64 (numG x2)) (.int .i64 (numG x3)) (.int .i64 (numG x4)) (.int .i64 (numG x5)) (.int .i64 (numG x6)) (.slice none 0 0) hz
        try rw [HEW.out]
        obtain ⟨wS, hwS⟩ : ∃ x, (((((((wa.setCell ⟨nb, 0, none⟩ (.int .i64 (KI + 1))).setCell ⟨nb, 1, none⟩ (.int .i64 (numG x2))).setCell ⟨nb, 2, none⟩ (.int .i64 (numG x3))).setCell ⟨nb, 3, none⟩ (.int .i64 (numG x4))).setCell ⟨nb, 4, none⟩ (.int .i64 (numG x5))).setCell ⟨nb, 5, none⟩ (.int .i64 (numG x6))).setCell ⟨nb, 6, none⟩ (.slice none 0 0)) = x := ⟨_, rfl⟩
        rw [hwS] at hSr hzz ⊢
        clear hwS
        have hzz : RowB wS nb (tkR (KI + 1) (numG x2) (numG x3) (numG x4) (numG x5) (numG x6)) 46 := hzz
        obtain ⟨s1, s2, s3, s4, s5, s6, s7⟩ := hSr
        have hSx : (Below w4.heap.size w4 wS ∧ wS.cell? ⟨n + 1, 1, none⟩ = some (.string ⟨x1.toArray⟩) ∧ wS.cell? ⟨g, off, none⟩ = some (.int .i64 (numG x2)) ∧ wS.cell? ⟨g, off + 1, none⟩ = some (.int .i64 (numG x3)) ∧ wS.cell? ⟨g, off + 2, none⟩ = some (.int .i64 (numG x4)) ∧ wS.cell? ⟨g, off + 3, none⟩ = some (.int .i64 (numG x5)) ∧ wS.cell? ⟨g, off + 4, none⟩ = some (.int .i64 (numG x6))) ∧ ∃ kd pr pe o dl ow, RowB wS nb (tkR kd pr pe o dl ow) 46 := ⟨⟨s1, s2, s3, s4, s5, s6, s7⟩, _, _, _, _, _, _, hzz⟩
        refine hK.out _ _ hSx (fun hHeld => ?_)
        clear hK K
        try simp only [Act.put, List.setIfInBounds_toArray, List.set_cons_zero, List.set_cons_succ]
        refine wpAnyH_done (by kernel_rfl) ?_ _
        have HZ := Lib.hid hzz
        have HBB := Lib.hid s1
        clear s1 s2 s3 s4 s5 s6 s7 hSx hzz hHeld hz b0 b1 b2 b3 b4 b5 b6 f0 f1 f2 f3 f4 f5 f6 hSd
        have c0 := HZ.out.cell 0
        have c1 := HZ.out.cell 1
        have c2 := HZ.out.cell 2
        have c3 := HZ.out.cell 3
        have c4 := HZ.out.cell 4
        have c5 := HZ.out.cell 5
        have c6 := HZ.out.cell 6
        unfold tkR at c0 c1 c2 c3 c4 c5 c6
        simp only [List.getElem?_toArray, List.getElem?_cons_zero, List.getElem?_cons_succ] at c0 c1 c2 c3 c4 c5 c6
        have HBX := Lib.hid (hbox4.out.below HBB.out hnb4)
        have hnw : n ≤ w4.heap.size := by omega
        have HBS := Lib.hid (hB4.out.trans (HBB.out.mono hnw))
        have hnl6 : n ≤ wS.heap.size := by have := HBB.out.size; omega
        have hhd := head_any ⟨KI + 1, numG x2, numG x3, numG x4, numG x5, numG x6, []⟩ none 0 0 wS (fun z hz => by
          have h2 := numG_bd x2
          have h3 := numG_bd x3
          have h4 := numG_bd x4
          have h5 := numG_bd x5
          have h6 := numG_bd x6
          simp only [Tk.five, List.mem_cons, List.not_mem_nil, or_false] at hz
          rcases hz with rfl | rfl | rfl | rfl | rfl <;> omega) (HT4.out.below HBB.out)
        unfold tkV at hhd
        have HHD := Lib.hid hhd
        clear hhd
        go_wp2_with fail
        refine HHD.out.mono ?_
        rintro e w6 ⟨sH, rfl, hHs, hHl, hb6⟩
        clear c0 c1 c2 c3 c4 c5 c6
        rcases hq : headB1 ⟨KI + 1, numG x2, numG x3, numG x4, numG x5, numG x6, []⟩ with _ | _
        · have HNO := Lib.hid (show readTG l = none by rw [hRD.out, if_neg (by rw [hq]; rintro ⟨h, _⟩; cases h)])
          clear hq hHs
          have hbox6 := (HBX.out).kept hb6
          have d0 := hbox6.cell 0
          have d1 := hbox6.cell 1
          have d2 := hbox6.cell 2
          have d3 := hbox6.cell 3
          have d4 := hbox6.cell 4
          have d5 := hbox6.cell 5
          have d6 := hbox6.cell 6
          unfold tkR at d0 d1 d2 d3 d4 d5 d6
          simp only [List.getElem?_toArray, List.getElem?_cons_zero, List.getElem?_cons_succ] at d0 d1 d2 d3 d4 d5 d6
          have df0 := hbox6.frozen 0
          have df1 := hbox6.frozen 1
          have df2 := hbox6.frozen 2
          have df3 := hbox6.frozen 3
          have df4 := hbox6.frozen 4
          have df5 := hbox6.frozen 5
          have df6 := hbox6.frozen 6
          have hz6 := HZ.out.kept hb6
          have e0 := hz6.cell 0
          have e1 := hz6.cell 1
          have e2 := hz6.cell 2
          have e3 := hz6.cell 3
          have e4 := hz6.cell 4
          have e5 := hz6.cell 5
          have e6 := hz6.cell 6
          unfold tkR at e0 e1 e2 e3 e4 e5 e6
          simp only [List.getElem?_toArray, List.getElem?_cons_zero, List.getElem?_cons_succ] at e0 e1 e2 e3 e4 e5 e6
          have HB6 := Lib.hid (HBS.out.trans (hb6.mono hnl6))
          have HX6 := Lib.hid hbox6
          clear hb6 hbox6 hz6
          go_wp2_with fail
          unfold tkR at HX6
          refine bodyPost_ret (res_rhead _ _ rfl rfl (row_set7 _ _ _ _ _ _ _ (.int .i64 (KI + 1)) (.int .i64 (numG x2)) (.int .i64 (numG x3)) (.int .i64 (numG x4)) (.int .i64 (numG x5)) (.int .i64 (numG x6)) (.slice none 0 0) HX6.out)) rfl ?_
          exact ⟨KI + 1, numG x2, numG x3, numG x4, numG x5, numG x6, by rw [HNO.out]; rfl, (fun t ht => by rw [HNO.out] at ht; cases ht), by rw [hn]; exact below_s7 HB6.out n (Nat.le_refl _) _ _ _ _ _ _ _⟩
        · have hSH := hHs hq
          by_cases hls : headL ⟨KI + 1, numG x2, numG x3, numG x4, numG x5, numG x6, []⟩ = l
          · have HYES := Lib.hid (show readTG l = some ⟨KI + 1, numG x2, numG x3, numG x4, numG x5, numG x6, []⟩ by rw [hRD.out, if_pos ⟨hq, hls⟩])
            have hst : (sH.toList == s.toList) = true := by rw [hSH, ByteArray.toList_eq, ByteArray.toList_eq, hl'.out]; simp [hls]
            clear hq hHs hls hSH
            have hbox6 := (HBX.out).kept hb6
            have d0 := hbox6.cell 0
            have d1 := hbox6.cell 1
            have d2 := hbox6.cell 2
            have d3 := hbox6.cell 3
            have d4 := hbox6.cell 4
            have d5 := hbox6.cell 5
            have d6 := hbox6.cell 6
            unfold tkR at d0 d1 d2 d3 d4 d5 d6
            simp only [List.getElem?_toArray, List.getElem?_cons_zero, List.getElem?_cons_succ] at d0 d1 d2 d3 d4 d5 d6
            have df0 := hbox6.frozen 0
            have df1 := hbox6.frozen 1
            have df2 := hbox6.frozen 2
            have df3 := hbox6.frozen 3
            have df4 := hbox6.frozen 4
            have df5 := hbox6.frozen 5
            have df6 := hbox6.frozen 6
            have hz6 := HZ.out.kept hb6
            have e0 := hz6.cell 0
            have e1 := hz6.cell 1
            have e2 := hz6.cell 2
            have e3 := hz6.cell 3
            have e4 := hz6.cell 4
            have e5 := hz6.cell 5
            have e6 := hz6.cell 6
            unfold tkR at e0 e1 e2 e3 e4 e5 e6
            simp only [List.getElem?_toArray, List.getElem?_cons_zero, List.getElem?_cons_succ] at e0 e1 e2 e3 e4 e5 e6
            have HB6 := Lib.hid (HBS.out.trans (hb6.mono hnl6))
            have HX6 := Lib.hid hbox6
            clear hb6 hbox6 hz6
            go_wp2_with fail
            unfold tkR at HX6
            refine bodyPost_ret (res_rhead _ _ rfl rfl (row_set7 _ _ _ _ _ _ _ (.int .i64 (KI + 1)) (.int .i64 (numG x2)) (.int .i64 (numG x3)) (.int .i64 (numG x4)) (.int .i64 (numG x5)) (.int .i64 (numG x6)) (.slice none 0 0) HX6.out)) rfl ?_
            exact ⟨KI + 1, numG x2, numG x3, numG x4, numG x5, numG x6, by rw [HYES.out]; rfl, (fun t ht => by rw [HYES.out] at ht; exact (Option.some.inj ht).symm), by rw [hn]; exact below_s7 HB6.out n (Nat.le_refl _) _ _ _ _ _ _ _⟩
          · have HNO := Lib.hid (show readTG l = none by rw [hRD.out, if_neg (fun h => hls h.2)])
            have hst : (sH.toList == s.toList) = false := by rw [beq_eq_false_iff_ne, hSH, ByteArray.toList_eq, ByteArray.toList_eq, hl'.out]; simpa using hls
            clear hq hHs hls hSH
            have hbox6 := (HBX.out).kept hb6
            have d0 := hbox6.cell 0
            have d1 := hbox6.cell 1
            have d2 := hbox6.cell 2
            have d3 := hbox6.cell 3
            have d4 := hbox6.cell 4
            have d5 := hbox6.cell 5
            have d6 := hbox6.cell 6
            unfold tkR at d0 d1 d2 d3 d4 d5 d6
            simp only [List.getElem?_toArray, List.getElem?_cons_zero, List.getElem?_cons_succ] at d0 d1 d2 d3 d4 d5 d6
            have df0 := hbox6.frozen 0
            have df1 := hbox6.frozen 1
            have df2 := hbox6.frozen 2
            have df3 := hbox6.frozen 3
            have df4 := hbox6.frozen 4
            have df5 := hbox6.frozen 5
            have df6 := hbox6.frozen 6
            have hz6 := HZ.out.kept hb6
            have e0 := hz6.cell 0
            have e1 := hz6.cell 1
            have e2 := hz6.cell 2
            have e3 := hz6.cell 3
            have e4 := hz6.cell 4
            have e5 := hz6.cell 5
            have e6 := hz6.cell 6
            unfold tkR at e0 e1 e2 e3 e4 e5 e6
            simp only [List.getElem?_toArray, List.getElem?_cons_zero, List.getElem?_cons_succ] at e0 e1 e2 e3 e4 e5 e6
            have HB6 := Lib.hid (HBS.out.trans (hb6.mono hnl6))
            have HX6 := Lib.hid hbox6
            clear hb6 hbox6 hz6
            go_wp2_with fail
            unfold tkR at HX6
            refine bodyPost_ret (res_rhead _ _ rfl rfl (row_set7 _ _ _ _ _ _ _ (.int .i64 (KI + 1)) (.int .i64 (numG x2)) (.int .i64 (numG x3)) (.int .i64 (numG x4)) (.int .i64 (numG x5)) (.int .i64 (numG x6)) (.slice none 0 0) HX6.out)) rfl ?_
            exact ⟨KI + 1, numG x2, numG x3, numG x4, numG x5, numG x6, by rw [HNO.out]; rfl, (fun t ht => by rw [HNO.out] at ht; cases ht), by rw [hn]; exact below_s7 HB6.out n (Nat.le_refl _) _ _ _ _ _ _ _⟩
  · have HNO := Lib.hid (show readTG l = none by unfold readTG; rw [hq, if_neg (fun h => h7 h.1)])
    have t1 : ((q.length : Int) != 7) = true := by simp; omega
    have hsp' := Lib.hid hsp
    have hn0 := Lib.hid hqs
    clear hsp hq hqs hl
    go_enter Tryz.func45, Tryz.ntmps45
    go_wp2_with fail
    have hnew := RowB.new w (tkR 0 0 0 0 0 0) 46
    have hb0 := (Below.refl w.heap.size w).alloc (Nat.le_refl _) (.cells (tkR 0 0 0 0 0 0) 46)
    obtain ⟨w0, hw0⟩ : ∃ x, w.alloc (.cells (tkR 0 0 0 0 0 0) 46) = x := ⟨_, rfl⟩
    rw [hw0] at hnew hb0
    unfold tkR at hw0
    rw [hw0]
    obtain ⟨n, hn⟩ : ∃ n, w.heap.size = n := ⟨_, rfl⟩
    rw [hn] at hnew hb0 ⊢
    refine (hsp'.out _ (hM.below (by rw [hn]; exact hb0))).mono ?_
    rintro e w1 ⟨rfl, -, hb1⟩
    have HX := Lib.hid (hnew.kept hb1)
    have HB1 := Lib.hid (hb0.trans (hb1.mono (by have := hb0.size; omega)))
    have d0 := HX.out.cell 0
    have d1 := HX.out.cell 1
    have d2 := HX.out.cell 2
    have d3 := HX.out.cell 3
    have d4 := HX.out.cell 4
    have d5 := HX.out.cell 5
    have d6 := HX.out.cell 6
    unfold tkR at d0 d1 d2 d3 d4 d5 d6
    simp only [List.getElem?_toArray, List.getElem?_cons_zero, List.getElem?_cons_succ] at d0 d1 d2 d3 d4 d5 d6
    have df0 := HX.out.frozen 0
    have df1 := HX.out.frozen 1
    have df2 := HX.out.frozen 2
    have df3 := HX.out.frozen 3
    have df4 := HX.out.frozen 4
    have df5 := HX.out.frozen 5
    have df6 := HX.out.frozen 6
    clear hnew hb0 hb1 hw0
    go_wp2_with fail
    unfold tkR at HX
    refine bodyPost_ret (res_rhead _ _ rfl rfl (row_set7 _ _ _ _ _ _ _ (.int .i64 0) (.int .i64 0) (.int .i64 0) (.int .i64 0) (.int .i64 0) (.int .i64 0) (.slice none 0 0) HX.out)) rfl ?_
    exact ⟨0, 0, 0, 0, 0, 0, by rw [HNO.out]; rfl, (fun t ht => by rw [HNO.out] at ht; cases ht), by rw [hn]; exact below_s7 HB1.out n (Nat.le_refl _) _ _ _ _ _ _ _⟩

end Go.Proofs.YtfgmebjbibbpdaaGreatDoor

namespace Go.Proofs.YtfgmebjbibbpdaaGreatDoor
open Go.RowKit
attribute [local go_sem] Oper.semAt_some

theorem toB_get {ps : List (List UInt8)} {j : Nat} {z : ByteArray} (h : (toB ps)[j]? = some z) : ∃ x, ps[j]? = some x ∧ z = ⟨x.toArray⟩ := by
  unfold toB at h
  rw [List.getElem?_map] at h
  cases hx : ps[j]? with
  | none => rw [hx] at h; cases h
  | some x => rw [hx] at h; exact ⟨x, rfl, (Option.some.inj h).symm⟩
theorem sindex_any (b n : Nat) (ps : List (List UInt8)) (x : List UInt8) (w : World) (hn : n = ps.length) (hbig : ps.length ≤ 1000000) (hc : ∀ (j : Nat) y, ps[j]? = some y → w.cell? ⟨b, j, none⟩ = some (.string ⟨y.toArray⟩)) :
    Calls Tryz.prog 72 #[.slice (some ⟨b, 0, none⟩) n n, .string ⟨x.toArray⟩] w fun e w' => e = .returned (.int .i64 (idxF ps x)) ∧ w' = w := by
  have h := index_any b n (toB ps) ⟨x.toArray⟩ w (by rw [toB_len]; exact hn) (by rw [toB_len]; exact hbig) (fun j z hz => by
    obtain ⟨y, hy, rfl⟩ := toB_get hz
    exact hc j y hy)
  rw [show toB ps = ps.map fun p => (⟨p.toArray⟩ : ByteArray) from rfl, idx_F] at h
  exact h
theorem sjoin_any (A : Option Addr) (c : Nat) (ps : List (List UInt8)) (w : World) (hl : ps.length ≤ 1000000) (hc : ps.length ≤ c) (hj : (Lib.join ps [32]).length ≤ 1000000) (hs : SlOf strs w w.heap.size A (toB ps)) :
    Calls Tryz.prog 61 #[.slice A ps.length c, .string ⟨#[32]⟩] w fun e w' => e = .returned (.string ⟨(Lib.join ps [32]).toArray⟩) ∧ Below w.heap.size w w' := by
  cases hp : ps with
  | nil =>
    refine (Tryz.strings_Join_none A c ⟨#[32]⟩ w).mono ?_
    rintro e w' ⟨rfl, rfl⟩
    exact ⟨rfl, Below.refl _ _⟩
  | cons p r =>
    rw [← hp]
    obtain ⟨b, off, rfl, hb, _⟩ := hs 0 ⟨p.toArray⟩ (by rw [hp]; rfl)
    have h := Tryz.strings_Join b off c (toB ps) ⟨#[32]⟩ w (fun j x hx => by
      obtain ⟨b', off', he, _, h1⟩ := hs j x hx
      injection he with he
      injection he with e1 e2 e3
      subst e1 e2
      simpa [strs, Enc.of1] using h1 0 (.string x) rfl) hb (by rw [toB_len]; omega) (by rw [toB_len]; exact hc)
    rw [toB_len, show (toB ps).map (·.data.toList) = ps by unfold toB; rw [List.map_map]; exact List.map_id'' (fun _ => rfl) ps, show (⟨#[32]⟩ : ByteArray).data.toList = [32] from rfl] at h
    exact h (by omega)
theorem idxF_some {ws : List (List UInt8)} {w : List UInt8} {k : Nat} (h : idxF ws w = (k : Int)) : ws[k]? = some w := by
  unfold idxF at h
  cases hf : ws.findIdx? (fun x => x == w) with
  | none =>
    rw [hf] at h
    have h' : (-1 : Int) = (k : Int) := h
    omega
  | some i =>
    rw [hf] at h
    have h' : (i : Int) = (k : Int) := h
    have hik : i = k := by omega
    subst hik
    obtain ⟨hlt, h1, _⟩ := List.findIdx?_eq_some_iff_getElem.1 hf
    rw [List.getElem?_eq_getElem hlt]
    exact congrArg some (by simpa using h1)
theorem idxF_bd (ws : List (List UInt8)) (w : List UInt8) : -1 ≤ idxF ws w ∧ idxF ws w < ws.length := by
  unfold idxF
  cases hf : ws.findIdx? (fun x => x == w) with
  | none => exact ⟨by show (-1 : Int) ≤ -1; omega, by show (-1 : Int) < _; omega⟩
  | some i =>
    obtain ⟨hlt, _, _⟩ := List.findIdx?_eq_some_iff_getElem.1 hf
    exact ⟨by show (-1 : Int) ≤ (i : Int); omega, by show (i : Int) < _; omega⟩
/-- Where "readers" stands at 7 and "init" no earlier, "init" stands behind it. -/
theorem idx_behind {ws : List (List UInt8)} (h7 : idxF ws rdrW = 7) (hi : 7 ≤ idxF ws iniW) : 8 ≤ idxF ws iniW := by
  by_cases h : idxF ws iniW = 7
  · have h1 := idxF_some (k := 7) h7
    have h2 := idxF_some (k := 7) h
    rw [h1] at h2
    exact absurd (Option.some.inj h2) (by decide)
  · omega
theorem jtail_len (r : List (List UInt8)) : (Lib.join r [32]).length ≤ (Lib.joinTail [32] r).length := by
  cases r with
  | nil => exact Nat.zero_le _
  | cons x r => rw [Lib.join_cons]; simp [Lib.joinTail]
theorem join_drop_le (k : Nat) : ∀ ps : List (List UInt8), (Lib.join (ps.drop k) [32]).length ≤ (Lib.join ps [32]).length := by
  induction k with
  | zero => intro ps; exact Nat.le_refl _
  | succ k ih =>
    intro ps
    cases ps with
    | nil => exact Nat.le_refl _
    | cons x r =>
      rw [List.drop_succ_cons]
      refine Nat.le_trans (ih r) (Nat.le_trans (jtail_len r) ?_)
      rw [Lib.join_cons, List.length_append]
      omega
theorem drop_join_le (k : Nat) (l : List UInt8) : (Lib.join ((pcs 32 l).drop k) [32]).length ≤ l.length := by
  have := join_drop_le k (pcs 32 l)
  rw [join_pcs] at this
  exact this
theorem pcs_len_le (c : UInt8) (l : List UInt8) : (pcs c l).length ≤ l.length + 1 := by
  induction l with
  | nil => simp [pcs]
  | cons a l ih =>
    unfold pcs
    split
    · simp only [List.length_cons]; omega
    · simp only [List.length_cons, List.length_tail]; omega

end Go.Proofs.YtfgmebjbibbpdaaGreatDoor

namespace Go.Proofs.YtfgmebjbibbpdaaGreatDoor
open Go.RowKit
attribute [local go_sem] Oper.semAt_some

/-- A row of one's own, from lo on, that does not lie in nb. -/
def FarS (E : Enc Int) (t : TypeId) (w : World) (lo nb : Nat) (A : Option Addr) (n c : Nat) (l : List Int) : Prop := Own E t lo w (.slice A n c) l ∧ (Value.slice A n c).ownBlock ≠ some nb
theorem FarS.sl {E : Enc Int} {t : TypeId} {w : World} {lo nb n c : Nat} {A : Option Addr} {l : List Int} (h : FarS E t w lo nb A n c l) : SlOf E w w.heap.size A l := by
  obtain ⟨A', c', hv, _, _, hs⟩ := h.1.sl
  injection hv with h1
  rw [h1]
  exact hs
theorem FarS.below {E : Enc Int} {t : TypeId} {w w' : World} {lo nb n c : Nat} {A : Option Addr} {l : List Int} (h : FarS E t w lo nb A n c l) (hb : Below w.heap.size w w') : FarS E t w' lo nb A n c l := ⟨h.1.below hb (Nat.le_refl _), h.2⟩
theorem FarS.set {E : Enc Int} {t : TypeId} {w : World} {lo nb n c : Nat} {A : Option Addr} {l : List Int} (h : FarS E t w lo nb A n c l) (b j : Nat) (v : Value) (hb : b < lo ∨ b = nb) : FarS E t (w.setCell ⟨b, j, none⟩ v) lo nb A n c l := by
  refine ⟨?_, h.2⟩
  rcases hb with hb | rfl
  · exact ownsRow_setCell_below h.1 (a := ⟨b, j, none⟩) hb v
  · exact ownsRow_setCell_other h.1 (a := ⟨b, j, none⟩) h.2 v
theorem FarS.set8 {E : Enc Int} {t : TypeId} {w : World} {lo nb n c : Nat} {A : Option Addr} {l : List Int} (h : FarS E t w lo nb A n c l) (b : Nat) (hb : b < lo ∨ b = nb) (v0 v1 v2 v3 v4 v5 v6 v7 : Value) :
    FarS E t ((((((((w.setCell ⟨b, 0, none⟩ v0).setCell ⟨b, 1, none⟩ v1).setCell ⟨b, 2, none⟩ v2).setCell ⟨b, 3, none⟩ v3).setCell ⟨b, 4, none⟩ v4).setCell ⟨b, 5, none⟩ v5).setCell ⟨b, 6, none⟩ v6).setCell ⟨b, 7, none⟩ v7) lo nb A n c l :=
  (((((((h.set b 0 v0 hb).set b 1 v1 hb).set b 2 v2 hb).set b 3 v3 hb).set b 4 v4 hb).set b 5 v5 hb).set b 6 v6 hb).set b 7 v7 hb
theorem own_blk {E : Enc Int} {t : TypeId} {base : Nat} {w : World} {v : Value} {l : List Int} (h : Own E t base w v l) {b : Nat} (hb : v.ownBlock = some b) : base ≤ b ∧ b < w.heap.size := by
  rcases h.2 with ⟨e, _⟩ | ⟨g, cap, cur, e, hg, hh, _⟩
  · rw [e] at hb; cases hb
  · rw [e] at hb
    have : g = b := Option.some.inj hb
    subst this
    exact ⟨hg, (Array.getElem?_eq_some_iff.1 hh).1⟩
/-- Where the row was made ahead of the object. -/
theorem Own.farA {E : Enc Int} {t : TypeId} {base n c lo nb : Nat} {w : World} {A : Option Addr} {l : List Int} (h : Own E t base w (.slice A n c) l) (hlo : lo ≤ base) (hn : w.heap.size = nb) : FarS E t w lo nb A n c l :=
  ⟨h.mono hlo, fun e => by have := own_blk h e; omega⟩
/-- Where it was made behind it. -/
theorem Own.farB {E : Enc Int} {t : TypeId} {base n c lo nb : Nat} {w : World} {A : Option Addr} {l : List Int} (h : Own E t base w (.slice A n c) l) (hlo : lo ≤ base) (hn : nb < base) : FarS E t w lo nb A n c l :=
  ⟨h.mono hlo, fun e => by have := own_blk h e; omega⟩
theorem recG_len (ps : List (List UInt8)) : (recG ps).length ≤ (Lib.join ps [32]).length + 1 := by
  unfold recG
  split
  · unfold readL
    split
    · simp
    · rw [List.length_map]; exact pcs_len_le 32 _
  · simp
/-- record.Read of the words behind, however it ends. -/
theorem readG_any (ps : List (List UInt8)) (w : World) (lo nb : Nat) (hlo : lo ≤ w.heap.size) (hnb : nb < w.heap.size) (hs : (Lib.join ps [32]).length ≤ 1000000) :
    Calls Tryz.prog 74 #[.string ⟨(Lib.join ps [32]).toArray⟩, .int .i64 65536] w fun e w' => ∃ A c ok, e = .returned (.tuple #[.slice A (recG ps).length c, .bool ok]) ∧ FarS (ints .u32) 38 w' lo nb A (recG ps).length c (recG ps) ∧ ((recG ps).length ≤ c ∧ c ≤ maxLen) ∧ Below w.heap.size w w' :=
  (read_any ⟨(Lib.join ps [32]).toArray⟩ 65536 w (by show (Lib.join ps [32]).toArray.size ≤ _; rw [List.size_toArray]; exact hs) (by omega) (by omega)).mono fun e w' ⟨v, he, h1, h2, hb⟩ => by
    rw [show (⟨(Lib.join ps [32]).toArray⟩ : ByteArray).data.toList = Lib.join ps [32] from rfl] at he h1 h2
    rcases hok : readB 65536 (Lib.join ps [32]) with _ | _
    · have hr : recG ps = [] := by unfold recG; rw [hok]; rfl
      rw [hr]
      rw [h2 hok] at he
      exact ⟨none, 0, _, he, ⟨Own.nil _ _, fun e => by cases e⟩, ⟨by simp, by simp [maxLen]⟩, hb⟩
    · have hr : recG ps = readL (Lib.join ps [32]) := by unfold recG; rw [hok]; rfl
      rw [hr]
      have ho := h1 hok
      obtain ⟨A, c, hv, hc, _⟩ := ho.ws
      subst hv
      exact ⟨A, c, _, he, Own.farB ho.1 hlo hnb, hc, hb⟩
theorem recG_wf (ps : List (List UInt8)) : ∀ z ∈ recG ps, (Lit.int .u32 z).wf = true := fun z hz => by
  have := recG_bd ps z hz
  exact u32_to this.1 this.2
theorem kidx_bd (x : List UInt8) : -1 ≤ kidx x ∧ kidx x ≤ 5 := by
  unfold kidx
  cases h : kindsT.findIdx? fun z => z == x with
  | none => simp
  | some k =>
    have := (List.findIdx?_eq_some_iff_getElem.1 h).1
    simp [kindsT] at this
    simp
    omega

end Go.Proofs.YtfgmebjbibbpdaaGreatDoor

namespace Go.Proofs.YtfgmebjbibbpdaaGreatDoor
open Go.RowKit

/-! ### rows of a type -/
section
variable {α β : Type}
def SlT (E : Enc α) (ty : TypeId) (w : World) (lo N : Nat) (A : Option Addr) (l : List α) : Prop :=
  ∀ k x, l[k]? = some x → ∃ b off cur, A = some ⟨b, off, none⟩ ∧ (lo ≤ b ∧ b < N) ∧ w.heap[b]? = some (.cells cur ty (0, 0)) ∧ ∀ j u, (E.cells x)[j]? = some u → cur[off + (k * E.size + j)]? = some u
/-- Rows of the type stay as they are. -/
def KeepT (lo : Nat) (ty : TypeId) (w w' : World) : Prop := ∀ (b : Nat) (cur : Array Value), lo ≤ b → w.heap[b]? = some (.cells cur ty (0, 0)) → w'.heap[b]? = some (.cells cur ty (0, 0))
theorem KeepT.refl (lo : Nat) (ty : TypeId) (w : World) : KeepT lo ty w w := fun _ _ _ h => h
theorem KeepT.trans {lo : Nat} {ty : TypeId} {w w' w'' : World} (h : KeepT lo ty w w') (h' : KeepT lo ty w' w'') : KeepT lo ty w w'' := fun b cur hl hb => h' b cur hl (h b cur hl hb)
theorem KeepT.below {lo : Nat} {w w' : World} (hb : Below w.heap.size w w') (ty : TypeId) : KeepT lo ty w w' := fun b _ _ h => (hb.block b (Array.getElem?_eq_some_iff.1 h).1).trans h
theorem KeepT.set {lo : Nat} {w : World} {b : Nat} {arr : Array Value} {ty' : TypeId} (h : RowB w b arr ty') {ty : TypeId} (ht : ty' ≠ ty) (j : Nat) (v : Value) : KeepT lo ty w (w.setCell ⟨b, j, none⟩ v) := fun g cur _ hg => by
  rw [heap_set w b j v g ?_]
  · exact hg
  · intro e
    subst e
    have h1 : w.heap[g]? = some (.cells arr ty' (0, 0)) := h
    rw [hg] at h1
    injection h1 with h1
    injection h1 with _ h2
    exact ht h2.symm
theorem KeepT.app {lo : Nat} {w w' : World} {base size n : Nat} {v : Value} {xs : List Value} {ty' : TypeId} (h : w.ownsRow base ty' size v n xs) {ty : TypeId} (ht : ty' ≠ ty) (hk : ∀ k, k < w.heap.size → some k ≠ v.ownBlock → w'.heap[k]? = w.heap[k]?) : KeepT lo ty w w' := fun g cur _ hg => by
  rw [hk g (Array.getElem?_eq_some_iff.1 hg).1 ?_]
  · exact hg
  · intro e
    rcases h.2 with ⟨rfl, _⟩ | ⟨g', cap, cur', rfl, _, hh, _⟩
    · simp [Value.ownBlock] at e
    · obtain rfl : g = g' := by simpa [Value.ownBlock] using e
      rw [hh] at hg
      injection hg with hg
      injection hg with _ h2
      exact ht h2
theorem SlT.keep {E : Enc α} {ty : TypeId} {w w' : World} {lo N N' : Nat} {A : Option Addr} {l : List α} (h : SlT E ty w lo N A l) (hk : KeepT lo ty w w') (hN : N ≤ N') : SlT E ty w' lo N' A l := fun k x hx => by
  obtain ⟨b, off, cur, hA, hb, hh, hc⟩ := h k x hx
  exact ⟨b, off, cur, hA, by omega, hk b cur hb.1 hh, hc⟩
/-- What lies below N, where blocks below N stay as they are. -/
theorem SlT.low {E : Enc α} {ty : TypeId} {w w' : World} {lo N : Nat} {A : Option Addr} {l : List α} (h : SlT E ty w lo N A l) (hk : ∀ b, b < N → w'.heap[b]? = w.heap[b]?) : SlT E ty w' lo N A l := fun k x hx => by
  obtain ⟨b, off, cur, hA, hb, hh, hc⟩ := h k x hx
  exact ⟨b, off, cur, hA, hb, (hk b hb.2).trans hh, hc⟩
theorem SlT.nil (E : Enc α) (ty : TypeId) (w : World) (lo N : Nat) (A : Option Addr) : SlT E ty w lo N A [] := fun k x h => by simp at h
theorem SlT.sl {E : Enc α} {ty : TypeId} {w : World} {lo N : Nat} {A : Option Addr} {l : List α} (h : SlT E ty w lo N A l) : SlOf E w N A l := fun k x hx => by
  obtain ⟨b, off, cur, hA, hb, hh, hc⟩ := h k x hx
  exact ⟨b, off, hA, hb.2, fun j u hu => (RowB.cell (w := w) (n := b) hh _).trans (hc j u hu)⟩
theorem own_keepT {E : Enc α} {ty : TypeId} {w w' : World} {lo base : Nat} {v : Value} {l : List α} (h : Own E ty base w v l) (hk : KeepT lo ty w w') (hlb : lo ≤ base := by first | exact Nat.le_refl _ | assumption) : Own E ty base w' v l := by
  refine ⟨h.1, ?_⟩
  rcases h.2 with h2 | ⟨g, cap, cur, hv, hg, hh, r⟩
  · exact .inl h2
  · exact .inr ⟨g, cap, cur, hv, hg, hk g cur (Nat.le_trans hlb hg) hh, r⟩
theorem Own.slT {E : Enc α} {ty : TypeId} {w : World} {base n c : Nat} {A : Option Addr} {l : List α} (h : Own E ty base w (.slice A n c) l) {lo : Nat} (hlb : lo ≤ base) : SlT E ty w lo w.heap.size A l := fun k x hx => by
  rcases h.2 with ⟨_, h0⟩ | ⟨g, cap, cur, hv, hg, hh, hcap, hmax, hsz, htk⟩
  · rw [List.eq_nil_of_length_eq_zero h0] at hx
    simp at hx
  · injection hv with hA hn hc
    refine ⟨g, 0, cur, hA, ⟨Nat.le_trans hlb hg, (Array.getElem?_eq_some_iff.1 hh).1⟩, hh, fun j u hu => ?_⟩
    have hj : j < E.size := by rw [← E.len x]; exact get_lt hu
    have h1 := E.all_get l k x hx j hj
    rw [hu, ← htk, List.getElem?_take] at h1
    split at h1
    · rw [Nat.zero_add, ← Array.getElem?_toList]; exact h1
    · cases h1
theorem Own.bd {E : Enc α} {ty : TypeId} {w : World} {base n c : Nat} {A : Option Addr} {l : List α} (h : Own E ty base w (.slice A n c) l) : n = l.length ∧ n ≤ c ∧ c ≤ maxLen := by
  obtain ⟨A', c', hv, hc, _, _⟩ := h.sl
  injection hv with h1 h2 h3
  subst h2 h3
  exact ⟨rfl, hc⟩
theorem Own.blk {E : Enc α} {ty : TypeId} {w : World} {base : Nat} {v : Value} {l : List α} (h : Own E ty base w v l) {b : Nat} (hb : v.ownBlock = some b) : base ≤ b ∧ b < w.heap.size := World.ownsRow.lt h b hb
theorem Own.row {E : Enc α} {ty : TypeId} {w : World} {base : Nat} {v : Value} {l : List α} (h : Own E ty base w v l) {b : Nat} (hb : v.ownBlock = some b) : ∃ cur, RowB w b cur ty := by
  rcases h.2 with ⟨e, _⟩ | ⟨g, cap, cur, e, hg, hh, _⟩
  · rw [e] at hb; cases hb
  · rw [e] at hb
    have : g = b := Option.some.inj hb
    subst this
    exact ⟨cur, hh⟩
/-- Element for element. -/
def AllP (R : α → β → Prop) (l : List α) (m : List β) : Prop := l.length = m.length ∧ ∀ (k : Nat) a b, l[k]? = some a → m[k]? = some b → R a b
theorem AllP.nil (R : α → β → Prop) : AllP R [] [] := ⟨rfl, fun k a b h => by simp at h⟩
theorem AllP.imp {R R' : α → β → Prop} {l : List α} {m : List β} (h : AllP R l m) (hi : ∀ a b, R a b → R' a b) : AllP R' l m := ⟨h.1, fun k a b ha hb => hi a b (h.2 k a b ha hb)⟩
theorem AllP.snoc {R : α → β → Prop} {l : List α} {m : List β} {a : α} {b : β} (h : AllP R l m) (hab : R a b) : AllP R (l ++ [a]) (m ++ [b]) := by
  refine ⟨by simp [h.1], fun k x y hx hy => ?_⟩
  by_cases hk : k < l.length
  · rw [List.getElem?_append_left hk] at hx
    rw [List.getElem?_append_left (by rw [← h.1]; exact hk)] at hy
    exact h.2 k x y hx hy
  · rw [List.getElem?_append_right (by omega)] at hx
    rw [List.getElem?_append_right (by rw [← h.1]; omega), ← h.1] at hy
    have hk0 : k - l.length = 0 := by
      have := get_lt hx
      simp at this
      omega
    rw [hk0] at hx hy
    simp at hx hy
    subst hx hy
    exact hab
theorem AllP.get {R : α → β → Prop} {l : List α} {m : List β} (h : AllP R l m) {k : Nat} {b : β} (hb : m[k]? = some b) : ∃ a, l[k]? = some a ∧ R a b := by
  have hk : k < l.length := by rw [h.1]; exact get_lt hb
  exact ⟨l[k], List.getElem?_eq_getElem hk, h.2 k _ b (List.getElem?_eq_getElem hk) hb⟩
end

/-! ### tasks and objects in cells -/
structure Tq where
  kd : Int
  pr : Int
  pe : Int
  off : Int
  dl : Int
  ow : Int
  A : Option Addr
  n : Nat
  c : Nat
structure Oq where
  kd : Int
  wd : Int
  sl : Int
  cp : Int
  st : Int
  I : Option Addr
  ni : Nat
  ci : Nat
  wr : Int
  R : Option Addr
  nr : Nat
  cr : Nat
def Tq.cells (q : Tq) : List Value := [.int .i64 q.kd, .int .i64 q.pr, .int .i64 q.pe, .int .i64 q.off, .int .i64 q.dl, .int .i64 q.ow, .slice q.A q.n q.c]
def Oq.cells (q : Oq) : List Value := [.int .i64 q.kd, .int .i64 q.wd, .int .i64 q.sl, .int .i64 q.cp, .int .u32 q.st, .slice q.I q.ni q.ci, .int .i64 q.wr, .slice q.R q.nr q.cr]
def tqE : Enc Tq := ⟨Tq.cells, 7, fun _ => rfl, fun x u hu => by
  simp only [Tq.cells, List.mem_cons, List.not_mem_nil, or_false] at hu
  rcases hu with rfl | rfl | rfl | rfl | rfl | rfl | rfl <;> rfl, by omega⟩
def oqE : Enc Oq := ⟨Oq.cells, 8, fun _ => rfl, fun x u hu => by
  simp only [Oq.cells, List.mem_cons, List.not_mem_nil, or_false] at hu
  rcases hu with rfl | rfl | rfl | rfl | rfl | rfl | rfl | rfl <;> rfl, by omega⟩
theorem tkTy : ElemTy Tryz.prog 22 46 7 72 := ElemTy.of (z := .agg #[.int .i64 0, .int .i64 0, .int .i64 0, .int .i64 0, .int .i64 0, .int .i64 0, .slice none 0 0]) Tryz.underlying22 (by kernel_rfl) rfl (by omega)
theorem ojTy : ElemTy Tryz.prog 23 42 8 96 := ElemTy.of (z := .agg #[.int .i64 0, .int .i64 0, .int .i64 0, .int .i64 0, .int .u32 0, .slice none 0 0, .int .i64 0, .slice none 0 0]) Tryz.underlying23 (by kernel_rfl) rfl (by omega)
def TqS (q : Tq) (t : Tk) : Prop := q.kd = t.kd ∧ q.pr = t.pr ∧ q.pe = t.pe ∧ q.off = t.off ∧ q.dl = t.dl ∧ q.ow = t.ow
def i64B (z : Int) : Prop := -9223372036854775808 ≤ z ∧ z ≤ 9223372036854775807
structure TqOk (w : World) (lo N : Nat) (q : Tq) (t : Tk) : Prop where
  sc : TqS q t
  n : q.n = t.code.length
  c : q.n ≤ q.c ∧ q.c ≤ maxLen
  code : SlT insE 73 w lo N q.A t.code
  ok : ∀ e ∈ t.code, e.ok
  bd : ∀ z ∈ t.kd :: t.five, i64B z
structure OqOk (w : World) (lo N : Nat) (q : Oq) (o : Oj) : Prop where
  sc : q.kd = o.kd ∧ q.wd = o.wd ∧ q.sl = o.sl ∧ q.cp = o.cp ∧ q.st = o.st ∧ q.wr = o.wr
  ni : q.ni = o.ini.length
  ci : q.ni ≤ q.ci ∧ q.ci ≤ maxLen
  ini : SlT (ints .u32) 38 w lo N q.I o.ini
  wf : ∀ z ∈ o.ini, (Lit.int .u32 z).wf = true
  nr : q.nr = o.rd.length
  cr : q.nr ≤ q.cr ∧ q.cr ≤ maxLen
  rd : SlT (ints .i64) 3 w lo N q.R o.rd
  st : 0 ≤ o.st ∧ o.st < 4294967296
  bd : ∀ z ∈ o.kd :: o.wd :: o.sl :: o.cp :: o.wr :: o.rd, i64B z
theorem TqOk.keep {w w' : World} {lo N N' : Nat} {q : Tq} {t : Tk} (h : TqOk w lo N q t) (hk : KeepT lo 73 w w') (hN : N ≤ N') : TqOk w' lo N' q t := ⟨h.sc, h.n, h.c, h.code.keep hk hN, h.ok, h.bd⟩
theorem TqOk.low {w w' : World} {lo N : Nat} {q : Tq} {t : Tk} (h : TqOk w lo N q t) (hk : ∀ b, b < N → w'.heap[b]? = w.heap[b]?) : TqOk w' lo N q t := ⟨h.sc, h.n, h.c, h.code.low hk, h.ok, h.bd⟩
theorem OqOk.keep {w w' : World} {lo N N' : Nat} {q : Oq} {o : Oj} (h : OqOk w lo N q o) (h1 : KeepT lo 38 w w') (h2 : KeepT lo 3 w w') (hN : N ≤ N') : OqOk w' lo N' q o := ⟨h.sc, h.ni, h.ci, h.ini.keep h1 hN, h.wf, h.nr, h.cr, h.rd.keep h2 hN, h.st, h.bd⟩

/-! ### a reader -/
abbrev tyR : TypeId := 65
abbrev tyT : TypeId := 46
abbrev tyO : TypeId := 42
abbrev tyI : TypeId := 73
/-- No task is open. -/
structure RdC (w : World) (lo rb : Nat) (vt vo : Value) (qs : List Tq) (ps : List Oq) (s : Sy) : Prop where
  hr : RowB w rb #[vt, vo, .bool false] tyR
  ht : Own tqE tyT lo w vt qs
  ho : Own oqE tyO lo w vo ps
  hts : AllP (TqOk w lo w.heap.size) qs s.ts
  hos : AllP (OqOk w lo w.heap.size) ps s.os
/-- What is held of the task that is open. -/
structure OpT (w : World) (N : Nat) (q : Tq) (t : Tk) : Prop where
  sc : TqS q t
  code : Own insE tyI N w (.slice q.A q.n q.c) t.code
  ok : ∀ e ∈ t.code, e.ok
  bd : ∀ z ∈ t.kd :: t.five, i64B z
structure RdO (w : World) (lo rb N : Nat) (vt vo : Value) (qs : List Tq) (q : Tq) (ts : List Tk) (t : Tk) : Prop where
  hN : N ≤ w.heap.size
  hlo : lo ≤ N
  hr : RowB w rb #[vt, vo, .bool true] tyR
  ht : Own tqE tyT lo w vt (qs ++ [q])
  ho : Own oqE tyO lo w vo []
  hts : AllP (TqOk w lo N) qs ts
  hop : OpT w N q t
theorem OpT.closed {w : World} {lo N : Nat} {q : Tq} {t : Tk} (h : OpT w N q t) (hlo : lo ≤ N) : TqOk w lo w.heap.size q t := ⟨h.sc, h.code.bd.1, h.code.bd.2, h.code.slT hlo, h.ok, h.bd⟩
/-- What was there stays; what is new is new. -/
theorem RdC.below {w w' : World} {lo rb : Nat} {vt vo : Value} {qs : List Tq} {ps : List Oq} {s : Sy} (h : RdC w lo rb vt vo qs ps s) (hb : Below w.heap.size w w') : RdC w' lo rb vt vo qs ps s :=
  ⟨h.hr.kept hb, own_keepT h.ht (KeepT.below (lo := lo) hb _), own_keepT h.ho (KeepT.below (lo := lo) hb _), h.hts.imp fun a b h => h.keep (KeepT.below (lo := lo) hb _) hb.size, h.hos.imp fun a b h => h.keep (KeepT.below (lo := lo) hb _) (KeepT.below (lo := lo) hb _) hb.size⟩
theorem RdO.below {w w' : World} {lo rb N : Nat} {vt vo : Value} {qs : List Tq} {q : Tq} {ts : List Tk} {t : Tk} (h : RdO w lo rb N vt vo qs q ts t) (hb : Below w.heap.size w w') : RdO w' lo rb N vt vo qs q ts t :=
  ⟨Nat.le_trans h.hN hb.size, h.hlo, h.hr.kept hb, own_keepT h.ht (KeepT.below (lo := lo) hb _), own_keepT h.ho (KeepT.below (lo := lo) hb _), h.hts.imp fun a b h => h.keep (KeepT.below (lo := lo) hb _) (Nat.le_refl _), ⟨h.hop.sc, own_keepT (lo := lo) h.hop.code (KeepT.below (lo := lo) hb _) h.hlo, h.hop.ok, h.hop.bd⟩⟩
/-- What lies from lo on stays, and the reader's own block. -/
theorem RdC.keep {w w' : World} {lo rb : Nat} {vt vo : Value} {qs : List Tq} {ps : List Oq} {s : Sy} (h : RdC w lo rb vt vo qs ps s) (hr : w'.heap[rb]? = w.heap[rb]?) (hk : ∀ ty, KeepT lo ty w w') (hs : w.heap.size ≤ w'.heap.size) : RdC w' lo rb vt vo qs ps s :=
  ⟨hr.trans h.hr, own_keepT h.ht (hk _), own_keepT h.ho (hk _), h.hts.imp fun a b h => h.keep (hk _) hs, h.hos.imp fun a b h => h.keep (hk _) (hk _) hs⟩
theorem RdO.keep {w w' : World} {lo rb N : Nat} {vt vo : Value} {qs : List Tq} {q : Tq} {ts : List Tk} {t : Tk} (h : RdO w lo rb N vt vo qs q ts t) (hr : w'.heap[rb]? = w.heap[rb]?) (hk : ∀ ty, KeepT lo ty w w') (hs : w.heap.size ≤ w'.heap.size) : RdO w' lo rb N vt vo qs q ts t :=
  ⟨Nat.le_trans h.hN hs, h.hlo, hr.trans h.hr, own_keepT h.ht (hk _), own_keepT h.ho (hk _), h.hts.imp fun a b h => h.keep (hk _) (Nat.le_refl _), ⟨h.hop.sc, own_keepT h.hop.code (hk _) h.hlo, h.hop.ok, h.hop.bd⟩⟩
/-- The open task is closed. -/
theorem RdO.close {w : World} {lo rb N : Nat} {vt vo : Value} {qs : List Tq} {q : Tq} {ts : List Tk} {t : Tk} (h : RdO w lo rb N vt vo qs q ts t) : RdC (w.setCell ⟨rb, 2, none⟩ (.bool false)) lo rb vt vo (qs ++ [q]) [] ⟨ts ++ [t], []⟩ := by
  have k : ∀ ty, tyR ≠ ty → KeepT lo ty w (w.setCell ⟨rb, 2, none⟩ (.bool false)) := fun ty hne => KeepT.set h.hr hne 2 _
  have hs := size_set w rb 2 (.bool false)
  exact ⟨h.hr.set 2 (.bool false), own_keepT h.ht (k _ (by decide)), own_keepT h.ho (k _ (by decide)),
    (h.hts.imp fun a b hab => hab.keep (k _ (by decide)) (by rw [hs]; exact h.hN)).snoc ((h.hop.closed h.hlo).keep (k _ (by decide)) (by rw [hs]; exact Nat.le_refl _)), AllP.nil _⟩
theorem own_setlast {w : World} {lo tb c : Nat} {A : Option Addr} {n : Nat} {vt : Value} {qs : List Tq} {q : Tq} (h : Own tqE tyT lo w vt (qs ++ [q])) (hv : vt.ownBlock = some tb) :
    Own tqE tyT lo (w.setCell ⟨tb, qs.length * 7 + 6, none⟩ (.slice A n c)) vt (qs ++ [⟨q.kd, q.pr, q.pe, q.off, q.dl, q.ow, A, n, c⟩]) := by
  obtain ⟨h1, h2⟩ := h
  refine ⟨by rw [Enc.all_len], ?_⟩
  rcases h2 with ⟨e, _⟩ | ⟨g, cap, cur, hv', hg, hh, hcap, hmax, hsz, htk⟩
  · rw [e] at hv; cases hv
  · rw [hv'] at hv
    have : g = tb := Option.some.inj hv
    subst this
    refine .inr ⟨g, cap, cur.setIfInBounds (qs.length * 7 + 6) (.slice A n c), by rw [hv']; simp, hg, RowB.set hh _ _, by simpa using hcap, hmax, by rw [Array.size_setIfInBounds]; exact hsz, ?_⟩
    have hl : (tqE.all qs).length = qs.length * 7 := tqE.all_len qs
    have e1 : (qs ++ [(⟨q.kd, q.pr, q.pe, q.off, q.dl, q.ow, A, n, c⟩ : Tq)]).length * tqE.size = (qs ++ [q]).length * tqE.size := by simp
    rw [Array.toList_setIfInBounds, e1, List.take_set, htk, Enc.all_append, Enc.all_append, List.set_append_right _ _ (by rw [hl]; omega), hl, show qs.length * 7 + 6 - qs.length * 7 = 6 by omega]
    rfl
/-- An instruction more in the open task. -/
theorem RdO.code {w w1 : World} {lo rb N tb n c : Nat} {A : Option Addr} {vt vo : Value} {qs : List Tq} {q : Tq} {ts : List Tk} {t : Tk} {e : Ins} (h : RdO w lo rb N vt vo qs q ts t) (hrb : rb < lo) (hv : vt.ownBlock = some tb)
    (hw : Own insE tyI N w1 (.slice A n c) (t.code ++ [e])) (hk : ∀ k, k < w.heap.size → some k ≠ (Value.slice q.A q.n q.c).ownBlock → w1.heap[k]? = w.heap[k]?) (hs : w.heap.size ≤ w1.heap.size) (he : e.ok) :
    RdO (w1.setCell ⟨tb, qs.length * 7 + 6, none⟩ (.slice A n c)) lo rb N vt vo qs ⟨q.kd, q.pr, q.pe, q.off, q.dl, q.ow, A, n, c⟩ ts (t.snoc e) := by
  have kt : ∀ ty, tyI ≠ ty → KeepT lo ty w w1 := fun ty hne => KeepT.app h.hop.code hne hk
  have ht1 := own_keepT h.ht (kt tyT (by decide))
  obtain ⟨cur, hcur⟩ := ht1.row hv
  have ks : ∀ ty, tyT ≠ ty → KeepT lo ty w1 (w1.setCell ⟨tb, qs.length * 7 + 6, none⟩ (.slice A n c)) := fun ty hne => KeepT.set hcur hne _ _
  have hz := size_set w1 tb (qs.length * 7 + 6) (.slice A n c)
  have hN := h.hN
  have hlo := h.hlo
  have htb := (ht1.blk hv).1
  have low : ∀ b, b < N → b < w.heap.size → w1.heap[b]? = w.heap[b]? := fun b hb hb2 => hk b hb2 (fun ee => by
    have := h.hop.code.blk ee.symm
    omega)
  have hr1 : RowB w1 rb #[vt, vo, .bool true] tyR := (low rb (by omega) (by omega)).trans h.hr
  refine ⟨by omega, hlo, hr1.other _ _ _ (by omega), own_setlast ht1 hv, own_keepT (own_keepT h.ho (kt _ (by decide))) (ks _ (by decide)), ?_, ⟨h.hop.sc, own_keepT hw (ks _ (by decide)) hlo, ?_, h.hop.bd⟩⟩
  · exact h.hts.imp fun a b hab => (hab.low (fun x hx => low x hx (by omega))).keep (ks _ (by decide)) (Nat.le_refl _)
  · intro x hx
    rcases List.mem_append.1 hx with hx | hx
    · exact h.hop.ok x hx
    · rw [List.mem_singleton.1 hx]; exact he
/-- A task more, which is open. -/
theorem RdC.task {w w1 : World} {lo rb : Nat} {vt vo vt' : Value} {qs : List Tq} {ps : List Oq} {s : Sy} {t : Tk} (h : RdC w lo rb vt vo qs ps s) (hrb : rb < lo) (hlo : lo ≤ w.heap.size) (hos : s.os = []) (hc : t.code = []) (hbd : ∀ z ∈ t.kd :: t.five, i64B z)
    (hw : Own tqE tyT lo w1 vt' (qs ++ [⟨t.kd, t.pr, t.pe, t.off, t.dl, t.ow, none, 0, 0⟩])) (hk : ∀ k, k < w.heap.size → some k ≠ vt.ownBlock → w1.heap[k]? = w.heap[k]?) (hs : w.heap.size ≤ w1.heap.size) :
    RdO ((w1.setCell ⟨rb, 0, none⟩ vt').setCell ⟨rb, 2, none⟩ (.bool true)) lo rb w1.heap.size vt' vo qs ⟨t.kd, t.pr, t.pe, t.off, t.dl, t.ow, none, 0, 0⟩ s.ts t := by
  have kt : ∀ ty, tyT ≠ ty → KeepT lo ty w w1 := fun ty hne => KeepT.app h.ht hne hk
  have hr1 : RowB w1 rb #[vt, vo, .bool false] tyR := (hk rb (by have := h.hr.lt; omega) (fun ee => by have := h.ht.blk ee.symm; omega)).trans h.hr
  have hr2 := hr1.set 0 vt'
  have ks : ∀ ty, tyR ≠ ty → KeepT lo ty w1 ((w1.setCell ⟨rb, 0, none⟩ vt').setCell ⟨rb, 2, none⟩ (.bool true)) := fun ty hne => (KeepT.set hr1 hne 0 vt').trans (KeepT.set hr2 hne 2 _)
  have hps : ps = [] := by
    have := h.hos.1
    rw [hos] at this
    exact List.eq_nil_of_length_eq_zero this
  have ho := h.ho
  rw [hps] at ho
  refine ⟨by rw [size_set, size_set]; exact Nat.le_refl _, by omega, hr2.set 2 (.bool true), own_keepT hw (ks _ (by decide)), own_keepT (own_keepT ho (kt _ (by decide))) (ks _ (by decide)), ?_, ⟨⟨rfl, rfl, rfl, rfl, rfl, rfl⟩, ?_, ?_, hbd⟩⟩
  · exact h.hts.imp fun a b hab => (hab.keep (kt _ (by decide)) hs).keep (ks _ (by decide)) (Nat.le_refl _)
  · rw [hc]; exact Own.nil _ _
  · rw [hc]; intro e he; cases he
/-- An object more. -/
theorem RdC.obj {w w1 : World} {lo rb : Nat} {vt vo vo' : Value} {qs : List Tq} {ps : List Oq} {s : Sy} {q : Oq} {o : Oj} (h : RdC w lo rb vt vo qs ps s) (hrb : rb < lo) (_hlo : lo ≤ w.heap.size) (hq : OqOk w lo w.heap.size q o)
    (hw : Own oqE tyO lo w1 vo' (ps ++ [q])) (hk : ∀ k, k < w.heap.size → some k ≠ vo.ownBlock → w1.heap[k]? = w.heap[k]?) (hs : w.heap.size ≤ w1.heap.size) :
    RdC (w1.setCell ⟨rb, 1, none⟩ vo') lo rb vt vo' qs (ps ++ [q]) ⟨s.ts, s.os ++ [o]⟩ := by
  have kt : ∀ ty, tyO ≠ ty → KeepT lo ty w w1 := fun ty hne => KeepT.app h.ho hne hk
  have hr1 : RowB w1 rb #[vt, vo, .bool false] tyR := (hk rb (by have := h.hr.lt; omega) (fun ee => by have := h.ho.blk ee.symm; omega)).trans h.hr
  have ks : ∀ ty, tyR ≠ ty → KeepT lo ty w1 (w1.setCell ⟨rb, 1, none⟩ vo') := fun ty hne => KeepT.set hr1 hne 1 vo'
  have hz := size_set w1 rb 1 vo'
  refine ⟨hr1.set 1 vo', own_keepT (own_keepT h.ht (kt _ (by decide))) (ks _ (by decide)), own_keepT hw (ks _ (by decide)), ?_, ?_⟩
  · exact h.hts.imp fun a b hab => (hab.keep (kt _ (by decide)) hs).keep (ks _ (by decide)) (by omega)
  · refine AllP.snoc (h.hos.imp fun a b hab => (hab.keep (kt _ (by decide)) (kt _ (by decide)) hs).keep (ks _ (by decide)) (ks _ (by decide)) (by omega)) ?_
    exact (hq.keep (kt _ (by decide)) (kt _ (by decide)) hs).keep (ks _ (by decide)) (ks _ (by decide)) (by omega)

/-! ### what is left as it was -/
structure FrR (lo rb : Nat) (w w' : World) : Prop where
  low : ∀ j, j < lo → j ≠ rb → w'.heap[j]? = w.heap[j]?
  rest : KeepsOthers w w'
  bel : Below rb w w'
theorem FrR.trans {lo rb : Nat} {w w' w'' : World} (h : FrR lo rb w w') (h' : FrR lo rb w' w'') : FrR lo rb w w'' := ⟨fun j h1 h2 => (h'.low j h1 h2).trans (h.low j h1 h2), h.rest.trans h'.rest, h.bel.trans h'.bel⟩
theorem FrR.below {lo rb : Nat} {w w' : World} (hb : Below w.heap.size w w') (hlo : lo ≤ w.heap.size) (hrb : rb ≤ lo) : FrR lo rb w w' :=
  ⟨fun j h1 _ => hb.block j (by omega), ⟨hb.size, fun k o hk _ => (hb.block k (Array.getElem?_eq_some_iff.1 hk).1).trans hk⟩, hb.mono (by omega)⟩
theorem FrR.set {lo rb : Nat} {w : World} {b : Nat} (j : Nat) (v : Value) (hb : b = rb ∨ lo ≤ b) (hrb : rb ≤ lo) : FrR lo rb w (w.setCell ⟨b, j, none⟩ v) :=
  ⟨fun i h1 h2 => heap_set w b j v i (by omega), KeepsOthers.setCell _ _ _, below_set1 (Below.refl _ _) b j (by omega) v⟩
theorem FrR.app {lo rb base size n : Nat} {ty : TypeId} {w w' : World} {v : Value} {xs : List Value} (h : w.ownsRow base ty size v n xs) (hb : Below base w w') (hk : ∀ k, k < w.heap.size → some k ≠ v.ownBlock → w'.heap[k]? = w.heap[k]?) (hlo : lo ≤ base) (hrb : rb ≤ lo) : FrR lo rb w w' := by
  refine ⟨fun j h1 _ => hb.block j (by omega), ⟨hb.size, fun k o hk' ho => ?_⟩, hb.mono (by omega)⟩
  rw [hk k (Array.getElem?_eq_some_iff.1 hk').1 ?_]
  · exact hk'
  · intro e
    rcases h.2 with ⟨rfl, _⟩ | ⟨g, cap, cur, rfl, _, hh, _⟩
    · simp [Value.ownBlock] at e
    · obtain rfl : k = g := by simpa [Value.ownBlock] using e
      rw [hh] at hk'
      cases hk'
      cases ho

/-! ### handed out -/
theorem RdC.tks {w : World} {lo rb : Nat} {vt vo : Value} {qs : List Tq} {ps : List Oq} {s : Sy} (h : RdC w lo rb vt vo qs ps s) : ∃ A c, vt = .slice A s.ts.length c ∧ TkSl w w.heap.size A s.ts := by
  obtain ⟨A, c, hv, hc, _, hs⟩ := h.ht.sl
  rw [h.hts.1] at hv
  refine ⟨A, c, hv, fun k t ht => ?_⟩
  obtain ⟨q, hq, hok⟩ := h.hts.get ht
  obtain ⟨b, off, hA, hb, hcl⟩ := hs k q hq
  obtain ⟨s1, s2, s3, s4, s5, s6⟩ := hok.sc
  refine ⟨b, off, q.A, q.c, hA, hb, ⟨?_, ?_, ?_, ?_, ?_, ?_, ?_⟩, ⟨hok.code.sl, hok.ok⟩, by rw [← hok.n]; exact hok.c, hok.bd⟩
  · rw [← s1]; exact hcl 0 _ rfl
  · rw [← s2]; exact hcl 1 _ rfl
  · rw [← s3]; exact hcl 2 _ rfl
  · rw [← s4]; exact hcl 3 _ rfl
  · rw [← s5]; exact hcl 4 _ rfl
  · rw [← s6]; exact hcl 5 _ rfl
  · rw [← hok.n]; exact hcl 6 _ rfl
theorem RdC.ojs {w : World} {lo rb : Nat} {vt vo : Value} {qs : List Tq} {ps : List Oq} {s : Sy} (h : RdC w lo rb vt vo qs ps s) : ∃ A c, vo = .slice A s.os.length c ∧ OjSl w w.heap.size A s.os := by
  obtain ⟨A, c, hv, hc, _, hs⟩ := h.ho.sl
  rw [h.hos.1] at hv
  refine ⟨A, c, hv, fun k t ht => ?_⟩
  obtain ⟨q, hq, hok⟩ := h.hos.get ht
  obtain ⟨b, off, hA, hb, hcl⟩ := hs k q hq
  obtain ⟨s1, s2, s3, s4, s5, s6⟩ := hok.sc
  refine ⟨b, off, q.I, q.ci, q.R, q.cr, hA, hb, ⟨?_, ?_, ?_, ?_, ?_, ?_, ?_, ?_⟩, ⟨⟨hok.ini.sl, hok.wf⟩, by rw [← hok.ni]; exact hok.ci⟩, ⟨hok.rd.sl, by rw [← hok.nr]; exact hok.cr⟩, hok.st, hok.bd⟩
  · rw [← s1]; exact hcl 0 _ rfl
  · rw [← s2]; exact hcl 1 _ rfl
  · rw [← s3]; exact hcl 2 _ rfl
  · rw [← s4]; exact hcl 3 _ rfl
  · rw [← s5]; exact hcl 4 _ rfl
  · rw [← hok.ni]; exact hcl 5 _ rfl
  · rw [← s6]; exact hcl 6 _ rfl
  · rw [← hok.nr]; exact hcl 7 _ rfl

end Go.Proofs.YtfgmebjbibbpdaaGreatDoor

namespace Go.Proofs.YtfgmebjbibbpdaaGreatDoor
open Go.RowKit
attribute [local go_sem] Oper.semAt_some

theorem row_set8 {w : World} {b : Nat} {t : TypeId} (a0 a1 a2 a3 a4 a5 a6 a7 : Value) (v0 v1 v2 v3 v4 v5 v6 v7 : Value) (h : RowB w b #[a0, a1, a2, a3, a4, a5, a6, a7] t) : RowB ((((((((w.setCell ⟨b, 0, none⟩ v0).setCell ⟨b, 1, none⟩ v1).setCell ⟨b, 2, none⟩ v2).setCell ⟨b, 3, none⟩ v3).setCell ⟨b, 4, none⟩ v4).setCell ⟨b, 5, none⟩ v5).setCell ⟨b, 6, none⟩ v6).setCell ⟨b, 7, none⟩ v7) b #[v0, v1, v2, v3, v4, v5, v6, v7] t := by
  have h8 := (((((((h.set 0 v0).set 1 v1).set 2 v2).set 3 v3).set 4 v4).set 5 v5).set 6 v6).set 7 v7
  simp only [List.setIfInBounds_toArray, List.set_cons_zero, List.set_cons_succ] at h8
  exact h8
theorem below_s8 {N : Nat} {w0 w : World} (h : Below N w0 w) (b : Nat) (hb : N ≤ b) (v0 v1 v2 v3 v4 v5 v6 v7 : Value) : Below N w0 ((((((((w.setCell ⟨b, 0, none⟩ v0).setCell ⟨b, 1, none⟩ v1).setCell ⟨b, 2, none⟩ v2).setCell ⟨b, 3, none⟩ v3).setCell ⟨b, 4, none⟩ v4).setCell ⟨b, 5, none⟩ v5).setCell ⟨b, 6, none⟩ v6).setCell ⟨b, 7, none⟩ v7) :=
  below_set1 (below_set1 (below_set1 (below_set1 (below_set1 (below_set1 (below_set1 (below_set1 h b 0 hb _) b 1 hb _) b 2 hb _) b 3 hb _) b 4 hb _) b 5 hb _) b 6 hb _) b 7 hb _
theorem cell_set8 (w : World) (b : Nat) (v0 v1 v2 v3 v4 v5 v6 v7 : Value) (m j : Nat) (h : m ≠ b) : ((((((((w.setCell ⟨b, 0, none⟩ v0).setCell ⟨b, 1, none⟩ v1).setCell ⟨b, 2, none⟩ v2).setCell ⟨b, 3, none⟩ v3).setCell ⟨b, 4, none⟩ v4).setCell ⟨b, 5, none⟩ v5).setCell ⟨b, 6, none⟩ v6).setCell ⟨b, 7, none⟩ v7).cell? ⟨m, j, none⟩ = w.cell? ⟨m, j, none⟩ := by
  have hk : ∀ (W : World) (i : Nat) (v : Value), (W.setCell ⟨b, i, none⟩ v).cell? ⟨m, j, none⟩ = W.cell? ⟨m, j, none⟩ := fun W i v => World.cell?_setCell_far W ⟨b, i, none⟩ ⟨m, j, none⟩ v (fun e => h e.symm)
  rw [hk, hk, hk, hk, hk, hk, hk, hk]
/-- An object's cells. -/
def ojR (kd wd sl cp st : Int) (I : Option Addr) (ni ci : Nat) (wr : Int) (R : Option Addr) (nr cr : Nat) : Array Value := #[.int .i64 kd, .int .i64 wd, .int .i64 sl, .int .i64 cp, .int .u32 st, .slice I ni ci, .int .i64 wr, .slice R nr cr]
theorem res_robj (tmps : Array Value) (w : World) {b : Nat} {kd wd sl cp st : Int} {I : Option Addr} {ni ci : Nat} {wr : Int} {R : Option Addr} {nr cr : Nat} {x : Bool} (ha : tmps[2]?.getD undef = .pointer (some ⟨b, 0, none⟩)) (hx : tmps[3]?.getD undef = .bool x) (hbox : RowB w b (ojR kd wd sl cp st I ni ci wr R nr cr) 42) :
    (results Tryz.f46 tmps).run Tryz.prog w = .ok (.tuple #[.agg (ojR kd wd sl cp st I ni ci wr R nr cr), .bool x]) w := by
  have h0 := hbox.cell 0
  have h1 := hbox.cell 1
  have h2 := hbox.cell 2
  have h3 := hbox.cell 3
  have h4 := hbox.cell 4
  have h5 := hbox.cell 5
  have h6 := hbox.cell 6
  have h7 := hbox.cell 7
  simp only [ojR, List.getElem?_toArray, List.getElem?_cons_zero, List.getElem?_cons_succ] at h0 h1 h2 h3 h4 h5 h6 h7
  simp [results, ha, hx, h0, h1, h2, h3, h4, h5, h6, h7, go_sem, ojR]
/-- What the region keeps. -/
def RjS (w5 : World) (g off : Nat) (n0 n1 n2 n3 n4 : Int) (w' : World) : Prop :=
  Below w5.heap.size w5 w' ∧ w'.cell? ⟨g, off, none⟩ = some (.int .i64 n0) ∧ w'.cell? ⟨g, off + 1, none⟩ = some (.int .i64 n1) ∧ w'.cell? ⟨g, off + 2, none⟩ = some (.int .i64 n2) ∧ w'.cell? ⟨g, off + 3, none⟩ = some (.int .i64 n3) ∧ w'.cell? ⟨g, off + 4, none⟩ = some (.int .i64 n4)
theorem RjS.below {w5 w w' : World} {g off : Nat} {n0 n1 n2 n3 n4 : Int} (h : RjS w5 g off n0 n1 n2 n3 n4 w) (hb : Below w.heap.size w w') : RjS w5 g off n0 n1 n2 n3 n4 w' := by
  obtain ⟨h1, h3, h4, h5, h6, h7⟩ := h
  have key : ∀ {p : Addr} {u : Value}, w.cell? p = some u → w'.cell? p = some u := fun {p u} hc => (hb.cell (p := p) (cell_lt hc)).trans hc
  exact ⟨h1.trans (hb.mono h1.size), key h3, key h4, key h5, key h6, key h7⟩
theorem RjS.set8 {w5 w : World} {g off nb : Nat} {n0 n1 n2 n3 n4 : Int} (h : RjS w5 g off n0 n1 n2 n3 n4 w) (hn : w5.heap.size ≤ nb) (hg : g < w5.heap.size) (v0 v1 v2 v3 v4 v5 v6 v7 : Value) : RjS w5 g off n0 n1 n2 n3 n4 ((((((((w.setCell ⟨nb, 0, none⟩ v0).setCell ⟨nb, 1, none⟩ v1).setCell ⟨nb, 2, none⟩ v2).setCell ⟨nb, 3, none⟩ v3).setCell ⟨nb, 4, none⟩ v4).setCell ⟨nb, 5, none⟩ v5).setCell ⟨nb, 6, none⟩ v6).setCell ⟨nb, 7, none⟩ v7) := by
  obtain ⟨h1, h3, h4, h5, h6, h7⟩ := h
  refine ⟨below_s8 h1 nb hn _ _ _ _ _ _ _ _, ?_, ?_, ?_, ?_, ?_⟩
  all_goals (rw [cell_set8 _ _ _ _ _ _ _ _ _ _ _ _ (by omega)]; assumption)
/-- A row of numbers stays where the cells of an earlier block are set. -/
theorem own_set8 {b : Nat} {w : World} {v : Value} {l : List Int} (h : Own (ints .i64) 3 (b + 1) w v l) (v0 v1 v2 v3 v4 v5 v6 v7 : Value) : Own (ints .i64) 3 (b + 1) ((((((((w.setCell ⟨b, 0, none⟩ v0).setCell ⟨b, 1, none⟩ v1).setCell ⟨b, 2, none⟩ v2).setCell ⟨b, 3, none⟩ v3).setCell ⟨b, 4, none⟩ v4).setCell ⟨b, 5, none⟩ v5).setCell ⟨b, 6, none⟩ v6).setCell ⟨b, 7, none⟩ v7) v l :=
  own_set (own_set (own_set (own_set (own_set (own_set (own_set (own_set h (Nat.lt_succ_self b) 0 _) (Nat.lt_succ_self b) 1 _) (Nat.lt_succ_self b) 2 _) (Nat.lt_succ_self b) 3 _) (Nat.lt_succ_self b) 4 _) (Nat.lt_succ_self b) 5 _) (Nat.lt_succ_self b) 6 _) (Nat.lt_succ_self b) 7 _
theorem five_of (q : List (List UInt8)) (h : 7 ≤ q.length) : (q.drop 2).take 5 = [q.getD 2 [], q.getD 3 [], q.getD 4 [], q.getD 5 [], q.getD 6 []] := by
  rcases q with _ | ⟨a0, _ | ⟨a1, _ | ⟨a2, _ | ⟨a3, _ | ⟨a4, _ | ⟨a5, _ | ⟨a6, r⟩⟩⟩⟩⟩⟩⟩ <;> first | rfl | simp at h
/-- What reading an object's line answers: where it is one, the object, its words and readers new. -/
def RObjR (l : List UInt8) (w : World) (e : Ending) (w' : World) : Prop := ∃ (kd wd sl cp st : Int) (I : Option Addr) (ni ci : Nat) (wr : Int) (R : Option Addr) (nr cr : Nat), e = .returned (.tuple #[.agg (ojR kd wd sl cp st I ni ci wr R nr cr), .bool (readOG l).isSome]) ∧
  (∀ o, readOG l = some o → o.kd = kd ∧ o.wd = wd ∧ o.sl = sl ∧ o.cp = cp ∧ o.st = st ∧ o.wr = wr ∧ o.ini.length = ni ∧ o.rd.length = nr ∧ OwnW w.heap.size w' (.slice I ni ci) o.ini ∧ Own (ints .i64) 3 w.heap.size w' (.slice R nr cr) o.rd) ∧ Below w.heap.size w w'
set_option maxRecDepth 100000 in
set_option maxHeartbeats 4000000 in
theorem srobj_any (s : ByteArray) (w : World) (hs : s.size ≤ 19000) (hT : Tab w) (hM : Mx w) :
    Calls Tryz.prog 46 #[.string s] w (RObjR s.data.toList w) := by
  obtain ⟨l, hl⟩ : ∃ l, s.data.toList = l := ⟨_, rfl⟩
  have hlen : l.length = s.size := by rw [← hl]; exact Array.length_toList
  obtain ⟨q, hq⟩ : ∃ q, pcs 32 l = q := ⟨_, rfl⟩
  have hsp := fun W hM => split_any s 32 W hM (by omega)
  have hql : q.length ≤ 20001 := by have := pcs_len_le 32 l; rw [hq] at this; omega
  have hqs : ∀ x ∈ q, x.length ≤ 1000000 := fun x hx => by
    have := pcs_mem 32 l x (by rw [hq]; exact hx)
    omega
  have hq0 : 0 < q.length := by
    rw [← hq]
    cases h : pcs 32 l with
    | nil => exact absurd h (pcs_ne 32 l)
    | cons a r => simp
  rw [hl] at hsp ⊢
  rw [hq] at hsp
  have hRD := Lib.hid (show readOG l = if idxF q rdrW = 7 ∧ 7 ≤ idxF q iniW ∧ (0 ≤ numG (q.getD 5 []) ∧ numG (q.getD 5 []) < 4294967296) ∧ objB (candG q) = true ∧ objL (candG q) = l then some (candG q) else none by unfold readOG; rw [hq])
  have hQS := Lib.hid hqs
  have HQ := Lib.hid hq
  have hl' := Lib.hid hl
  have hsp' := Lib.hid hsp
  have HLEN := Lib.hid hlen
  have hir := idxF_bd q rdrW
  have hii := idxF_bd q iniW
  obtain ⟨ir, hIR⟩ : ∃ x, idxF q rdrW = x := ⟨_, rfl⟩
  obtain ⟨ii, hII⟩ : ∃ x, idxF q iniW = x := ⟨_, rfl⟩
  rw [hIR] at hir
  rw [hII] at hii
  have HIR := Lib.hid hIR
  have HII := Lib.hid hII
  clear hsp hq hl hqs hlen hIR hII
  go_enter Tryz.func46, Tryz.ntmps46
  go_wp2_with fail
  have hnew := RowB.new w (ojR 0 0 0 0 0 none 0 0 0 none 0 0) 42
  have hb0 := (Below.refl w.heap.size w).alloc (Nat.le_refl _) (.cells (ojR 0 0 0 0 0 none 0 0 0 none 0 0) 42)
  obtain ⟨w0, hw0⟩ : ∃ x, w.alloc (.cells (ojR 0 0 0 0 0 none 0 0 0 none 0 0) 42) = x := ⟨_, rfl⟩
  rw [hw0] at hnew hb0
  unfold ojR at hw0
  rw [hw0]
  have hs0 : w0.heap.size = w.heap.size + 1 := by rw [← hw0, World.size_alloc]
  obtain ⟨n, hn⟩ : ∃ n, w.heap.size = n := ⟨_, rfl⟩
  rw [hn] at hnew hb0 hs0 ⊢
  refine (hsp'.out _ (hM.below (by rw [hn]; exact hb0))).mono ?_
  rintro e w1 ⟨rfl, hc1, hb1⟩
  rw [hs0] at hc1
  have HX := Lib.hid (hnew.kept hb1)
  have HB1 := Lib.hid (hb0.trans (hb1.mono (by have := hb0.size; omega)))
  have HT1 := Lib.hid (show Tab w1 from hT.below (by rw [hn]; exact HB1.out))
  have HC1 := Lib.hid hc1
  have HI1 := Lib.hid (sindex_any (n + 1) q.length q rdrW w1 rfl (by omega) hc1)
  have HI2 := Lib.hid (sindex_any (n + 1) q.length q iniW w1 rfl (by omega) hc1)
  rw [HIR.out] at HI1
  rw [HII.out] at HI2
  rw [hs0]
  clear hnew hb0 hw0 hb1 hc1 hT hM hs0
  unfold rdrW at HI1
  unfold iniW at HI2
  go_wp2_with fail
  refine HI1.out.mono ?_
  rintro e wx ⟨rfl, hwx⟩
  have hwy := hwx.symm
  clear hwx
  subst hwy
  go_wp2_with fail
  refine HI2.out.mono ?_
  rintro e wx ⟨rfl, hwx⟩
  have hwy := hwx.symm
  clear hwx
  subst hwy
  clear HI1 HI2
  by_cases h7 : ir = 7
  · subst h7
    have t1 : ((7 : Int) != 7) = false := by decide
    by_cases hi7 : ii < 7
    · have t2 : decide (ii < (7 : Int)) = true := decide_eq_true hi7
      have HNO := Lib.hid (show readOG l = none by rw [hRD.out, if_neg (fun h => by have := h.2.1; rw [HII.out] at this; omega)])
      clear hi7 hir hii
      have d0 := HX.out.cell 0
      have d1 := HX.out.cell 1
      have d2 := HX.out.cell 2
      have d3 := HX.out.cell 3
      have d4 := HX.out.cell 4
      have d5 := HX.out.cell 5
      have d6 := HX.out.cell 6
      have d7 := HX.out.cell 7
      unfold ojR at d0 d1 d2 d3 d4 d5 d6 d7
      simp only [List.getElem?_toArray, List.getElem?_cons_zero, List.getElem?_cons_succ] at d0 d1 d2 d3 d4 d5 d6 d7
      have df0 := HX.out.frozen 0
      have df1 := HX.out.frozen 1
      have df2 := HX.out.frozen 2
      have df3 := HX.out.frozen 3
      have df4 := HX.out.frozen 4
      have df5 := HX.out.frozen 5
      have df6 := HX.out.frozen 6
      have df7 := HX.out.frozen 7
      go_wp2_with fail
      unfold ojR at HX
      refine bodyPost_ret (res_robj _ _ rfl rfl (row_set8 _ _ _ _ _ _ _ _ (.int .i64 0) (.int .i64 0) (.int .i64 0) (.int .i64 0) (.int .u32 0) (.slice none 0 0) (.int .i64 0) (.slice none 0 0) HX.out)) rfl ?_
      exact ⟨0, 0, 0, 0, 0, none, 0, 0, 0, none, 0, 0, by rw [HNO.out]; rfl, (fun o ho => by rw [HNO.out] at ho; cases ho), by rw [hn]; exact below_s8 HB1.out n (Nat.le_refl _) _ _ _ _ _ _ _ _⟩
    · have t2 : decide (ii < (7 : Int)) = false := decide_eq_false hi7
      have h8 : 8 ≤ ii := by rw [← HII.out]; exact idx_behind HIR.out (by rw [HII.out]; omega)
      obtain ⟨k, rfl⟩ := Int.eq_ofNat_of_zero_le (show 0 ≤ ii by omega)
      clear hi7
      obtain ⟨qn, hqn⟩ : ∃ x, q.length = x := ⟨_, rfl⟩
      rw [hqn] at hir hii hql hq0 ⊢
      have HQN := Lib.hid hqn
      have g1 : (2 : Int) ≤ (qn : Int) := by omega
      have g2 : (7 : Int) ≤ (qn : Int) := by omega
      clear hqn
      go_wp2_with fail
      have hlb1 : n + 1 < w1.heap.size := by
        obtain ⟨y0, hy0⟩ := get_some (show 0 < q.length by rw [HQN.out]; omega)
        exact cell_lt (HC1.out 0 y0 hy0)
      have h5 := five_of q (by rw [HQN.out]; omega)
      have hsl := Lib.hid (sl_strs (w := w1) (B := w1.heap.size) (b := n + 1) (off := 2) (ps := (q.drop 2).take 5) hlb1 (fun j x hj => by
        have hj2 : q[2 + j]? = some x := by
          rw [List.getElem?_take] at hj
          split at hj
          · rw [List.getElem?_drop] at hj; exact hj
          · cases hj
        exact HC1.out (2 + j) x hj2))
      have hpl : ∀ p ∈ (q.drop 2).take 5, p.length ≤ 1000000 := fun p hp => hQS.out p (List.mem_of_mem_drop (List.mem_of_mem_take hp))
      rw [h5] at hsl hpl
      refine (snumbers_any (some ⟨n + 1, 2, none⟩) (qn - 2) _ w1 (by simp) hpl hsl.out).mono ?_
      rintro e w2 ⟨v, rfl, hown, hb2⟩
      obtain ⟨x2, hx2⟩ : ∃ x, numG (q.getD 2 []) = x := ⟨_, rfl⟩
      obtain ⟨x3, hx3⟩ : ∃ x, numG (q.getD 3 []) = x := ⟨_, rfl⟩
      obtain ⟨x4, hx4⟩ : ∃ x, numG (q.getD 4 []) = x := ⟨_, rfl⟩
      obtain ⟨x5, hx5⟩ : ∃ x, numG (q.getD 5 []) = x := ⟨_, rfl⟩
      obtain ⟨x6, hx6⟩ : ∃ x, numG (q.getD 6 []) = x := ⟨_, rfl⟩
      simp only [List.map_cons, List.map_nil, hx2, hx3, hx4, hx5, hx6] at hown
      obtain ⟨g0, c', rfl, hcl, hne, hnl⟩ := hown.sl
      obtain ⟨g, off, rfl, hg, hg0⟩ := hnl 0 x2 rfl
      have m0 : w2.cell? ⟨g, off, none⟩ = some (.int .i64 x2) := by
        obtain ⟨g', off', he, _, hg1⟩ := hnl 0 x2 rfl
        injection he with he
        injection he with he1 he2 he3
        subst he1 he2
        simpa [ints, Enc.of1] using hg1 0 _ rfl
      have m1 : w2.cell? ⟨g, off + 1, none⟩ = some (.int .i64 x3) := by
        obtain ⟨g', off', he, _, hg1⟩ := hnl 1 x3 rfl
        injection he with he
        injection he with he1 he2 he3
        subst he1 he2
        simpa [ints, Enc.of1] using hg1 0 _ rfl
      have m2 : w2.cell? ⟨g, off + 2, none⟩ = some (.int .i64 x4) := by
        obtain ⟨g', off', he, _, hg1⟩ := hnl 2 x4 rfl
        injection he with he
        injection he with he1 he2 he3
        subst he1 he2
        simpa [ints, Enc.of1] using hg1 0 _ rfl
      have m3 : w2.cell? ⟨g, off + 3, none⟩ = some (.int .i64 x5) := by
        obtain ⟨g', off', he, _, hg1⟩ := hnl 3 x5 rfl
        injection he with he
        injection he with he1 he2 he3
        subst he1 he2
        simpa [ints, Enc.of1] using hg1 0 _ rfl
      have m4 : w2.cell? ⟨g, off + 4, none⟩ = some (.int .i64 x6) := by
        obtain ⟨g', off', he, _, hg1⟩ := hnl 4 x6 rfl
        injection he with he
        injection he with he1 he2 he3
        subst he1 he2
        simpa [ints, Enc.of1] using hg1 0 _ rfl
      have hb5 := numG_bd (q.getD 5 [])
      rw [hx5] at hb5
      have HX2 := Lib.hid (And.intro hx2 (And.intro hx3 (And.intro hx4 (And.intro hx5 hx6))))
      have HT2 := Lib.hid (HT1.out.below hb2)
      have HC2 := Lib.hid (show ∀ (j : Nat) x, q[j]? = some x → w2.cell? ⟨n + 1, j, none⟩ = some (.string ⟨x.toArray⟩) from fun j x hj => (hb2.cell (p := ⟨n + 1, j, none⟩) hlb1).trans (HC1.out j x hj))
      have hlb2 : n + 1 < w2.heap.size := by have := hb2.size; omega
      have hcc : 5 ≤ c' := hcl.1
      have HY := Lib.hid HX
      replace HX := Lib.hid (HX.out.kept hb2)
      have HB2 := Lib.hid (HB1.out.trans (hb2.mono (by omega)))
      replace HB1 := HB2
      have hgb := hg
      clear hown hcl hne hnl hg hg0 h5 hsl hpl hx2 hx3 hx4 hx5 hx6
      rcases hbad : decide (x5 < 0) with _ | _
      · rcases hbad2 : decide ((4294967295 : Int) < x5) with _ | _
        · go_wp2_with fail
          obtain ⟨rdl, hrdl⟩ : ∃ x, ((q.take k).drop 8).map numG = x := ⟨_, rfl⟩
          have hrl : ((q.take k).drop 8).length = k - 8 := by
            have h1 : k ≤ q.length := by rw [HQN.out]; omega
            rw [List.length_drop, List.length_take]; omega
          have HNM := Lib.hid (show ∀ W, Below w2.heap.size w2 W → Calls Tryz.prog 71 #[.slice (some ⟨n + 1, 8, none⟩) (k - 8) (qn - 8)] W fun e w' => ∃ v, e = .returned v ∧ Own (ints .i64) 3 W.heap.size w' v rdl ∧ Below W.heap.size W w' from fun W hW => by
            have h9 := snumbers_any (some ⟨n + 1, 8, none⟩) (qn - 8) ((q.take k).drop 8) W (by rw [hrl]; omega) (fun p hp => hQS.out p (List.mem_of_mem_take (List.mem_of_mem_drop hp))) (sl_strs (by have := hW.size; omega) (fun j x hj => by
              have hj2 : q[8 + j]? = some x := by
                rw [List.getElem?_drop, List.getElem?_take] at hj
                split at hj
                · exact hj
                · cases hj
              exact (hW.cell (p := ⟨n + 1, 8 + j, none⟩) hlb2).trans (HC2.out (8 + j) x hj2)))
            rw [hrl, hrdl] at h9
            exact h9)
          have HRL := Lib.hid (show rdl.length = k - 8 by rw [← hrdl, List.length_map, hrl])
          have HRB := Lib.hid (show ∀ z ∈ rdl, -9223372036854775808 ≤ z ∧ z ≤ 9223372036854775807 from fun z hz => by
            rw [← hrdl] at hz
            obtain ⟨p, _, rfl⟩ := List.mem_map.1 hz
            have := numG_bd p
            omega)
          have HRDL := Lib.hid hrdl
          have HW5 := Lib.hid (show IntKind.u32.wrap x5 = x5 by
            have h1 := of_decide_eq_false hbad
            have h2 := of_decide_eq_false hbad2
            simp [IntKind.wrap, IntKind.signed, IntKind.bits]; omega)
          clear hrdl hrl
          have hSd : (fun w' : World => Below w2.heap.size w2 w' ∧ w'.cell? ⟨g, off, none⟩ = some (.int .i64 x2) ∧ w'.cell? ⟨g, off + 1, none⟩ = some (.int .i64 x3) ∧ w'.cell? ⟨g, off + 2, none⟩ = some (.int .i64 x4) ∧ w'.cell? ⟨g, off + 3, none⟩ = some (.int .i64 x5) ∧ w'.cell? ⟨g, off + 4, none⟩ = some (.int .i64 x6)) w2.drew := RjS.below (show RjS w2 g off x2 x3 x4 x5 x6 w2 from ⟨Below.refl _ _, m0, m1, m2, m3, m4⟩) (Below.refl _ w2).drew
          have e8 : (8 : Int) ≤ (k : Int) := by omega
          have e9 : (k : Int) ≤ (qn : Int) := by omega
          have w8 : IntKind.i64.wrap 8 = 8 := by decide
          have t8 : Int.toNat 8 = 8 := rfl
          have q8 : ¬ qn = 8 := by omega
          refine wp_region_held_drew (S := (fun w' : World => Below w2.heap.size w2 w' ∧ w'.cell? ⟨g, off, none⟩ = some (.int .i64 x2) ∧ w'.cell? ⟨g, off + 1, none⟩ = some (.int .i64 x3) ∧ w'.cell? ⟨g, off + 2, none⟩ = some (.int .i64 x4) ∧ w'.cell? ⟨g, off + 3, none⟩ = some (.int .i64 x5) ∧ w'.cell? ⟨g, off + 4, none⟩ = some (.int .i64 x6))) (by kernel_rfl) hSd (fun hHeld => ?_)
          generalize w2.drew = wz at hSd hHeld ⊢
          have hHeld : (fun w' : World => Below w2.heap.size w2 w' ∧ w'.cell? ⟨g, off, none⟩ = some (.int .i64 x2) ∧ w'.cell? ⟨g, off + 1, none⟩ = some (.int .i64 x3) ∧ w'.cell? ⟨g, off + 2, none⟩ = some (.int .i64 x4) ∧ w'.cell? ⟨g, off + 3, none⟩ = some (.int .i64 x5) ∧ w'.cell? ⟨g, off + 4, none⟩ = some (.int .i64 x6)) wz := hHeld
          refine tkH 0 ?_
          try simp only [Act.put, List.setIfInBounds_toArray, List.set_cons_zero, List.set_cons_succ]
          refine tkH 3 ?_
          try simp only [Act.put, List.setIfInBounds_toArray, List.set_cons_zero, List.set_cons_succ]
          refine tkH 6 ?_
          try simp only [Act.put, List.setIfInBounds_toArray, List.set_cons_zero, List.set_cons_succ]
          refine tkH 9 ?_
          try simp only [Act.put, List.setIfInBounds_toArray, List.set_cons_zero, List.set_cons_succ]
          refine tkH 13 ?_
          try simp only [Act.put, List.setIfInBounds_toArray, List.set_cons_zero, List.set_cons_succ]
          refine tkH 16 ?_
          try simp only [Act.put, List.setIfInBounds_toArray, List.set_cons_zero, List.set_cons_succ]
          refine tkH 17 ?_
          try simp only [Act.put, List.setIfInBounds_toArray, List.set_cons_zero, List.set_cons_succ]
          refine tkH 19 ?_
          try simp only [Act.put, List.setIfInBounds_toArray, List.set_cons_zero, List.set_cons_succ]
          refine tkH 1 ?_
          try simp only [Act.put, List.setIfInBounds_toArray, List.set_cons_zero, List.set_cons_succ]
          refine tkH 4 ?_
          try simp only [Act.put, List.setIfInBounds_toArray, List.set_cons_zero, List.set_cons_succ]
          refine tkH 7 ?_
          try simp only [Act.put, List.setIfInBounds_toArray, List.set_cons_zero, List.set_cons_succ]
          refine tkH 10 ?_
          try simp only [Act.put, List.setIfInBounds_toArray, List.set_cons_zero, List.set_cons_succ]
          refine tkH 14 ?_
          try simp only [Act.put, List.setIfInBounds_toArray, List.set_cons_zero, List.set_cons_succ]
          refine tkH 18 ?_
          try simp only [Act.put, List.setIfInBounds_toArray, List.set_cons_zero, List.set_cons_succ]
          refine tkH 2 ?_
          try simp only [Act.put, List.setIfInBounds_toArray, List.set_cons_zero, List.set_cons_succ]
          refine tkH 5 ?_
          try simp only [Act.put, List.setIfInBounds_toArray, List.set_cons_zero, List.set_cons_succ]
          refine tkH 8 ?_
          try simp only [Act.put, List.setIfInBounds_toArray, List.set_cons_zero, List.set_cons_succ]
          refine tkH 11 ?_
          try simp only [Act.put, List.setIfInBounds_toArray, List.set_cons_zero, List.set_cons_succ]
          refine tkH 15 ?_
          try simp only [Act.put, List.setIfInBounds_toArray, List.set_cons_zero, List.set_cons_succ]
          refine tkH 20 ?_
          try simp only [Act.put, List.setIfInBounds_toArray, List.set_cons_zero, List.set_cons_succ]
          refine tkH 12 ?_
          try simp only [Act.put, List.setIfInBounds_toArray, List.set_cons_zero, List.set_cons_succ]
          refine wpAnyH_ready (rs := [21, 23]) (by kernel_rfl) (by simp) ?_
          refine AllReadyH.cons (o := ?_) ?_ (fun K hK => ?_) ?_
          rotate_left
          · (simp only [List.getElem?_toArray, List.getElem?_cons_succ, List.getElem?_cons_zero]; rfl)
          · go_simp
            go_at_call 71
            refine (HNM.out wz hHeld.1).mono ?_
            rintro ex wx ⟨v2, rfl, hown2, hbx⟩
            obtain ⟨A2, c2, rfl, hcl2, hne2, hsl2⟩ := hown2.sl
            have hbz : w2.heap.size ≤ wz.heap.size := hHeld.1.size
            have hSx := RjS.below (show RjS w2 g off x2 x3 x4 x5 x6 wz from hHeld) hbx
            refine hK.out _ _ hSx (fun hHeld => ?_)
            clear hK K
            try simp only [Act.put, List.setIfInBounds_toArray, List.set_cons_zero, List.set_cons_succ]
            refine tkH 22 ?_
            try simp only [Act.put, List.setIfInBounds_toArray, List.set_cons_zero, List.set_cons_succ]
            refine wpAnyH_ready (rs := [23]) (by kernel_rfl) (by simp) ?_
            refine AllReadyH.cons (o := ?_) ?_ (fun K hK => ?_) AllReadyH.nil
            rotate_left
            · (simp only [List.getElem?_toArray, List.getElem?_cons_succ, List.getElem?_cons_zero]; rfl)
            go_simp
            have hnew := RowB.new (wx) (ojR 0 0 0 0 0 none 0 0 0 none 0 0) 42
            have hsz := hHeld.1.size
            have hSx := RjS.below (show RjS w2 g off x2 x3 x4 x5 x6 _ from hHeld) ((Below.refl (wx).heap.size (wx)).alloc (Nat.le_refl _) (.cells #[.int .i64 0, .int .i64 0, .int .i64 0, .int .i64 0, .int .u32 0, .slice none 0 0, .int .i64 0, .slice none 0 0] 42))
            refine hK.out _ _ hSx (fun hHeld => ?_)
            clear hK K
            try simp only [Act.put, List.setIfInBounds_toArray, List.set_cons_zero, List.set_cons_succ]
            obtain ⟨wa, hwa⟩ : ∃ x, (wx).alloc (.cells #[.int .i64 0, .int .i64 0, .int .i64 0, .int .i64 0, .int .u32 0, .slice none 0 0, .int .i64 0, .slice none 0 0] 42) = x := ⟨_, rfl⟩
            obtain ⟨nb, hnb⟩ : ∃ x, (wx).heap.size = x := ⟨_, rfl⟩
            have hnew2 : RowB wa nb (ojR 0 0 0 0 0 none 0 0 0 none 0 0) 42 := by rw [← hwa, ← hnb]; exact hnew
            rw [hwa] at hHeld ⊢
            rw [hnb] at hsz ⊢
            have hS2 : (RjS w2 g off x2 x3 x4 x5 x6 wa) ∧ ∃ (kd wd sl cp st : Int) (I : Option Addr) (ni ci : Nat) (wr : Int) (R : Option Addr) (nr cr : Nat), RowB wa nb (ojR kd wd sl cp st I ni ci wr R nr cr) 42 := ⟨hHeld, 0, 0, 0, 0, 0, none, 0, 0, 0, none, 0, 0, hnew2⟩
            clear hHeld
            refine wpAnyH_strong (S' := fun w' => (Below w2.heap.size w2 w' ∧ w'.cell? ⟨g, off, none⟩ = some (.int .i64 x2) ∧ w'.cell? ⟨g, off + 1, none⟩ = some (.int .i64 x3) ∧ w'.cell? ⟨g, off + 2, none⟩ = some (.int .i64 x4) ∧ w'.cell? ⟨g, off + 3, none⟩ = some (.int .i64 x5) ∧ w'.cell? ⟨g, off + 4, none⟩ = some (.int .i64 x6)) ∧ ∃ (kd wd sl cp st : Int) (I : Option Addr) (ni ci : Nat) (wr : Int) (R : Option Addr) (nr cr : Nat), RowB w' nb (ojR kd wd sl cp st I ni ci wr R nr cr) 42) (fun w h => h.1) _ _ _ _ ?_
            have hHeld := hS2
            have hFA := (hown2.farA (lo := w2.heap.size) (nb := nb) hbz hnb).below (w' := wa) (by rw [← hwa]; exact (Below.refl _ _).alloc (Nat.le_refl _) _)
            obtain ⟨u0, u1, u2, u3, u4, u5, u6, u7, u8, u9, u10, u11, hz⟩ := hHeld.2
            unfold ojR at hz
            have b0 := hz.cell 0
            have b1 := hz.cell 1
            have b2 := hz.cell 2
            have b3 := hz.cell 3
            have b4 := hz.cell 4
            have b5 := hz.cell 5
            have b6 := hz.cell 6
            have b7 := hz.cell 7
            simp only [List.getElem?_toArray, List.getElem?_cons_zero, List.getElem?_cons_succ] at b0 b1 b2 b3 b4 b5 b6 b7
            have f0 := hz.frozen 0
            have f1 := hz.frozen 1
            have f2 := hz.frozen 2
            have f3 := hz.frozen 3
            have f4 := hz.frozen 4
            have f5 := hz.frozen 5
            have f6 := hz.frozen 6
            have f7 := hz.frozen 7
            refine wpAnyH_ready (rs := [24]) (by kernel_rfl) (by simp) ?_
            refine AllReadyH.cons (o := ?_) ?_ (fun K hK => ?_) AllReadyH.nil
            rotate_left
            · (simp only [List.getElem?_toArray, List.getElem?_cons_succ, List.getElem?_cons_zero]; rfl)
            go_simp
            have hSr := RjS.set8 (show RjS w2 g off x2 x3 x4 x5 x6 wa from hHeld.1) hsz hgb (.int .i64 0) (.int .i64 x2) (.int .i64 x3) (.int .i64 x4) (.int .u32 x5) (.slice none 0 0) (.int .i64 x6) (.slice A2 rdl.length c2)
            have hzz := row_set8 (w := wa) (b := nb) (t := 42) _ _ _ _ _ _ _ _ (.int .i64 0) (.int .i64 x2) (.int .i64 x3) (.int .i64 x4) (.int .u32 x5) (.slice none 0 0) (.int .i64 x6) (.slice A2 rdl.length c2) hz
            have hFR := hFA.set8 nb (Or.inr rfl) (.int .i64 0) (.int .i64 x2) (.int .i64 x3) (.int .i64 x4) (.int .u32 x5) (.slice none 0 0) (.int .i64 x6) (.slice A2 rdl.length c2)
            try rw [HW5.out]
            obtain ⟨wS, hwS⟩ : ∃ x, ((((((((wa.setCell ⟨nb, 0, none⟩ (.int .i64 0)).setCell ⟨nb, 1, none⟩ (.int .i64 x2)).setCell ⟨nb, 2, none⟩ (.int .i64 x3)).setCell ⟨nb, 3, none⟩ (.int .i64 x4)).setCell ⟨nb, 4, none⟩ (.int .u32 x5)).setCell ⟨nb, 5, none⟩ (.slice none 0 0)).setCell ⟨nb, 6, none⟩ (.int .i64 x6)).setCell ⟨nb, 7, none⟩ (.slice A2 rdl.length c2)) = x := ⟨_, rfl⟩
            rw [hwS] at hSr hzz hFR ⊢
            clear hwS
            have hzz : RowB wS nb (ojR 0 x2 x3 x4 x5 none 0 0 x6 A2 rdl.length c2) 42 := hzz
            obtain ⟨s1, s2, s3, s4, s5, s6⟩ := hSr
            have hSx : (Below w2.heap.size w2 wS ∧ wS.cell? ⟨g, off, none⟩ = some (.int .i64 x2) ∧ wS.cell? ⟨g, off + 1, none⟩ = some (.int .i64 x3) ∧ wS.cell? ⟨g, off + 2, none⟩ = some (.int .i64 x4) ∧ wS.cell? ⟨g, off + 3, none⟩ = some (.int .i64 x5) ∧ wS.cell? ⟨g, off + 4, none⟩ = some (.int .i64 x6)) ∧ ∃ (kd wd sl cp st : Int) (I : Option Addr) (ni ci : Nat) (wr : Int) (R : Option Addr) (nr cr : Nat), RowB wS nb (ojR kd wd sl cp st I ni ci wr R nr cr) 42 := ⟨⟨s1, s2, s3, s4, s5, s6⟩, _, _, _, _, _, _, _, _, _, _, _, _, hzz⟩
            refine hK.out _ _ hSx (fun hHeld => ?_)
            clear hK K
            try simp only [Act.put, List.setIfInBounds_toArray, List.set_cons_zero, List.set_cons_succ]
            refine wpAnyH_done (by kernel_rfl) ?_ _
            have HZ := Lib.hid hzz
            have HBB := Lib.hid s1
            have HFR := Lib.hid hFR
            have HC2l := Lib.hid hcl2
            clear s1 s2 s3 s4 s5 s6 hSx hzz hHeld hz b0 b1 b2 b3 b4 b5 b6 b7 f0 f1 f2 f3 f4 f5 f6 f7 hSd hFA hFR hown2 hsl2 hne2 hcl2 hbx hnew hnew2 hS2 hwa
            have hlo : w2.heap.size ≤ nb := hsz
            have h1q : 1 < q.length := by rw [HQN.out]; omega
            obtain ⟨x1, hx1⟩ : ∃ x, q[1]? = some x := ⟨_, List.getElem?_eq_getElem h1q⟩
            have hx1g : q.getD 1 [] = x1 := by rw [List.getD_eq_getElem?_getD, hx1]; rfl
            obtain ⟨kd9, hkd⟩ : ∃ x, kidx x1 + 1 = x := ⟨_, rfl⟩
            obtain ⟨ini, hini⟩ : ∃ x, recG (q.drop (k + 1)) = x := ⟨_, rfl⟩
            have hkb : -1 ≤ kidx x1 ∧ kidx x1 ≤ 5 := kidx_bd x1
            have hkb9 : 0 ≤ kd9 ∧ kd9 ≤ 6 := by omega
            have hjl := drop_join_le (k + 1) l
            rw [HQ.out] at hjl
            have hil := recG_len (q.drop (k + 1))
            rw [hini] at hil
            have hls : l.length ≤ 19000 := by rw [HLEN.out]; exact hs
            have hwf := recG_wf (q.drop (k + 1))
            rw [hini] at hwf
            have HWF := Lib.hid hwf
            have HCD := Lib.hid (show candG q = (⟨kd9, x2, x3, x4, x5, ini, x6, rdl⟩ : Oj) by
              unfold candG objC obKd
              rw [HII.out, Int.toNat_natCast, HX2.out.1, HX2.out.2.1, HX2.out.2.2.1, HX2.out.2.2.2.1, HX2.out.2.2.2.2, hini, HRDL.out, hx1g, ← hkd]
              rfl)
            have HJ := Lib.hid (show ∀ (W : World) (A : Option Addr) (L : Nat), Below w2.heap.size w2 W → L = qn - (k + 1) → (L = 0 ∨ A = some ⟨n + 1, k + 1, none⟩) → Calls Tryz.prog 61 #[.slice A L L, .string ⟨#[32]⟩] W fun e w' => e = .returned (.string ⟨(Lib.join (q.drop (k + 1)) [32]).toArray⟩) ∧ Below W.heap.size W w' from fun W A L hW hL hA => by
              have hdl : (q.drop (k + 1)).length = L := by rw [List.length_drop, HQN.out]; omega
              have h9 := sjoin_any A L (q.drop (k + 1)) W (by omega) (by omega) (by omega) (by
                rcases hA with hA | hA
                · rw [List.eq_nil_of_length_eq_zero (by omega : (q.drop (k + 1)).length = 0)]; exact SlOf.nil
                · rw [hA]
                  refine sl_strs (by have := hW.size; omega) (fun j x hj => ?_)
                  rw [List.getElem?_drop] at hj
                  exact (hW.cell (p := ⟨n + 1, k + 1 + j, none⟩) hlb2).trans (HC2.out (k + 1 + j) x hj))
              rw [hdl] at h9
              exact h9)
            have HRG := Lib.hid (show ∀ (W : World), w2.heap.size ≤ W.heap.size → nb < W.heap.size → Calls Tryz.prog 74 #[.string ⟨(Lib.join (q.drop (k + 1)) [32]).toArray⟩, .int .i64 65536] W fun e w' => ∃ A c ok, e = .returned (.tuple #[.slice A ini.length c, .bool ok]) ∧ FarS (ints .u32) 38 w' w2.heap.size nb A ini.length c ini ∧ (ini.length ≤ c ∧ c ≤ maxLen) ∧ Below W.heap.size W w' from fun W h1 h2 => by
              have h9 := readG_any (q.drop (k + 1)) W w2.heap.size nb h1 h2 (by omega)
              rw [hini] at h9
              exact h9)
            have hil2 : ini.length ≤ 20000 := by omega
            have hrl2 : rdl.length ≤ 20000 := by have := HRL.out; omega
            have o1 : wS.cell? ⟨n + 1, 1, none⟩ = some (.string ⟨x1.toArray⟩) := (HBB.out.cell (p := ⟨n + 1, 1, none⟩) hlb2).trans (HC2.out 1 x1 hx1)
            have hk9 := kkind_any x1 wS
            rw [hkd] at hk9
            have HK9 := Lib.hid hk9
            have HIL := Lib.hid hil2
            have HRL2 := Lib.hid hrl2
            clear hk9 hkd hx1 hx1g h1q hini hjl hil hls hwf hil2 hrl2 hkb
            go_wp2_with fail
            refine HK9.out.mono ?_
            rintro e w4 ⟨rfl, hb4⟩
            have hz4 := HZ.out.kept hb4
            have c0 : w4.cell? ⟨nb, 0, none⟩ = some (.int .i64 0) := (hz4.cell 0).trans rfl
            have cf0 : w4.frozen? ⟨nb, 0, none⟩ = false := hz4.frozen 0
            have HZ4 := Lib.hid (show RowB (w4.setCell ⟨nb, 0, none⟩ (.int .i64 kd9)) nb (ojR kd9 x2 x3 x4 x5 none 0 0 x6 A2 rdl.length c2) 42 from hz4.set 0 (.int .i64 kd9))
            have HB4 := Lib.hid (below_set1 (HBB.out.trans (hb4.mono HBB.out.size)) nb 0 hlo (.int .i64 kd9))
            have HF4 := Lib.hid ((HFR.out.below hb4).set nb 0 (.int .i64 kd9) (Or.inr rfl))
            clear hz4 hb4 o1
            go_wp2_with fail
            all_goals
              refine (HJ.out _ _ _ HB4.out (by omega) (by first | exact Or.inl rfl | exact Or.inr rfl)).mono ?_
              rintro e w5 ⟨rfl, hb5⟩
              clear c0 cf0
              have HZ5 := Lib.hid (HZ4.out.kept hb5)
              have HB5 := Lib.hid (HB4.out.trans (hb5.mono HB4.out.size))
              have HF5 := Lib.hid (HF4.out.below hb5)
              clear hb5
              have hn5 := HZ5.out.lt
              go_wp2_with fail
              refine (HRG.out _ HB5.out.size hn5).mono ?_
              rintro e w6 ⟨I6, c6, ok6, rfl, hF6, hc6, hb6⟩
              have hz6 := HZ5.out.kept hb6
              have b0 := hz6.cell 0
              have b1 := hz6.cell 1
              have b2 := hz6.cell 2
              have b3 := hz6.cell 3
              have b4 := hz6.cell 4
              have b5 := hz6.cell 5
              have b6 := hz6.cell 6
              have b7 := hz6.cell 7
              unfold ojR at b0 b1 b2 b3 b4 b5 b6 b7
              simp only [List.getElem?_toArray, List.getElem?_cons_zero, List.getElem?_cons_succ] at b0 b1 b2 b3 b4 b5 b6 b7
              have f5 := hz6.frozen 5
              have HZ7 := Lib.hid (show RowB (w6.setCell ⟨nb, 5, none⟩ (.slice I6 ini.length c6)) nb (ojR kd9 x2 x3 x4 x5 I6 ini.length c6 x6 A2 rdl.length c2) 42 from hz6.set 5 (.slice I6 ini.length c6))
              have HB7 := Lib.hid (below_set1 (HB5.out.trans (hb6.mono HB5.out.size)) nb 5 hlo (.slice I6 ini.length c6))
              have HFR7 := Lib.hid ((HF5.out.below hb6).set nb 5 (.slice I6 ini.length c6) (Or.inr rfl))
              have HFI7 := Lib.hid (hF6.set nb 5 (.slice I6 ini.length c6) (Or.inr rfl))
              clear hz6 hb6 hF6 hn5
              have HOL := Lib.hid (show ∀ W : World, Tab W → FarS (ints .u32) 38 W w2.heap.size nb I6 ini.length c6 ini → FarS (ints .i64) 3 W w2.heap.size nb A2 rdl.length c2 rdl → Calls Tryz.prog 34 #[.agg #[.int .i64 kd9, .int .i64 x2, .int .i64 x3, .int .i64 x4, .int .u32 x5, .slice I6 ini.length c6, .int .i64 x6, .slice A2 rdl.length c2]] W (LineR (⟨kd9, x2, x3, x4, x5, ini, x6, rdl⟩ : Oj) W) from fun W h1 h2 h3 => by
                have n2 := numG_bd (q.getD 2 [])
                have n3 := numG_bd (q.getD 3 [])
                have n4 := numG_bd (q.getD 4 [])
                have n6 := numG_bd (q.getD 6 [])
                rw [HX2.out.1] at n2
                rw [HX2.out.2.1] at n3
                rw [HX2.out.2.2.1] at n4
                rw [HX2.out.2.2.2.2] at n6
                refine oline_any (⟨kd9, x2, x3, x4, x5, ini, x6, rdl⟩ : Oj) I6 c6 A2 c2 W (by
                  have h1 := of_decide_eq_false hbad
                  have h2 := of_decide_eq_false hbad2
                  show 0 ≤ x5 ∧ x5 < 4294967296
                  omega) (fun z hz => ?_) HIL.out HRL2.out ⟨h2.sl, HWF.out⟩ h3.sl h1
                rcases List.mem_append.1 hz with hz | hz
                · simp only [List.mem_cons, List.not_mem_nil, or_false] at hz
                  rcases hz with rfl | rfl | rfl | rfl <;> omega
                · exact HRB.out z hz)
              go_wp2_with fail
              refine (HOL.out _ (HT2.out.below HB7.out) HFI7.out HFR7.out).mono ?_
              rintro e w8 ⟨sH, rfl, hHs, hHl, hb8⟩
              clear b0 b1 b2 b3 b4 b5 b6 b7 f5
              have hz8 := HZ7.out.kept hb8
              have e0 := hz8.cell 0
              have e1 := hz8.cell 1
              have e2 := hz8.cell 2
              have e3 := hz8.cell 3
              have e4 := hz8.cell 4
              have e5 := hz8.cell 5
              have e6 := hz8.cell 6
              have e7 := hz8.cell 7
              unfold ojR at e0 e1 e2 e3 e4 e5 e6 e7
              simp only [List.getElem?_toArray, List.getElem?_cons_zero, List.getElem?_cons_succ] at e0 e1 e2 e3 e4 e5 e6 e7
              have HB8 := Lib.hid (HB7.out.trans (hb8.mono HB7.out.size))
              have HXn := HX.out.below HB8.out (show n < w2.heap.size by omega)
              have d0 := HXn.cell 0
              have d1 := HXn.cell 1
              have d2 := HXn.cell 2
              have d3 := HXn.cell 3
              have d4 := HXn.cell 4
              have d5 := HXn.cell 5
              have d6 := HXn.cell 6
              have d7 := HXn.cell 7
              unfold ojR at d0 d1 d2 d3 d4 d5 d6 d7
              simp only [List.getElem?_toArray, List.getElem?_cons_zero, List.getElem?_cons_succ] at d0 d1 d2 d3 d4 d5 d6 d7
              have df0 := HXn.frozen 0
              have df1 := HXn.frozen 1
              have df2 := HXn.frozen 2
              have df3 := HXn.frozen 3
              have df4 := HXn.frozen 4
              have df5 := HXn.frozen 5
              have df6 := HXn.frozen 6
              have df7 := HXn.frozen 7
              have HXN := Lib.hid HXn
              have HFR8 := Lib.hid (HFR7.out.below hb8)
              have HFI8 := Lib.hid (HFI7.out.below hb8)
              have hnlo : n < w2.heap.size := by omega
              have HBn := Lib.hid (HB1.out.trans (HB8.out.mono (Nat.le_of_lt hnlo)))
              clear hz8 hb8 HXn
              rcases hq : objB (⟨kd9, x2, x3, x4, x5, ini, x6, rdl⟩ : Oj) with _ | _
              · have HNO := Lib.hid (show readOG l = none by rw [hRD.out, HCD.out, if_neg (by rw [hq]; rintro ⟨_, _, _, h, _⟩; cases h)])
                clear hq hHs
                go_wp2_with fail
                unfold ojR at HXN
                refine bodyPost_ret (res_robj _ _ rfl rfl (row_set8 _ _ _ _ _ _ _ _ (.int .i64 kd9) (.int .i64 x2) (.int .i64 x3) (.int .i64 x4) (.int .u32 x5) (.slice I6 ini.length c6) (.int .i64 x6) (.slice A2 rdl.length c2) HXN.out)) rfl ?_
                exact ⟨kd9, x2, x3, x4, x5, I6, ini.length, c6, x6, A2, rdl.length, c2, by rw [HNO.out]; rfl, (fun o ho => by rw [HNO.out] at ho; cases ho), by rw [hn]; exact below_s8 HBn.out n (Nat.le_refl _) _ _ _ _ _ _ _ _⟩
              · have hSH := hHs hq
                by_cases hls : objL (⟨kd9, x2, x3, x4, x5, ini, x6, rdl⟩ : Oj) = l
                · have HYES := Lib.hid (show readOG l = some (⟨kd9, x2, x3, x4, x5, ini, x6, rdl⟩ : Oj) by
                    rw [hRD.out, HCD.out, if_pos ⟨HIR.out, by rw [HII.out]; omega, by
                      have h1 := of_decide_eq_false hbad
                      have h2 := of_decide_eq_false hbad2
                      rw [HX2.out.2.2.2.1]
                      omega, hq, hls⟩])
                  have hst : (sH.toList == s.toList) = true := by rw [hSH, ByteArray.toList_eq, ByteArray.toList_eq, hl'.out]; simp [hls]
                  clear hq hHs hls hSH
                  go_wp2_with fail
                  unfold ojR at HXN
                  refine bodyPost_ret (res_robj _ _ rfl rfl (row_set8 _ _ _ _ _ _ _ _ (.int .i64 kd9) (.int .i64 x2) (.int .i64 x3) (.int .i64 x4) (.int .u32 x5) (.slice I6 ini.length c6) (.int .i64 x6) (.slice A2 rdl.length c2) HXN.out)) rfl ?_
                  refine ⟨kd9, x2, x3, x4, x5, I6, ini.length, c6, x6, A2, rdl.length, c2, by rw [HYES.out]; rfl, (fun o ho => ?_), by rw [hn]; exact below_s8 HBn.out n (Nat.le_refl _) _ _ _ _ _ _ _ _⟩
                  rw [HYES.out] at ho
                  have ho' := (Option.some.inj ho).symm
                  subst ho'
                  rw [hn]
                  exact ⟨rfl, rfl, rfl, rfl, rfl, rfl, rfl, rfl, ⟨(HFI8.out.set8 n (Or.inl hnlo) (.int .i64 kd9) (.int .i64 x2) (.int .i64 x3) (.int .i64 x4) (.int .u32 x5) (.slice I6 ini.length c6) (.int .i64 x6) (.slice A2 rdl.length c2)).1.mono (Nat.le_of_lt hnlo), HWF.out⟩, (HFR8.out.set8 n (Or.inl hnlo) (.int .i64 kd9) (.int .i64 x2) (.int .i64 x3) (.int .i64 x4) (.int .u32 x5) (.slice I6 ini.length c6) (.int .i64 x6) (.slice A2 rdl.length c2)).1.mono (Nat.le_of_lt hnlo)⟩
                · have HNO := Lib.hid (show readOG l = none by rw [hRD.out, HCD.out, if_neg (fun h => hls h.2.2.2.2)])
                  have hst : (sH.toList == s.toList) = false := by rw [beq_eq_false_iff_ne, hSH, ByteArray.toList_eq, ByteArray.toList_eq, hl'.out]; simpa using hls
                  clear hq hHs hls hSH
                  go_wp2_with fail
                  unfold ojR at HXN
                  refine bodyPost_ret (res_robj _ _ rfl rfl (row_set8 _ _ _ _ _ _ _ _ (.int .i64 kd9) (.int .i64 x2) (.int .i64 x3) (.int .i64 x4) (.int .u32 x5) (.slice I6 ini.length c6) (.int .i64 x6) (.slice A2 rdl.length c2) HXN.out)) rfl ?_
                  exact ⟨kd9, x2, x3, x4, x5, I6, ini.length, c6, x6, A2, rdl.length, c2, by rw [HNO.out]; rfl, (fun o ho => by rw [HNO.out] at ho; cases ho), by rw [hn]; exact below_s8 HBn.out n (Nat.le_refl _) _ _ _ _ _ _ _ _⟩
          · refine AllReadyH.cons (o := ?_) ?_ (fun K hK => ?_) AllReadyH.nil
            rotate_left
            · (simp only [List.getElem?_toArray, List.getElem?_cons_succ, List.getElem?_cons_zero]; rfl)
            · go_simp
              have hnew := RowB.new (wz) (ojR 0 0 0 0 0 none 0 0 0 none 0 0) 42
              have hsz := hHeld.1.size
              have hSx := RjS.below (show RjS w2 g off x2 x3 x4 x5 x6 _ from hHeld) ((Below.refl (wz).heap.size (wz)).alloc (Nat.le_refl _) (.cells #[.int .i64 0, .int .i64 0, .int .i64 0, .int .i64 0, .int .u32 0, .slice none 0 0, .int .i64 0, .slice none 0 0] 42))
              refine hK.out _ _ hSx (fun hHeld => ?_)
              clear hK K
              try simp only [Act.put, List.setIfInBounds_toArray, List.set_cons_zero, List.set_cons_succ]
              obtain ⟨wa, hwa⟩ : ∃ x, (wz).alloc (.cells #[.int .i64 0, .int .i64 0, .int .i64 0, .int .i64 0, .int .u32 0, .slice none 0 0, .int .i64 0, .slice none 0 0] 42) = x := ⟨_, rfl⟩
              obtain ⟨nb, hnb⟩ : ∃ x, (wz).heap.size = x := ⟨_, rfl⟩
              have hnew2 : RowB wa nb (ojR 0 0 0 0 0 none 0 0 0 none 0 0) 42 := by rw [← hwa, ← hnb]; exact hnew
              rw [hwa] at hHeld ⊢
              rw [hnb] at hsz ⊢
              have hS2 : (RjS w2 g off x2 x3 x4 x5 x6 wa) ∧ ∃ (kd wd sl cp st : Int) (I : Option Addr) (ni ci : Nat) (wr : Int) (R : Option Addr) (nr cr : Nat), RowB wa nb (ojR kd wd sl cp st I ni ci wr R nr cr) 42 := ⟨hHeld, 0, 0, 0, 0, 0, none, 0, 0, 0, none, 0, 0, hnew2⟩
              clear hHeld
              refine wpAnyH_strong (S' := fun w' => (Below w2.heap.size w2 w' ∧ w'.cell? ⟨g, off, none⟩ = some (.int .i64 x2) ∧ w'.cell? ⟨g, off + 1, none⟩ = some (.int .i64 x3) ∧ w'.cell? ⟨g, off + 2, none⟩ = some (.int .i64 x4) ∧ w'.cell? ⟨g, off + 3, none⟩ = some (.int .i64 x5) ∧ w'.cell? ⟨g, off + 4, none⟩ = some (.int .i64 x6)) ∧ ∃ (kd wd sl cp st : Int) (I : Option Addr) (ni ci : Nat) (wr : Int) (R : Option Addr) (nr cr : Nat), RowB w' nb (ojR kd wd sl cp st I ni ci wr R nr cr) 42) (fun w h => h.1) _ _ _ _ ?_
              have hHeld := hS2
              have hsa : wa.heap.size = nb + 1 := by rw [← hwa, World.size_alloc, hnb]
              refine wpAnyH_ready (rs := [21]) (by kernel_rfl) (by simp) ?_
              refine AllReadyH.cons (o := ?_) ?_ (fun K hK => ?_) AllReadyH.nil
              rotate_left
              · (simp only [List.getElem?_toArray, List.getElem?_cons_succ, List.getElem?_cons_zero]; rfl)
              go_simp
              go_at_call 71
              refine (HNM.out wa hHeld.1.1).mono ?_
              rintro ex wb ⟨v2, rfl, hown2, hbx⟩
              obtain ⟨A2, c2, rfl, hcl2, hne2, hsl2⟩ := hown2.sl
              have hSx : (RjS w2 g off x2 x3 x4 x5 x6 wb) ∧ ∃ (kd wd sl cp st : Int) (I : Option Addr) (ni ci : Nat) (wr : Int) (R : Option Addr) (nr cr : Nat), RowB wb nb (ojR kd wd sl cp st I ni ci wr R nr cr) 42 := ⟨RjS.below (show RjS w2 g off x2 x3 x4 x5 x6 wa from hHeld.1) hbx, by obtain ⟨-, u0, u1, u2, u3, u4, u5, u6, u7, u8, u9, u10, u11, hr⟩ := hHeld; exact ⟨u0, u1, u2, u3, u4, u5, u6, u7, u8, u9, u10, u11, hr.kept hbx⟩⟩
              refine hK.out _ _ hSx (fun hHeld => ?_)
              clear hK K
              try simp only [Act.put, List.setIfInBounds_toArray, List.set_cons_zero, List.set_cons_succ]
              refine tkH 22 ?_
              try simp only [Act.put, List.setIfInBounds_toArray, List.set_cons_zero, List.set_cons_succ]
              obtain ⟨u0, u1, u2, u3, u4, u5, u6, u7, u8, u9, u10, u11, hz⟩ := hHeld.2
              unfold ojR at hz
              have b0 := hz.cell 0
              have b1 := hz.cell 1
              have b2 := hz.cell 2
              have b3 := hz.cell 3
              have b4 := hz.cell 4
              have b5 := hz.cell 5
              have b6 := hz.cell 6
              have b7 := hz.cell 7
              simp only [List.getElem?_toArray, List.getElem?_cons_zero, List.getElem?_cons_succ] at b0 b1 b2 b3 b4 b5 b6 b7
              have f0 := hz.frozen 0
              have f1 := hz.frozen 1
              have f2 := hz.frozen 2
              have f3 := hz.frozen 3
              have f4 := hz.frozen 4
              have f5 := hz.frozen 5
              have f6 := hz.frozen 6
              have f7 := hz.frozen 7
              have hFA := hown2.farB (lo := w2.heap.size) (nb := nb) (by rw [hsa]; omega) (by rw [hsa]; omega)
              refine wpAnyH_ready (rs := [24]) (by kernel_rfl) (by simp) ?_
              refine AllReadyH.cons (o := ?_) ?_ (fun K hK => ?_) AllReadyH.nil
              rotate_left
              · (simp only [List.getElem?_toArray, List.getElem?_cons_succ, List.getElem?_cons_zero]; rfl)
              go_simp
              have hSr := RjS.set8 (show RjS w2 g off x2 x3 x4 x5 x6 wb from hHeld.1) hsz hgb (.int .i64 0) (.int .i64 x2) (.int .i64 x3) (.int .i64 x4) (.int .u32 x5) (.slice none 0 0) (.int .i64 x6) (.slice A2 rdl.length c2)
              have hzz := row_set8 (w := wb) (b := nb) (t := 42) _ _ _ _ _ _ _ _ (.int .i64 0) (.int .i64 x2) (.int .i64 x3) (.int .i64 x4) (.int .u32 x5) (.slice none 0 0) (.int .i64 x6) (.slice A2 rdl.length c2) hz
              have hFR := hFA.set8 nb (Or.inr rfl) (.int .i64 0) (.int .i64 x2) (.int .i64 x3) (.int .i64 x4) (.int .u32 x5) (.slice none 0 0) (.int .i64 x6) (.slice A2 rdl.length c2)
              try rw [HW5.out]
              obtain ⟨wS, hwS⟩ : ∃ x, ((((((((wb.setCell ⟨nb, 0, none⟩ (.int .i64 0)).setCell ⟨nb, 1, none⟩ (.int .i64 x2)).setCell ⟨nb, 2, none⟩ (.int .i64 x3)).setCell ⟨nb, 3, none⟩ (.int .i64 x4)).setCell ⟨nb, 4, none⟩ (.int .u32 x5)).setCell ⟨nb, 5, none⟩ (.slice none 0 0)).setCell ⟨nb, 6, none⟩ (.int .i64 x6)).setCell ⟨nb, 7, none⟩ (.slice A2 rdl.length c2)) = x := ⟨_, rfl⟩
              rw [hwS] at hSr hzz hFR ⊢
              clear hwS
              have hzz : RowB wS nb (ojR 0 x2 x3 x4 x5 none 0 0 x6 A2 rdl.length c2) 42 := hzz
              obtain ⟨s1, s2, s3, s4, s5, s6⟩ := hSr
              have hSx : (Below w2.heap.size w2 wS ∧ wS.cell? ⟨g, off, none⟩ = some (.int .i64 x2) ∧ wS.cell? ⟨g, off + 1, none⟩ = some (.int .i64 x3) ∧ wS.cell? ⟨g, off + 2, none⟩ = some (.int .i64 x4) ∧ wS.cell? ⟨g, off + 3, none⟩ = some (.int .i64 x5) ∧ wS.cell? ⟨g, off + 4, none⟩ = some (.int .i64 x6)) ∧ ∃ (kd wd sl cp st : Int) (I : Option Addr) (ni ci : Nat) (wr : Int) (R : Option Addr) (nr cr : Nat), RowB wS nb (ojR kd wd sl cp st I ni ci wr R nr cr) 42 := ⟨⟨s1, s2, s3, s4, s5, s6⟩, _, _, _, _, _, _, _, _, _, _, _, _, hzz⟩
              refine hK.out _ _ hSx (fun hHeld => ?_)
              clear hK K
              try simp only [Act.put, List.setIfInBounds_toArray, List.set_cons_zero, List.set_cons_succ]
              refine wpAnyH_done (by kernel_rfl) ?_ _
              have HZ := Lib.hid hzz
              have HBB := Lib.hid s1
              have HFR := Lib.hid hFR
              have HC2l := Lib.hid hcl2
              clear s1 s2 s3 s4 s5 s6 hSx hzz hHeld hz b0 b1 b2 b3 b4 b5 b6 b7 f0 f1 f2 f3 f4 f5 f6 f7 hSd hFA hFR hown2 hsl2 hne2 hcl2 hbx hnew hnew2 hS2 hwa
              have hlo : w2.heap.size ≤ nb := hsz
              have h1q : 1 < q.length := by rw [HQN.out]; omega
              obtain ⟨x1, hx1⟩ : ∃ x, q[1]? = some x := ⟨_, List.getElem?_eq_getElem h1q⟩
              have hx1g : q.getD 1 [] = x1 := by rw [List.getD_eq_getElem?_getD, hx1]; rfl
              obtain ⟨kd9, hkd⟩ : ∃ x, kidx x1 + 1 = x := ⟨_, rfl⟩
              obtain ⟨ini, hini⟩ : ∃ x, recG (q.drop (k + 1)) = x := ⟨_, rfl⟩
              have hkb : -1 ≤ kidx x1 ∧ kidx x1 ≤ 5 := kidx_bd x1
              have hkb9 : 0 ≤ kd9 ∧ kd9 ≤ 6 := by omega
              have hjl := drop_join_le (k + 1) l
              rw [HQ.out] at hjl
              have hil := recG_len (q.drop (k + 1))
              rw [hini] at hil
              have hls : l.length ≤ 19000 := by rw [HLEN.out]; exact hs
              have hwf := recG_wf (q.drop (k + 1))
              rw [hini] at hwf
              have HWF := Lib.hid hwf
              have HCD := Lib.hid (show candG q = (⟨kd9, x2, x3, x4, x5, ini, x6, rdl⟩ : Oj) by
                unfold candG objC obKd
                rw [HII.out, Int.toNat_natCast, HX2.out.1, HX2.out.2.1, HX2.out.2.2.1, HX2.out.2.2.2.1, HX2.out.2.2.2.2, hini, HRDL.out, hx1g, ← hkd]
                rfl)
              have HJ := Lib.hid (show ∀ (W : World) (A : Option Addr) (L : Nat), Below w2.heap.size w2 W → L = qn - (k + 1) → (L = 0 ∨ A = some ⟨n + 1, k + 1, none⟩) → Calls Tryz.prog 61 #[.slice A L L, .string ⟨#[32]⟩] W fun e w' => e = .returned (.string ⟨(Lib.join (q.drop (k + 1)) [32]).toArray⟩) ∧ Below W.heap.size W w' from fun W A L hW hL hA => by
                have hdl : (q.drop (k + 1)).length = L := by rw [List.length_drop, HQN.out]; omega
                have h9 := sjoin_any A L (q.drop (k + 1)) W (by omega) (by omega) (by omega) (by
                  rcases hA with hA | hA
                  · rw [List.eq_nil_of_length_eq_zero (by omega : (q.drop (k + 1)).length = 0)]; exact SlOf.nil
                  · rw [hA]
                    refine sl_strs (by have := hW.size; omega) (fun j x hj => ?_)
                    rw [List.getElem?_drop] at hj
                    exact (hW.cell (p := ⟨n + 1, k + 1 + j, none⟩) hlb2).trans (HC2.out (k + 1 + j) x hj))
                rw [hdl] at h9
                exact h9)
              have HRG := Lib.hid (show ∀ (W : World), w2.heap.size ≤ W.heap.size → nb < W.heap.size → Calls Tryz.prog 74 #[.string ⟨(Lib.join (q.drop (k + 1)) [32]).toArray⟩, .int .i64 65536] W fun e w' => ∃ A c ok, e = .returned (.tuple #[.slice A ini.length c, .bool ok]) ∧ FarS (ints .u32) 38 w' w2.heap.size nb A ini.length c ini ∧ (ini.length ≤ c ∧ c ≤ maxLen) ∧ Below W.heap.size W w' from fun W h1 h2 => by
                have h9 := readG_any (q.drop (k + 1)) W w2.heap.size nb h1 h2 (by omega)
                rw [hini] at h9
                exact h9)
              have hil2 : ini.length ≤ 20000 := by omega
              have hrl2 : rdl.length ≤ 20000 := by have := HRL.out; omega
              have o1 : wS.cell? ⟨n + 1, 1, none⟩ = some (.string ⟨x1.toArray⟩) := (HBB.out.cell (p := ⟨n + 1, 1, none⟩) hlb2).trans (HC2.out 1 x1 hx1)
              have hk9 := kkind_any x1 wS
              rw [hkd] at hk9
              have HK9 := Lib.hid hk9
              have HIL := Lib.hid hil2
              have HRL2 := Lib.hid hrl2
              clear hk9 hkd hx1 hx1g h1q hini hjl hil hls hwf hil2 hrl2 hkb
              go_wp2_with fail
              refine HK9.out.mono ?_
              rintro e w4 ⟨rfl, hb4⟩
              have hz4 := HZ.out.kept hb4
              have c0 : w4.cell? ⟨nb, 0, none⟩ = some (.int .i64 0) := (hz4.cell 0).trans rfl
              have cf0 : w4.frozen? ⟨nb, 0, none⟩ = false := hz4.frozen 0
              have HZ4 := Lib.hid (show RowB (w4.setCell ⟨nb, 0, none⟩ (.int .i64 kd9)) nb (ojR kd9 x2 x3 x4 x5 none 0 0 x6 A2 rdl.length c2) 42 from hz4.set 0 (.int .i64 kd9))
              have HB4 := Lib.hid (below_set1 (HBB.out.trans (hb4.mono HBB.out.size)) nb 0 hlo (.int .i64 kd9))
              have HF4 := Lib.hid ((HFR.out.below hb4).set nb 0 (.int .i64 kd9) (Or.inr rfl))
              clear hz4 hb4 o1
              go_wp2_with fail
              all_goals
                refine (HJ.out _ _ _ HB4.out (by omega) (by first | exact Or.inl rfl | exact Or.inr rfl)).mono ?_
                rintro e w5 ⟨rfl, hb5⟩
                clear c0 cf0
                have HZ5 := Lib.hid (HZ4.out.kept hb5)
                have HB5 := Lib.hid (HB4.out.trans (hb5.mono HB4.out.size))
                have HF5 := Lib.hid (HF4.out.below hb5)
                clear hb5
                have hn5 := HZ5.out.lt
                go_wp2_with fail
                refine (HRG.out _ HB5.out.size hn5).mono ?_
                rintro e w6 ⟨I6, c6, ok6, rfl, hF6, hc6, hb6⟩
                have hz6 := HZ5.out.kept hb6
                have b0 := hz6.cell 0
                have b1 := hz6.cell 1
                have b2 := hz6.cell 2
                have b3 := hz6.cell 3
                have b4 := hz6.cell 4
                have b5 := hz6.cell 5
                have b6 := hz6.cell 6
                have b7 := hz6.cell 7
                unfold ojR at b0 b1 b2 b3 b4 b5 b6 b7
                simp only [List.getElem?_toArray, List.getElem?_cons_zero, List.getElem?_cons_succ] at b0 b1 b2 b3 b4 b5 b6 b7
                have f5 := hz6.frozen 5
                have HZ7 := Lib.hid (show RowB (w6.setCell ⟨nb, 5, none⟩ (.slice I6 ini.length c6)) nb (ojR kd9 x2 x3 x4 x5 I6 ini.length c6 x6 A2 rdl.length c2) 42 from hz6.set 5 (.slice I6 ini.length c6))
                have HB7 := Lib.hid (below_set1 (HB5.out.trans (hb6.mono HB5.out.size)) nb 5 hlo (.slice I6 ini.length c6))
                have HFR7 := Lib.hid ((HF5.out.below hb6).set nb 5 (.slice I6 ini.length c6) (Or.inr rfl))
                have HFI7 := Lib.hid (hF6.set nb 5 (.slice I6 ini.length c6) (Or.inr rfl))
                clear hz6 hb6 hF6 hn5
                have HOL := Lib.hid (show ∀ W : World, Tab W → FarS (ints .u32) 38 W w2.heap.size nb I6 ini.length c6 ini → FarS (ints .i64) 3 W w2.heap.size nb A2 rdl.length c2 rdl → Calls Tryz.prog 34 #[.agg #[.int .i64 kd9, .int .i64 x2, .int .i64 x3, .int .i64 x4, .int .u32 x5, .slice I6 ini.length c6, .int .i64 x6, .slice A2 rdl.length c2]] W (LineR (⟨kd9, x2, x3, x4, x5, ini, x6, rdl⟩ : Oj) W) from fun W h1 h2 h3 => by
                  have n2 := numG_bd (q.getD 2 [])
                  have n3 := numG_bd (q.getD 3 [])
                  have n4 := numG_bd (q.getD 4 [])
                  have n6 := numG_bd (q.getD 6 [])
                  rw [HX2.out.1] at n2
                  rw [HX2.out.2.1] at n3
                  rw [HX2.out.2.2.1] at n4
                  rw [HX2.out.2.2.2.2] at n6
                  refine oline_any (⟨kd9, x2, x3, x4, x5, ini, x6, rdl⟩ : Oj) I6 c6 A2 c2 W (by
                    have h1 := of_decide_eq_false hbad
                    have h2 := of_decide_eq_false hbad2
                    show 0 ≤ x5 ∧ x5 < 4294967296
                    omega) (fun z hz => ?_) HIL.out HRL2.out ⟨h2.sl, HWF.out⟩ h3.sl h1
                  rcases List.mem_append.1 hz with hz | hz
                  · simp only [List.mem_cons, List.not_mem_nil, or_false] at hz
                    rcases hz with rfl | rfl | rfl | rfl <;> omega
                  · exact HRB.out z hz)
                go_wp2_with fail
                refine (HOL.out _ (HT2.out.below HB7.out) HFI7.out HFR7.out).mono ?_
                rintro e w8 ⟨sH, rfl, hHs, hHl, hb8⟩
                clear b0 b1 b2 b3 b4 b5 b6 b7 f5
                have hz8 := HZ7.out.kept hb8
                have e0 := hz8.cell 0
                have e1 := hz8.cell 1
                have e2 := hz8.cell 2
                have e3 := hz8.cell 3
                have e4 := hz8.cell 4
                have e5 := hz8.cell 5
                have e6 := hz8.cell 6
                have e7 := hz8.cell 7
                unfold ojR at e0 e1 e2 e3 e4 e5 e6 e7
                simp only [List.getElem?_toArray, List.getElem?_cons_zero, List.getElem?_cons_succ] at e0 e1 e2 e3 e4 e5 e6 e7
                have HB8 := Lib.hid (HB7.out.trans (hb8.mono HB7.out.size))
                have HXn := HX.out.below HB8.out (show n < w2.heap.size by omega)
                have d0 := HXn.cell 0
                have d1 := HXn.cell 1
                have d2 := HXn.cell 2
                have d3 := HXn.cell 3
                have d4 := HXn.cell 4
                have d5 := HXn.cell 5
                have d6 := HXn.cell 6
                have d7 := HXn.cell 7
                unfold ojR at d0 d1 d2 d3 d4 d5 d6 d7
                simp only [List.getElem?_toArray, List.getElem?_cons_zero, List.getElem?_cons_succ] at d0 d1 d2 d3 d4 d5 d6 d7
                have df0 := HXn.frozen 0
                have df1 := HXn.frozen 1
                have df2 := HXn.frozen 2
                have df3 := HXn.frozen 3
                have df4 := HXn.frozen 4
                have df5 := HXn.frozen 5
                have df6 := HXn.frozen 6
                have df7 := HXn.frozen 7
                have HXN := Lib.hid HXn
                have HFR8 := Lib.hid (HFR7.out.below hb8)
                have HFI8 := Lib.hid (HFI7.out.below hb8)
                have hnlo : n < w2.heap.size := by omega
                have HBn := Lib.hid (HB1.out.trans (HB8.out.mono (Nat.le_of_lt hnlo)))
                clear hz8 hb8 HXn
                rcases hq : objB (⟨kd9, x2, x3, x4, x5, ini, x6, rdl⟩ : Oj) with _ | _
                · have HNO := Lib.hid (show readOG l = none by rw [hRD.out, HCD.out, if_neg (by rw [hq]; rintro ⟨_, _, _, h, _⟩; cases h)])
                  clear hq hHs
                  go_wp2_with fail
                  unfold ojR at HXN
                  refine bodyPost_ret (res_robj _ _ rfl rfl (row_set8 _ _ _ _ _ _ _ _ (.int .i64 kd9) (.int .i64 x2) (.int .i64 x3) (.int .i64 x4) (.int .u32 x5) (.slice I6 ini.length c6) (.int .i64 x6) (.slice A2 rdl.length c2) HXN.out)) rfl ?_
                  exact ⟨kd9, x2, x3, x4, x5, I6, ini.length, c6, x6, A2, rdl.length, c2, by rw [HNO.out]; rfl, (fun o ho => by rw [HNO.out] at ho; cases ho), by rw [hn]; exact below_s8 HBn.out n (Nat.le_refl _) _ _ _ _ _ _ _ _⟩
                · have hSH := hHs hq
                  by_cases hls : objL (⟨kd9, x2, x3, x4, x5, ini, x6, rdl⟩ : Oj) = l
                  · have HYES := Lib.hid (show readOG l = some (⟨kd9, x2, x3, x4, x5, ini, x6, rdl⟩ : Oj) by
                      rw [hRD.out, HCD.out, if_pos ⟨HIR.out, by rw [HII.out]; omega, by
                        have h1 := of_decide_eq_false hbad
                        have h2 := of_decide_eq_false hbad2
                        rw [HX2.out.2.2.2.1]
                        omega, hq, hls⟩])
                    have hst : (sH.toList == s.toList) = true := by rw [hSH, ByteArray.toList_eq, ByteArray.toList_eq, hl'.out]; simp [hls]
                    clear hq hHs hls hSH
                    go_wp2_with fail
                    unfold ojR at HXN
                    refine bodyPost_ret (res_robj _ _ rfl rfl (row_set8 _ _ _ _ _ _ _ _ (.int .i64 kd9) (.int .i64 x2) (.int .i64 x3) (.int .i64 x4) (.int .u32 x5) (.slice I6 ini.length c6) (.int .i64 x6) (.slice A2 rdl.length c2) HXN.out)) rfl ?_
                    refine ⟨kd9, x2, x3, x4, x5, I6, ini.length, c6, x6, A2, rdl.length, c2, by rw [HYES.out]; rfl, (fun o ho => ?_), by rw [hn]; exact below_s8 HBn.out n (Nat.le_refl _) _ _ _ _ _ _ _ _⟩
                    rw [HYES.out] at ho
                    have ho' := (Option.some.inj ho).symm
                    subst ho'
                    rw [hn]
                    exact ⟨rfl, rfl, rfl, rfl, rfl, rfl, rfl, rfl, ⟨(HFI8.out.set8 n (Or.inl hnlo) (.int .i64 kd9) (.int .i64 x2) (.int .i64 x3) (.int .i64 x4) (.int .u32 x5) (.slice I6 ini.length c6) (.int .i64 x6) (.slice A2 rdl.length c2)).1.mono (Nat.le_of_lt hnlo), HWF.out⟩, (HFR8.out.set8 n (Or.inl hnlo) (.int .i64 kd9) (.int .i64 x2) (.int .i64 x3) (.int .i64 x4) (.int .u32 x5) (.slice I6 ini.length c6) (.int .i64 x6) (.slice A2 rdl.length c2)).1.mono (Nat.le_of_lt hnlo)⟩
                  · have HNO := Lib.hid (show readOG l = none by rw [hRD.out, HCD.out, if_neg (fun h => hls h.2.2.2.2)])
                    have hst : (sH.toList == s.toList) = false := by rw [beq_eq_false_iff_ne, hSH, ByteArray.toList_eq, ByteArray.toList_eq, hl'.out]; simpa using hls
                    clear hq hHs hls hSH
                    go_wp2_with fail
                    unfold ojR at HXN
                    refine bodyPost_ret (res_robj _ _ rfl rfl (row_set8 _ _ _ _ _ _ _ _ (.int .i64 kd9) (.int .i64 x2) (.int .i64 x3) (.int .i64 x4) (.int .u32 x5) (.slice I6 ini.length c6) (.int .i64 x6) (.slice A2 rdl.length c2) HXN.out)) rfl ?_
                    exact ⟨kd9, x2, x3, x4, x5, I6, ini.length, c6, x6, A2, rdl.length, c2, by rw [HNO.out]; rfl, (fun o ho => by rw [HNO.out] at ho; cases ho), by rw [hn]; exact below_s8 HBn.out n (Nat.le_refl _) _ _ _ _ _ _ _ _⟩
        · have HNO := Lib.hid (show readOG l = none by rw [hRD.out, if_neg (fun h => by have h1 := h.2.2.1.2; rw [HX2.out.2.2.2.1] at h1; have := of_decide_eq_true hbad2; omega)])
          have d0 := HX.out.cell 0
          have d1 := HX.out.cell 1
          have d2 := HX.out.cell 2
          have d3 := HX.out.cell 3
          have d4 := HX.out.cell 4
          have d5 := HX.out.cell 5
          have d6 := HX.out.cell 6
          have d7 := HX.out.cell 7
          unfold ojR at d0 d1 d2 d3 d4 d5 d6 d7
          simp only [List.getElem?_toArray, List.getElem?_cons_zero, List.getElem?_cons_succ] at d0 d1 d2 d3 d4 d5 d6 d7
          have df0 := HX.out.frozen 0
          have df1 := HX.out.frozen 1
          have df2 := HX.out.frozen 2
          have df3 := HX.out.frozen 3
          have df4 := HX.out.frozen 4
          have df5 := HX.out.frozen 5
          have df6 := HX.out.frozen 6
          have df7 := HX.out.frozen 7
          go_wp2_with fail
          unfold ojR at HX
          refine bodyPost_ret (res_robj _ _ rfl rfl (row_set8 _ _ _ _ _ _ _ _ (.int .i64 0) (.int .i64 0) (.int .i64 0) (.int .i64 0) (.int .u32 0) (.slice none 0 0) (.int .i64 0) (.slice none 0 0) HX.out)) rfl ?_
          exact ⟨0, 0, 0, 0, 0, none, 0, 0, 0, none, 0, 0, by rw [HNO.out]; rfl, (fun o ho => by rw [HNO.out] at ho; cases ho), by rw [hn]; exact below_s8 HB1.out n (Nat.le_refl _) _ _ _ _ _ _ _ _⟩
      · have HNO := Lib.hid (show readOG l = none by rw [hRD.out, if_neg (fun h => by have h1 := h.2.2.1.1; rw [HX2.out.2.2.2.1] at h1; have := of_decide_eq_true hbad; omega)])
        have d0 := HX.out.cell 0
        have d1 := HX.out.cell 1
        have d2 := HX.out.cell 2
        have d3 := HX.out.cell 3
        have d4 := HX.out.cell 4
        have d5 := HX.out.cell 5
        have d6 := HX.out.cell 6
        have d7 := HX.out.cell 7
        unfold ojR at d0 d1 d2 d3 d4 d5 d6 d7
        simp only [List.getElem?_toArray, List.getElem?_cons_zero, List.getElem?_cons_succ] at d0 d1 d2 d3 d4 d5 d6 d7
        have df0 := HX.out.frozen 0
        have df1 := HX.out.frozen 1
        have df2 := HX.out.frozen 2
        have df3 := HX.out.frozen 3
        have df4 := HX.out.frozen 4
        have df5 := HX.out.frozen 5
        have df6 := HX.out.frozen 6
        have df7 := HX.out.frozen 7
        go_wp2_with fail
        unfold ojR at HX
        refine bodyPost_ret (res_robj _ _ rfl rfl (row_set8 _ _ _ _ _ _ _ _ (.int .i64 0) (.int .i64 0) (.int .i64 0) (.int .i64 0) (.int .u32 0) (.slice none 0 0) (.int .i64 0) (.slice none 0 0) HX.out)) rfl ?_
        exact ⟨0, 0, 0, 0, 0, none, 0, 0, 0, none, 0, 0, by rw [HNO.out]; rfl, (fun o ho => by rw [HNO.out] at ho; cases ho), by rw [hn]; exact below_s8 HB1.out n (Nat.le_refl _) _ _ _ _ _ _ _ _⟩
  · have t1 : (ir != 7) = true := by simp; omega
    have HNO := Lib.hid (show readOG l = none by rw [hRD.out, if_neg (fun h => h7 (by rw [← HIR.out]; exact h.1))])
    clear h7 hir hii
    have d0 := HX.out.cell 0
    have d1 := HX.out.cell 1
    have d2 := HX.out.cell 2
    have d3 := HX.out.cell 3
    have d4 := HX.out.cell 4
    have d5 := HX.out.cell 5
    have d6 := HX.out.cell 6
    have d7 := HX.out.cell 7
    unfold ojR at d0 d1 d2 d3 d4 d5 d6 d7
    simp only [List.getElem?_toArray, List.getElem?_cons_zero, List.getElem?_cons_succ] at d0 d1 d2 d3 d4 d5 d6 d7
    have df0 := HX.out.frozen 0
    have df1 := HX.out.frozen 1
    have df2 := HX.out.frozen 2
    have df3 := HX.out.frozen 3
    have df4 := HX.out.frozen 4
    have df5 := HX.out.frozen 5
    have df6 := HX.out.frozen 6
    have df7 := HX.out.frozen 7
    go_wp2_with fail
    unfold ojR at HX
    refine bodyPost_ret (res_robj _ _ rfl rfl (row_set8 _ _ _ _ _ _ _ _ (.int .i64 0) (.int .i64 0) (.int .i64 0) (.int .i64 0) (.int .u32 0) (.slice none 0 0) (.int .i64 0) (.slice none 0 0) HX.out)) rfl ?_
    exact ⟨0, 0, 0, 0, 0, none, 0, 0, 0, none, 0, 0, by rw [HNO.out]; rfl, (fun o ho => by rw [HNO.out] at ho; cases ho), by rw [hn]; exact below_s8 HB1.out n (Nat.le_refl _) _ _ _ _ _ _ _ _⟩

end Go.Proofs.YtfgmebjbibbpdaaGreatDoor
