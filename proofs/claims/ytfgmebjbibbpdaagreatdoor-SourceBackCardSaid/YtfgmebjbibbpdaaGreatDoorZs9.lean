/- Texts joined: Sources: a reader reads a line. strings.Lines: the iterator, which keeps what is left in a captured cell. Sources: a reader reads a line, whatever it is. Sources: source.Parse. Sources: the chapter's example. -/
import Derived.Test.YtfgmebjbibbpdaaGreatDoorZs7
import Derived.Test.YtfgmebjbibbpdaaGreatDoorZs8
import Derived.Test.YtfgmebjbibbpdaaGreatDoorZs3
import Derived.Test.YtfgmebjbibbpdaaGreatDoorZs1
import Derived.Test.YtfgmebjbibbpdaaGreatDoorShelf
import Derived.Shelf.Abstract
import Derived.Shelf.RegionOpen
import Derived.OwnWalkIn
import Derived.TacticsInMore
import Derived.LoopNIn
import Derived.LoopIn
import Derived.Deep.QuietTactic
import Derived.BigQuiet
import Derived.Lib.IndexLaws
import Derived.Test.YtfgmebjbibbpdaaGreatDoorZs6
namespace Go.Proofs.YtfgmebjbibbpdaaGreatDoor
open Go.RowKit
attribute [local go_sem] Oper.semAt_some

theorem objL_bd0 {s : List UInt8} {o : Oj} (h : readOG s = some o) : objB o = true ∧ (0 ≤ o.st ∧ o.st < 4294967296) := by
  unfold readOG at h
  split at h
  · rename_i hc
    injection h with h
    subst h
    exact ⟨hc.2.2.2.1, hc.2.2.1⟩
  · cases h
theorem readOG_bd {s : List UInt8} {o : Oj} (h : readOG s = some o) : (0 ≤ o.st ∧ o.st < 4294967296) ∧ ∀ z ∈ o.kd :: o.wd :: o.sl :: o.cp :: o.wr :: o.rd, i64B z := by
  obtain ⟨h1, h2⟩ := objL_bd0 h
  obtain ⟨h3, h4, h5⟩ := objB_iff h1
  refine ⟨h2, fun z hz => ?_⟩
  unfold i64B
  have g := fun x hx => h4 x (show x ∈ o.five from hx)
  simp only [List.mem_cons] at hz
  rcases hz with rfl | rfl | rfl | rfl | rfl | hz
  · omega
  · have := h4 o.wd (by simp [Oj.five]); omega
  · have := h4 o.sl (by simp [Oj.five]); omega
  · have := h4 o.cp (by simp [Oj.five]); omega
  · have := h4 o.wr (by simp [Oj.five]); omega
  · have := h5 z hz; omega
def RdM (w : World) (lo rb : Nat) (r : Rd) : Prop := rb < lo ∧ lo ≤ w.heap.size ∧ ((r.op = false ∧ ∃ vt vo qs ps, RdC w lo rb vt vo qs ps r.sy) ∨ (r.op = true ∧ r.sy.os = [] ∧ ∃ N vt vo qs q ts t, r.sy.ts = ts ++ [t] ∧ RdO w lo rb N vt vo qs q ts t))
def ReadR (lo rb : Nat) (r : Rd) (l : List UInt8) (w : World) (e : Ending) (w' : World) : Prop := e = .returned (.bool (step r l).isSome) ∧ (∀ r', step r l = some r' → RdM w' lo rb r') ∧ FrR lo rb w w'
theorem AllP.nil_l {α β : Type} {R : α → β → Prop} {l : List α} (h : AllP R l []) : l = [] := List.eq_nil_of_length_eq_zero h.1
theorem row_cells {w : World} {lo k : Nat} {v : Value} {qs : List Tq} {q : Tq} (h : Own tqE tyT lo w v qs) (hk : qs[k]? = some q) : ∃ tb c, v = .slice (some ⟨tb, 0, none⟩) qs.length c ∧ v.ownBlock = some tb ∧ w.cell? ⟨tb, k * 7 + 6, none⟩ = some (.slice q.A q.n q.c) ∧ w.frozen? ⟨tb, k * 7 + 6, none⟩ = false ∧ (qs.length ≤ c ∧ c ≤ maxLen) := by
  rcases h.2 with ⟨rfl, h0⟩ | ⟨g, cap, cur, rfl, hg, hh, hcap, hmax, hsz, htk⟩
  · rw [List.eq_nil_of_length_eq_zero h0] at hk; simp at hk
  · refine ⟨g, cap, rfl, rfl, ?_, RowB.frozen (w := w) (n := g) hh _, hcap, hmax⟩
    have h2 := World.ownsRow.cells h (g := g) rfl (k * 7 + 6) (.slice q.A q.n q.c) ((tqE.all_get qs k q hk 6 (by show 6 < 7; omega)).trans rfl)
    rw [Addr.add_lit, Nat.zero_add] at h2
    exact h2
theorem row_cell7 {w : World} {lo tb m : Nat} {v : Value} {qs : List Tq} {q : Tq} (h : Own tqE tyT lo w v (qs ++ [q])) (hv : v.ownBlock = some tb) (hm : qs.length = m) : w.cell? ⟨tb, m * 7 + 6, none⟩ = some (.slice q.A q.n q.c) ∧ w.frozen? ⟨tb, m * 7 + 6, none⟩ = false := by
  obtain ⟨tb', c, _, h1, h2, h3, _⟩ := row_cells h (List.getElem?_concat_length (l := qs) (a := q))
  rw [h1] at hv
  have : tb' = tb := Option.some.inj hv
  subst this
  rw [hm] at h2 h3
  exact ⟨h2, h3⟩
set_option maxRecDepth 100000 in
set_option maxHeartbeats 1000000 in
theorem sread_end (lo rb : Nat) (s : ByteArray) (w : World) (_hs : s.size ≤ 19000) (hrb : rb < lo) (_hlo : lo ≤ w.heap.size) (_hT : Tab w) (_hM : Mx w) {N : Nat} {vt vo : Value} {qs : List Tq} {q : Tq} {ts : List Tk} {t : Tk} (h : RdO w lo rb N vt vo qs q ts t) (he : s.data.toList = endW3) :
    Calls Tryz.prog 24 #[.pointer (some ⟨rb, 0, none⟩), .string s] w fun e w' => e = .returned (.bool true) ∧ RdC w' lo rb vt vo (qs ++ [q]) [] ⟨ts ++ [t], []⟩ ∧ FrR lo rb w w' := by
  have c2 : w.cell? ⟨rb, 2, none⟩ = some (.bool true) := (h.hr.cell 2).trans rfl
  have f2 : w.frozen? ⟨rb, 2, none⟩ = false := h.hr.frozen 2
  have hst : (s.toList == (⟨#[101, 110, 100]⟩ : ByteArray).toList) = true := by rw [ByteArray.toList_eq, ByteArray.toList_eq, he]; rfl
  have hst2 : (s.toList == [101, 110, 100]) = true := by rw [ByteArray.toList_eq, he]; rfl
  have HC := Lib.hid h.close
  have HF := Lib.hid (FrR.set (lo := lo) (rb := rb) (w := w) 2 (.bool false) (Or.inl rfl) (Nat.le_of_lt hrb))
  clear h he
  go_enter Tryz.func24, Tryz.ntmps24
  go_wp2_with fail
  go_ret
  exact ⟨rfl, HC.out, HF.out⟩
set_option maxRecDepth 100000 in
set_option maxHeartbeats 4000000 in
theorem sread_head (lo rb : Nat) (s : ByteArray) (w : World) (hs : s.size ≤ 19000) (hrb : rb < lo) (hlo : lo ≤ w.heap.size) (hT : Tab w) (hM : Mx w) {vt vo : Value} {qs : List Tq} {ps : List Oq} {sy : Sy} {t : Tk} (h : RdC w lo rb vt vo qs ps sy) (hos : sy.os = []) (htg : readTG s.data.toList = some t) (hn : qs.length ≤ 100000) :
    Calls Tryz.prog 24 #[.pointer (some ⟨rb, 0, none⟩), .string s] w fun e w' => e = .returned (.bool true) ∧ (∃ N vt' q, RdO w' lo rb N vt' vo qs q sy.ts t) ∧ FrR lo rb w w' := by
  have hh := srhead_any s w (by omega) hT hM
  unfold RHeadR at hh
  rw [htg] at hh
  have HH := Lib.hid hh
  have HC := Lib.hid h
  have HTG := Lib.hid htg
  have c0 : w.cell? ⟨rb, 0, none⟩ = some vt := (h.hr.cell 0).trans rfl
  have c1 : w.cell? ⟨rb, 1, none⟩ = some vo := (h.hr.cell 1).trans rfl
  have c2 : w.cell? ⟨rb, 2, none⟩ = some (.bool false) := (h.hr.cell 2).trans rfl
  clear h hh htg hT hM
  go_enter Tryz.func24, Tryz.ntmps24
  go_wp2_with fail
  refine HH.out.mono ?_
  rintro e w2 ⟨kd, pr, pe, off, dl, ow, rfl, ht, hb2⟩
  have htt := ht _ rfl
  subst htt
  clear ht HH c0 c1 c2
  have hC2 := HC.out.below hb2
  obtain ⟨Ao, co, hvo⟩ := own_slice hC2.ho
  subst hvo
  have c0 : w2.cell? ⟨rb, 0, none⟩ = some vt := (hC2.hr.cell 0).trans rfl
  have c1 : w2.cell? ⟨rb, 1, none⟩ = some (.slice Ao ps.length co) := (hC2.hr.cell 1).trans rfl
  have hps : ps.length = 0 := by have := hC2.hos.1; rw [hos] at this; exact this
  have q0 : ((ps.length : Int) == 0) = true := by rw [hps]; rfl
  have q1 : (ps.length == 0) = true := by rw [hps]; rfl
  have HC2 := Lib.hid hC2
  have HB2 := Lib.hid hb2
  have HPS := Lib.hid hps
  have hr2 : rb < w2.heap.size := hC2.hr.lt
  clear hC2 hb2 hps
  unfold tkR
  go_wp2_with fail
  have HBD := Lib.hid (show ∀ z ∈ (⟨kd, pr, pe, off, dl, ow, []⟩ : Tk).kd :: (⟨kd, pr, pe, off, dl, ow, []⟩ : Tk).five, i64B z from fun z hz => by
    have h1 := (readTG_some HTG.out).1
    have h2 : kd = 1 ∨ kd = 2 := head_kd h1
    unfold headB1 at h1
    rw [Bool.and_eq_true] at h1
    rcases List.mem_cons.1 hz with e | hz
    · have e2 : z = kd := e; unfold i64B; omega
    · have := five_top h1.2 z hz; unfold i64B; omega)
  have HF2 := Lib.hid (FrR.below (lo := lo) (rb := rb) HB2.out hlo (Nat.le_of_lt hrb))
  have hbx := RowB.new w2 #[.int .i64 kd, .int .i64 pr, .int .i64 pe, .int .i64 off, .int .i64 dl, .int .i64 ow, .slice none 0 0] tyT
  have hb3 := (Below.refl w2.heap.size w2).alloc (Nat.le_refl _) (.cells #[.int .i64 kd, .int .i64 pr, .int .i64 pe, .int .i64 off, .int .i64 dl, .int .i64 ow, .slice none 0 0] tyT)
  have hC3 := HC2.out.below hb3
  have hF3 := HF2.out.trans (FrR.below (lo := lo) (rb := rb) hb3 (by have := HB2.out.size; omega) (Nat.le_of_lt hrb))
  have hs3 : lo ≤ (w2.alloc (.cells #[.int .i64 kd, .int .i64 pr, .int .i64 pe, .int .i64 off, .int .i64 dl, .int .i64 ow, .slice none 0 0] tyT)).heap.size := by rw [World.size_alloc]; have := HB2.out.size; omega
  obtain ⟨w3, hw3⟩ : ∃ x, w2.alloc (.cells #[.int .i64 kd, .int .i64 pr, .int .i64 pe, .int .i64 off, .int .i64 dl, .int .i64 ow, .slice none 0 0] tyT) = x := ⟨_, rfl⟩
  obtain ⟨bx, hbx0⟩ : ∃ x, w2.heap.size = x := ⟨_, rfl⟩
  rw [hw3, hbx0] at hbx
  rw [hw3] at hC3 hF3 hs3
  rw [hw3, hbx0]
  clear hb3 hw3 c0 c1
  refine wp_region_held_drew (S := (fun _ : World => True)) (by kernel_rfl) trivial (fun hHeld => ?_)
  skip
  have hdr := (Below.refl w3.heap.size w3).drew
  have hCz := hC3.below hdr
  have hbz := hbx.kept hdr
  have hFz := hF3.trans (FrR.below (lo := lo) (rb := rb) hdr hs3 (Nat.le_of_lt hrb))
  have hsz : lo ≤ w3.drew.heap.size := Nat.le_trans hs3 hdr.size
  generalize w3.drew = wz at hCz hbz hFz hsz ⊢
  clear hdr hC3 hF3 hs3 hbx
  have b0 := hbz.cell 0
  have b1 := hbz.cell 1
  have b2 := hbz.cell 2
  have b3 := hbz.cell 3
  have b4 := hbz.cell 4
  have b5 := hbz.cell 5
  have b6 := hbz.cell 6
  simp only [List.getElem?_toArray, List.getElem?_cons_zero, List.getElem?_cons_succ] at b0 b1 b2 b3 b4 b5 b6
  have HCz := Lib.hid hCz
  have HFz := Lib.hid hFz
  have cz : wz.cell? ⟨rb, 0, none⟩ = some vt := (hCz.hr.cell 0).trans rfl
  clear hCz hFz hbz
  refine tkH 0 ?_
  try simp only [Act.put, List.setIfInBounds_toArray, List.set_cons_zero, List.set_cons_succ]
  refine tkH 1 ?_
  try simp only [Act.put, List.setIfInBounds_toArray, List.set_cons_zero, List.set_cons_succ]
  refine tkH 2 ?_
  try simp only [Act.put, List.setIfInBounds_toArray, List.set_cons_zero, List.set_cons_succ]
  refine tkH 3 ?_
  try simp only [Act.put, List.setIfInBounds_toArray, List.set_cons_zero, List.set_cons_succ]
  refine tkH 4 ?_
  try simp only [Act.put, List.setIfInBounds_toArray, List.set_cons_zero, List.set_cons_succ]
  refine wpAnyH_ready (rs := [5, 6]) (by kernel_rfl) (by simp) ?_
  refine AllReadyH.cons (o := ?_) ?_ (fun K hK => ?_) ?_
  rotate_left
  · (simp only [List.getElem?_toArray, List.getElem?_cons_succ, List.getElem?_cons_zero]; rfl)
  · go_simp
    refine hK.out _ _ trivial (fun hHeld => ?_)
    clear hK K
    try simp only [Act.put, List.setIfInBounds_toArray, List.set_cons_zero, List.set_cons_succ]
    refine wpAnyH_ready (rs := [6]) (by kernel_rfl) (by simp) ?_
    refine AllReadyH.cons (o := ?_) ?_ (fun K hK => ?_) AllReadyH.nil
    rotate_left
    · (simp only [List.getElem?_toArray, List.getElem?_cons_succ, List.getElem?_cons_zero]; rfl)
    · go_simp
      refine hK.out _ _ trivial (fun hHeld => ?_)
      clear hK K
      try simp only [Act.put, List.setIfInBounds_toArray, List.set_cons_zero, List.set_cons_succ]
      refine wpAnyH_ready (rs := [7]) (by kernel_rfl) (by simp) ?_
      refine AllReadyH.cons (o := ?_) ?_ (fun K hK => ?_) AllReadyH.nil
      rotate_left
      · (simp only [List.getElem?_toArray, List.getElem?_cons_succ, List.getElem?_cons_zero]; rfl)
      · go_simp
        have cA : (wz.alloc (.cells #[.int .i64 kd, .int .i64 pr, .int .i64 pe, .int .i64 off, .int .i64 dl, .int .i64 ow, .slice none 0 0] tyT)).cell? ⟨rb, 0, none⟩ = some (vt) := (World.cell?_alloc_lt wz _ _ (cell_lt cz)).trans cz
        clear cz
        refine hK.out _ _ trivial (fun hHeld => ?_)
        clear hK K
        try simp only [Act.put, List.setIfInBounds_toArray, List.set_cons_zero, List.set_cons_succ]
        refine wpAnyH_ready (rs := [8]) (by kernel_rfl) (by simp) ?_
        refine AllReadyH.cons (o := ?_) ?_ (fun K hK => ?_) AllReadyH.nil
        rotate_left
        · (simp only [List.getElem?_toArray, List.getElem?_cons_succ, List.getElem?_cons_zero]; rfl)
        · refine step_app2 (by rfl) (.tmp 76) (.tmp 78) 22 (by rfl) tkTy lo (HCz.out.ht.alloc _) (by rfl) (cells_new' wz [.int .i64 kd, .int .i64 pr, .int .i64 pe, .int .i64 off, .int .i64 dl, .int .i64 ow, .slice none 0 0] _ _ rfl) (by rfl) (by rfl) (by simp [Value.oneCell']) (by unfold maxLen; omega) (by omega) (by rw [World.size_alloc]; omega) ?_
          intro v' w9 hown9 hb9 hblk9 _
          obtain ⟨M, A', c', rfl⟩ : ∃ M A' c', v' = .slice A' M c' := (by obtain ⟨A', c', h⟩ := own_slice hown9; exact ⟨_, A', c', h⟩)
          have hbA := (Below.refl wz.heap.size wz).alloc (Nat.le_refl _) (.cells #[.int .i64 kd, .int .i64 pr, .int .i64 pe, .int .i64 off, .int .i64 dl, .int .i64 ow, .slice none 0 0] tyT)
          have hblk : ∀ k, k < wz.heap.size → some k ≠ vt.ownBlock → w9.heap[k]? = wz.heap[k]? := fun k h1 h2 => (hblk9 k (by rw [World.size_alloc]; omega) h2).trans (hbA.block k h1)
          have hsz9 : wz.heap.size ≤ w9.heap.size := Nat.le_trans hbA.size hb9.size
          have hr9 : RowB w9 rb #[vt, .slice Ao ps.length co, .bool false] tyR := (hb9.block rb hrb).trans ((hbA.block rb (by omega)).trans HCz.out.hr)
          have c9 : w9.cell? ⟨rb, 0, none⟩ = some vt := (hr9.cell 0).trans rfl
          have f9 := hr9.frozen 0
          have HTK := Lib.hid (RdC.task (t := ⟨kd, pr, pe, off, dl, ow, []⟩) HCz.out hrb hsz hos rfl HBD.out (Own.app hown9 rfl) hblk hsz9)
          have HFT := Lib.hid (((HFz.out.trans (FrR.below (lo := lo) (rb := rb) hbA hsz (Nat.le_of_lt hrb))).trans (FrR.app (HCz.out.ht.alloc (.cells #[.int .i64 kd, .int .i64 pr, .int .i64 pe, .int .i64 off, .int .i64 dl, .int .i64 ow, .slice none 0 0] tyT)) hb9 hblk9 (Nat.le_refl _) (Nat.le_of_lt hrb))).trans ((FrR.set 0 (.slice A' M c') (Or.inl rfl) (Nat.le_of_lt hrb)).trans (FrR.set 2 (.bool true) (Or.inl rfl) (Nat.le_of_lt hrb))))
          have HR9 := Lib.hid hr9
          clear hbA hblk hsz9 hr9 hown9 hb9 hblk9
          refine hK.out _ _ trivial (fun hHeld => ?_)
          clear hK K
          try simp only [Act.put, List.setIfInBounds_toArray, List.set_cons_zero, List.set_cons_succ]
          refine tkH 9 ?_
          try simp only [Act.put, List.setIfInBounds_toArray, List.set_cons_zero, List.set_cons_succ]
          refine tkH 10 ?_
          try simp only [Act.put, List.setIfInBounds_toArray, List.set_cons_zero, List.set_cons_succ]
          refine tkH 11 ?_
          try simp only [Act.put, List.setIfInBounds_toArray, List.set_cons_zero, List.set_cons_succ]
          refine wpAnyH_ready (rs := [12]) (by kernel_rfl) (by simp) ?_
          refine AllReadyH.cons (o := ?_) ?_ (fun K hK => ?_) AllReadyH.nil
          rotate_left
          · (simp only [List.getElem?_toArray, List.getElem?_cons_succ, List.getElem?_cons_zero]; rfl)
          · go_simp
            refine hK.out _ _ trivial (fun hHeld => ?_)
            clear hK K
            try simp only [Act.put, List.setIfInBounds_toArray, List.set_cons_zero, List.set_cons_succ]
            refine wpAnyH_done (by kernel_rfl) ?_ _
            have hr10 := HR9.out.set 0 (.slice A' M c')
            have d2 : (w9.setCell ⟨rb, 0, none⟩ (.slice A' M c')).cell? ⟨rb, 2, none⟩ = some (.bool false) := (hr10.cell 2).trans rfl
            have g2 := hr10.frozen 2
            obtain ⟨w10, hw10⟩ : ∃ x, w9.setCell ⟨rb, 0, none⟩ (.slice A' M c') = x := ⟨_, rfl⟩
            rw [hw10] at d2 g2 HTK HFT ⊢
            clear hr10 HR9 hw10 c9 f9
            go_wp2_with fail
            go_ret
            exact ⟨rfl, ⟨_, _, _, HTK.out⟩, HFT.out⟩
  · refine AllReadyH.cons (o := ?_) ?_ (fun K hK => ?_) AllReadyH.nil
    rotate_left
    · (simp only [List.getElem?_toArray, List.getElem?_cons_succ, List.getElem?_cons_zero]; rfl)
    · go_simp
      refine hK.out _ _ trivial (fun hHeld => ?_)
      clear hK K
      try simp only [Act.put, List.setIfInBounds_toArray, List.set_cons_zero, List.set_cons_succ]
      refine wpAnyH_ready (rs := [5, 7]) (by kernel_rfl) (by simp) ?_
      refine AllReadyH.cons (o := ?_) ?_ (fun K hK => ?_) ?_
      rotate_left
      · (simp only [List.getElem?_toArray, List.getElem?_cons_succ, List.getElem?_cons_zero]; rfl)
      · go_simp
        refine hK.out _ _ trivial (fun hHeld => ?_)
        clear hK K
        try simp only [Act.put, List.setIfInBounds_toArray, List.set_cons_zero, List.set_cons_succ]
        refine wpAnyH_ready (rs := [7]) (by kernel_rfl) (by simp) ?_
        refine AllReadyH.cons (o := ?_) ?_ (fun K hK => ?_) AllReadyH.nil
        rotate_left
        · (simp only [List.getElem?_toArray, List.getElem?_cons_succ, List.getElem?_cons_zero]; rfl)
        · go_simp
          have cA : (wz.alloc (.cells #[.int .i64 kd, .int .i64 pr, .int .i64 pe, .int .i64 off, .int .i64 dl, .int .i64 ow, .slice none 0 0] tyT)).cell? ⟨rb, 0, none⟩ = some (vt) := (World.cell?_alloc_lt wz _ _ (cell_lt cz)).trans cz
          clear cz
          refine hK.out _ _ trivial (fun hHeld => ?_)
          clear hK K
          try simp only [Act.put, List.setIfInBounds_toArray, List.set_cons_zero, List.set_cons_succ]
          refine wpAnyH_ready (rs := [8]) (by kernel_rfl) (by simp) ?_
          refine AllReadyH.cons (o := ?_) ?_ (fun K hK => ?_) AllReadyH.nil
          rotate_left
          · (simp only [List.getElem?_toArray, List.getElem?_cons_succ, List.getElem?_cons_zero]; rfl)
          · refine step_app2 (by rfl) (.tmp 76) (.tmp 78) 22 (by rfl) tkTy lo (HCz.out.ht.alloc _) (by rfl) (cells_new' wz [.int .i64 kd, .int .i64 pr, .int .i64 pe, .int .i64 off, .int .i64 dl, .int .i64 ow, .slice none 0 0] _ _ rfl) (by rfl) (by rfl) (by simp [Value.oneCell']) (by unfold maxLen; omega) (by omega) (by rw [World.size_alloc]; omega) ?_
            intro v' w9 hown9 hb9 hblk9 _
            obtain ⟨M, A', c', rfl⟩ : ∃ M A' c', v' = .slice A' M c' := (by obtain ⟨A', c', h⟩ := own_slice hown9; exact ⟨_, A', c', h⟩)
            have hbA := (Below.refl wz.heap.size wz).alloc (Nat.le_refl _) (.cells #[.int .i64 kd, .int .i64 pr, .int .i64 pe, .int .i64 off, .int .i64 dl, .int .i64 ow, .slice none 0 0] tyT)
            have hblk : ∀ k, k < wz.heap.size → some k ≠ vt.ownBlock → w9.heap[k]? = wz.heap[k]? := fun k h1 h2 => (hblk9 k (by rw [World.size_alloc]; omega) h2).trans (hbA.block k h1)
            have hsz9 : wz.heap.size ≤ w9.heap.size := Nat.le_trans hbA.size hb9.size
            have hr9 : RowB w9 rb #[vt, .slice Ao ps.length co, .bool false] tyR := (hb9.block rb hrb).trans ((hbA.block rb (by omega)).trans HCz.out.hr)
            have c9 : w9.cell? ⟨rb, 0, none⟩ = some vt := (hr9.cell 0).trans rfl
            have f9 := hr9.frozen 0
            have HTK := Lib.hid (RdC.task (t := ⟨kd, pr, pe, off, dl, ow, []⟩) HCz.out hrb hsz hos rfl HBD.out (Own.app hown9 rfl) hblk hsz9)
            have HFT := Lib.hid (((HFz.out.trans (FrR.below (lo := lo) (rb := rb) hbA hsz (Nat.le_of_lt hrb))).trans (FrR.app (HCz.out.ht.alloc (.cells #[.int .i64 kd, .int .i64 pr, .int .i64 pe, .int .i64 off, .int .i64 dl, .int .i64 ow, .slice none 0 0] tyT)) hb9 hblk9 (Nat.le_refl _) (Nat.le_of_lt hrb))).trans ((FrR.set 0 (.slice A' M c') (Or.inl rfl) (Nat.le_of_lt hrb)).trans (FrR.set 2 (.bool true) (Or.inl rfl) (Nat.le_of_lt hrb))))
            have HR9 := Lib.hid hr9
            clear hbA hblk hsz9 hr9 hown9 hb9 hblk9
            refine hK.out _ _ trivial (fun hHeld => ?_)
            clear hK K
            try simp only [Act.put, List.setIfInBounds_toArray, List.set_cons_zero, List.set_cons_succ]
            refine tkH 9 ?_
            try simp only [Act.put, List.setIfInBounds_toArray, List.set_cons_zero, List.set_cons_succ]
            refine tkH 10 ?_
            try simp only [Act.put, List.setIfInBounds_toArray, List.set_cons_zero, List.set_cons_succ]
            refine tkH 11 ?_
            try simp only [Act.put, List.setIfInBounds_toArray, List.set_cons_zero, List.set_cons_succ]
            refine wpAnyH_ready (rs := [12]) (by kernel_rfl) (by simp) ?_
            refine AllReadyH.cons (o := ?_) ?_ (fun K hK => ?_) AllReadyH.nil
            rotate_left
            · (simp only [List.getElem?_toArray, List.getElem?_cons_succ, List.getElem?_cons_zero]; rfl)
            · go_simp
              refine hK.out _ _ trivial (fun hHeld => ?_)
              clear hK K
              try simp only [Act.put, List.setIfInBounds_toArray, List.set_cons_zero, List.set_cons_succ]
              refine wpAnyH_done (by kernel_rfl) ?_ _
              have hr10 := HR9.out.set 0 (.slice A' M c')
              have d2 : (w9.setCell ⟨rb, 0, none⟩ (.slice A' M c')).cell? ⟨rb, 2, none⟩ = some (.bool false) := (hr10.cell 2).trans rfl
              have g2 := hr10.frozen 2
              obtain ⟨w10, hw10⟩ : ∃ x, w9.setCell ⟨rb, 0, none⟩ (.slice A' M c') = x := ⟨_, rfl⟩
              rw [hw10] at d2 g2 HTK HFT ⊢
              clear hr10 HR9 hw10 c9 f9
              go_wp2_with fail
              go_ret
              exact ⟨rfl, ⟨_, _, _, HTK.out⟩, HFT.out⟩
      · refine AllReadyH.cons (o := ?_) ?_ (fun K hK => ?_) AllReadyH.nil
        rotate_left
        · (simp only [List.getElem?_toArray, List.getElem?_cons_succ, List.getElem?_cons_zero]; rfl)
        · go_simp
          have cA : (wz.alloc (.cells #[.int .i64 kd, .int .i64 pr, .int .i64 pe, .int .i64 off, .int .i64 dl, .int .i64 ow, .slice none 0 0] tyT)).cell? ⟨rb, 0, none⟩ = some (vt) := (World.cell?_alloc_lt wz _ _ (cell_lt cz)).trans cz
          clear cz
          refine hK.out _ _ trivial (fun hHeld => ?_)
          clear hK K
          try simp only [Act.put, List.setIfInBounds_toArray, List.set_cons_zero, List.set_cons_succ]
          refine wpAnyH_ready (rs := [5]) (by kernel_rfl) (by simp) ?_
          refine AllReadyH.cons (o := ?_) ?_ (fun K hK => ?_) AllReadyH.nil
          rotate_left
          · (simp only [List.getElem?_toArray, List.getElem?_cons_succ, List.getElem?_cons_zero]; rfl)
          · go_simp
            refine hK.out _ _ trivial (fun hHeld => ?_)
            clear hK K
            try simp only [Act.put, List.setIfInBounds_toArray, List.set_cons_zero, List.set_cons_succ]
            refine wpAnyH_ready (rs := [8]) (by kernel_rfl) (by simp) ?_
            refine AllReadyH.cons (o := ?_) ?_ (fun K hK => ?_) AllReadyH.nil
            rotate_left
            · (simp only [List.getElem?_toArray, List.getElem?_cons_succ, List.getElem?_cons_zero]; rfl)
            · refine step_app2 (by rfl) (.tmp 76) (.tmp 78) 22 (by rfl) tkTy lo (HCz.out.ht.alloc _) (by rfl) (cells_new' wz [.int .i64 kd, .int .i64 pr, .int .i64 pe, .int .i64 off, .int .i64 dl, .int .i64 ow, .slice none 0 0] _ _ rfl) (by rfl) (by rfl) (by simp [Value.oneCell']) (by unfold maxLen; omega) (by omega) (by rw [World.size_alloc]; omega) ?_
              intro v' w9 hown9 hb9 hblk9 _
              obtain ⟨M, A', c', rfl⟩ : ∃ M A' c', v' = .slice A' M c' := (by obtain ⟨A', c', h⟩ := own_slice hown9; exact ⟨_, A', c', h⟩)
              have hbA := (Below.refl wz.heap.size wz).alloc (Nat.le_refl _) (.cells #[.int .i64 kd, .int .i64 pr, .int .i64 pe, .int .i64 off, .int .i64 dl, .int .i64 ow, .slice none 0 0] tyT)
              have hblk : ∀ k, k < wz.heap.size → some k ≠ vt.ownBlock → w9.heap[k]? = wz.heap[k]? := fun k h1 h2 => (hblk9 k (by rw [World.size_alloc]; omega) h2).trans (hbA.block k h1)
              have hsz9 : wz.heap.size ≤ w9.heap.size := Nat.le_trans hbA.size hb9.size
              have hr9 : RowB w9 rb #[vt, .slice Ao ps.length co, .bool false] tyR := (hb9.block rb hrb).trans ((hbA.block rb (by omega)).trans HCz.out.hr)
              have c9 : w9.cell? ⟨rb, 0, none⟩ = some vt := (hr9.cell 0).trans rfl
              have f9 := hr9.frozen 0
              have HTK := Lib.hid (RdC.task (t := ⟨kd, pr, pe, off, dl, ow, []⟩) HCz.out hrb hsz hos rfl HBD.out (Own.app hown9 rfl) hblk hsz9)
              have HFT := Lib.hid (((HFz.out.trans (FrR.below (lo := lo) (rb := rb) hbA hsz (Nat.le_of_lt hrb))).trans (FrR.app (HCz.out.ht.alloc (.cells #[.int .i64 kd, .int .i64 pr, .int .i64 pe, .int .i64 off, .int .i64 dl, .int .i64 ow, .slice none 0 0] tyT)) hb9 hblk9 (Nat.le_refl _) (Nat.le_of_lt hrb))).trans ((FrR.set 0 (.slice A' M c') (Or.inl rfl) (Nat.le_of_lt hrb)).trans (FrR.set 2 (.bool true) (Or.inl rfl) (Nat.le_of_lt hrb))))
              have HR9 := Lib.hid hr9
              clear hbA hblk hsz9 hr9 hown9 hb9 hblk9
              refine hK.out _ _ trivial (fun hHeld => ?_)
              clear hK K
              try simp only [Act.put, List.setIfInBounds_toArray, List.set_cons_zero, List.set_cons_succ]
              refine tkH 9 ?_
              try simp only [Act.put, List.setIfInBounds_toArray, List.set_cons_zero, List.set_cons_succ]
              refine tkH 10 ?_
              try simp only [Act.put, List.setIfInBounds_toArray, List.set_cons_zero, List.set_cons_succ]
              refine tkH 11 ?_
              try simp only [Act.put, List.setIfInBounds_toArray, List.set_cons_zero, List.set_cons_succ]
              refine wpAnyH_ready (rs := [12]) (by kernel_rfl) (by simp) ?_
              refine AllReadyH.cons (o := ?_) ?_ (fun K hK => ?_) AllReadyH.nil
              rotate_left
              · (simp only [List.getElem?_toArray, List.getElem?_cons_succ, List.getElem?_cons_zero]; rfl)
              · go_simp
                refine hK.out _ _ trivial (fun hHeld => ?_)
                clear hK K
                try simp only [Act.put, List.setIfInBounds_toArray, List.set_cons_zero, List.set_cons_succ]
                refine wpAnyH_done (by kernel_rfl) ?_ _
                have hr10 := HR9.out.set 0 (.slice A' M c')
                have d2 : (w9.setCell ⟨rb, 0, none⟩ (.slice A' M c')).cell? ⟨rb, 2, none⟩ = some (.bool false) := (hr10.cell 2).trans rfl
                have g2 := hr10.frozen 2
                obtain ⟨w10, hw10⟩ : ∃ x, w9.setCell ⟨rb, 0, none⟩ (.slice A' M c') = x := ⟨_, rfl⟩
                rw [hw10] at d2 g2 HTK HFT ⊢
                clear hr10 HR9 hw10 c9 f9
                go_wp2_with fail
                go_ret
                exact ⟨rfl, ⟨_, _, _, HTK.out⟩, HFT.out⟩
set_option maxRecDepth 100000 in
set_option maxHeartbeats 4000000 in
theorem sread_obj (lo rb : Nat) (s : ByteArray) (w : World) (hs : s.size ≤ 19000) (hrb : rb < lo) (hlo : lo ≤ w.heap.size) (hT : Tab w) (hM : Mx w) {vt vo : Value} {qs : List Tq} {ps : List Oq} {sy : Sy} (h : RdC w lo rb vt vo qs ps sy) (hno : (readTG s.data.toList).isSome = true → sy.os ≠ []) (hn : ps.length ≤ 100000) :
    Calls Tryz.prog 24 #[.pointer (some ⟨rb, 0, none⟩), .string s] w fun e w' => e = .returned (.bool (readOG s.data.toList).isSome) ∧ (∀ o, readOG s.data.toList = some o → ∃ vo' ps', RdC w' lo rb vt vo' qs ps' ⟨sy.ts, sy.os ++ [o]⟩) ∧ FrR lo rb w w' := by
  have hh := srhead_any s w (by omega) hT hM
  unfold RHeadR at hh
  have HH := Lib.hid hh
  have HC := Lib.hid h
  have HNO := Lib.hid hno
  have HO := Lib.hid (show ∀ W, Below w.heap.size w W → Calls Tryz.prog 46 #[.string s] W (RObjR s.data.toList W) from fun W hW => srobj_any s W hs (hT.below hW) (hM.below hW))
  have c0 : w.cell? ⟨rb, 0, none⟩ = some vt := (h.hr.cell 0).trans rfl
  have c1 : w.cell? ⟨rb, 1, none⟩ = some vo := (h.hr.cell 1).trans rfl
  have c2 : w.cell? ⟨rb, 2, none⟩ = some (.bool false) := (h.hr.cell 2).trans rfl
  clear h hh hno hT hM
  go_enter Tryz.func24, Tryz.ntmps24
  go_wp2_with fail
  refine HH.out.mono ?_
  rintro e w1 ⟨kd1, pr1, pe1, off1, dl1, ow1, rfl, ht, hb1⟩
  clear ht HH c0 c1 c2
  have hC1 := HC.out.below hb1
  obtain ⟨Ao, co, hvo⟩ := own_slice hC1.ho
  subst hvo
  have c0 : w1.cell? ⟨rb, 0, none⟩ = some vt := (hC1.hr.cell 0).trans rfl
  have c1 : w1.cell? ⟨rb, 1, none⟩ = some (.slice Ao ps.length co) := (hC1.hr.cell 1).trans rfl
  have HF1 := Lib.hid (FrR.below (lo := lo) (rb := rb) hb1 hlo (Nat.le_of_lt hrb))
  have hr1 : rb < w1.heap.size := hC1.hr.lt
  have hbA := (Below.refl w1.heap.size w1).alloc (Nat.le_refl _) (.cells #[.int .i64 kd1, .int .i64 pr1, .int .i64 pe1, .int .i64 off1, .int .i64 dl1, .int .i64 ow1, .slice none 0 0] tyT)
  have hpsl := hC1.hos.1
  have HBA := Lib.hid hbA
  have HB1 := Lib.hid hb1
  have HC1 := Lib.hid hC1
  unfold tkR
  have fin1 : ∀ w3, w1.alloc (.cells #[.int .i64 kd1, .int .i64 pr1, .int .i64 pe1, .int .i64 off1, .int .i64 dl1, .int .i64 ow1, .slice none 0 0] tyT) = w3 → Calls Tryz.prog 46 #[.string s] w3 (RObjR s.data.toList w3) ∧ FrR lo rb w w3 ∧ RdC w3 lo rb vt (.slice Ao ps.length co) qs ps sy ∧ lo ≤ w3.heap.size := fun w3 e => by
    rw [e] at hbA
    have hlw1 : lo ≤ w1.heap.size := Nat.le_trans hlo hb1.size
    exact ⟨HO.out _ (hb1.trans (hbA.mono hb1.size)), HF1.out.trans (FrR.below hbA hlw1 (Nat.le_of_lt hrb)), hC1.below hbA, Nat.le_trans hlw1 hbA.size⟩
  have FIN1 := Lib.hid fin1
  clear fin1 hbA hb1 hC1 HC HO
  rcases hok : (readTG s.data.toList).isSome with _ | _
  · clear hok hpsl
    go_wp2_with fail
    obtain ⟨w3, hw3⟩ : ∃ x, w1.alloc (.cells #[.int .i64 kd1, .int .i64 pr1, .int .i64 pe1, .int .i64 off1, .int .i64 dl1, .int .i64 ow1, .slice none 0 0] 46) = x := ⟨_, rfl⟩
    obtain ⟨hcall, hF3, hC3, hl3⟩ := FIN1.out w3 hw3
    rw [hw3]
    clear hw3 c0 c1
    unfold RObjR at hcall
    refine hcall.mono ?_
    rintro e w2 ⟨kd, wd, sl, cp, st, I, ni, ci, wr, R, nr, cr, rfl, hgot, hb2⟩
    have hC2 := hC3.below hb2
    have HF2 := Lib.hid (hF3.trans (FrR.below (lo := lo) (rb := rb) hb2 hl3 (Nat.le_of_lt hrb)))
    have hl2 : lo ≤ w2.heap.size := Nat.le_trans hl3 hb2.size
    have HGOT := Lib.hid hgot
    have c0 : w2.cell? ⟨rb, 0, none⟩ = some vt := (hC2.hr.cell 0).trans rfl
    have c1 : w2.cell? ⟨rb, 1, none⟩ = some (.slice Ao ps.length co) := (hC2.hr.cell 1).trans rfl
    have hr2 : rb < w2.heap.size := hC2.hr.lt
    have HC2 := Lib.hid hC2
    clear hC2 hC3 hF3 hb2 hcall hgot FIN1 HNO
    unfold ojR
    go_wp2_with fail
    have hbx := RowB.new w2 #[.int .i64 kd, .int .i64 wd, .int .i64 sl, .int .i64 cp, .int .u32 st, .slice I ni ci, .int .i64 wr, .slice R nr cr] tyO
    have hb3 := (Below.refl w2.heap.size w2).alloc (Nat.le_refl _) (.cells #[.int .i64 kd, .int .i64 wd, .int .i64 sl, .int .i64 cp, .int .u32 st, .slice I ni ci, .int .i64 wr, .slice R nr cr] tyO)
    have HB3 := hb3
    have hC3 := HC2.out.below hb3
    have hF3 := HF2.out.trans (FrR.below (lo := lo) (rb := rb) hb3 (by omega) (Nat.le_of_lt hrb))
    have hs3 : lo ≤ (w2.alloc (.cells #[.int .i64 kd, .int .i64 wd, .int .i64 sl, .int .i64 cp, .int .u32 st, .slice I ni ci, .int .i64 wr, .slice R nr cr] tyO)).heap.size := by rw [World.size_alloc]; omega
    obtain ⟨w3, hw3⟩ : ∃ x, w2.alloc (.cells #[.int .i64 kd, .int .i64 wd, .int .i64 sl, .int .i64 cp, .int .u32 st, .slice I ni ci, .int .i64 wr, .slice R nr cr] tyO) = x := ⟨_, rfl⟩
    obtain ⟨bx, hbx0⟩ : ∃ x, w2.heap.size = x := ⟨_, rfl⟩
    rw [hw3, hbx0] at hbx
    rw [hw3] at hC3 hF3 hs3 HB3
    rw [hw3, hbx0]
    clear hb3 hw3 c0 c1
    refine wp_region_held_drew (S := (fun _ : World => True)) (by kernel_rfl) trivial (fun hHeld => ?_)
    skip
    have hdr := (Below.refl w3.heap.size w3).drew
    have hCz := hC3.below hdr
    have hbz := hbx.kept hdr
    have hFz := hF3.trans (FrR.below (lo := lo) (rb := rb) hdr hs3 (Nat.le_of_lt hrb))
    have hsz : lo ≤ w3.drew.heap.size := Nat.le_trans hs3 hdr.size
    have hBz := HB3.trans (hdr.mono HB3.size)
    generalize w3.drew = wz at hCz hbz hFz hsz hBz ⊢
    clear hdr hC3 hF3 hs3 hbx
    have b0 := hbz.cell 0
    have b1 := hbz.cell 1
    have b2 := hbz.cell 2
    have b3 := hbz.cell 3
    have b4 := hbz.cell 4
    have b5 := hbz.cell 5
    have b6 := hbz.cell 6
    have b7 := hbz.cell 7
    simp only [List.getElem?_toArray, List.getElem?_cons_zero, List.getElem?_cons_succ] at b0 b1 b2 b3 b4 b5 b6 b7
    have HCz := Lib.hid hCz
    have HFz := Lib.hid hFz
    have cz : wz.cell? ⟨rb, 1, none⟩ = some (.slice Ao ps.length co) := (hCz.hr.cell 1).trans rfl
    clear hCz hFz hbz
    have HBz := Lib.hid hBz
    clear hBz HB3
    refine tkH 0 ?_
    try simp only [Act.put, List.setIfInBounds_toArray, List.set_cons_zero, List.set_cons_succ]
    refine tkH 1 ?_
    try simp only [Act.put, List.setIfInBounds_toArray, List.set_cons_zero, List.set_cons_succ]
    refine tkH 2 ?_
    try simp only [Act.put, List.setIfInBounds_toArray, List.set_cons_zero, List.set_cons_succ]
    refine tkH 3 ?_
    try simp only [Act.put, List.setIfInBounds_toArray, List.set_cons_zero, List.set_cons_succ]
    refine tkH 4 ?_
    try simp only [Act.put, List.setIfInBounds_toArray, List.set_cons_zero, List.set_cons_succ]
    refine wpAnyH_ready (rs := [5, 6]) (by kernel_rfl) (by simp) ?_
    refine AllReadyH.cons (o := ?_) ?_ (fun K hK => ?_) ?_
    rotate_left
    · (simp only [List.getElem?_toArray, List.getElem?_cons_succ, List.getElem?_cons_zero]; rfl)
    · go_simp
      refine hK.out _ _ trivial (fun hHeld => ?_)
      clear hK K
      try simp only [Act.put, List.setIfInBounds_toArray, List.set_cons_zero, List.set_cons_succ]
      refine wpAnyH_ready (rs := [6]) (by kernel_rfl) (by simp) ?_
      refine AllReadyH.cons (o := ?_) ?_ (fun K hK => ?_) AllReadyH.nil
      rotate_left
      · (simp only [List.getElem?_toArray, List.getElem?_cons_succ, List.getElem?_cons_zero]; rfl)
      · go_simp
        refine hK.out _ _ trivial (fun hHeld => ?_)
        clear hK K
        try simp only [Act.put, List.setIfInBounds_toArray, List.set_cons_zero, List.set_cons_succ]
        refine wpAnyH_ready (rs := [7]) (by kernel_rfl) (by simp) ?_
        refine AllReadyH.cons (o := ?_) ?_ (fun K hK => ?_) AllReadyH.nil
        rotate_left
        · (simp only [List.getElem?_toArray, List.getElem?_cons_succ, List.getElem?_cons_zero]; rfl)
        · go_simp
          have cA : (wz.alloc (.cells #[.int .i64 kd, .int .i64 wd, .int .i64 sl, .int .i64 cp, .int .u32 st, .slice I ni ci, .int .i64 wr, .slice R nr cr] tyO)).cell? ⟨rb, 1, none⟩ = some (.slice Ao ps.length co) := (World.cell?_alloc_lt wz _ _ (cell_lt cz)).trans cz
          clear cz
          refine hK.out _ _ trivial (fun hHeld => ?_)
          clear hK K
          try simp only [Act.put, List.setIfInBounds_toArray, List.set_cons_zero, List.set_cons_succ]
          refine wpAnyH_ready (rs := [8]) (by kernel_rfl) (by simp) ?_
          refine AllReadyH.cons (o := ?_) ?_ (fun K hK => ?_) AllReadyH.nil
          rotate_left
          · (simp only [List.getElem?_toArray, List.getElem?_cons_succ, List.getElem?_cons_zero]; rfl)
          · refine step_app2 (by rfl) (.tmp 96) (.tmp 98) 23 (by rfl) ojTy lo (HCz.out.ho.alloc _) (by rfl) (cells_new' wz [.int .i64 kd, .int .i64 wd, .int .i64 sl, .int .i64 cp, .int .u32 st, .slice I ni ci, .int .i64 wr, .slice R nr cr] _ _ rfl) (by rfl) (by rfl) (by simp [Value.oneCell']) (by unfold maxLen; omega) (by omega) (by rw [World.size_alloc]; omega) ?_
            intro v' w9 hown9 hb9 hblk9 _
            obtain ⟨M, A', c', rfl⟩ : ∃ M A' c', v' = .slice A' M c' := (by obtain ⟨A', c', h⟩ := own_slice hown9; exact ⟨_, A', c', h⟩)
            have hbA := (Below.refl wz.heap.size wz).alloc (Nat.le_refl _) (.cells #[.int .i64 kd, .int .i64 wd, .int .i64 sl, .int .i64 cp, .int .u32 st, .slice I ni ci, .int .i64 wr, .slice R nr cr] tyO)
            have hblk : ∀ k, k < wz.heap.size → some k ≠ (Value.slice Ao ps.length co).ownBlock → w9.heap[k]? = wz.heap[k]? := fun k h1 h2 => (hblk9 k (by rw [World.size_alloc]; omega) h2).trans (hbA.block k h1)
            have hsz9 : wz.heap.size ≤ w9.heap.size := Nat.le_trans hbA.size hb9.size
            have hr9 : RowB w9 rb #[vt, .slice Ao ps.length co, .bool false] tyR := (hb9.block rb hrb).trans ((hbA.block rb (by omega)).trans HCz.out.hr)
            have c9 : w9.cell? ⟨rb, 1, none⟩ = some (.slice Ao ps.length co) := (hr9.cell 1).trans rfl
            have f9 := hr9.frozen 1
            have HTK := Lib.hid (show ∀ o, readOG s.data.toList = some o → ∃ vo' ps', RdC (w9.setCell ⟨rb, 1, none⟩ (.slice A' M c')) lo rb vt vo' qs ps' ⟨sy.ts, sy.os ++ [o]⟩ from fun o ho => by
              obtain ⟨e1, e2, e3, e4, e5, e6, e7, e8, hI, hR⟩ := HGOT.out o ho
              have hbb := readOG_bd ho
              have hqz : OqOk wz lo wz.heap.size ⟨kd, wd, sl, cp, st, I, ni, ci, wr, R, nr, cr⟩ o := ⟨⟨e1.symm, e2.symm, e3.symm, e4.symm, e5.symm, e6.symm⟩, e7.symm, hI.1.bd.2, (hI.1.slT hl3).keep (KeepT.below HBz.out _) HBz.out.size, hI.2, e8.symm, hR.bd.2, (hR.slT hl3).keep (KeepT.below HBz.out _) HBz.out.size, hbb.1, hbb.2⟩
              exact ⟨_, _, RdC.obj HCz.out hrb hsz hqz (Own.app hown9 rfl) hblk hsz9⟩)
            have HFT := Lib.hid (((HFz.out.trans (FrR.below (lo := lo) (rb := rb) hbA hsz (Nat.le_of_lt hrb))).trans (FrR.app (HCz.out.ho.alloc (.cells #[.int .i64 kd, .int .i64 wd, .int .i64 sl, .int .i64 cp, .int .u32 st, .slice I ni ci, .int .i64 wr, .slice R nr cr] tyO)) hb9 hblk9 (Nat.le_refl _) (Nat.le_of_lt hrb))).trans (FrR.set 1 (.slice A' M c') (Or.inl rfl) (Nat.le_of_lt hrb)))
            clear hbA hblk hsz9 hr9 hown9 hb9 hblk9
            refine hK.out _ _ trivial (fun hHeld => ?_)
            clear hK K
            try simp only [Act.put, List.setIfInBounds_toArray, List.set_cons_zero, List.set_cons_succ]
            refine tkH 9 ?_
            try simp only [Act.put, List.setIfInBounds_toArray, List.set_cons_zero, List.set_cons_succ]
            refine tkH 10 ?_
            try simp only [Act.put, List.setIfInBounds_toArray, List.set_cons_zero, List.set_cons_succ]
            refine tkH 11 ?_
            try simp only [Act.put, List.setIfInBounds_toArray, List.set_cons_zero, List.set_cons_succ]
            refine wpAnyH_ready (rs := [12]) (by kernel_rfl) (by simp) ?_
            refine AllReadyH.cons (o := ?_) ?_ (fun K hK => ?_) AllReadyH.nil
            rotate_left
            · (simp only [List.getElem?_toArray, List.getElem?_cons_succ, List.getElem?_cons_zero]; rfl)
            · go_simp
              refine hK.out _ _ trivial (fun hHeld => ?_)
              clear hK K
              try simp only [Act.put, List.setIfInBounds_toArray, List.set_cons_zero, List.set_cons_succ]
              refine wpAnyH_done (by kernel_rfl) ?_ _
              obtain ⟨w10, hw10⟩ : ∃ x, w9.setCell ⟨rb, 1, none⟩ (.slice A' M c') = x := ⟨_, rfl⟩
              rw [hw10] at HTK HFT ⊢
              clear hw10 c9 f9
              go_wp2_with fail
              go_ret
              exact ⟨rfl, HTK.out, HFT.out⟩
    · refine AllReadyH.cons (o := ?_) ?_ (fun K hK => ?_) AllReadyH.nil
      rotate_left
      · (simp only [List.getElem?_toArray, List.getElem?_cons_succ, List.getElem?_cons_zero]; rfl)
      · go_simp
        refine hK.out _ _ trivial (fun hHeld => ?_)
        clear hK K
        try simp only [Act.put, List.setIfInBounds_toArray, List.set_cons_zero, List.set_cons_succ]
        refine wpAnyH_ready (rs := [5, 7]) (by kernel_rfl) (by simp) ?_
        refine AllReadyH.cons (o := ?_) ?_ (fun K hK => ?_) ?_
        rotate_left
        · (simp only [List.getElem?_toArray, List.getElem?_cons_succ, List.getElem?_cons_zero]; rfl)
        · go_simp
          refine hK.out _ _ trivial (fun hHeld => ?_)
          clear hK K
          try simp only [Act.put, List.setIfInBounds_toArray, List.set_cons_zero, List.set_cons_succ]
          refine wpAnyH_ready (rs := [7]) (by kernel_rfl) (by simp) ?_
          refine AllReadyH.cons (o := ?_) ?_ (fun K hK => ?_) AllReadyH.nil
          rotate_left
          · (simp only [List.getElem?_toArray, List.getElem?_cons_succ, List.getElem?_cons_zero]; rfl)
          · go_simp
            have cA : (wz.alloc (.cells #[.int .i64 kd, .int .i64 wd, .int .i64 sl, .int .i64 cp, .int .u32 st, .slice I ni ci, .int .i64 wr, .slice R nr cr] tyO)).cell? ⟨rb, 1, none⟩ = some (.slice Ao ps.length co) := (World.cell?_alloc_lt wz _ _ (cell_lt cz)).trans cz
            clear cz
            refine hK.out _ _ trivial (fun hHeld => ?_)
            clear hK K
            try simp only [Act.put, List.setIfInBounds_toArray, List.set_cons_zero, List.set_cons_succ]
            refine wpAnyH_ready (rs := [8]) (by kernel_rfl) (by simp) ?_
            refine AllReadyH.cons (o := ?_) ?_ (fun K hK => ?_) AllReadyH.nil
            rotate_left
            · (simp only [List.getElem?_toArray, List.getElem?_cons_succ, List.getElem?_cons_zero]; rfl)
            · refine step_app2 (by rfl) (.tmp 96) (.tmp 98) 23 (by rfl) ojTy lo (HCz.out.ho.alloc _) (by rfl) (cells_new' wz [.int .i64 kd, .int .i64 wd, .int .i64 sl, .int .i64 cp, .int .u32 st, .slice I ni ci, .int .i64 wr, .slice R nr cr] _ _ rfl) (by rfl) (by rfl) (by simp [Value.oneCell']) (by unfold maxLen; omega) (by omega) (by rw [World.size_alloc]; omega) ?_
              intro v' w9 hown9 hb9 hblk9 _
              obtain ⟨M, A', c', rfl⟩ : ∃ M A' c', v' = .slice A' M c' := (by obtain ⟨A', c', h⟩ := own_slice hown9; exact ⟨_, A', c', h⟩)
              have hbA := (Below.refl wz.heap.size wz).alloc (Nat.le_refl _) (.cells #[.int .i64 kd, .int .i64 wd, .int .i64 sl, .int .i64 cp, .int .u32 st, .slice I ni ci, .int .i64 wr, .slice R nr cr] tyO)
              have hblk : ∀ k, k < wz.heap.size → some k ≠ (Value.slice Ao ps.length co).ownBlock → w9.heap[k]? = wz.heap[k]? := fun k h1 h2 => (hblk9 k (by rw [World.size_alloc]; omega) h2).trans (hbA.block k h1)
              have hsz9 : wz.heap.size ≤ w9.heap.size := Nat.le_trans hbA.size hb9.size
              have hr9 : RowB w9 rb #[vt, .slice Ao ps.length co, .bool false] tyR := (hb9.block rb hrb).trans ((hbA.block rb (by omega)).trans HCz.out.hr)
              have c9 : w9.cell? ⟨rb, 1, none⟩ = some (.slice Ao ps.length co) := (hr9.cell 1).trans rfl
              have f9 := hr9.frozen 1
              have HTK := Lib.hid (show ∀ o, readOG s.data.toList = some o → ∃ vo' ps', RdC (w9.setCell ⟨rb, 1, none⟩ (.slice A' M c')) lo rb vt vo' qs ps' ⟨sy.ts, sy.os ++ [o]⟩ from fun o ho => by
                obtain ⟨e1, e2, e3, e4, e5, e6, e7, e8, hI, hR⟩ := HGOT.out o ho
                have hbb := readOG_bd ho
                have hqz : OqOk wz lo wz.heap.size ⟨kd, wd, sl, cp, st, I, ni, ci, wr, R, nr, cr⟩ o := ⟨⟨e1.symm, e2.symm, e3.symm, e4.symm, e5.symm, e6.symm⟩, e7.symm, hI.1.bd.2, (hI.1.slT hl3).keep (KeepT.below HBz.out _) HBz.out.size, hI.2, e8.symm, hR.bd.2, (hR.slT hl3).keep (KeepT.below HBz.out _) HBz.out.size, hbb.1, hbb.2⟩
                exact ⟨_, _, RdC.obj HCz.out hrb hsz hqz (Own.app hown9 rfl) hblk hsz9⟩)
              have HFT := Lib.hid (((HFz.out.trans (FrR.below (lo := lo) (rb := rb) hbA hsz (Nat.le_of_lt hrb))).trans (FrR.app (HCz.out.ho.alloc (.cells #[.int .i64 kd, .int .i64 wd, .int .i64 sl, .int .i64 cp, .int .u32 st, .slice I ni ci, .int .i64 wr, .slice R nr cr] tyO)) hb9 hblk9 (Nat.le_refl _) (Nat.le_of_lt hrb))).trans (FrR.set 1 (.slice A' M c') (Or.inl rfl) (Nat.le_of_lt hrb)))
              clear hbA hblk hsz9 hr9 hown9 hb9 hblk9
              refine hK.out _ _ trivial (fun hHeld => ?_)
              clear hK K
              try simp only [Act.put, List.setIfInBounds_toArray, List.set_cons_zero, List.set_cons_succ]
              refine tkH 9 ?_
              try simp only [Act.put, List.setIfInBounds_toArray, List.set_cons_zero, List.set_cons_succ]
              refine tkH 10 ?_
              try simp only [Act.put, List.setIfInBounds_toArray, List.set_cons_zero, List.set_cons_succ]
              refine tkH 11 ?_
              try simp only [Act.put, List.setIfInBounds_toArray, List.set_cons_zero, List.set_cons_succ]
              refine wpAnyH_ready (rs := [12]) (by kernel_rfl) (by simp) ?_
              refine AllReadyH.cons (o := ?_) ?_ (fun K hK => ?_) AllReadyH.nil
              rotate_left
              · (simp only [List.getElem?_toArray, List.getElem?_cons_succ, List.getElem?_cons_zero]; rfl)
              · go_simp
                refine hK.out _ _ trivial (fun hHeld => ?_)
                clear hK K
                try simp only [Act.put, List.setIfInBounds_toArray, List.set_cons_zero, List.set_cons_succ]
                refine wpAnyH_done (by kernel_rfl) ?_ _
                obtain ⟨w10, hw10⟩ : ∃ x, w9.setCell ⟨rb, 1, none⟩ (.slice A' M c') = x := ⟨_, rfl⟩
                rw [hw10] at HTK HFT ⊢
                clear hw10 c9 f9
                go_wp2_with fail
                go_ret
                exact ⟨rfl, HTK.out, HFT.out⟩
        · refine AllReadyH.cons (o := ?_) ?_ (fun K hK => ?_) AllReadyH.nil
          rotate_left
          · (simp only [List.getElem?_toArray, List.getElem?_cons_succ, List.getElem?_cons_zero]; rfl)
          · go_simp
            have cA : (wz.alloc (.cells #[.int .i64 kd, .int .i64 wd, .int .i64 sl, .int .i64 cp, .int .u32 st, .slice I ni ci, .int .i64 wr, .slice R nr cr] tyO)).cell? ⟨rb, 1, none⟩ = some (.slice Ao ps.length co) := (World.cell?_alloc_lt wz _ _ (cell_lt cz)).trans cz
            clear cz
            refine hK.out _ _ trivial (fun hHeld => ?_)
            clear hK K
            try simp only [Act.put, List.setIfInBounds_toArray, List.set_cons_zero, List.set_cons_succ]
            refine wpAnyH_ready (rs := [5]) (by kernel_rfl) (by simp) ?_
            refine AllReadyH.cons (o := ?_) ?_ (fun K hK => ?_) AllReadyH.nil
            rotate_left
            · (simp only [List.getElem?_toArray, List.getElem?_cons_succ, List.getElem?_cons_zero]; rfl)
            · go_simp
              refine hK.out _ _ trivial (fun hHeld => ?_)
              clear hK K
              try simp only [Act.put, List.setIfInBounds_toArray, List.set_cons_zero, List.set_cons_succ]
              refine wpAnyH_ready (rs := [8]) (by kernel_rfl) (by simp) ?_
              refine AllReadyH.cons (o := ?_) ?_ (fun K hK => ?_) AllReadyH.nil
              rotate_left
              · (simp only [List.getElem?_toArray, List.getElem?_cons_succ, List.getElem?_cons_zero]; rfl)
              · refine step_app2 (by rfl) (.tmp 96) (.tmp 98) 23 (by rfl) ojTy lo (HCz.out.ho.alloc _) (by rfl) (cells_new' wz [.int .i64 kd, .int .i64 wd, .int .i64 sl, .int .i64 cp, .int .u32 st, .slice I ni ci, .int .i64 wr, .slice R nr cr] _ _ rfl) (by rfl) (by rfl) (by simp [Value.oneCell']) (by unfold maxLen; omega) (by omega) (by rw [World.size_alloc]; omega) ?_
                intro v' w9 hown9 hb9 hblk9 _
                obtain ⟨M, A', c', rfl⟩ : ∃ M A' c', v' = .slice A' M c' := (by obtain ⟨A', c', h⟩ := own_slice hown9; exact ⟨_, A', c', h⟩)
                have hbA := (Below.refl wz.heap.size wz).alloc (Nat.le_refl _) (.cells #[.int .i64 kd, .int .i64 wd, .int .i64 sl, .int .i64 cp, .int .u32 st, .slice I ni ci, .int .i64 wr, .slice R nr cr] tyO)
                have hblk : ∀ k, k < wz.heap.size → some k ≠ (Value.slice Ao ps.length co).ownBlock → w9.heap[k]? = wz.heap[k]? := fun k h1 h2 => (hblk9 k (by rw [World.size_alloc]; omega) h2).trans (hbA.block k h1)
                have hsz9 : wz.heap.size ≤ w9.heap.size := Nat.le_trans hbA.size hb9.size
                have hr9 : RowB w9 rb #[vt, .slice Ao ps.length co, .bool false] tyR := (hb9.block rb hrb).trans ((hbA.block rb (by omega)).trans HCz.out.hr)
                have c9 : w9.cell? ⟨rb, 1, none⟩ = some (.slice Ao ps.length co) := (hr9.cell 1).trans rfl
                have f9 := hr9.frozen 1
                have HTK := Lib.hid (show ∀ o, readOG s.data.toList = some o → ∃ vo' ps', RdC (w9.setCell ⟨rb, 1, none⟩ (.slice A' M c')) lo rb vt vo' qs ps' ⟨sy.ts, sy.os ++ [o]⟩ from fun o ho => by
                  obtain ⟨e1, e2, e3, e4, e5, e6, e7, e8, hI, hR⟩ := HGOT.out o ho
                  have hbb := readOG_bd ho
                  have hqz : OqOk wz lo wz.heap.size ⟨kd, wd, sl, cp, st, I, ni, ci, wr, R, nr, cr⟩ o := ⟨⟨e1.symm, e2.symm, e3.symm, e4.symm, e5.symm, e6.symm⟩, e7.symm, hI.1.bd.2, (hI.1.slT hl3).keep (KeepT.below HBz.out _) HBz.out.size, hI.2, e8.symm, hR.bd.2, (hR.slT hl3).keep (KeepT.below HBz.out _) HBz.out.size, hbb.1, hbb.2⟩
                  exact ⟨_, _, RdC.obj HCz.out hrb hsz hqz (Own.app hown9 rfl) hblk hsz9⟩)
                have HFT := Lib.hid (((HFz.out.trans (FrR.below (lo := lo) (rb := rb) hbA hsz (Nat.le_of_lt hrb))).trans (FrR.app (HCz.out.ho.alloc (.cells #[.int .i64 kd, .int .i64 wd, .int .i64 sl, .int .i64 cp, .int .u32 st, .slice I ni ci, .int .i64 wr, .slice R nr cr] tyO)) hb9 hblk9 (Nat.le_refl _) (Nat.le_of_lt hrb))).trans (FrR.set 1 (.slice A' M c') (Or.inl rfl) (Nat.le_of_lt hrb)))
                clear hbA hblk hsz9 hr9 hown9 hb9 hblk9
                refine hK.out _ _ trivial (fun hHeld => ?_)
                clear hK K
                try simp only [Act.put, List.setIfInBounds_toArray, List.set_cons_zero, List.set_cons_succ]
                refine tkH 9 ?_
                try simp only [Act.put, List.setIfInBounds_toArray, List.set_cons_zero, List.set_cons_succ]
                refine tkH 10 ?_
                try simp only [Act.put, List.setIfInBounds_toArray, List.set_cons_zero, List.set_cons_succ]
                refine tkH 11 ?_
                try simp only [Act.put, List.setIfInBounds_toArray, List.set_cons_zero, List.set_cons_succ]
                refine wpAnyH_ready (rs := [12]) (by kernel_rfl) (by simp) ?_
                refine AllReadyH.cons (o := ?_) ?_ (fun K hK => ?_) AllReadyH.nil
                rotate_left
                · (simp only [List.getElem?_toArray, List.getElem?_cons_succ, List.getElem?_cons_zero]; rfl)
                · go_simp
                  refine hK.out _ _ trivial (fun hHeld => ?_)
                  clear hK K
                  try simp only [Act.put, List.setIfInBounds_toArray, List.set_cons_zero, List.set_cons_succ]
                  refine wpAnyH_done (by kernel_rfl) ?_ _
                  obtain ⟨w10, hw10⟩ : ∃ x, w9.setCell ⟨rb, 1, none⟩ (.slice A' M c') = x := ⟨_, rfl⟩
                  rw [hw10] at HTK HFT ⊢
                  clear hw10 c9 f9
                  go_wp2_with fail
                  go_ret
                  exact ⟨rfl, HTK.out, HFT.out⟩
  · have hne := HNO.out hok
    have q0 : ((ps.length : Int) == 0) = false := by rw [hpsl]; exact beq_eq_false_iff_ne.2 (fun e => hne (List.eq_nil_of_length_eq_zero (by omega)))
    have q1 : (ps.length == 0) = false := by rw [hpsl]; exact beq_eq_false_iff_ne.2 (fun e => hne (List.eq_nil_of_length_eq_zero e))
    clear hok hpsl
    go_wp2_with fail
    obtain ⟨w3, hw3⟩ : ∃ x, w1.alloc (.cells #[.int .i64 kd1, .int .i64 pr1, .int .i64 pe1, .int .i64 off1, .int .i64 dl1, .int .i64 ow1, .slice none 0 0] 46) = x := ⟨_, rfl⟩
    obtain ⟨hcall, hF3, hC3, hl3⟩ := FIN1.out w3 hw3
    rw [hw3]
    clear hw3 c0 c1
    unfold RObjR at hcall
    refine hcall.mono ?_
    rintro e w2 ⟨kd, wd, sl, cp, st, I, ni, ci, wr, R, nr, cr, rfl, hgot, hb2⟩
    have hC2 := hC3.below hb2
    have HF2 := Lib.hid (hF3.trans (FrR.below (lo := lo) (rb := rb) hb2 hl3 (Nat.le_of_lt hrb)))
    have hl2 : lo ≤ w2.heap.size := Nat.le_trans hl3 hb2.size
    have HGOT := Lib.hid hgot
    have c0 : w2.cell? ⟨rb, 0, none⟩ = some vt := (hC2.hr.cell 0).trans rfl
    have c1 : w2.cell? ⟨rb, 1, none⟩ = some (.slice Ao ps.length co) := (hC2.hr.cell 1).trans rfl
    have hr2 : rb < w2.heap.size := hC2.hr.lt
    have HC2 := Lib.hid hC2
    clear hC2 hC3 hF3 hb2 hcall hgot FIN1 HNO
    unfold ojR
    go_wp2_with fail
    have hbx := RowB.new w2 #[.int .i64 kd, .int .i64 wd, .int .i64 sl, .int .i64 cp, .int .u32 st, .slice I ni ci, .int .i64 wr, .slice R nr cr] tyO
    have hb3 := (Below.refl w2.heap.size w2).alloc (Nat.le_refl _) (.cells #[.int .i64 kd, .int .i64 wd, .int .i64 sl, .int .i64 cp, .int .u32 st, .slice I ni ci, .int .i64 wr, .slice R nr cr] tyO)
    have HB3 := hb3
    have hC3 := HC2.out.below hb3
    have hF3 := HF2.out.trans (FrR.below (lo := lo) (rb := rb) hb3 (by omega) (Nat.le_of_lt hrb))
    have hs3 : lo ≤ (w2.alloc (.cells #[.int .i64 kd, .int .i64 wd, .int .i64 sl, .int .i64 cp, .int .u32 st, .slice I ni ci, .int .i64 wr, .slice R nr cr] tyO)).heap.size := by rw [World.size_alloc]; omega
    obtain ⟨w3, hw3⟩ : ∃ x, w2.alloc (.cells #[.int .i64 kd, .int .i64 wd, .int .i64 sl, .int .i64 cp, .int .u32 st, .slice I ni ci, .int .i64 wr, .slice R nr cr] tyO) = x := ⟨_, rfl⟩
    obtain ⟨bx, hbx0⟩ : ∃ x, w2.heap.size = x := ⟨_, rfl⟩
    rw [hw3, hbx0] at hbx
    rw [hw3] at hC3 hF3 hs3 HB3
    rw [hw3, hbx0]
    clear hb3 hw3 c0 c1
    refine wp_region_held_drew (S := (fun _ : World => True)) (by kernel_rfl) trivial (fun hHeld => ?_)
    skip
    have hdr := (Below.refl w3.heap.size w3).drew
    have hCz := hC3.below hdr
    have hbz := hbx.kept hdr
    have hFz := hF3.trans (FrR.below (lo := lo) (rb := rb) hdr hs3 (Nat.le_of_lt hrb))
    have hsz : lo ≤ w3.drew.heap.size := Nat.le_trans hs3 hdr.size
    have hBz := HB3.trans (hdr.mono HB3.size)
    generalize w3.drew = wz at hCz hbz hFz hsz hBz ⊢
    clear hdr hC3 hF3 hs3 hbx
    have b0 := hbz.cell 0
    have b1 := hbz.cell 1
    have b2 := hbz.cell 2
    have b3 := hbz.cell 3
    have b4 := hbz.cell 4
    have b5 := hbz.cell 5
    have b6 := hbz.cell 6
    have b7 := hbz.cell 7
    simp only [List.getElem?_toArray, List.getElem?_cons_zero, List.getElem?_cons_succ] at b0 b1 b2 b3 b4 b5 b6 b7
    have HCz := Lib.hid hCz
    have HFz := Lib.hid hFz
    have cz : wz.cell? ⟨rb, 1, none⟩ = some (.slice Ao ps.length co) := (hCz.hr.cell 1).trans rfl
    clear hCz hFz hbz
    have HBz := Lib.hid hBz
    clear hBz HB3
    refine tkH 0 ?_
    try simp only [Act.put, List.setIfInBounds_toArray, List.set_cons_zero, List.set_cons_succ]
    refine tkH 1 ?_
    try simp only [Act.put, List.setIfInBounds_toArray, List.set_cons_zero, List.set_cons_succ]
    refine tkH 2 ?_
    try simp only [Act.put, List.setIfInBounds_toArray, List.set_cons_zero, List.set_cons_succ]
    refine tkH 3 ?_
    try simp only [Act.put, List.setIfInBounds_toArray, List.set_cons_zero, List.set_cons_succ]
    refine tkH 4 ?_
    try simp only [Act.put, List.setIfInBounds_toArray, List.set_cons_zero, List.set_cons_succ]
    refine wpAnyH_ready (rs := [5, 6]) (by kernel_rfl) (by simp) ?_
    refine AllReadyH.cons (o := ?_) ?_ (fun K hK => ?_) ?_
    rotate_left
    · (simp only [List.getElem?_toArray, List.getElem?_cons_succ, List.getElem?_cons_zero]; rfl)
    · go_simp
      refine hK.out _ _ trivial (fun hHeld => ?_)
      clear hK K
      try simp only [Act.put, List.setIfInBounds_toArray, List.set_cons_zero, List.set_cons_succ]
      refine wpAnyH_ready (rs := [6]) (by kernel_rfl) (by simp) ?_
      refine AllReadyH.cons (o := ?_) ?_ (fun K hK => ?_) AllReadyH.nil
      rotate_left
      · (simp only [List.getElem?_toArray, List.getElem?_cons_succ, List.getElem?_cons_zero]; rfl)
      · go_simp
        refine hK.out _ _ trivial (fun hHeld => ?_)
        clear hK K
        try simp only [Act.put, List.setIfInBounds_toArray, List.set_cons_zero, List.set_cons_succ]
        refine wpAnyH_ready (rs := [7]) (by kernel_rfl) (by simp) ?_
        refine AllReadyH.cons (o := ?_) ?_ (fun K hK => ?_) AllReadyH.nil
        rotate_left
        · (simp only [List.getElem?_toArray, List.getElem?_cons_succ, List.getElem?_cons_zero]; rfl)
        · go_simp
          have cA : (wz.alloc (.cells #[.int .i64 kd, .int .i64 wd, .int .i64 sl, .int .i64 cp, .int .u32 st, .slice I ni ci, .int .i64 wr, .slice R nr cr] tyO)).cell? ⟨rb, 1, none⟩ = some (.slice Ao ps.length co) := (World.cell?_alloc_lt wz _ _ (cell_lt cz)).trans cz
          clear cz
          refine hK.out _ _ trivial (fun hHeld => ?_)
          clear hK K
          try simp only [Act.put, List.setIfInBounds_toArray, List.set_cons_zero, List.set_cons_succ]
          refine wpAnyH_ready (rs := [8]) (by kernel_rfl) (by simp) ?_
          refine AllReadyH.cons (o := ?_) ?_ (fun K hK => ?_) AllReadyH.nil
          rotate_left
          · (simp only [List.getElem?_toArray, List.getElem?_cons_succ, List.getElem?_cons_zero]; rfl)
          · refine step_app2 (by rfl) (.tmp 96) (.tmp 98) 23 (by rfl) ojTy lo (HCz.out.ho.alloc _) (by rfl) (cells_new' wz [.int .i64 kd, .int .i64 wd, .int .i64 sl, .int .i64 cp, .int .u32 st, .slice I ni ci, .int .i64 wr, .slice R nr cr] _ _ rfl) (by rfl) (by rfl) (by simp [Value.oneCell']) (by unfold maxLen; omega) (by omega) (by rw [World.size_alloc]; omega) ?_
            intro v' w9 hown9 hb9 hblk9 _
            obtain ⟨M, A', c', rfl⟩ : ∃ M A' c', v' = .slice A' M c' := (by obtain ⟨A', c', h⟩ := own_slice hown9; exact ⟨_, A', c', h⟩)
            have hbA := (Below.refl wz.heap.size wz).alloc (Nat.le_refl _) (.cells #[.int .i64 kd, .int .i64 wd, .int .i64 sl, .int .i64 cp, .int .u32 st, .slice I ni ci, .int .i64 wr, .slice R nr cr] tyO)
            have hblk : ∀ k, k < wz.heap.size → some k ≠ (Value.slice Ao ps.length co).ownBlock → w9.heap[k]? = wz.heap[k]? := fun k h1 h2 => (hblk9 k (by rw [World.size_alloc]; omega) h2).trans (hbA.block k h1)
            have hsz9 : wz.heap.size ≤ w9.heap.size := Nat.le_trans hbA.size hb9.size
            have hr9 : RowB w9 rb #[vt, .slice Ao ps.length co, .bool false] tyR := (hb9.block rb hrb).trans ((hbA.block rb (by omega)).trans HCz.out.hr)
            have c9 : w9.cell? ⟨rb, 1, none⟩ = some (.slice Ao ps.length co) := (hr9.cell 1).trans rfl
            have f9 := hr9.frozen 1
            have HTK := Lib.hid (show ∀ o, readOG s.data.toList = some o → ∃ vo' ps', RdC (w9.setCell ⟨rb, 1, none⟩ (.slice A' M c')) lo rb vt vo' qs ps' ⟨sy.ts, sy.os ++ [o]⟩ from fun o ho => by
              obtain ⟨e1, e2, e3, e4, e5, e6, e7, e8, hI, hR⟩ := HGOT.out o ho
              have hbb := readOG_bd ho
              have hqz : OqOk wz lo wz.heap.size ⟨kd, wd, sl, cp, st, I, ni, ci, wr, R, nr, cr⟩ o := ⟨⟨e1.symm, e2.symm, e3.symm, e4.symm, e5.symm, e6.symm⟩, e7.symm, hI.1.bd.2, (hI.1.slT hl3).keep (KeepT.below HBz.out _) HBz.out.size, hI.2, e8.symm, hR.bd.2, (hR.slT hl3).keep (KeepT.below HBz.out _) HBz.out.size, hbb.1, hbb.2⟩
              exact ⟨_, _, RdC.obj HCz.out hrb hsz hqz (Own.app hown9 rfl) hblk hsz9⟩)
            have HFT := Lib.hid (((HFz.out.trans (FrR.below (lo := lo) (rb := rb) hbA hsz (Nat.le_of_lt hrb))).trans (FrR.app (HCz.out.ho.alloc (.cells #[.int .i64 kd, .int .i64 wd, .int .i64 sl, .int .i64 cp, .int .u32 st, .slice I ni ci, .int .i64 wr, .slice R nr cr] tyO)) hb9 hblk9 (Nat.le_refl _) (Nat.le_of_lt hrb))).trans (FrR.set 1 (.slice A' M c') (Or.inl rfl) (Nat.le_of_lt hrb)))
            clear hbA hblk hsz9 hr9 hown9 hb9 hblk9
            refine hK.out _ _ trivial (fun hHeld => ?_)
            clear hK K
            try simp only [Act.put, List.setIfInBounds_toArray, List.set_cons_zero, List.set_cons_succ]
            refine tkH 9 ?_
            try simp only [Act.put, List.setIfInBounds_toArray, List.set_cons_zero, List.set_cons_succ]
            refine tkH 10 ?_
            try simp only [Act.put, List.setIfInBounds_toArray, List.set_cons_zero, List.set_cons_succ]
            refine tkH 11 ?_
            try simp only [Act.put, List.setIfInBounds_toArray, List.set_cons_zero, List.set_cons_succ]
            refine wpAnyH_ready (rs := [12]) (by kernel_rfl) (by simp) ?_
            refine AllReadyH.cons (o := ?_) ?_ (fun K hK => ?_) AllReadyH.nil
            rotate_left
            · (simp only [List.getElem?_toArray, List.getElem?_cons_succ, List.getElem?_cons_zero]; rfl)
            · go_simp
              refine hK.out _ _ trivial (fun hHeld => ?_)
              clear hK K
              try simp only [Act.put, List.setIfInBounds_toArray, List.set_cons_zero, List.set_cons_succ]
              refine wpAnyH_done (by kernel_rfl) ?_ _
              obtain ⟨w10, hw10⟩ : ∃ x, w9.setCell ⟨rb, 1, none⟩ (.slice A' M c') = x := ⟨_, rfl⟩
              rw [hw10] at HTK HFT ⊢
              clear hw10 c9 f9
              go_wp2_with fail
              go_ret
              exact ⟨rfl, HTK.out, HFT.out⟩
    · refine AllReadyH.cons (o := ?_) ?_ (fun K hK => ?_) AllReadyH.nil
      rotate_left
      · (simp only [List.getElem?_toArray, List.getElem?_cons_succ, List.getElem?_cons_zero]; rfl)
      · go_simp
        refine hK.out _ _ trivial (fun hHeld => ?_)
        clear hK K
        try simp only [Act.put, List.setIfInBounds_toArray, List.set_cons_zero, List.set_cons_succ]
        refine wpAnyH_ready (rs := [5, 7]) (by kernel_rfl) (by simp) ?_
        refine AllReadyH.cons (o := ?_) ?_ (fun K hK => ?_) ?_
        rotate_left
        · (simp only [List.getElem?_toArray, List.getElem?_cons_succ, List.getElem?_cons_zero]; rfl)
        · go_simp
          refine hK.out _ _ trivial (fun hHeld => ?_)
          clear hK K
          try simp only [Act.put, List.setIfInBounds_toArray, List.set_cons_zero, List.set_cons_succ]
          refine wpAnyH_ready (rs := [7]) (by kernel_rfl) (by simp) ?_
          refine AllReadyH.cons (o := ?_) ?_ (fun K hK => ?_) AllReadyH.nil
          rotate_left
          · (simp only [List.getElem?_toArray, List.getElem?_cons_succ, List.getElem?_cons_zero]; rfl)
          · go_simp
            have cA : (wz.alloc (.cells #[.int .i64 kd, .int .i64 wd, .int .i64 sl, .int .i64 cp, .int .u32 st, .slice I ni ci, .int .i64 wr, .slice R nr cr] tyO)).cell? ⟨rb, 1, none⟩ = some (.slice Ao ps.length co) := (World.cell?_alloc_lt wz _ _ (cell_lt cz)).trans cz
            clear cz
            refine hK.out _ _ trivial (fun hHeld => ?_)
            clear hK K
            try simp only [Act.put, List.setIfInBounds_toArray, List.set_cons_zero, List.set_cons_succ]
            refine wpAnyH_ready (rs := [8]) (by kernel_rfl) (by simp) ?_
            refine AllReadyH.cons (o := ?_) ?_ (fun K hK => ?_) AllReadyH.nil
            rotate_left
            · (simp only [List.getElem?_toArray, List.getElem?_cons_succ, List.getElem?_cons_zero]; rfl)
            · refine step_app2 (by rfl) (.tmp 96) (.tmp 98) 23 (by rfl) ojTy lo (HCz.out.ho.alloc _) (by rfl) (cells_new' wz [.int .i64 kd, .int .i64 wd, .int .i64 sl, .int .i64 cp, .int .u32 st, .slice I ni ci, .int .i64 wr, .slice R nr cr] _ _ rfl) (by rfl) (by rfl) (by simp [Value.oneCell']) (by unfold maxLen; omega) (by omega) (by rw [World.size_alloc]; omega) ?_
              intro v' w9 hown9 hb9 hblk9 _
              obtain ⟨M, A', c', rfl⟩ : ∃ M A' c', v' = .slice A' M c' := (by obtain ⟨A', c', h⟩ := own_slice hown9; exact ⟨_, A', c', h⟩)
              have hbA := (Below.refl wz.heap.size wz).alloc (Nat.le_refl _) (.cells #[.int .i64 kd, .int .i64 wd, .int .i64 sl, .int .i64 cp, .int .u32 st, .slice I ni ci, .int .i64 wr, .slice R nr cr] tyO)
              have hblk : ∀ k, k < wz.heap.size → some k ≠ (Value.slice Ao ps.length co).ownBlock → w9.heap[k]? = wz.heap[k]? := fun k h1 h2 => (hblk9 k (by rw [World.size_alloc]; omega) h2).trans (hbA.block k h1)
              have hsz9 : wz.heap.size ≤ w9.heap.size := Nat.le_trans hbA.size hb9.size
              have hr9 : RowB w9 rb #[vt, .slice Ao ps.length co, .bool false] tyR := (hb9.block rb hrb).trans ((hbA.block rb (by omega)).trans HCz.out.hr)
              have c9 : w9.cell? ⟨rb, 1, none⟩ = some (.slice Ao ps.length co) := (hr9.cell 1).trans rfl
              have f9 := hr9.frozen 1
              have HTK := Lib.hid (show ∀ o, readOG s.data.toList = some o → ∃ vo' ps', RdC (w9.setCell ⟨rb, 1, none⟩ (.slice A' M c')) lo rb vt vo' qs ps' ⟨sy.ts, sy.os ++ [o]⟩ from fun o ho => by
                obtain ⟨e1, e2, e3, e4, e5, e6, e7, e8, hI, hR⟩ := HGOT.out o ho
                have hbb := readOG_bd ho
                have hqz : OqOk wz lo wz.heap.size ⟨kd, wd, sl, cp, st, I, ni, ci, wr, R, nr, cr⟩ o := ⟨⟨e1.symm, e2.symm, e3.symm, e4.symm, e5.symm, e6.symm⟩, e7.symm, hI.1.bd.2, (hI.1.slT hl3).keep (KeepT.below HBz.out _) HBz.out.size, hI.2, e8.symm, hR.bd.2, (hR.slT hl3).keep (KeepT.below HBz.out _) HBz.out.size, hbb.1, hbb.2⟩
                exact ⟨_, _, RdC.obj HCz.out hrb hsz hqz (Own.app hown9 rfl) hblk hsz9⟩)
              have HFT := Lib.hid (((HFz.out.trans (FrR.below (lo := lo) (rb := rb) hbA hsz (Nat.le_of_lt hrb))).trans (FrR.app (HCz.out.ho.alloc (.cells #[.int .i64 kd, .int .i64 wd, .int .i64 sl, .int .i64 cp, .int .u32 st, .slice I ni ci, .int .i64 wr, .slice R nr cr] tyO)) hb9 hblk9 (Nat.le_refl _) (Nat.le_of_lt hrb))).trans (FrR.set 1 (.slice A' M c') (Or.inl rfl) (Nat.le_of_lt hrb)))
              clear hbA hblk hsz9 hr9 hown9 hb9 hblk9
              refine hK.out _ _ trivial (fun hHeld => ?_)
              clear hK K
              try simp only [Act.put, List.setIfInBounds_toArray, List.set_cons_zero, List.set_cons_succ]
              refine tkH 9 ?_
              try simp only [Act.put, List.setIfInBounds_toArray, List.set_cons_zero, List.set_cons_succ]
              refine tkH 10 ?_
              try simp only [Act.put, List.setIfInBounds_toArray, List.set_cons_zero, List.set_cons_succ]
              refine tkH 11 ?_
              try simp only [Act.put, List.setIfInBounds_toArray, List.set_cons_zero, List.set_cons_succ]
              refine wpAnyH_ready (rs := [12]) (by kernel_rfl) (by simp) ?_
              refine AllReadyH.cons (o := ?_) ?_ (fun K hK => ?_) AllReadyH.nil
              rotate_left
              · (simp only [List.getElem?_toArray, List.getElem?_cons_succ, List.getElem?_cons_zero]; rfl)
              · go_simp
                refine hK.out _ _ trivial (fun hHeld => ?_)
                clear hK K
                try simp only [Act.put, List.setIfInBounds_toArray, List.set_cons_zero, List.set_cons_succ]
                refine wpAnyH_done (by kernel_rfl) ?_ _
                obtain ⟨w10, hw10⟩ : ∃ x, w9.setCell ⟨rb, 1, none⟩ (.slice A' M c') = x := ⟨_, rfl⟩
                rw [hw10] at HTK HFT ⊢
                clear hw10 c9 f9
                go_wp2_with fail
                go_ret
                exact ⟨rfl, HTK.out, HFT.out⟩
        · refine AllReadyH.cons (o := ?_) ?_ (fun K hK => ?_) AllReadyH.nil
          rotate_left
          · (simp only [List.getElem?_toArray, List.getElem?_cons_succ, List.getElem?_cons_zero]; rfl)
          · go_simp
            have cA : (wz.alloc (.cells #[.int .i64 kd, .int .i64 wd, .int .i64 sl, .int .i64 cp, .int .u32 st, .slice I ni ci, .int .i64 wr, .slice R nr cr] tyO)).cell? ⟨rb, 1, none⟩ = some (.slice Ao ps.length co) := (World.cell?_alloc_lt wz _ _ (cell_lt cz)).trans cz
            clear cz
            refine hK.out _ _ trivial (fun hHeld => ?_)
            clear hK K
            try simp only [Act.put, List.setIfInBounds_toArray, List.set_cons_zero, List.set_cons_succ]
            refine wpAnyH_ready (rs := [5]) (by kernel_rfl) (by simp) ?_
            refine AllReadyH.cons (o := ?_) ?_ (fun K hK => ?_) AllReadyH.nil
            rotate_left
            · (simp only [List.getElem?_toArray, List.getElem?_cons_succ, List.getElem?_cons_zero]; rfl)
            · go_simp
              refine hK.out _ _ trivial (fun hHeld => ?_)
              clear hK K
              try simp only [Act.put, List.setIfInBounds_toArray, List.set_cons_zero, List.set_cons_succ]
              refine wpAnyH_ready (rs := [8]) (by kernel_rfl) (by simp) ?_
              refine AllReadyH.cons (o := ?_) ?_ (fun K hK => ?_) AllReadyH.nil
              rotate_left
              · (simp only [List.getElem?_toArray, List.getElem?_cons_succ, List.getElem?_cons_zero]; rfl)
              · refine step_app2 (by rfl) (.tmp 96) (.tmp 98) 23 (by rfl) ojTy lo (HCz.out.ho.alloc _) (by rfl) (cells_new' wz [.int .i64 kd, .int .i64 wd, .int .i64 sl, .int .i64 cp, .int .u32 st, .slice I ni ci, .int .i64 wr, .slice R nr cr] _ _ rfl) (by rfl) (by rfl) (by simp [Value.oneCell']) (by unfold maxLen; omega) (by omega) (by rw [World.size_alloc]; omega) ?_
                intro v' w9 hown9 hb9 hblk9 _
                obtain ⟨M, A', c', rfl⟩ : ∃ M A' c', v' = .slice A' M c' := (by obtain ⟨A', c', h⟩ := own_slice hown9; exact ⟨_, A', c', h⟩)
                have hbA := (Below.refl wz.heap.size wz).alloc (Nat.le_refl _) (.cells #[.int .i64 kd, .int .i64 wd, .int .i64 sl, .int .i64 cp, .int .u32 st, .slice I ni ci, .int .i64 wr, .slice R nr cr] tyO)
                have hblk : ∀ k, k < wz.heap.size → some k ≠ (Value.slice Ao ps.length co).ownBlock → w9.heap[k]? = wz.heap[k]? := fun k h1 h2 => (hblk9 k (by rw [World.size_alloc]; omega) h2).trans (hbA.block k h1)
                have hsz9 : wz.heap.size ≤ w9.heap.size := Nat.le_trans hbA.size hb9.size
                have hr9 : RowB w9 rb #[vt, .slice Ao ps.length co, .bool false] tyR := (hb9.block rb hrb).trans ((hbA.block rb (by omega)).trans HCz.out.hr)
                have c9 : w9.cell? ⟨rb, 1, none⟩ = some (.slice Ao ps.length co) := (hr9.cell 1).trans rfl
                have f9 := hr9.frozen 1
                have HTK := Lib.hid (show ∀ o, readOG s.data.toList = some o → ∃ vo' ps', RdC (w9.setCell ⟨rb, 1, none⟩ (.slice A' M c')) lo rb vt vo' qs ps' ⟨sy.ts, sy.os ++ [o]⟩ from fun o ho => by
                  obtain ⟨e1, e2, e3, e4, e5, e6, e7, e8, hI, hR⟩ := HGOT.out o ho
                  have hbb := readOG_bd ho
                  have hqz : OqOk wz lo wz.heap.size ⟨kd, wd, sl, cp, st, I, ni, ci, wr, R, nr, cr⟩ o := ⟨⟨e1.symm, e2.symm, e3.symm, e4.symm, e5.symm, e6.symm⟩, e7.symm, hI.1.bd.2, (hI.1.slT hl3).keep (KeepT.below HBz.out _) HBz.out.size, hI.2, e8.symm, hR.bd.2, (hR.slT hl3).keep (KeepT.below HBz.out _) HBz.out.size, hbb.1, hbb.2⟩
                  exact ⟨_, _, RdC.obj HCz.out hrb hsz hqz (Own.app hown9 rfl) hblk hsz9⟩)
                have HFT := Lib.hid (((HFz.out.trans (FrR.below (lo := lo) (rb := rb) hbA hsz (Nat.le_of_lt hrb))).trans (FrR.app (HCz.out.ho.alloc (.cells #[.int .i64 kd, .int .i64 wd, .int .i64 sl, .int .i64 cp, .int .u32 st, .slice I ni ci, .int .i64 wr, .slice R nr cr] tyO)) hb9 hblk9 (Nat.le_refl _) (Nat.le_of_lt hrb))).trans (FrR.set 1 (.slice A' M c') (Or.inl rfl) (Nat.le_of_lt hrb)))
                clear hbA hblk hsz9 hr9 hown9 hb9 hblk9
                refine hK.out _ _ trivial (fun hHeld => ?_)
                clear hK K
                try simp only [Act.put, List.setIfInBounds_toArray, List.set_cons_zero, List.set_cons_succ]
                refine tkH 9 ?_
                try simp only [Act.put, List.setIfInBounds_toArray, List.set_cons_zero, List.set_cons_succ]
                refine tkH 10 ?_
                try simp only [Act.put, List.setIfInBounds_toArray, List.set_cons_zero, List.set_cons_succ]
                refine tkH 11 ?_
                try simp only [Act.put, List.setIfInBounds_toArray, List.set_cons_zero, List.set_cons_succ]
                refine wpAnyH_ready (rs := [12]) (by kernel_rfl) (by simp) ?_
                refine AllReadyH.cons (o := ?_) ?_ (fun K hK => ?_) AllReadyH.nil
                rotate_left
                · (simp only [List.getElem?_toArray, List.getElem?_cons_succ, List.getElem?_cons_zero]; rfl)
                · go_simp
                  refine hK.out _ _ trivial (fun hHeld => ?_)
                  clear hK K
                  try simp only [Act.put, List.setIfInBounds_toArray, List.set_cons_zero, List.set_cons_succ]
                  refine wpAnyH_done (by kernel_rfl) ?_ _
                  obtain ⟨w10, hw10⟩ : ∃ x, w9.setCell ⟨rb, 1, none⟩ (.slice A' M c') = x := ⟨_, rfl⟩
                  rw [hw10] at HTK HFT ⊢
                  clear hw10 c9 f9
                  go_wp2_with fail
                  go_ret
                  exact ⟨rfl, HTK.out, HFT.out⟩
set_option maxRecDepth 100000 in
set_option maxHeartbeats 4000000 in
theorem sread_code (lo rb : Nat) (s : ByteArray) (w : World) (hs : s.size ≤ 19000) (hrb : rb < lo) (hlo : lo ≤ w.heap.size) (hT : Tab w) (hM : Mx w) {N : Nat} {vt vo : Value} {qs : List Tq} {q : Tq} {ts : List Tk} {t : Tk} {e : Ins} {ok : Bool} (h : RdO w lo rb N vt vo qs q ts t) (hne : s.data.toList ≠ endW3) (hX : readX s.data.toList = e) (hok : readOk s.data.toList = ok) (hn : qs.length ≤ 100000) (hcl : t.code.length ≤ 100000) :
    Calls Tryz.prog 24 #[.pointer (some ⟨rb, 0, none⟩), .string s] w fun e_ w' => e_ = .returned (.bool ok) ∧ (e.ok → ∃ vt' q', RdO w' lo rb N vt' vo qs q' ts (t.snoc e)) ∧ FrR lo rb w w' := by
  have hh := aread_any s w (by omega) hT hM
  obtain ⟨eo, ea, eb, ec, en⟩ := e
  rw [hX] at hh
  unfold insV at hh
  simp only at hh
  have HH := Lib.hid hh
  have HC := Lib.hid h
  obtain ⟨tb, ct, hvt, htb, -, -, hct⟩ := row_cells h.ht (List.getElem?_concat_length (l := qs) (a := q))
  have HTB := Lib.hid htb
  rw [List.length_append, List.length_singleton] at hvt hct
  obtain ⟨m, hm⟩ : ∃ x, qs.length = x := ⟨_, rfl⟩
  rw [hm] at hvt hct
  subst hvt
  have c0 : w.cell? ⟨rb, 0, none⟩ = some (.slice (some ⟨tb, 0, none⟩) (m + 1) ct) := (h.hr.cell 0).trans rfl
  have c2 : w.cell? ⟨rb, 2, none⟩ = some (.bool true) := (h.hr.cell 2).trans rfl
  have hst : (s.toList == [101, 110, 100]) = false := by rw [ByteArray.toList_eq, beq_eq_false_iff_ne]; exact hne
  have hml : m ≤ 100000 := by omega
  have HM := Lib.hid hm
  clear h hh hT hM hm htb hX
  go_enter Tryz.func24, Tryz.ntmps24
  go_wp2_with fail
  refine HH.out.mono ?_
  rintro ex w2 ⟨rfl, hb2⟩
  clear HH c0 c2
  have hC2 := HC.out.below hb2
  have c0 : w2.cell? ⟨rb, 0, none⟩ = some (.slice (some ⟨tb, 0, none⟩) (m + 1) ct) := (hC2.hr.cell 0).trans rfl
  have hr2 : rb < w2.heap.size := hC2.hr.lt
  have HF2 := Lib.hid (FrR.below (lo := lo) (rb := rb) hb2 hlo (Nat.le_of_lt hrb))
  have hl2 : lo ≤ w2.heap.size := Nat.le_trans hlo hb2.size
  have HC2 := Lib.hid hC2
  clear hC2 hb2 HC
  have e1 : IntKind.i64.wrap (m : Int) = (m : Int) := by simp [IntKind.wrap, IntKind.signed, IntKind.bits]; omega
  have e3 : (m : Int) < (m : Int) + 1 := by omega
  have e4 : (0 : Int) ≤ (m : Int) := by omega
  have e2 : m < m + 1 := Nat.lt_succ_self m
  go_wp2_with fail
  have hbx := RowB.new w2 #[.int .i64 eo, .int .i64 ea, .int .i64 eb, .int .i64 ec, .int .u32 en] tyI
  have hb3 := (Below.refl w2.heap.size w2).alloc (Nat.le_refl _) (.cells #[.int .i64 eo, .int .i64 ea, .int .i64 eb, .int .i64 ec, .int .u32 en] tyI)
  have hC3 := HC2.out.below hb3
  have hF3 := HF2.out.trans (FrR.below (lo := lo) (rb := rb) hb3 (by omega) (Nat.le_of_lt hrb))
  have hs3 : lo ≤ (w2.alloc (.cells #[.int .i64 eo, .int .i64 ea, .int .i64 eb, .int .i64 ec, .int .u32 en] tyI)).heap.size := by rw [World.size_alloc]; omega
  obtain ⟨w3, hw3⟩ : ∃ x, w2.alloc (.cells #[.int .i64 eo, .int .i64 ea, .int .i64 eb, .int .i64 ec, .int .u32 en] tyI) = x := ⟨_, rfl⟩
  obtain ⟨bx, hbx0⟩ : ∃ x, w2.heap.size = x := ⟨_, rfl⟩
  rw [hw3, hbx0] at hbx
  rw [hw3] at hC3 hF3 hs3
  rw [hw3, hbx0]
  clear hb3 hw3 c0
  have hdr := (Below.refl w3.heap.size w3).drew
  have hC4 := hC3.below hdr
  have hbx4 := hbx.kept hdr
  have hF4 := hF3.trans (FrR.below (lo := lo) (rb := rb) hdr hs3 (Nat.le_of_lt hrb))
  have hs4 : lo ≤ w3.drew.heap.size := Nat.le_trans hs3 hdr.size
  have hSd : (fun w' : World => w'.cell? ⟨rb, 0, none⟩ = some (.slice (some ⟨tb, 0, none⟩) (m + 1) ct)) w3.drew := (hC4.hr.cell 0).trans rfl
  refine wp_region_held_drew (S := fun w' : World => w'.cell? ⟨rb, 0, none⟩ = some (.slice (some ⟨tb, 0, none⟩) (m + 1) ct)) (by kernel_rfl) hSd (fun hHeld => ?_)
  generalize w3.drew = w4 at hC4 hbx4 hF4 hs4 hSd hHeld ⊢
  clear hdr hC3 hF3 hs3 hbx
  have hHeld : (fun w' : World => w'.cell? ⟨rb, 0, none⟩ = some (.slice (some ⟨tb, 0, none⟩) (m + 1) ct)) w4 := hHeld
  refine tkH 0 ?_
  try simp only [Act.put, List.setIfInBounds_toArray, List.set_cons_zero, List.set_cons_succ]
  refine tkH 1 ?_
  try simp only [Act.put, List.setIfInBounds_toArray, List.set_cons_zero, List.set_cons_succ]
  refine tkH 2 ?_
  try simp only [Act.put, List.setIfInBounds_toArray, List.set_cons_zero, List.set_cons_succ]
  refine tkH 3 ?_
  try simp only [Act.put, List.setIfInBounds_toArray, List.set_cons_zero, List.set_cons_succ]
  refine tkH 4 ?_
  try simp only [Act.put, List.setIfInBounds_toArray, List.set_cons_zero, List.set_cons_succ]
  refine tkH 5 ?_
  try simp only [Act.put, List.setIfInBounds_toArray, List.set_cons_zero, List.set_cons_succ]
  refine tkH 6 ?_
  try simp only [Act.put, List.setIfInBounds_toArray, List.set_cons_zero, List.set_cons_succ]
  refine tkH 7 ?_
  try simp only [Act.put, List.setIfInBounds_toArray, List.set_cons_zero, List.set_cons_succ]
  refine tkH 8 ?_
  try simp only [Act.put, List.setIfInBounds_toArray, List.set_cons_zero, List.set_cons_succ]
  refine tkH 9 ?_
  try simp only [Act.put, List.setIfInBounds_toArray, List.set_cons_zero, List.set_cons_succ]
  refine tkH 10 ?_
  try simp only [Act.put, List.setIfInBounds_toArray, List.set_cons_zero, List.set_cons_succ]
  refine tkH 11 ?_
  try simp only [Act.put, List.setIfInBounds_toArray, List.set_cons_zero, List.set_cons_succ]
  refine tkH 12 ?_
  try simp only [Act.put, List.setIfInBounds_toArray, List.set_cons_zero, List.set_cons_succ]
  refine tkH 13 ?_
  try simp only [Act.put, List.setIfInBounds_toArray, List.set_cons_zero, List.set_cons_succ]
  refine wpAnyH_done (by kernel_rfl) ?_ _
  clear hSd hHeld
  go_wp2_with fail
  refine wp_region_held_drew (S := (fun _ : World => True)) (by kernel_rfl) trivial (fun hHeld => ?_)
  skip
  have hdr := (Below.refl w4.heap.size w4).drew
  have hCz := hC4.below hdr
  have hbz := hbx4.kept hdr
  have hFz := hF4.trans (FrR.below (lo := lo) (rb := rb) hdr hs4 (Nat.le_of_lt hrb))
  have hsz : lo ≤ w4.drew.heap.size := Nat.le_trans hs4 hdr.size
  generalize w4.drew = wz at hCz hbz hFz hsz ⊢
  clear hdr hC4 hF4 hs4 hbx4
  have b0 := hbz.cell 0
  have b1 := hbz.cell 1
  have b2 := hbz.cell 2
  have b3 := hbz.cell 3
  have b4 := hbz.cell 4
  simp only [List.getElem?_toArray, List.getElem?_cons_zero, List.getElem?_cons_succ] at b0 b1 b2 b3 b4
  have HCz := Lib.hid hCz
  have HFz := Lib.hid hFz
  have hNz := hCz.hN
  have cz : wz.cell? ⟨tb, m * 7 + 6, none⟩ = some (.slice q.A q.n q.c) := (row_cell7 hCz.ht HTB.out HM.out).1
  have fz : wz.frozen? ⟨tb, m * 7 + 6, none⟩ = false := (row_cell7 hCz.ht HTB.out HM.out).2
  clear hCz hFz hbz
  refine tkH 0 ?_
  try simp only [Act.put, List.setIfInBounds_toArray, List.set_cons_zero, List.set_cons_succ]
  refine tkH 1 ?_
  try simp only [Act.put, List.setIfInBounds_toArray, List.set_cons_zero, List.set_cons_succ]
  refine tkH 2 ?_
  try simp only [Act.put, List.setIfInBounds_toArray, List.set_cons_zero, List.set_cons_succ]
  refine tkH 3 ?_
  try simp only [Act.put, List.setIfInBounds_toArray, List.set_cons_zero, List.set_cons_succ]
  refine wpAnyH_ready (rs := [4, 5]) (by kernel_rfl) (by simp) ?_
  refine AllReadyH.cons (o := ?_) ?_ (fun K hK => ?_) ?_
  rotate_left
  · (simp only [List.getElem?_toArray, List.getElem?_cons_succ, List.getElem?_cons_zero]; rfl)
  · go_simp
    refine hK.out _ _ trivial (fun hHeld => ?_)
    clear hK K
    try simp only [Act.put, List.setIfInBounds_toArray, List.set_cons_zero, List.set_cons_succ]
    refine wpAnyH_ready (rs := [5]) (by kernel_rfl) (by simp) ?_
    refine AllReadyH.cons (o := ?_) ?_ (fun K hK => ?_) AllReadyH.nil
    rotate_left
    · (simp only [List.getElem?_toArray, List.getElem?_cons_succ, List.getElem?_cons_zero]; rfl)
    · go_simp
      refine hK.out _ _ trivial (fun hHeld => ?_)
      clear hK K
      try simp only [Act.put, List.setIfInBounds_toArray, List.set_cons_zero, List.set_cons_succ]
      refine wpAnyH_ready (rs := [6]) (by kernel_rfl) (by simp) ?_
      refine AllReadyH.cons (o := ?_) ?_ (fun K hK => ?_) AllReadyH.nil
      rotate_left
      · (simp only [List.getElem?_toArray, List.getElem?_cons_succ, List.getElem?_cons_zero]; rfl)
      · go_simp
        have cA : (wz.alloc (.cells #[.int .i64 eo, .int .i64 ea, .int .i64 eb, .int .i64 ec, .int .u32 en] tyI)).cell? ⟨tb, m * 7 + 6, none⟩ = some (Value.slice q.A q.n q.c) := (World.cell?_alloc_lt wz _ _ (cell_lt cz)).trans cz
        clear cz
        refine hK.out _ _ trivial (fun hHeld => ?_)
        clear hK K
        try simp only [Act.put, List.setIfInBounds_toArray, List.set_cons_zero, List.set_cons_succ]
        refine wpAnyH_ready (rs := [7]) (by kernel_rfl) (by simp) ?_
        refine AllReadyH.cons (o := ?_) ?_ (fun K hK => ?_) AllReadyH.nil
        rotate_left
        · (simp only [List.getElem?_toArray, List.getElem?_cons_succ, List.getElem?_cons_zero]; rfl)
        · refine step_app2 (by rfl) (.tmp 49) (.tmp 51) 44 (by rfl) insTy N (HCz.out.hop.code.alloc _) (by rfl) (cells_new' wz [.int .i64 eo, .int .i64 ea, .int .i64 eb, .int .i64 ec, .int .u32 en] _ _ rfl) (by rfl) (by rfl) (by simp [Value.oneCell']) (by unfold maxLen; omega) (by omega) (by rw [World.size_alloc]; omega) ?_
          intro v' w9 hown9 hb9 hblk9 _
          obtain ⟨M, A', c', rfl⟩ : ∃ M A' c', v' = .slice A' M c' := (by obtain ⟨A', c', h⟩ := own_slice hown9; exact ⟨_, A', c', h⟩)
          have hbA := (Below.refl wz.heap.size wz).alloc (Nat.le_refl _) (.cells #[.int .i64 eo, .int .i64 ea, .int .i64 eb, .int .i64 ec, .int .u32 en] tyI)
          have hblk : ∀ k, k < wz.heap.size → some k ≠ (Value.slice q.A q.n q.c).ownBlock → w9.heap[k]? = wz.heap[k]? := fun k h1 h2 => (hblk9 k (by rw [World.size_alloc]; omega) h2).trans (hbA.block k h1)
          have hsz9 : wz.heap.size ≤ w9.heap.size := Nat.le_trans hbA.size hb9.size
          have ht9 := own_keepT HCz.out.ht (KeepT.app (ty := tyT) HCz.out.hop.code (by decide) hblk)
          have c9 : w9.cell? ⟨tb, m * 7 + 6, none⟩ = some (.slice q.A q.n q.c) := (row_cell7 ht9 HTB.out HM.out).1
          have f9 : w9.frozen? ⟨tb, m * 7 + 6, none⟩ = false := (row_cell7 ht9 HTB.out HM.out).2
          have HTK := Lib.hid (show (⟨eo, ea, eb, ec, en⟩ : Ins).ok → ∃ q', RdO (w9.setCell ⟨tb, m * 7 + 6, none⟩ (.slice A' M c')) lo rb N (.slice (some ⟨tb, 0, none⟩) (m + 1) ct) vo qs q' ts (t.snoc ⟨eo, ea, eb, ec, en⟩) from fun he => by
            have h9 := RdO.code HCz.out hrb HTB.out (Own.app hown9 rfl) hblk hsz9 he
            rw [HM.out] at h9
            exact ⟨_, h9⟩)
          have htl := (ht9.blk HTB.out).1
          have HFT := Lib.hid (((HFz.out.trans (FrR.below (lo := lo) (rb := rb) hbA hsz (Nat.le_of_lt hrb))).trans (FrR.app (HCz.out.hop.code.alloc (.cells #[.int .i64 eo, .int .i64 ea, .int .i64 eb, .int .i64 ec, .int .u32 en] tyI)) hb9 hblk9 HCz.out.hlo (Nat.le_of_lt hrb))).trans (FrR.set (m * 7 + 6) (.slice A' M c') (Or.inr htl) (Nat.le_of_lt hrb)))
          clear hbA hblk hsz9 ht9 hown9 hb9 hblk9 htl
          refine hK.out _ _ trivial (fun hHeld => ?_)
          clear hK K
          try simp only [Act.put, List.setIfInBounds_toArray, List.set_cons_zero, List.set_cons_succ]
          refine tkH 8 ?_
          try simp only [Act.put, List.setIfInBounds_toArray, List.set_cons_zero, List.set_cons_succ]
          refine tkH 9 ?_
          try simp only [Act.put, List.setIfInBounds_toArray, List.set_cons_zero, List.set_cons_succ]
          refine wpAnyH_ready (rs := [10]) (by kernel_rfl) (by simp) ?_
          refine AllReadyH.cons (o := ?_) ?_ (fun K hK => ?_) AllReadyH.nil
          rotate_left
          · (simp only [List.getElem?_toArray, List.getElem?_cons_succ, List.getElem?_cons_zero]; rfl)
          · go_simp
            refine hK.out _ _ trivial (fun hHeld => ?_)
            clear hK K
            try simp only [Act.put, List.setIfInBounds_toArray, List.set_cons_zero, List.set_cons_succ]
            refine wpAnyH_done (by kernel_rfl) ?_ _
            obtain ⟨w10, hw10⟩ : ∃ x, w9.setCell ⟨tb, m * 7 + 6, none⟩ (.slice A' M c') = x := ⟨_, rfl⟩
            rw [hw10] at HTK HFT ⊢
            clear hw10 c9 f9
            go_wp2_with fail
            go_ret
            exact ⟨rfl, fun he => by obtain ⟨q', h9⟩ := HTK.out he; exact ⟨_, _, h9⟩, HFT.out⟩
  · refine AllReadyH.cons (o := ?_) ?_ (fun K hK => ?_) AllReadyH.nil
    rotate_left
    · (simp only [List.getElem?_toArray, List.getElem?_cons_succ, List.getElem?_cons_zero]; rfl)
    · go_simp
      refine hK.out _ _ trivial (fun hHeld => ?_)
      clear hK K
      try simp only [Act.put, List.setIfInBounds_toArray, List.set_cons_zero, List.set_cons_succ]
      refine wpAnyH_ready (rs := [4, 6]) (by kernel_rfl) (by simp) ?_
      refine AllReadyH.cons (o := ?_) ?_ (fun K hK => ?_) ?_
      rotate_left
      · (simp only [List.getElem?_toArray, List.getElem?_cons_succ, List.getElem?_cons_zero]; rfl)
      · go_simp
        refine hK.out _ _ trivial (fun hHeld => ?_)
        clear hK K
        try simp only [Act.put, List.setIfInBounds_toArray, List.set_cons_zero, List.set_cons_succ]
        refine wpAnyH_ready (rs := [6]) (by kernel_rfl) (by simp) ?_
        refine AllReadyH.cons (o := ?_) ?_ (fun K hK => ?_) AllReadyH.nil
        rotate_left
        · (simp only [List.getElem?_toArray, List.getElem?_cons_succ, List.getElem?_cons_zero]; rfl)
        · go_simp
          have cA : (wz.alloc (.cells #[.int .i64 eo, .int .i64 ea, .int .i64 eb, .int .i64 ec, .int .u32 en] tyI)).cell? ⟨tb, m * 7 + 6, none⟩ = some (Value.slice q.A q.n q.c) := (World.cell?_alloc_lt wz _ _ (cell_lt cz)).trans cz
          clear cz
          refine hK.out _ _ trivial (fun hHeld => ?_)
          clear hK K
          try simp only [Act.put, List.setIfInBounds_toArray, List.set_cons_zero, List.set_cons_succ]
          refine wpAnyH_ready (rs := [7]) (by kernel_rfl) (by simp) ?_
          refine AllReadyH.cons (o := ?_) ?_ (fun K hK => ?_) AllReadyH.nil
          rotate_left
          · (simp only [List.getElem?_toArray, List.getElem?_cons_succ, List.getElem?_cons_zero]; rfl)
          · refine step_app2 (by rfl) (.tmp 49) (.tmp 51) 44 (by rfl) insTy N (HCz.out.hop.code.alloc _) (by rfl) (cells_new' wz [.int .i64 eo, .int .i64 ea, .int .i64 eb, .int .i64 ec, .int .u32 en] _ _ rfl) (by rfl) (by rfl) (by simp [Value.oneCell']) (by unfold maxLen; omega) (by omega) (by rw [World.size_alloc]; omega) ?_
            intro v' w9 hown9 hb9 hblk9 _
            obtain ⟨M, A', c', rfl⟩ : ∃ M A' c', v' = .slice A' M c' := (by obtain ⟨A', c', h⟩ := own_slice hown9; exact ⟨_, A', c', h⟩)
            have hbA := (Below.refl wz.heap.size wz).alloc (Nat.le_refl _) (.cells #[.int .i64 eo, .int .i64 ea, .int .i64 eb, .int .i64 ec, .int .u32 en] tyI)
            have hblk : ∀ k, k < wz.heap.size → some k ≠ (Value.slice q.A q.n q.c).ownBlock → w9.heap[k]? = wz.heap[k]? := fun k h1 h2 => (hblk9 k (by rw [World.size_alloc]; omega) h2).trans (hbA.block k h1)
            have hsz9 : wz.heap.size ≤ w9.heap.size := Nat.le_trans hbA.size hb9.size
            have ht9 := own_keepT HCz.out.ht (KeepT.app (ty := tyT) HCz.out.hop.code (by decide) hblk)
            have c9 : w9.cell? ⟨tb, m * 7 + 6, none⟩ = some (.slice q.A q.n q.c) := (row_cell7 ht9 HTB.out HM.out).1
            have f9 : w9.frozen? ⟨tb, m * 7 + 6, none⟩ = false := (row_cell7 ht9 HTB.out HM.out).2
            have HTK := Lib.hid (show (⟨eo, ea, eb, ec, en⟩ : Ins).ok → ∃ q', RdO (w9.setCell ⟨tb, m * 7 + 6, none⟩ (.slice A' M c')) lo rb N (.slice (some ⟨tb, 0, none⟩) (m + 1) ct) vo qs q' ts (t.snoc ⟨eo, ea, eb, ec, en⟩) from fun he => by
              have h9 := RdO.code HCz.out hrb HTB.out (Own.app hown9 rfl) hblk hsz9 he
              rw [HM.out] at h9
              exact ⟨_, h9⟩)
            have htl := (ht9.blk HTB.out).1
            have HFT := Lib.hid (((HFz.out.trans (FrR.below (lo := lo) (rb := rb) hbA hsz (Nat.le_of_lt hrb))).trans (FrR.app (HCz.out.hop.code.alloc (.cells #[.int .i64 eo, .int .i64 ea, .int .i64 eb, .int .i64 ec, .int .u32 en] tyI)) hb9 hblk9 HCz.out.hlo (Nat.le_of_lt hrb))).trans (FrR.set (m * 7 + 6) (.slice A' M c') (Or.inr htl) (Nat.le_of_lt hrb)))
            clear hbA hblk hsz9 ht9 hown9 hb9 hblk9 htl
            refine hK.out _ _ trivial (fun hHeld => ?_)
            clear hK K
            try simp only [Act.put, List.setIfInBounds_toArray, List.set_cons_zero, List.set_cons_succ]
            refine tkH 8 ?_
            try simp only [Act.put, List.setIfInBounds_toArray, List.set_cons_zero, List.set_cons_succ]
            refine tkH 9 ?_
            try simp only [Act.put, List.setIfInBounds_toArray, List.set_cons_zero, List.set_cons_succ]
            refine wpAnyH_ready (rs := [10]) (by kernel_rfl) (by simp) ?_
            refine AllReadyH.cons (o := ?_) ?_ (fun K hK => ?_) AllReadyH.nil
            rotate_left
            · (simp only [List.getElem?_toArray, List.getElem?_cons_succ, List.getElem?_cons_zero]; rfl)
            · go_simp
              refine hK.out _ _ trivial (fun hHeld => ?_)
              clear hK K
              try simp only [Act.put, List.setIfInBounds_toArray, List.set_cons_zero, List.set_cons_succ]
              refine wpAnyH_done (by kernel_rfl) ?_ _
              obtain ⟨w10, hw10⟩ : ∃ x, w9.setCell ⟨tb, m * 7 + 6, none⟩ (.slice A' M c') = x := ⟨_, rfl⟩
              rw [hw10] at HTK HFT ⊢
              clear hw10 c9 f9
              go_wp2_with fail
              go_ret
              exact ⟨rfl, fun he => by obtain ⟨q', h9⟩ := HTK.out he; exact ⟨_, _, h9⟩, HFT.out⟩
      · refine AllReadyH.cons (o := ?_) ?_ (fun K hK => ?_) AllReadyH.nil
        rotate_left
        · (simp only [List.getElem?_toArray, List.getElem?_cons_succ, List.getElem?_cons_zero]; rfl)
        · go_simp
          have cA : (wz.alloc (.cells #[.int .i64 eo, .int .i64 ea, .int .i64 eb, .int .i64 ec, .int .u32 en] tyI)).cell? ⟨tb, m * 7 + 6, none⟩ = some (Value.slice q.A q.n q.c) := (World.cell?_alloc_lt wz _ _ (cell_lt cz)).trans cz
          clear cz
          refine hK.out _ _ trivial (fun hHeld => ?_)
          clear hK K
          try simp only [Act.put, List.setIfInBounds_toArray, List.set_cons_zero, List.set_cons_succ]
          refine wpAnyH_ready (rs := [4]) (by kernel_rfl) (by simp) ?_
          refine AllReadyH.cons (o := ?_) ?_ (fun K hK => ?_) AllReadyH.nil
          rotate_left
          · (simp only [List.getElem?_toArray, List.getElem?_cons_succ, List.getElem?_cons_zero]; rfl)
          · go_simp
            refine hK.out _ _ trivial (fun hHeld => ?_)
            clear hK K
            try simp only [Act.put, List.setIfInBounds_toArray, List.set_cons_zero, List.set_cons_succ]
            refine wpAnyH_ready (rs := [7]) (by kernel_rfl) (by simp) ?_
            refine AllReadyH.cons (o := ?_) ?_ (fun K hK => ?_) AllReadyH.nil
            rotate_left
            · (simp only [List.getElem?_toArray, List.getElem?_cons_succ, List.getElem?_cons_zero]; rfl)
            · refine step_app2 (by rfl) (.tmp 49) (.tmp 51) 44 (by rfl) insTy N (HCz.out.hop.code.alloc _) (by rfl) (cells_new' wz [.int .i64 eo, .int .i64 ea, .int .i64 eb, .int .i64 ec, .int .u32 en] _ _ rfl) (by rfl) (by rfl) (by simp [Value.oneCell']) (by unfold maxLen; omega) (by omega) (by rw [World.size_alloc]; omega) ?_
              intro v' w9 hown9 hb9 hblk9 _
              obtain ⟨M, A', c', rfl⟩ : ∃ M A' c', v' = .slice A' M c' := (by obtain ⟨A', c', h⟩ := own_slice hown9; exact ⟨_, A', c', h⟩)
              have hbA := (Below.refl wz.heap.size wz).alloc (Nat.le_refl _) (.cells #[.int .i64 eo, .int .i64 ea, .int .i64 eb, .int .i64 ec, .int .u32 en] tyI)
              have hblk : ∀ k, k < wz.heap.size → some k ≠ (Value.slice q.A q.n q.c).ownBlock → w9.heap[k]? = wz.heap[k]? := fun k h1 h2 => (hblk9 k (by rw [World.size_alloc]; omega) h2).trans (hbA.block k h1)
              have hsz9 : wz.heap.size ≤ w9.heap.size := Nat.le_trans hbA.size hb9.size
              have ht9 := own_keepT HCz.out.ht (KeepT.app (ty := tyT) HCz.out.hop.code (by decide) hblk)
              have c9 : w9.cell? ⟨tb, m * 7 + 6, none⟩ = some (.slice q.A q.n q.c) := (row_cell7 ht9 HTB.out HM.out).1
              have f9 : w9.frozen? ⟨tb, m * 7 + 6, none⟩ = false := (row_cell7 ht9 HTB.out HM.out).2
              have HTK := Lib.hid (show (⟨eo, ea, eb, ec, en⟩ : Ins).ok → ∃ q', RdO (w9.setCell ⟨tb, m * 7 + 6, none⟩ (.slice A' M c')) lo rb N (.slice (some ⟨tb, 0, none⟩) (m + 1) ct) vo qs q' ts (t.snoc ⟨eo, ea, eb, ec, en⟩) from fun he => by
                have h9 := RdO.code HCz.out hrb HTB.out (Own.app hown9 rfl) hblk hsz9 he
                rw [HM.out] at h9
                exact ⟨_, h9⟩)
              have htl := (ht9.blk HTB.out).1
              have HFT := Lib.hid (((HFz.out.trans (FrR.below (lo := lo) (rb := rb) hbA hsz (Nat.le_of_lt hrb))).trans (FrR.app (HCz.out.hop.code.alloc (.cells #[.int .i64 eo, .int .i64 ea, .int .i64 eb, .int .i64 ec, .int .u32 en] tyI)) hb9 hblk9 HCz.out.hlo (Nat.le_of_lt hrb))).trans (FrR.set (m * 7 + 6) (.slice A' M c') (Or.inr htl) (Nat.le_of_lt hrb)))
              clear hbA hblk hsz9 ht9 hown9 hb9 hblk9 htl
              refine hK.out _ _ trivial (fun hHeld => ?_)
              clear hK K
              try simp only [Act.put, List.setIfInBounds_toArray, List.set_cons_zero, List.set_cons_succ]
              refine tkH 8 ?_
              try simp only [Act.put, List.setIfInBounds_toArray, List.set_cons_zero, List.set_cons_succ]
              refine tkH 9 ?_
              try simp only [Act.put, List.setIfInBounds_toArray, List.set_cons_zero, List.set_cons_succ]
              refine wpAnyH_ready (rs := [10]) (by kernel_rfl) (by simp) ?_
              refine AllReadyH.cons (o := ?_) ?_ (fun K hK => ?_) AllReadyH.nil
              rotate_left
              · (simp only [List.getElem?_toArray, List.getElem?_cons_succ, List.getElem?_cons_zero]; rfl)
              · go_simp
                refine hK.out _ _ trivial (fun hHeld => ?_)
                clear hK K
                try simp only [Act.put, List.setIfInBounds_toArray, List.set_cons_zero, List.set_cons_succ]
                refine wpAnyH_done (by kernel_rfl) ?_ _
                obtain ⟨w10, hw10⟩ : ∃ x, w9.setCell ⟨tb, m * 7 + 6, none⟩ (.slice A' M c') = x := ⟨_, rfl⟩
                rw [hw10] at HTK HFT ⊢
                clear hw10 c9 f9
                go_wp2_with fail
                go_ret
                exact ⟨rfl, fun he => by obtain ⟨q', h9⟩ := HTK.out he; exact ⟨_, _, h9⟩, HFT.out⟩

end Go.Proofs.YtfgmebjbibbpdaaGreatDoor

namespace Go.Proofs.YtfgmebjbibbpdaaGreatDoor
open Go.RowKit Go.Shelf
attribute [local go_sem] Oper.semAt_some

def keep1 (B : Nat) (W W' : World) : Prop := W'.heap[B]? = W.heap[B]?
def boxLenL (B : Nat) (W : World) : Nat := match W.cell? ⟨B, 0, none⟩ with
  | some (.string s) => s.size
  | _ => 0
theorem boxLenL_eq {B : Nat} {W : World} {s : ByteArray} (h : W.cell? ⟨B, 0, none⟩ = some (.string s)) : boxLenL B W = s.size := by simp [boxLenL, h]

set_option maxRecDepth 100000 in
set_option maxHeartbeats 2000000 in
theorem lines1_in (n : Nat) (hn : 1 ≤ n) (lb B : Nat) (s : ByteArray) (J Jx : List (List UInt8) → World → Prop) (W : World) (hJ : ∀ q, Calm B (J q)) (_hJx : ∀ q, Calm B (Jx q)) (hs63 : s.size ≤ 1000000)
    (hY : ∀ pre x W1, J pre W1 → pre ++ [x] <+: lns s.data.toList → YieldAt Fence.wide (n - 1) Tryz.prog lb #[.string ⟨x.toArray⟩] W1 fun e W' => (e = .returned (.bool true) ∧ J (pre ++ [x]) W' ∧ keep1 B W1 W') ∨ (e = .returned (.bool false) ∧ Jx (pre ++ [x]) W'))
    (b1 : Boxed W B 9 (.string s)) (h0 : J [] W) :
    CallsIn Fence.wide n Tryz.prog 41 #[.func (.yield lb) #[] #[], .pointer (some ⟨B, 0, none⟩)] W fun e W' => (∃ v, e = .returned v) ∧
      ((∃ ys, ys = lns s.data.toList ∧ J ys W') ∨ (∃ pre, pre <+: lns s.data.toList ∧ Jx pre W')) := by
  refine callsIn_of_wp Tryz.func41 rfl trivial ?_ rfl
  simp only [Tryz.ntmps41, List.size_toArray, List.length_cons, List.length_nil, Nat.reduceAdd, Nat.reduceSub, Array.replicate_succ, Array.replicate_zero, List.push_toArray, List.append_toArray, List.nil_append, List.cons_append]
  gi_wp2
  gi_loopw [3] (fun _ wr => ∃ (r : ByteArray) (pre : List (List UInt8)), r.size ≤ s.size ∧ lns s.data.toList = pre ++ lns r.data.toList ∧ Boxed wr B 9 (.string r) ∧ J pre wr)
    (fun _ wr => boxLenL B wr)
  case atStart => exact ⟨s, [], Nat.le_refl _, rfl, b1, h0⟩
  case round =>
    obtain ⟨r, pre, hrs, hpc, d1, hj⟩ := hrel
    have e1 := d1.cell
    have f1 := d1.frozen
    have hrl : r.data.toList.length = r.size := Array.length_toList
    by_cases hz : r.size = 0
    · have t1 : decide ((0 : Int) < (r.size : Int)) = false := by rw [decide_eq_false_iff_not]; omega
      have t1' : decide (0 < r.size) = false := by rw [decide_eq_false_iff_not]; omega
      have hl0 : lns r.data.toList = [] := by rw [List.eq_nil_of_length_eq_zero (by omega : r.data.toList.length = 0)]; rfl
      have hpc' := Lib.hid hpc
      have hl0' := Lib.hid hl0
      clear hpc hl0
      gi_wp2_with fail
      go_end0
      exact ⟨⟨_, rfl⟩, .inl ⟨_, rfl, by rw [hpc'.out, hl0'.out, List.append_nil]; exact hj⟩⟩
    · have t1 : decide ((0 : Int) < (r.size : Int)) = true := by rw [decide_eq_true_iff]; omega
      have t1' : decide (0 < r.size) = true := by rw [decide_eq_true_iff]; omega
      gi_wp2_with fail
      refine ⟨trivial, ?_⟩
      refine (callsIn_wide.2 (Tryz.strings_IndexByte r 10 wr)).mono ?_
      rintro e w2 ⟨rfl, rfl⟩
      rw [show (Int.toNat 10).toUInt8 = (10 : UInt8) from rfl]
      have hge := Lib.indexByte_ge r.data.toList 10
      by_cases hneg : Lib.indexByte r.data.toList 10 = -1
      · have hp1 := Lib.hid (lns_none r.data.toList (fun e => hz (by rw [← hrl, e]; rfl)) (Lib.indexByte_none hneg))
        rw [hneg]
        have hJ1 := (hJ pre).set w2 (.string ⟨#[]⟩) hj
        have d1' := d1.set (.string ⟨#[]⟩)
        obtain ⟨fn, tmps, assign, body, hy, hR⟩ := hY pre r.data.toList _ hJ1 (by rw [hpc, hp1.out]; exact List.prefix_rfl)
        rw [show (⟨r.data.toList.toArray⟩ : ByteArray) = r from by rw [Array.toArray_toList]] at hy
        have hpc' := Lib.hid hpc
        have hbl := Lib.hid (boxLenL_eq e1)
        clear hpc hneg hge hJ1
        gi_wp2_with fail
        refine hR.mono ?_
        rintro e3 W3 (⟨rfl, hJ3, hk3⟩ | ⟨rfl, hJx3⟩)
        · have g1 : Boxed W3 B 9 (.string ⟨#[]⟩) := hk3.trans d1'
          clear e1 f1
          gi_wp2_with fail
          go_roundw
          case rel => exact ⟨⟨#[]⟩, pre ++ [r.data.toList], Nat.zero_le _, by rw [hpc'.out, hp1.out]; simp [lns], g1, hJ3⟩
          case measure => rw [hbl.out, boxLenL_eq g1.cell]; show (0 : Nat) < _; omega
        · gi_wp2_with fail
          refine bodyPost_ret (results_none rfl _ _ _) rfl ?_
          exact ⟨⟨_, rfl⟩, .inr ⟨_, by rw [hpc'.out, hp1.out]; exact List.prefix_rfl, hJx3⟩⟩
      · obtain ⟨o, ho⟩ : ∃ o : Nat, Lib.indexByte r.data.toList 10 = o := ⟨(Lib.indexByte r.data.toList 10).toNat, by omega⟩
        obtain ⟨ho1, ho2⟩ := Lib.indexByte_some ho
        have hp1 := Lib.hid (lns_some _ o ho1 ho2)
        have hor : o < r.size := by rw [← hrl]; exact get_lt ho1
        rw [ho]
        clear hneg hge ho
        have e1' : IntKind.i64.wrap ((o : Int) + 1) = ((o + 1 : Nat) : Int) := by simp [IntKind.wrap, IntKind.signed, IntKind.bits]; omega
        have hJ1 : J pre (w2.setCell ⟨B, 0, none⟩ (.string (r.extract (o + 1) r.size))).drew := (hJ pre).drew _ 1 ((hJ pre).set w2 (.string (r.extract (o + 1) r.size)) hj)
        have d1' := d1.set (.string (r.extract (o + 1) r.size))
        obtain ⟨fn, tmps, assign, body, hy, hR⟩ := hY pre (r.data.toList.take (o + 1)) _ hJ1 (by rw [hpc, hp1.out]; exact ⟨lns (r.data.toList.drop (o + 1)), by simp⟩)
        rw [ext_take] at hy
        have hpc' := Lib.hid hpc
        have hbl := Lib.hid (boxLenL_eq e1)
        clear hpc hJ1 ho1 ho2
        gi_wp2_with fail
        gi_region
        gi_wp2_with fail
        refine hR.mono ?_
        rintro e3 W3 (⟨rfl, hJ3, hk3⟩ | ⟨rfl, hJx3⟩)
        · have g1 : Boxed W3 B 9 (.string (r.extract (o + 1) r.size)) := hk3.trans d1'
          clear e1 f1
          gi_wp2_with fail
          go_roundw
          case rel => exact ⟨_, pre ++ [r.data.toList.take (o + 1)], by rw [ByteArray.size_extract]; omega, by rw [hpc'.out, hp1.out, ext_drop]; simp, g1, hJ3⟩
          case measure => rw [hbl.out, boxLenL_eq g1.cell, ByteArray.size_extract]; omega
        · gi_wp2_with fail
          refine bodyPost_ret (results_none rfl _ _ _) rfl ?_
          exact ⟨⟨_, rfl⟩, .inr ⟨_, by rw [hpc'.out, hp1.out]; exact ⟨lns (r.data.toList.drop (o + 1)), by simp⟩, hJx3⟩⟩

/-- The contract of the iterator over s, whose captured cell is block B. -/
theorem lines_st (n : Nat) (hn : 1 ≤ n) (B : Nat) (s : ByteArray) (hs63 : s.size ≤ 1000000) (w : World) (b1 : Boxed w B 9 (.string s)) :
    SeqSt Fence.wide n Tryz.prog 41 #[.pointer (some ⟨B, 0, none⟩)] (fun x : List UInt8 => Value.string ⟨x.toArray⟩) (keep1 B) (fun ys => ys = lns s.data.toList) (fun pre => pre <+: lns s.data.toList)
      (fun pre x => pre ++ [x] <+: lns s.data.toList) B w :=
  fun lb J Jx W hW hJ hJx hY h0 => lines1_in n hn lb B s J Jx W hJ hJx hs63 hY ((hW.block B b1.lt).trans b1) h0

theorem linesSeq_any (s : ByteArray) (w : World) :
    Calls Tryz.prog 22 #[.string s] w fun e w' => ∃ B, B = w.heap.size ∧ e = .returned (.func (.func 41) #[] #[.pointer (some ⟨B, 0, none⟩)]) ∧ w.alloc (.cells #[.string s] 9) = w' := by
  go_enter Tryz.func22, Tryz.ntmps22
  go_wp2_with (first | go_in | fail)
  go_ret
  exact ⟨_, rfl, rfl, rfl⟩

end Go.Proofs.YtfgmebjbibbpdaaGreatDoor

namespace Go.Proofs.YtfgmebjbibbpdaaGreatDoor
open Go.RowKit

theorem readT_O {s : List UInt8} {t : Tk} (h : readTG s = some t) : readOG s = none := by
  cases ho : readOG s with
  | none => rfl
  | some o =>
    obtain ⟨_, h1, _⟩ := readTG_some h
    have h2 : objL o = s := by
      unfold readOG at ho
      split at ho
      · rename_i hc
        injection ho with ho
        subst ho
        exact hc.2.2.2.2
      · cases ho
    have h3 : headP t = objP o := by rw [← head_pcs, ← obj_pcs, h1, h2]
    have h4 : taskW = objW := by
      have := congrArg (fun l => l.headD []) h3
      exact this
    exact absurd h4 (by decide)
theorem sread_any (lo rb : Nat) (r : Rd) (s : ByteArray) (w : World) (hs : s.size ≤ 19000) (h : RdM w lo rb r) (hn : r.sy.ts.length ≤ 100000 ∧ r.sy.os.length ≤ 100000 ∧ ∀ t ∈ r.sy.ts, t.code.length ≤ 100000) (hT : Tab w) (hM : Mx w) :
    Calls Tryz.prog 24 #[.pointer (some ⟨rb, 0, none⟩), .string s] w (ReadR lo rb r s.data.toList w) := by
  obtain ⟨hrb, hlo, h⟩ := h
  obtain ⟨l, hl⟩ : ∃ l, s.data.toList = l := ⟨_, rfl⟩
  rcases h with ⟨hop, vt, vo, qs, ps, hC⟩ | ⟨hop, hos, N, vt, vo, qs, q, ts, t, hts, hO⟩
  · have hql : qs.length ≤ 100000 := by rw [hC.hts.1]; exact hn.1
    have hpl : ps.length ≤ 100000 := by rw [hC.hos.1]; exact hn.2.1
    cases ht : readTG s.data.toList with
    | some t =>
      by_cases hos : r.sy.os = []
      · refine (sread_head lo rb s w hs hrb hlo hT hM hC hos ht hql).mono ?_
        rintro e w' ⟨rfl, ⟨N, vt', q, hO⟩, hF⟩
        have hst : step r s.data.toList = some ⟨⟨r.sy.ts ++ [t], []⟩, true⟩ := by
          unfold step
          rw [hop, if_neg (by decide), ht]
          exact if_pos hos
        exact ⟨by rw [hst]; rfl, fun r' hr => by
          rw [hst] at hr
          have hr := (Option.some.inj hr).symm
          subst hr
          exact ⟨hrb, Nat.le_trans hlo hF.rest.size, .inr ⟨rfl, rfl, N, vt', vo, qs, q, r.sy.ts, t, rfl, hO⟩⟩, hF⟩
      · refine (sread_obj lo rb s w hs hrb hlo hT hM hC (fun _ => hos) hpl).mono ?_
        rintro e w' ⟨rfl, _, hF⟩
        have hst : step r s.data.toList = none := by
          unfold step
          rw [hop, if_neg (by decide), ht]
          exact if_neg hos
        exact ⟨by rw [hst, readT_O ht]; rfl, (fun r' hr => by rw [hst] at hr; cases hr), hF⟩
    | none =>
      refine (sread_obj lo rb s w hs hrb hlo hT hM hC (fun hh => by rw [ht] at hh; cases hh) hpl).mono ?_
      rintro e w' ⟨rfl, hg, hF⟩
      cases ho : readOG s.data.toList with
      | none =>
        have hst : step r s.data.toList = none := by
          unfold step
          rw [hop, if_neg (by decide), ht]
          show (match readOG s.data.toList with | some o => some _ | none => none) = none
          rw [ho]
        exact ⟨by rw [hst]; rfl, (fun r' hr => by rw [hst] at hr; cases hr), hF⟩
      | some o =>
        have hst : step r s.data.toList = some ⟨⟨r.sy.ts, r.sy.os ++ [o]⟩, false⟩ := by
          unfold step
          rw [hop, if_neg (by decide), ht]
          show (match readOG s.data.toList with | some o => some _ | none => none) = _
          rw [ho]
        obtain ⟨vo', ps', hC'⟩ := hg o ho
        exact ⟨by rw [hst]; rfl, fun r' hr => by
          rw [hst] at hr
          have hr := (Option.some.inj hr).symm
          subst hr
          exact ⟨hrb, Nat.le_trans hlo hF.rest.size, .inl ⟨rfl, vt, vo', qs, ps', hC'⟩⟩, hF⟩
  · have hql : qs.length ≤ 100000 := by
      have := hn.1
      rw [hts, List.length_append] at this
      rw [hO.hts.1]
      omega
    have hcl : t.code.length ≤ 100000 := hn.2.2 t (by rw [hts]; simp)
    by_cases he : s.data.toList = endW3
    · refine (sread_end lo rb s w hs hrb hlo hT hM hO he).mono ?_
      rintro e w' ⟨rfl, hC, hF⟩
      have hst : step r s.data.toList = some ⟨r.sy, false⟩ := by
        unfold step
        rw [hop, if_pos rfl, if_pos he]
      exact ⟨by rw [hst]; rfl, fun r' hr => by
        rw [hst] at hr
        have hr := (Option.some.inj hr).symm
        subst hr
        refine ⟨hrb, Nat.le_trans hlo hF.rest.size, .inl ⟨rfl, vt, vo, qs ++ [q], [], ?_⟩⟩
        have e1 : r.sy = ⟨ts ++ [t], []⟩ := by rw [← hts, ← hos]
        show RdC w' lo rb vt vo (qs ++ [q]) [] r.sy
        rw [e1]
        exact hC, hF⟩
    · refine (sread_code lo rb s w hs hrb hlo hT hM hO he rfl rfl hql hcl).mono ?_
      rintro e w' ⟨rfl, hg, hF⟩
      rcases read_cases s.data.toList with ⟨ev, h1, h2, h3, h4⟩ | ⟨h1, h3, h4⟩
      · have hst : step r s.data.toList = some ⟨⟨addCode r.sy.ts ev, r.sy.os⟩, true⟩ := by
          unfold step
          rw [hop, if_pos rfl, if_neg he, h1]
        rw [h2] at hg
        obtain ⟨vt', q', hO'⟩ := hg h4.2
        exact ⟨by rw [hst, h3]; rfl, fun r' hr => by
          rw [hst] at hr
          have hr := (Option.some.inj hr).symm
          subst hr
          exact ⟨hrb, Nat.le_trans hlo hF.rest.size, .inr ⟨rfl, hos, N, vt', vo, qs, q', ts, t.snoc ev, by rw [hts, addCode_snoc], hO'⟩⟩, hF⟩
      · have hst : step r s.data.toList = none := by
          unfold step
          rw [hop, if_pos rfl, if_neg he, h1]
        exact ⟨by rw [hst, h3]; rfl, (fun r' hr => by rw [hst] at hr; cases hr), hF⟩

theorem RdM.keep {w w' : World} {lo rb : Nat} {r : Rd} (h : RdM w lo rb r) (hr : w'.heap[rb]? = w.heap[rb]?) (hk : ∀ (b : Nat) (cur : Array Value) (ty : TypeId), lo ≤ b → w.heap[b]? = some (.cells cur ty (0, 0)) → w'.heap[b]? = some (.cells cur ty (0, 0))) (hs : w.heap.size ≤ w'.heap.size) : RdM w' lo rb r := by
  obtain ⟨hrb, hlo, h⟩ := h
  refine ⟨hrb, Nat.le_trans hlo hs, ?_⟩
  rcases h with ⟨hop, vt, vo, qs, ps, hC⟩ | ⟨hop, hos, N, vt, vo, qs, q, ts, t, hts, hO⟩
  · exact .inl ⟨hop, vt, vo, qs, ps, hC.keep hr (fun ty b cur hl hb => hk b cur ty hl hb) hs⟩
  · exact .inr ⟨hop, hos, N, vt, vo, qs, q, ts, t, hts, hO.keep hr (fun ty b cur hl hb => hk b cur ty hl hb) hs⟩
theorem RdM.lt {w : World} {lo rb : Nat} {r : Rd} (h : RdM w lo rb r) : rb < w.heap.size := Nat.lt_of_lt_of_le h.1 h.2.1
theorem RdM.below {w w' : World} {lo rb : Nat} {r : Rd} (h : RdM w lo rb r) (hb : Below w.heap.size w w') : RdM w' lo rb r :=
  h.keep (hb.block rb h.lt) (fun b _ _ _ hh => (hb.block b (Array.getElem?_eq_some_iff.1 hh).1).trans hh) hb.size
/-- A cell of another block below lo is set. -/
theorem RdM.set {w : World} {lo rb : Nat} {r : Rd} (h : RdM w lo rb r) {b : Nat} (hb : b < lo) (hne : b ≠ rb) (j : Nat) (v : Value) : RdM (w.setCell ⟨b, j, none⟩ v) lo rb r :=
  h.keep (heap_set w b j v rb (fun e => hne e.symm)) (fun b' cur ty hl hh => (heap_set w b j v b' (by omega)).trans hh) (by rw [size_set]; exact Nat.le_refl _)
theorem Calm.rdM {B lo rb : Nat} (hB : B < lo) (hne : B ≠ rb) (r : Rd) : Calm B (fun W => RdM W lo rb r) :=
  ⟨fun W o h => h.below ((Below.refl W.heap.size W).alloc (Nat.le_refl _) o), fun _ v h => h.set hB hne 0 v, fun _ _ h => h.keep rfl (fun _ _ _ _ hh => hh) (Nat.le_refl _)⟩
theorem putO_ne {W : World} {l : Nat} {o : Obj} (o' : Obj) (hl : W.heap[l]? = some o) (ho : o.isCells = false) {b : Nat} {cur : Array Value} {ty : TypeId} {fz : Nat × Nat} (hb : W.heap[b]? = some (.cells cur ty fz)) : (W.putObj l o').heap[b]? = some (.cells cur ty fz) := by
  have hne : b ≠ l := fun e => by
    subst e
    rw [hl] at hb
    cases hb
    cases ho
  exact (World.putObj_heap_other hne).trans hb
theorem RowB.putO {W : World} {b l : Nat} {arr : Array Value} {t : TypeId} {o : Obj} (o' : Obj) (h : RowB W b arr t) (hl : W.heap[l]? = some o) (ho : o.isCells = false) : RowB (W.putObj l o') b arr t := putO_ne o' hl ho h
theorem Calm.row {B l : Nat} (hne : l ≠ B) (arr : Array Value) (t : TypeId) : Calm B (fun W => RowB W l arr t) := Calm.at hne _
theorem RdM.putO {W : World} {lo rb l : Nat} {r : Rd} {o : Obj} (o' : Obj) (h : RdM W lo rb r) (hl : W.heap[l]? = some o) (ho : o.isCells = false) : RdM (W.putObj l o') lo rb r := by
  refine h.keep ?_ (fun b cur ty _ hh => putO_ne o' hl ho hh) (below_putO (H := 0) o' (Nat.zero_le _) hl).size
  have : ∃ cur ty, W.heap[rb]? = some (.cells cur ty (0, 0)) := by
    rcases h.2.2 with ⟨_, vt, vo, qs, ps, hC⟩ | ⟨_, _, N, vt, vo, qs, q, ts, t, _, hO⟩
    · exact ⟨_, _, hC.hr⟩
    · exact ⟨_, _, hO.hr⟩
  obtain ⟨cur, ty, hh⟩ := this
  rw [hh]
  exact putO_ne o' hl ho hh

end Go.Proofs.YtfgmebjbibbpdaaGreatDoor

namespace Go.Proofs.YtfgmebjbibbpdaaGreatDoor
open Go.RowKit Go.Shelf
attribute [local go_sem] Oper.semAt_some

/-- So far nothing was wrong, and this is what was read. -/
def SofS (pre : List (List UInt8)) (r : Rd) : Prop := (∀ q, parseSL (pre ++ q) 0 rd0 = parseSL q pre.length r) ∧ r.sy.ts.length ≤ pre.length ∧ r.sy.os.length ≤ pre.length ∧ ∀ t ∈ r.sy.ts, t.code.length ≤ pre.length
theorem sofS_nil : SofS [] rd0 := ⟨fun r => rfl, Nat.le_refl _, Nat.le_refl _, fun t h => by cases h⟩
theorem addCode_len (l : List Tk) (e : Ins) : (addCode l e).length = l.length := by
  induction l with
  | nil => rfl
  | cons a l ih =>
    cases l with
    | nil => rfl
    | cons b l => show (a :: addCode (b :: l) e).length = _; rw [List.length_cons, ih]; rfl
theorem addCode_mem {l : List Tk} {e : Ins} {t : Tk} (h : t ∈ addCode l e) : ∃ u ∈ l, t.code.length ≤ u.code.length + 1 := by
  induction l with
  | nil => cases h
  | cons a l ih =>
    cases l with
    | nil =>
      have : t = a.snoc e := by simpa [addCode] using h
      subst this
      exact ⟨a, by simp, by simp [Tk.snoc]⟩
    | cons b l =>
      have h' : t ∈ a :: addCode (b :: l) e := h
      rcases List.mem_cons.1 h' with rfl | h'
      · exact ⟨t, by simp, by omega⟩
      · obtain ⟨u, hu, hl⟩ := ih h'
        exact ⟨u, List.mem_cons_of_mem _ hu, hl⟩
theorem step_bd {r r' : Rd} {s : List UInt8} {n : Nat} (h : step r s = some r') (hb : r.sy.ts.length ≤ n ∧ r.sy.os.length ≤ n ∧ ∀ t ∈ r.sy.ts, t.code.length ≤ n) : r'.sy.ts.length ≤ n + 1 ∧ r'.sy.os.length ≤ n + 1 ∧ ∀ t ∈ r'.sy.ts, t.code.length ≤ n + 1 := by
  obtain ⟨h1, h2, h3⟩ := hb
  unfold step at h
  split at h
  · split at h
    · have h := (Option.some.inj h).symm
      subst h
      exact ⟨by show r.sy.ts.length ≤ _; omega, by show r.sy.os.length ≤ _; omega, fun t ht => by have := h3 t ht; omega⟩
    · split at h
      · have h := (Option.some.inj h).symm
        subst h
        refine ⟨by show (addCode _ _).length ≤ _; rw [addCode_len]; omega, by show r.sy.os.length ≤ _; omega, fun t ht => ?_⟩
        obtain ⟨u, hu, hl⟩ := addCode_mem ht
        have := h3 u hu
        omega
      · cases h
  · split at h
    · split at h
      · rename_i t ht _
        have h := (Option.some.inj h).symm
        subst h
        refine ⟨by show (r.sy.ts ++ [t]).length ≤ _; rw [List.length_append, List.length_singleton]; omega, Nat.zero_le _, fun u hu => ?_⟩
        rcases List.mem_append.1 hu with hu | hu
        · have := h3 u hu; omega
        · rw [List.mem_singleton.1 hu, (readTG_some ht).2.2]; exact Nat.zero_le _
      · cases h
    · split at h
      · have h := (Option.some.inj h).symm
        subst h
        exact ⟨by show r.sy.ts.length ≤ _; omega, by show (r.sy.os ++ [_]).length ≤ _; rw [List.length_append, List.length_singleton]; omega, fun t ht => by have := h3 t ht; omega⟩
      · cases h
theorem sofS_snoc {pre : List (List UInt8)} {r r' : Rd} {x : List UInt8} (h : SofS pre r) (hs : Lib.hasSuffix x [10] = true) (hr : step r (Lib.trimSuffix x [10]) = some r') : SofS (pre ++ [x]) r' := by
  have hb := step_bd hr h.2
  refine ⟨fun q => ?_, ?_⟩
  · rw [List.append_assoc, h.1]
    show parseSL (x :: q) pre.length r = _
    rw [parseSL, if_pos hs, hr, List.length_append]
    rfl
  · rw [List.length_append, List.length_singleton]
    exact hb
theorem sofS_end {pre : List (List UInt8)} {r : Rd} {x l : List UInt8} (h : SofS pre r) (hok : pre ++ [x] <+: lns l) (hs : Lib.hasSuffix x [10] = false) : parseS l = ⟨Sy.none, pre.length + 1, 2⟩ := by
  obtain ⟨q, hq⟩ := hok
  unfold parseS
  rw [← hq, List.append_assoc, h.1]
  show parseSL (x :: q) pre.length r = _
  rw [parseSL, hs, if_neg (by decide)]
theorem sofS_form {pre : List (List UInt8)} {r : Rd} {x l : List UInt8} (h : SofS pre r) (hok : pre ++ [x] <+: lns l) (hs : Lib.hasSuffix x [10] = true) (hr : step r (Lib.trimSuffix x [10]) = none) : parseS l = ⟨Sy.none, pre.length + 1, 4⟩ := by
  obtain ⟨q, hq⟩ := hok
  unfold parseS
  rw [← hq, List.append_assoc, h.1]
  show parseSL (x :: q) pre.length r = _
  rw [parseSL, if_pos hs, hr]
theorem sofS_done {r : Rd} {l : List UInt8} (h : SofS (lns l) r) : parseS l = if r.op = true then ⟨Sy.none, (lns l).length, 2⟩ else ⟨r.sy, 0, 0⟩ := by
  have := h.1 []
  rw [List.append_nil] at this
  unfold parseS
  rw [this]
  rfl

theorem res_sparse (tmps : Array Value) (w : World) {a b c : Nat} {v1 v2 : Value} {x y : Int} (ha : tmps[2]?.getD undef = .pointer (some ⟨a, 0, none⟩)) (hb : tmps[3]?.getD undef = .pointer (some ⟨b, 0, none⟩)) (hc : tmps[4]?.getD undef = .pointer (some ⟨c, 0, none⟩)) (hv : RowB w a #[v1, v2] 25) (hx : w.cell? ⟨b, 0, none⟩ = some (.int .i64 x)) (hy : w.cell? ⟨c, 0, none⟩ = some (.int .i64 y)) :
    (results Tryz.f10 tmps).run Tryz.prog w = .ok (.tuple #[.agg #[v1, v2], .int .i64 x, .int .i64 y]) w := by
  have h0 := hv.cell 0
  have h1 := hv.cell 1
  simp only [List.getElem?_toArray, List.getElem?_cons_zero, List.getElem?_cons_succ] at h0 h1
  simp [results, ha, hb, hc, h0, h1, hx, hy, go_sem]

/-- The three results in their boxes, and what else is kept. -/
def Ws3 (W : World) (L : Nat) (w : World) (v0 v0' v1 v2 : Value) (X : World) : Prop :=
  RowB X (w.heap.size) #[v0, v0'] 25 ∧ Boxed X (w.heap.size + 1) 3 v1 ∧ Boxed X (w.heap.size + 1 + 1) 31 v2 ∧ KeepsFrom L W X ∧ Below w.heap.size w X
section
variable {W X w : World} {L : Nat} {v0 v0' v1 v2 u : Value}
theorem Ws3.s00 (h : Ws3 W L w v0 v0' v1 v2 X) : Ws3 W L w u v0' v1 v2 (X.setCell ⟨w.heap.size, 0, none⟩ u) :=
  ⟨h.1.set 0 u, h.2.1.other (by omega) u, h.2.2.1.other (by omega) u, h.2.2.2.1.trans ((KeepsOthers.setCell _ _ _).from _), h.2.2.2.2.setCell (p := ⟨w.heap.size, 0, none⟩) (Nat.le_refl _) _⟩
theorem Ws3.s01 (h : Ws3 W L w v0 v0' v1 v2 X) : Ws3 W L w v0 u v1 v2 (X.setCell ⟨w.heap.size, 1, none⟩ u) :=
  ⟨h.1.set 1 u, RowB.other (arr := #[v1]) h.2.1 _ 1 u (by omega), RowB.other (arr := #[v2]) h.2.2.1 _ 1 u (by omega), h.2.2.2.1.trans ((KeepsOthers.setCell _ _ _).from _), h.2.2.2.2.setCell (p := ⟨w.heap.size, 1, none⟩) (Nat.le_refl _) _⟩
theorem Ws3.s1 (h : Ws3 W L w v0 v0' v1 v2 X) : Ws3 W L w v0 v0' u v2 (X.setCell ⟨w.heap.size + 1, 0, none⟩ u) :=
  ⟨h.1.other _ 0 u (by omega), h.2.1.set u, h.2.2.1.other (by omega) u, h.2.2.2.1.trans ((KeepsOthers.setCell _ _ _).from _), h.2.2.2.2.setCell (p := ⟨w.heap.size + 1, 0, none⟩) (by simp) _⟩
theorem Ws3.s2 (h : Ws3 W L w v0 v0' v1 v2 X) : Ws3 W L w v0 v0' v1 u (X.setCell ⟨w.heap.size + 1 + 1, 0, none⟩ u) :=
  ⟨h.1.other _ 0 u (by omega), h.2.1.other (by omega) u, h.2.2.1.set u, h.2.2.2.1.trans ((KeepsOthers.setCell _ _ _).from _), h.2.2.2.2.setCell (p := ⟨w.heap.size + 1 + 1, 0, none⟩) (by simp; omega) _⟩
theorem Ws3.dr (h : Ws3 W L w v0 v0' v1 v2 X) : Ws3 W L w v0 v0' v1 v2 X.drew :=
  ⟨h.1, h.2.1, h.2.2.1, ⟨h.2.2.2.1.1, h.2.2.2.1.2⟩, h.2.2.2.2.drew⟩
end

theorem al_row {w w1 : World} {arr : Array Value} {t : TypeId} (h : w.alloc (.cells arr t) = w1) : RowB w1 w.heap.size arr t ∧ w1.heap.size = w.heap.size + 1 ∧ Below w.heap.size w w1 := by
  subst h
  exact ⟨RowB.new _ _ _, World.size_alloc _ _, (Below.refl _ _).alloc (Nat.le_refl _) _⟩
abbrev nilS : Value := .slice none 0 0
theorem RdC.set {w : World} {lo rb : Nat} {vt vo : Value} {qs : List Tq} {ps : List Oq} {sy : Sy} (h : RdC w lo rb vt vo qs ps sy) {b : Nat} (hb : b < lo) (hne : b ≠ rb) (j : Nat) (v : Value) : RdC (w.setCell ⟨b, j, none⟩ v) lo rb vt vo qs ps sy :=
  h.keep (heap_set w b j v rb (fun e => hne e.symm)) (fun ty b' cur hl hh => (heap_set w b j v b' (by omega)).trans hh) (by rw [size_set]; exact Nat.le_refl _)
theorem RdC.putO {W : World} {lo rb l : Nat} {vt vo : Value} {qs : List Tq} {ps : List Oq} {sy : Sy} {o : Obj} (o' : Obj) (h : RdC W lo rb vt vo qs ps sy) (hl : W.heap[l]? = some o) (ho : o.isCells = false) : RdC (W.putObj l o') lo rb vt vo qs ps sy :=
  h.keep ((putO_ne o' hl ho h.hr).trans h.hr.symm) (fun _ _ _ _ hh => putO_ne o' hl ho hh) (below_putO (H := 0) o' (Nat.zero_le _) hl).size
def ParR (l : List UInt8) (w : World) (e : Ending) (w' : World) : Prop := ∃ At ct Ao co, e = .returned (.tuple #[.agg #[.slice At (parseS l).sy.ts.length ct, .slice Ao (parseS l).sy.os.length co], .int .i64 (parseS l).at_, .int .i64 (parseS l).err]) ∧ TkSl w' w'.heap.size At (parseS l).sy.ts ∧ OjSl w' w'.heap.size Ao (parseS l).sy.os ∧ Below w.heap.size w w'
theorem sp_end {w W X : World} {L D : Nat} {l : List UInt8} {tmps : Array Value} {a e : Int} (ha : tmps[2]?.getD undef = .pointer (some ⟨w.heap.size, 0, none⟩)) (hb : tmps[3]?.getD undef = .pointer (some ⟨w.heap.size + 1, 0, none⟩)) (hc : tmps[4]?.getD undef = .pointer (some ⟨w.heap.size + 1 + 1, 0, none⟩))
    (hD : L ≤ D) (hK : W.heap[D]? = some (.deferred (some []))) (hw : w.heap.size ≤ D) (hp : parseS l = ⟨Sy.none, a, e⟩) (h : Ws3 W L w (.slice none 0 0) (.slice none 0 0) (.int .i64 a) (.int .i64 e) X) :
    bodyPostM Fence.wide 6 Tryz.prog Tryz.f10 (ParR l w) Exit.ret { tmps := tmps, defers := [{ target := Target.collected D, args := #[] }] } X := by
  have hK' := h.2.2.2.1.same D _ hD hK rfl
  have hbp := below_putO (H := w.heap.size) (.deferred none) hw hK'
  refine ⟨by simp, .inl ⟨_, _, rfl, run_takeDeferred hK', ?_⟩⟩
  exact ⟨_, res_sparse _ _ ha hb hc (h.1.putO (.deferred none) hK' rfl) (box_putO (.deferred none) h.2.1 hK' rfl).cell (box_putO (.deferred none) h.2.2.1 hK' rfl).cell, none, 0, none, 0, (by rw [hp]; rfl), (by rw [hp]; intro k t h; cases h), (by rw [hp]; intro k t h; cases h), h.2.2.2.2.trans hbp⟩
set_option maxRecDepth 100000 in
set_option maxHeartbeats 1000000 in
theorem sparse_any (s : ByteArray) (w : World) (hs : s.size ≤ 65536) (hlines : ∀ x ∈ lns s.data.toList, x.length ≤ 3000) (hT : Tab w) (hM : Mx w) :
    Calls Tryz.prog 10 #[.string s] w (ParR s.data.toList w) := by
  have tmx : decide ((65536 : Int) < (s.size : Int)) = false := by rw [decide_eq_false_iff_not]; omega
  have tmy : decide (65536 < s.size) = false := by rw [decide_eq_false_iff_not]; omega
  have tmz : ¬ (65536 < s.size) := by omega
  obtain ⟨l, hl⟩ : ∃ l, s.data.toList = l := ⟨_, rfl⟩
  have hlen : l.length = s.size := by rw [← hl]; exact Array.length_toList
  have hll := lns_len l
  have hls := fun W b1 => lines_st (6 - 1) (by omega) (w.heap.size + 1 + 1 + 1 + 1 + 1 + 1 + 1) s (by omega) W b1
  rw [hl] at hlines hls ⊢
  have hl' := Lib.hid hl
  clear hl
  refine (callsIn_wide (n := 6)).1 ?_
  refine callsIn_of_wp_marks Tryz.func10 rfl trivial ?_ rfl
  simp only [Tryz.ntmps10, List.size_toArray, List.length_cons, List.length_nil, Nat.reduceAdd, Nat.reduceSub, Array.replicate_succ, Array.replicate_zero, List.push_toArray, List.append_toArray, List.nil_append, List.cons_append]
  gi_wp2_with fail
  refine ⟨trivial, ?_⟩
  refine (callsIn_wide.2 (linesSeq_any s _)).mono ?_
  rintro e W0 ⟨B, hB, rfl, hW0⟩
  gi_wp2_with fail
  clear hB
  obtain ⟨h0, hh0⟩ : ∃ x, w.heap.size = x := ⟨_, rfl⟩
  obtain ⟨w1, hw1⟩ : ∃ x, w.alloc (.cells #[.slice none 0 0, .slice none 0 0] 25) = x := ⟨_, rfl⟩
  rw [hw1] at hW0
  have x1 := al_row hw1
  obtain ⟨w2, hw2⟩ : ∃ x, w1.alloc (.cells #[.int .i64 0] 3) = x := ⟨_, rfl⟩
  rw [hw2] at hW0
  have x2 := al_row hw2
  obtain ⟨w3, hw3⟩ : ∃ x, w2.alloc (.cells #[.int .i64 0] 31) = x := ⟨_, rfl⟩
  rw [hw3] at hW0
  have x3 := al_row hw3
  obtain ⟨w4, hw4⟩ : ∃ x, w3.alloc (.cells #[.slice none 0 0, .slice none 0 0] 25) = x := ⟨_, rfl⟩
  rw [hw4] at hW0
  have x4 := al_row hw4
  obtain ⟨w5, hw5⟩ : ∃ x, w4.alloc (.cells #[.slice none 0 0, .slice none 0 0, .bool false] 65) = x := ⟨_, rfl⟩
  rw [hw5] at hW0
  have x5 := al_row hw5
  obtain ⟨w6, hw6⟩ : ∃ x, w5.alloc (.cells #[.pointer (some ⟨w.heap.size + 1 + 1 + 1 + 1, 0, none⟩)] 63) = x := ⟨_, rfl⟩
  rw [hw6] at hW0
  have x6 := al_row hw6
  obtain ⟨w7, hw7⟩ : ∃ x, w6.alloc (.cells #[.int .i64 0] 3) = x := ⟨_, rfl⟩
  rw [hw7] at hW0
  have x7 := al_row hw7
  have hw8 := hW0
  have x8 := al_row hw8
  have b8 := x8.2.2
  have b7 := x7.2.2.trans (b8.mono (by omega))
  have b6 := x6.2.2.trans (b7.mono (by omega))
  have b5 := x5.2.2.trans (b6.mono (by omega))
  have b4 := x4.2.2.trans (b5.mono (by omega))
  have b3 := x3.2.2.trans (b4.mono (by omega))
  have b2 := x2.2.2.trans (b3.mono (by omega))
  have hb0 := x1.2.2.trans (b2.mono (by omega))
  have y1 := x1.1.kept b2
  have y2 := x2.1.kept b3
  have y3 := x3.1.kept b4
  have y4 := x4.1.kept b5
  have y5 := x5.1.kept b6
  have y6 := x6.1.kept b7
  have y7 := x7.1.kept b8
  have y8 := x8.1
  have e1 : w1.heap.size = w.heap.size + 1 := x1.2.1
  have e2 : w2.heap.size = w.heap.size + 1 + 1 := by rw [x2.2.1, e1]
  have e3 : w3.heap.size = w.heap.size + 1 + 1 + 1 := by rw [x3.2.1, e2]
  have e4 : w4.heap.size = w.heap.size + 1 + 1 + 1 + 1 := by rw [x4.2.1, e3]
  have e5 : w5.heap.size = w.heap.size + 1 + 1 + 1 + 1 + 1 := by rw [x5.2.1, e4]
  have e6 : w6.heap.size = w.heap.size + 1 + 1 + 1 + 1 + 1 + 1 := by rw [x6.2.1, e5]
  have e7 : w7.heap.size = w.heap.size + 1 + 1 + 1 + 1 + 1 + 1 + 1 := by rw [x7.2.1, e6]
  have hsz : W0.heap.size = w.heap.size + 1 + 1 + 1 + 1 + 1 + 1 + 1 + 1 := by rw [x8.2.1, e7]
  rw [e1] at y2
  rw [e2] at y3
  rw [e3] at y4
  rw [e4] at y5
  rw [e5] at y6
  rw [e6] at y7
  rw [e7] at y8
  clear x1 x2 x3 x4 x5 x6 x7 x8 hw1 hw2 hw3 hw4 hw5 hw6 hw7 hw8 hW0 e1 e2 e3 e4 e5 e6 e7 b2 b3 b4 b5 b6 b7 b8 hh0
  obtain ⟨N, hN⟩ : ∃ N, N = w.heap.size + 1 + 1 + 1 + 1 + 1 + 1 + 1 + 1 := ⟨_, rfl⟩
  have hC0 : RdM W0 N (w.heap.size + 1 + 1 + 1 + 1) rd0 := ⟨by omega, by omega, .inl ⟨rfl, nilS, nilS, [], [], y5, Own.nil _ _, Own.nil _ _, AllP.nil _, AllP.nil _⟩⟩
  refine wpIn_rangeFunc_st rfl (by omega) (gf := 41) (lb := #[.pointer (some ⟨w.heap.size + 1 + 1 + 1 + 1 + 1 + 1 + 1, 0, none⟩)]) rfl trivial (enters_of Tryz.func41 (by kernel_rfl) rfl)
    (hls W0 y8) (by omega) (fun h k => Eq.trans k h) (fun W l o o' hl _ _ => World.putObj_heap_other (by omega)) (Below.refl _ _)
    (fun pre W => (RowB W (w.heap.size) #[.slice none 0 0, .slice none 0 0] 25 ∧ Boxed W (w.heap.size + 1) 3 (.int .i64 0) ∧ Boxed W (w.heap.size + 1 + 1) 31 (.int .i64 0)) ∧
      (RowB W (w.heap.size + 1 + 1 + 1) #[.slice none 0 0, .slice none 0 0] 25 ∧ Boxed W (w.heap.size + 1 + 1 + 1 + 1 + 1) 63 (.pointer (some ⟨w.heap.size + 1 + 1 + 1 + 1, 0, none⟩)) ∧ Boxed W (w.heap.size + 1 + 1 + 1 + 1 + 1 + 1) 3 (.int .i64 pre.length)) ∧
      (∃ r, RdM W N (w.heap.size + 1 + 1 + 1 + 1) r ∧ SofS pre r) ∧ (Below w.heap.size w W ∧ N ≤ W.heap.size))
    (fun c pre W => (∃ at_ er : Int, (RowB W (w.heap.size) #[.slice none 0 0, .slice none 0 0] 25 ∧ Boxed W (w.heap.size + 1) 3 (.int .i64 at_) ∧ Boxed W (w.heap.size + 1 + 1) 31 (.int .i64 er)) ∧ parseS l = ⟨Sy.none, at_, er⟩) ∧ Below w.heap.size w W ∧ c = .ret)
    ?_ ?_ ?_ ?_ ⟨⟨y1, y2, y3⟩, ⟨y4, y6, y7⟩, ⟨rd0, hC0, sofS_nil⟩, hb0, by omega⟩
    (fun x => { tmps := #[.string s, undef, .pointer (some ⟨w.heap.size, 0, none⟩), .pointer (some ⟨w.heap.size + 1, 0, none⟩), .pointer (some ⟨w.heap.size + 1 + 1, 0, none⟩), .pointer (some ⟨w.heap.size + 1 + 1 + 1, 0, none⟩), .pointer (some ⟨w.heap.size + 1 + 1 + 1 + 1 + 1, 0, none⟩), .pointer (some ⟨w.heap.size + 1 + 1 + 1 + 1 + 1 + 1, 0, none⟩), .string ⟨x.toArray⟩, undef, undef, .agg #[.slice none 0 0, .slice none 0 0], .string s, .int .i64 s.size, .bool false, undef, .agg #[.slice none 0 0, .slice none 0 0, .bool false], .pointer (some ⟨w.heap.size + 1 + 1 + 1 + 1, 0, none⟩), .string s, .func (.func 41) #[] #[.pointer (some ⟨w.heap.size + 1 + 1 + 1 + 1 + 1 + 1 + 1, 0, none⟩)], .string ⟨x.toArray⟩, undef, undef, undef, undef, undef, undef, undef, undef, undef, undef, undef, undef, undef, undef, undef, undef, undef, undef, undef, undef, undef, undef, undef, undef, undef, undef, undef], defers := [] })
    ?assign ?body ?done ?stop
  · exact fun pre => ((Calm.row (by omega) _ _).and ((Calm.boxed (by omega) _ _).and (Calm.boxed (by omega) _ _))).and (((Calm.row (by omega) _ _).and ((Calm.boxed (by omega) _ _).and (Calm.boxed (by omega) _ _))).and ((Calm.ex fun r => (Calm.rdM (by omega) (by omega) r).and (Calm.const _ _)).and ((Calm.below (by omega) (Nat.le_refl _)).and (Calm.size _ _))))
  · exact fun c pre => (Calm.ex fun a => Calm.ex fun b => ((Calm.row (by omega) _ _).and ((Calm.boxed (by omega) _ _).and (Calm.boxed (by omega) _ _))).and (Calm.const _ _)).and ((Calm.below (by omega) (Nat.le_refl _)).and (Calm.const _ _))
  · rintro pre W l o o' ⟨⟨r0, r1, r2⟩, ⟨r3, r5, r6⟩, ⟨r, hr, hso⟩, hbw, hNW⟩ hl ho hc
    have hbp := below_putO (H := w.heap.size) o' (by omega) ho
    exact ⟨⟨r0.putO o' ho hc, box_putO o' r1 ho hc, box_putO o' r2 ho hc⟩, ⟨r3.putO o' ho hc, box_putO o' r5 ho hc, box_putO o' r6 ho hc⟩, ⟨r, hr.putO o' ho hc, hso⟩, hbw.trans hbp, Nat.le_trans hNW hbp.size⟩
  · rintro c pre W l o o' ⟨⟨at_, er, ⟨r0, r1, r2⟩, hp⟩, hbw, hr⟩ hl ho hc
    have hbp := below_putO (H := w.heap.size) o' (by omega) ho
    exact ⟨⟨at_, er, ⟨r0.putO o' ho hc, box_putO o' r1 ho hc, box_putO o' r2 ho hc⟩, hp⟩, hbw.trans hbp, hr⟩
  case assign =>
    intro l x W K hK
    gi_wp2
    exact hK
  case body =>
    rintro lb pre x W ⟨⟨r0, r1, r2⟩, ⟨r3, r5, r6⟩, ⟨r, hr, hso⟩, hbw, hNW⟩ hok
    have hx3 := hlines x (hok.subset (by simp))
    have hpl := hok.length_le
    rw [List.length_append, List.length_singleton] at hpl
    have g6 := r6.cell
    have f6 := r6.frozen
    have hwl : IntKind.i64.wrap ((pre.length : Int) + 1) = (pre.length : Int) + 1 := by simp [IntKind.wrap, IntKind.signed, IntKind.bits]; omega
    gi_wp2_with fail
    refine ⟨trivial, ?_⟩
    have hrS := hr.set (b := w.heap.size + 1 + 1 + 1 + 1 + 1 + 1) (by omega) (by omega) 0 (.int .i64 ((pre.length : Int) + 1))
    have q0 := r0.other (w.heap.size + 1 + 1 + 1 + 1 + 1 + 1) 0 (.int .i64 ((pre.length : Int) + 1)) (by omega)
    have q1 := r1.other (B' := w.heap.size + 1 + 1 + 1 + 1 + 1 + 1) (by omega) (.int .i64 ((pre.length : Int) + 1))
    have q2 := r2.other (B' := w.heap.size + 1 + 1 + 1 + 1 + 1 + 1) (by omega) (.int .i64 ((pre.length : Int) + 1))
    have q3 := r3.other (w.heap.size + 1 + 1 + 1 + 1 + 1 + 1) 0 (.int .i64 ((pre.length : Int) + 1)) (by omega)
    have q5 := r5.other (B' := w.heap.size + 1 + 1 + 1 + 1 + 1 + 1) (by omega) (.int .i64 ((pre.length : Int) + 1))
    have q6 := r6.set (.int .i64 ((pre.length : Int) + 1))
    have hbS := hbw.setCell (p := ⟨w.heap.size + 1 + 1 + 1 + 1 + 1 + 1, 0, none⟩) (by simp; omega) (.int .i64 ((pre.length : Int) + 1))
    have hkS : KeepsFrom W0.heap.size W (W.setCell ⟨w.heap.size + 1 + 1 + 1 + 1 + 1 + 1, 0, none⟩ (.int .i64 ((pre.length : Int) + 1))) := (KeepsOthers.setCell _ _ _).from _
    have hzS := size_set W (w.heap.size + 1 + 1 + 1 + 1 + 1 + 1) 0 (.int .i64 ((pre.length : Int) + 1))
    have hbB : (W.setCell ⟨w.heap.size + 1 + 1 + 1 + 1 + 1 + 1, 0, none⟩ (.int .i64 ((pre.length : Int) + 1))).heap[w.heap.size + 1 + 1 + 1 + 1 + 1 + 1 + 1]? = W.heap[w.heap.size + 1 + 1 + 1 + 1 + 1 + 1 + 1]? := heap_set _ _ _ _ _ (by omega)
    obtain ⟨W1, hW1⟩ : ∃ x, W.setCell ⟨w.heap.size + 1 + 1 + 1 + 1 + 1 + 1, 0, none⟩ (.int .i64 ((pre.length : Int) + 1)) = x := ⟨_, rfl⟩
    rw [hW1] at hrS q0 q1 q2 q3 q5 q6 hbS hkS hzS hbB ⊢
    clear hW1 g6 f6 r0 r1 r2 r3 r5 r6 hr hbw
    refine (CallsIn.inRound lb (callsIn_wide.2 (Tryz.strings_CutSuffix ⟨x.toArray⟩ ⟨#[10]⟩ _ (by simp [ByteArray.size]; omega)))).mono ?_
    rintro e1 W2 ⟨rfl, hW2⟩
    have hW2' := hW2.symm
    clear hW2
    subst hW2'
    rw [show (⟨x.toArray⟩ : ByteArray).data.toList = x from rfl, show (⟨#[10]⟩ : ByteArray).data.toList = [10] from rfl]
    rcases hsf : Lib.hasSuffix x [10] with _ | _
    · have hpe := Lib.hid (sofS_end hso hok hsf)
      have hbase : Ws3 W W0.heap.size w (.slice none 0 0) (.slice none 0 0) (.int .i64 0) (.int .i64 0) W1 := ⟨q0, q1, q2, hkS, hbS⟩
      have g0 := q0.cell 0
      have g01 := q0.cell 1
      have g3 := q3.cell 0
      have g31 := q3.cell 1
      simp only [List.getElem?_toArray, List.getElem?_cons_zero, List.getElem?_cons_succ] at g0 g01 g3 g31
      have f0 := q0.frozen 0
      have f01 := q0.frozen 1
      have g1 := q1.cell
      have g2 := q2.cell
      have f1 := q1.frozen
      have f2 := q2.frozen
      have g6 := q6.cell
      clear hsf hso hok hrS q0 q1 q2 q3 q5 q6 hbS hkS hzS hbB
      gi_wp2_with fail
      gi_region
      all_goals
        gi_wp2_with fail
        refine (fun h => ⟨h.2.2.2.1, ⟨(pre.length : Int) + 1, 2, ⟨h.1, h.2.1, h.2.2.1⟩, by rw [hpe.out]⟩, h.2.2.2.2, rfl⟩ : Ws3 W W0.heap.size w (.slice none 0 0) (.slice none 0 0) (.int .i64 ((pre.length : Int) + 1)) (.int .i64 2) _ → _) ?_
        repeat (first | (with_reducible exact hbase) | (with_reducible apply Ws3.dr) | (with_reducible apply Ws3.s00) | (with_reducible apply Ws3.s01) | (with_reducible apply Ws3.s1) | (with_reducible apply Ws3.s2))
    · have htl : (Lib.trimSuffix x [10]).length ≤ 3000 := by
        unfold Lib.trimSuffix
        rw [if_pos hsf, List.length_take]
        omega
      have g5 := q5.cell
      gi_wp2_with fail
      refine ⟨trivial, ?_⟩
      refine (CallsIn.inRound lb (callsIn_wide.2 (sread_any N (w.heap.size + 1 + 1 + 1 + 1) r ⟨(Lib.trimSuffix x [10]).toArray⟩ W1 (by simp [ByteArray.size]; omega) hrS (by
        obtain ⟨_, h1, h2, h3⟩ := hso
        exact ⟨by omega, by omega, fun t ht => by have := h3 t ht; omega⟩) (hT.below hbS) (hM.below hbS)))).mono ?_
      rintro e2 W3 ⟨rfl, hgot, hF⟩
      rw [show (⟨(Lib.trimSuffix x [10]).toArray⟩ : ByteArray).data.toList = Lib.trimSuffix x [10] from rfl] at hgot ⊢
      have p0 : RowB W3 _ _ _ := (hF.low _ (by omega) (by omega)).trans q0
      have p1 : Boxed W3 _ _ _ := (hF.low _ (by omega) (by omega)).trans q1
      have p2 : Boxed W3 _ _ _ := (hF.low _ (by omega) (by omega)).trans q2
      have p3 : RowB W3 _ _ _ := (hF.low _ (by omega) (by omega)).trans q3
      have p5 : Boxed W3 _ _ _ := (hF.low _ (by omega) (by omega)).trans q5
      have p6 : Boxed W3 _ _ _ := (hF.low _ (by omega) (by omega)).trans q6
      have hbT := hbS.trans (hF.bel.mono (by omega))
      have hkT : KeepsFrom W0.heap.size W W3 := hkS.trans (hF.rest.from _)
      have hbC := (hF.low (w.heap.size + 1 + 1 + 1 + 1 + 1 + 1 + 1) (by omega) (by omega)).trans hbB
      have hzT := hF.rest.size
      clear g5 q0 q1 q2 q3 q5 q6 hrS hbS hkS hbB hF
      rcases hst : step r (Lib.trimSuffix x [10]) with _ | r'
      · have hpe := Lib.hid (sofS_form hso hok hsf hst)
        have hbase : Ws3 W W0.heap.size w (.slice none 0 0) (.slice none 0 0) (.int .i64 0) (.int .i64 0) W3 := ⟨p0, p1, p2, hkT, hbT⟩
        have g0 := p0.cell 0
        have g01 := p0.cell 1
        have g3 := p3.cell 0
        have g31 := p3.cell 1
        simp only [List.getElem?_toArray, List.getElem?_cons_zero, List.getElem?_cons_succ] at g0 g01 g3 g31
        have f0 := p0.frozen 0
        have f01 := p0.frozen 1
        have g1 := p1.cell
        have g2 := p2.cell
        have f1 := p1.frozen
        have f2 := p2.frozen
        have g6 := p6.cell
        clear hsf hso hok hst hgot p0 p1 p2 p3 p5 p6 hbT hkT hbC
        gi_wp2_with fail
        gi_region
        all_goals
          gi_wp2_with fail
          refine (fun h => ⟨h.2.2.2.1, ⟨(pre.length : Int) + 1, 4, ⟨h.1, h.2.1, h.2.2.1⟩, by rw [hpe.out]⟩, h.2.2.2.2, rfl⟩ : Ws3 W W0.heap.size w (.slice none 0 0) (.slice none 0 0) (.int .i64 ((pre.length : Int) + 1)) (.int .i64 4) _ → _) ?_
          repeat (first | (with_reducible exact hbase) | (with_reducible apply Ws3.dr) | (with_reducible apply Ws3.s00) | (with_reducible apply Ws3.s01) | (with_reducible apply Ws3.s1) | (with_reducible apply Ws3.s2))
      · have hso' := Lib.hid (sofS_snoc hso hsf hst)
        have hrd := Lib.hid (hgot r' hst)
        clear hsf hso hok hst hgot
        gi_wp2_with fail
        refine ⟨hkT, hbC, ⟨p0, p1, p2⟩, ⟨p3, p5, ?_⟩, ⟨r', hrd.out, hso'.out⟩, hbT, by omega⟩
        rw [List.length_append, List.length_singleton]
        exact p6
  case done =>
    rintro D ys W hD rfl ⟨⟨r0, r1, r2⟩, ⟨r3, r5, r6⟩, ⟨r, hr, hso⟩, hbw, hNW⟩ hK
    have hpe := sofS_done hso
    have g5 := r5.cell
    obtain ⟨hrb, hlo, hr⟩ := hr
    rcases hr with ⟨hop, vt, vo, qs, ps, hC⟩ | ⟨hop, hos, N', vt, vo, qs, q, ts, t, hts, hO⟩
    · rw [hop, if_neg (by decide)] at hpe
      have hpe' := Lib.hid hpe
      obtain ⟨At, ct, rfl, hTk⟩ := hC.tks
      obtain ⟨Ao, co, rfl, hOj⟩ := hC.ojs
      have c0 := hC.hr.cell 0
      have c1 := hC.hr.cell 1
      have c2 := hC.hr.cell 2
      simp only [List.getElem?_toArray, List.getElem?_cons_zero, List.getElem?_cons_succ] at c0 c1 c2
      have g0 := r0.cell 0
      have g01 := r0.cell 1
      simp only [List.getElem?_toArray, List.getElem?_cons_zero, List.getElem?_cons_succ] at g0 g01
      have f0 := r0.frozen 0
      have f01 := r0.frozen 1
      have g1 := r1.cell
      have g2 := r2.cell
      have f1 := r1.frozen
      have f2 := r2.frozen
      clear hso hop hpe
      gi_wp2_with fail
      have hD2 : W0.heap.size ≤ D := hD
      have hC4 := (((hC.set (b := w.heap.size) (by omega) (by omega) 0 (.slice At r.sy.ts.length ct)).set (b := w.heap.size) (by omega) (by omega) 1 (.slice Ao r.sy.os.length co)).set (b := w.heap.size + 1) (by omega) (by omega) 0 (.int .i64 0)).set (b := w.heap.size + 1 + 1) (by omega) (by omega) 0 (.int .i64 0)
      have k0 := ((((r0.set 0 (.slice At r.sy.ts.length ct)).set 1 (.slice Ao r.sy.os.length co)).other (w.heap.size + 1) 0 (.int .i64 0) (by omega))).other (w.heap.size + 1 + 1) 0 (.int .i64 0) (by omega)
      have k1 := (((RowB.other (arr := #[.int .i64 0]) (RowB.other (arr := #[.int .i64 0]) r1 (w.heap.size) 0 (.slice At r.sy.ts.length ct) (by omega)) (w.heap.size) 1 (.slice Ao r.sy.os.length co) (by omega))).set 0 (.int .i64 0)).other (w.heap.size + 1 + 1) 0 (.int .i64 0) (by omega)
      have k2 := ((((RowB.other (arr := #[.int .i64 0]) (RowB.other (arr := #[.int .i64 0]) r2 (w.heap.size) 0 (.slice At r.sy.ts.length ct) (by omega)) (w.heap.size) 1 (.slice Ao r.sy.os.length co) (by omega))).other (w.heap.size + 1) 0 (.int .i64 0) (by omega))).set 0 (.int .i64 0)
      have hb4 := (((hbw.setCell (p := ⟨w.heap.size, 0, none⟩) (Nat.le_refl _) (.slice At r.sy.ts.length ct)).setCell (p := ⟨w.heap.size, 1, none⟩) (Nat.le_refl _) (.slice Ao r.sy.os.length co)).setCell (p := ⟨w.heap.size + 1, 0, none⟩) (by simp) (.int .i64 0)).setCell (p := ⟨w.heap.size + 1 + 1, 0, none⟩) (by simp; omega) (.int .i64 0)
      have hK' : ((((W.setCell ⟨w.heap.size, 0, none⟩ (.slice At r.sy.ts.length ct)).setCell ⟨w.heap.size, 1, none⟩ (.slice Ao r.sy.os.length co)).setCell ⟨w.heap.size + 1, 0, none⟩ (.int .i64 0)).setCell ⟨w.heap.size + 1 + 1, 0, none⟩ (.int .i64 0)).heap[D]? = some (.deferred (some [])) := by
        rw [heap_set _ _ _ _ _ (by omega), heap_set _ _ _ _ _ (by omega), heap_set _ _ _ _ _ (by omega), heap_set _ _ _ _ _ (by omega)]
        exact hK
      obtain ⟨X, hX⟩ : ∃ x, (((W.setCell ⟨w.heap.size, 0, none⟩ (.slice At r.sy.ts.length ct)).setCell ⟨w.heap.size, 1, none⟩ (.slice Ao r.sy.os.length co)).setCell ⟨w.heap.size + 1, 0, none⟩ (.int .i64 0)).setCell ⟨w.heap.size + 1 + 1, 0, none⟩ (.int .i64 0) = x := ⟨_, rfl⟩
      rw [hX] at hC4 k0 k1 k2 hb4 hK' ⊢
      have hbp := below_putO (H := w.heap.size) (.deferred none) (by omega) hK'
      have hC5 := hC4.putO (.deferred none) hK' rfl
      obtain ⟨A1, c1', he1, hT1⟩ := hC5.tks
      obtain ⟨A2, c2', he2, hT2⟩ := hC5.ojs
      injection he1 with he1 _ _
      injection he2 with he2 _ _
      subst he1 he2
      refine ⟨by simp, .inl ⟨_, _, rfl, run_takeDeferred hK', ?_⟩⟩
      exact ⟨_, res_sparse _ _ rfl rfl rfl (k0.putO (.deferred none) hK' rfl) (box_putO (.deferred none) k1 hK' rfl).cell (box_putO (.deferred none) k2 hK' rfl).cell, At, ct, Ao, co, (by rw [hpe'.out]), (by rw [hpe'.out]; exact hT1), (by rw [hpe'.out]; exact hT2), hb4.trans hbp⟩
    · rw [hop, if_pos rfl] at hpe
      have hpe' := Lib.hid hpe
      have hbase : Ws3 W W0.heap.size w (.slice none 0 0) (.slice none 0 0) (.int .i64 0) (.int .i64 0) W := ⟨r0, r1, r2, KeepsFrom.refl _ _, hbw⟩
      have c2 := hO.hr.cell 2
      simp only [List.getElem?_toArray, List.getElem?_cons_zero, List.getElem?_cons_succ] at c2
      have g0 := r0.cell 0
      have g01 := r0.cell 1
      have g3 := r3.cell 0
      have g31 := r3.cell 1
      simp only [List.getElem?_toArray, List.getElem?_cons_zero, List.getElem?_cons_succ] at g0 g01 g3 g31
      have f0 := r0.frozen 0
      have f01 := r0.frozen 1
      have g1 := r1.cell
      have g2 := r2.cell
      have f1 := r1.frozen
      have f2 := r2.frozen
      have g6 := r6.cell
      clear hso hop hpe hO hts hos r0 r1 r2 r3 r5 r6 hbw
      gi_wp2_with fail
      gi_region
      all_goals
        gi_wp2_with fail
        refine sp_end (W := W) (L := W0.heap.size) (a := ((lns l).length : Int)) (e := 2) rfl rfl rfl hD hK (by omega) hpe'.out ?_
        repeat (first | (with_reducible exact hbase) | (with_reducible apply Ws3.dr) | (with_reducible apply Ws3.s00) | (with_reducible apply Ws3.s01) | (with_reducible apply Ws3.s1) | (with_reducible apply Ws3.s2))
  case stop =>
    rintro D c pre W hD _ ⟨⟨at_, er, ⟨r0, r1, r2⟩, hp⟩, hbw, rfl⟩ hK
    have g0 := r0.cell 0
    have g01 := r0.cell 1
    simp only [List.getElem?_toArray, List.getElem?_cons_zero, List.getElem?_cons_succ] at g0 g01
    have g1 := r1.cell
    have g2 := r2.cell
    have hp' := Lib.hid hp
    clear hp
    have hbp := below_putO (H := w.heap.size) (.deferred none) (by omega) hK
    gi_wp2_with fail
    refine ⟨by simp, .inl ⟨_, _, rfl, run_takeDeferred hK, ?_⟩⟩
    exact ⟨_, res_sparse _ _ rfl rfl rfl (r0.putO (.deferred none) hK rfl) (box_putO (.deferred none) r1 hK rfl).cell (box_putO (.deferred none) r2 hK rfl).cell, none, 0, none, 0, (by rw [hp'.out]; rfl), (by rw [hp'.out]; intro k t h; cases h), (by rw [hp'.out]; intro k t h; cases h), hbw.trans hbp⟩

end Go.Proofs.YtfgmebjbibbpdaaGreatDoor

namespace Go.Proofs.YtfgmebjbibbpdaaGreatDoor
open Go.RowKit
attribute [local go_sem] Oper.semAt_some

def exS : Sy := ⟨[⟨1, 3, 20, 0, 20, 8, [⟨21, 0, 0, 0, 0⟩]⟩], []⟩
def exL : List UInt8 := [116, 97, 115, 107, 32, 112, 101, 114, 105, 111, 100, 105, 99, 32, 51, 32, 50, 48, 32, 48, 32, 50, 48, 32, 56, 10, 100, 111, 110, 101, 10, 101, 110, 100, 10]
theorem ex_d3 : dd 3 = [51] := by unfold dd; rw [show Int.toNat 3 = 3 from rfl, dd_small (by omega)]; rfl
theorem ex_d0 : dd 0 = [48] := by unfold dd; rw [show Int.toNat 0 = 0 from rfl, dd_small (by omega)]; rfl
theorem ex_d8 : dd 8 = [56] := by unfold dd; rw [show Int.toNat 8 = 8 from rfl, dd_small (by omega)]; rfl
theorem ex_d20 : dd 20 = [50, 48] := by unfold dd; rw [show Int.toNat 20 = 20 from rfl, dd_big (by omega), show 20 / 10 = 2 from rfl, dd_small (by omega)]; rfl
theorem ex_head : headL ⟨1, 3, 20, 0, 20, 8, [⟨21, 0, 0, 0, 0⟩]⟩ = [116, 97, 115, 107, 32, 112, 101, 114, 105, 111, 100, 105, 99, 32, 51, 32, 50, 48, 32, 48, 32, 50, 48, 32, 56] := by
  unfold headL headP
  rw [Lib.join_cons]
  show taskW ++ Lib.joinTail [32] [perW, dd 3, dd 20, dd 0, dd 20, dd 8] = _
  rw [ex_d3, ex_d20, ex_d0, ex_d8]
  rfl
theorem ex_code : textOf [⟨21, 0, 0, 0, 0⟩] = [100, 111, 110, 101, 10] := by rfl
theorem ex_text : sysT exS = exL := by
  show (headL ⟨1, 3, 20, 0, 20, 8, [⟨21, 0, 0, 0, 0⟩]⟩ ++ [10] ++ (textOf [⟨21, 0, 0, 0, 0⟩] ++ (endW3 ++ [10])) ++ []) ++ [] = _
  rw [ex_head, ex_code]
  rfl
theorem ex_ok : printOk exS = true := by
  unfold printOk
  rw [ex_text]
  decide
theorem ex_sok : exS.ok := ⟨fun t ht => by
  rw [List.mem_singleton.1 ht]
  intro e he
  rw [List.mem_singleton.1 he]
  unfold Ins.ok
  decide, fun o ho => by cases ho⟩
theorem ex_parse : parseS exL = ⟨exS, 0, 0⟩ := by rw [← ex_text]; exact sys_back ex_ok ex_sok
theorem ex_print : printT exS = ⟨exL.toArray⟩ := by rw [printT_ok ex_ok, ex_text]
theorem ex_lns : ∀ x ∈ lns exL, x.length ≤ 3000 := by decide
set_option maxRecDepth 100000 in
set_option maxHeartbeats 2000000 in
theorem awake_any (w : World) (hT : Tab w) (hM : Mx w) : Calls Tryz.prog 7 #[] w fun e w' => e = .returned (.bool true) ∧ Below w.heap.size w w' := by
  have h1 := sparse_any ⟨exL.toArray⟩ w (by decide) ex_lns hT hM
  unfold ParR at h1
  rw [show (⟨exL.toArray⟩ : ByteArray).data.toList = exL from rfl, ex_parse] at h1
  have h2 := fun (W : World) (At Ao : Option Addr) (ct co : Nat) (hW : Tab W) (ht : TkSl W W.heap.size At exS.ts) (ho : OjSl W W.heap.size Ao exS.os) => sprint_any exS At Ao ct co W ht ho (by decide) (fun o h => by cases h) (by decide) (by decide) hW
  rw [ex_print, ex_ok] at h2
  have e1 : exS.ts.length = 1 := rfl
  have e2 : exS.os.length = 0 := rfl
  rw [e1, e2] at h1 h2
  unfold exL at h1 h2
  have H1 := Lib.hid h1
  have H2 := Lib.hid h2
  clear h1 h2 e1 e2
  go_enter Tryz.func7, Tryz.ntmps7
  go_wp2_with fail
  refine H1.out.mono ?_
  rintro e w1 ⟨At, ct, Ao, co, rfl, ht, ho, hb1⟩
  have hr1 := RowB.new w1 #[.slice At 1 ct, .slice Ao 0 co] 25
  have hb2 := (Below.refl w1.heap.size w1).alloc (Nat.le_refl _) (.cells #[.slice At 1 ct, .slice Ao 0 co] 25)
  go_wp2_with fail
  obtain ⟨w2, hw2⟩ : ∃ x, w1.alloc (.cells #[.slice At 1 ct, .slice Ao 0 co] 25) = x := ⟨_, rfl⟩
  rw [hw2] at hr1 hb2 ⊢
  clear hw2
  have ht2 := ht.below hb2 hb2.size
  have ho2 := ho.below hb2 hb2.size
  have hb3 := hb1.trans (hb2.mono hb1.size)
  refine (H2.out w2 At Ao ct co (hT.below hb3) ht2 ho2).mono ?_
  rintro e w3 ⟨rfl, hb4⟩
  have ht3 := ht2.below hb4 hb4.size
  obtain ⟨b, off, A', c', rfl, hlt, ⟨c0, c1, c2, c3, c4, c5, c6⟩, _⟩ := ht3 0 _ rfl
  have hr3 := hr1.kept hb4
  have g0 := hr3.cell 0
  have g1 := hr3.cell 1
  simp only [List.getElem?_toArray, List.getElem?_cons_zero, List.getElem?_cons_succ] at g0 g1
  simp only [Nat.zero_mul, Nat.add_zero] at c5 c6
  have c5' : w3.cell? ⟨b, off + 5, none⟩ = some (.int .i64 8) := c5
  have c6' : w3.cell? ⟨b, off + 6, none⟩ = some (.slice A' 1 c') := c6
  have HB := Lib.hid (hb3.trans (hb4.mono hb3.size))
  clear c0 c1 c2 c3 c4 c5 c6 ht ho ht2 ho2 ht3 hb1 hb2 hb3 hb4 H1 H2
  go_wp2_with fail
  go_ret
  exact ⟨rfl, HB.out⟩

end Go.Proofs.YtfgmebjbibbpdaaGreatDoor
