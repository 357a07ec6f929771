/- Sources: the chapter's example. -/
import Derived.Test.YtfgmebjbibbpdaaGreatDoorZs8
import Derived.Test.YtfgmebjbibbpdaaGreatDoorZs6
namespace Go.Proofs.YtfgmebjbibbpdaaGreatDoor
open Go.RowKit Go.Shelf
attribute [local go_sem] Oper.semAt_some

/-- So far nothing was wrong, and this is what was read. -/
def SofS (pre : List (List UInt8)) (r : Rd) : Prop := (∀ q, parseSL (pre ++ q) 0 rd0 = parseSL q pre.length r) ∧ r.sy.ts.length ≤ pre.length ∧ r.sy.os.length ≤ pre.length ∧ ∀ t ∈ r.sy.ts, t.code.length ≤ pre.length
theorem sofS_nil : SofS [] rd0 := ⟨fun r => rfl, Nat.le_refl _, Nat.le_refl _, fun t h => by cases h⟩
theorem addCode_len (l : List Tk) (e : Ins) : (addCode l e).length = l.length := by
  induction l with
  | nil => rfl
  | cons a l ih =>
    cases l with
    | nil => rfl
    | cons b l => show (a :: addCode (b :: l) e).length = _; rw [List.length_cons, ih]; rfl
theorem addCode_mem {l : List Tk} {e : Ins} {t : Tk} (h : t ∈ addCode l e) : ∃ u ∈ l, t.code.length ≤ u.code.length + 1 := by
  induction l with
  | nil => cases h
  | cons a l ih =>
    cases l with
    | nil =>
      have : t = a.snoc e := by simpa [addCode] using h
      subst this
      exact ⟨a, by simp, by simp [Tk.snoc]⟩
    | cons b l =>
      have h' : t ∈ a :: addCode (b :: l) e := h
      rcases List.mem_cons.1 h' with rfl | h'
      · exact ⟨t, by simp, by omega⟩
      · obtain ⟨u, hu, hl⟩ := ih h'
        exact ⟨u, List.mem_cons_of_mem _ hu, hl⟩
theorem step_bd {r r' : Rd} {s : List UInt8} {n : Nat} (h : step r s = some r') (hb : r.sy.ts.length ≤ n ∧ r.sy.os.length ≤ n ∧ ∀ t ∈ r.sy.ts, t.code.length ≤ n) : r'.sy.ts.length ≤ n + 1 ∧ r'.sy.os.length ≤ n + 1 ∧ ∀ t ∈ r'.sy.ts, t.code.length ≤ n + 1 := by
  obtain ⟨h1, h2, h3⟩ := hb
  unfold step at h
  split at h
  · split at h
    · have h := (Option.some.inj h).symm
      subst h
      exact ⟨by show r.sy.ts.length ≤ _; omega, by show r.sy.os.length ≤ _; omega, fun t ht => by have := h3 t ht; omega⟩
    · split at h
      · have h := (Option.some.inj h).symm
        subst h
        refine ⟨by show (addCode _ _).length ≤ _; rw [addCode_len]; omega, by show r.sy.os.length ≤ _; omega, fun t ht => ?_⟩
        obtain ⟨u, hu, hl⟩ := addCode_mem ht
        have := h3 u hu
        omega
      · cases h
  · split at h
    · split at h
      · rename_i t ht _
        have h := (Option.some.inj h).symm
        subst h
        refine ⟨by show (r.sy.ts ++ [t]).length ≤ _; rw [List.length_append, List.length_singleton]; omega, Nat.zero_le _, fun u hu => ?_⟩
        rcases List.mem_append.1 hu with hu | hu
        · have := h3 u hu; omega
        · rw [List.mem_singleton.1 hu, (readTG_some ht).2.2]; exact Nat.zero_le _
      · cases h
    · split at h
      · have h := (Option.some.inj h).symm
        subst h
        exact ⟨by show r.sy.ts.length ≤ _; omega, by show (r.sy.os ++ [_]).length ≤ _; rw [List.length_append, List.length_singleton]; omega, fun t ht => by have := h3 t ht; omega⟩
      · cases h
theorem sofS_snoc {pre : List (List UInt8)} {r r' : Rd} {x : List UInt8} (h : SofS pre r) (hs : Lib.hasSuffix x [10] = true) (hr : step r (Lib.trimSuffix x [10]) = some r') : SofS (pre ++ [x]) r' := by
  have hb := step_bd hr h.2
  refine ⟨fun q => ?_, ?_⟩
  · rw [List.append_assoc, h.1]
    show parseSL (x :: q) pre.length r = _
    rw [parseSL, if_pos hs, hr, List.length_append]
    rfl
  · rw [List.length_append, List.length_singleton]
    exact hb
theorem sofS_end {pre : List (List UInt8)} {r : Rd} {x l : List UInt8} (h : SofS pre r) (hok : pre ++ [x] <+: lns l) (hs : Lib.hasSuffix x [10] = false) : parseS l = ⟨Sy.none, pre.length + 1, 2⟩ := by
  obtain ⟨q, hq⟩ := hok
  unfold parseS
  rw [← hq, List.append_assoc, h.1]
  show parseSL (x :: q) pre.length r = _
  rw [parseSL, hs, if_neg (by decide)]
theorem sofS_form {pre : List (List UInt8)} {r : Rd} {x l : List UInt8} (h : SofS pre r) (hok : pre ++ [x] <+: lns l) (hs : Lib.hasSuffix x [10] = true) (hr : step r (Lib.trimSuffix x [10]) = none) : parseS l = ⟨Sy.none, pre.length + 1, 4⟩ := by
  obtain ⟨q, hq⟩ := hok
  unfold parseS
  rw [← hq, List.append_assoc, h.1]
  show parseSL (x :: q) pre.length r = _
  rw [parseSL, if_pos hs, hr]
theorem sofS_done {r : Rd} {l : List UInt8} (h : SofS (lns l) r) : parseS l = if r.op = true then ⟨Sy.none, (lns l).length, 2⟩ else ⟨r.sy, 0, 0⟩ := by
  have := h.1 []
  rw [List.append_nil] at this
  unfold parseS
  rw [this]
  rfl

theorem res_sparse (tmps : Array Value) (w : World) {a b c : Nat} {v1 v2 : Value} {x y : Int} (ha : tmps[2]?.getD undef = .pointer (some ⟨a, 0, none⟩)) (hb : tmps[3]?.getD undef = .pointer (some ⟨b, 0, none⟩)) (hc : tmps[4]?.getD undef = .pointer (some ⟨c, 0, none⟩)) (hv : RowB w a #[v1, v2] 25) (hx : w.cell? ⟨b, 0, none⟩ = some (.int .i64 x)) (hy : w.cell? ⟨c, 0, none⟩ = some (.int .i64 y)) :
    (results Tryz.f10 tmps).run Tryz.prog w = .ok (.tuple #[.agg #[v1, v2], .int .i64 x, .int .i64 y]) w := by
  have h0 := hv.cell 0
  have h1 := hv.cell 1
  simp only [List.getElem?_toArray, List.getElem?_cons_zero, List.getElem?_cons_succ] at h0 h1
  simp [results, ha, hb, hc, h0, h1, hx, hy, go_sem]

/-- The three results in their boxes, and what else is kept. -/
def Ws3 (W : World) (L : Nat) (w : World) (v0 v0' v1 v2 : Value) (X : World) : Prop :=
  RowB X (w.heap.size) #[v0, v0'] 25 ∧ Boxed X (w.heap.size + 1) 3 v1 ∧ Boxed X (w.heap.size + 1 + 1) 31 v2 ∧ KeepsFrom L W X ∧ Below w.heap.size w X
section
variable {W X w : World} {L : Nat} {v0 v0' v1 v2 u : Value}
theorem Ws3.s00 (h : Ws3 W L w v0 v0' v1 v2 X) : Ws3 W L w u v0' v1 v2 (X.setCell ⟨w.heap.size, 0, none⟩ u) :=
  ⟨h.1.set 0 u, h.2.1.other (by omega) u, h.2.2.1.other (by omega) u, h.2.2.2.1.trans ((KeepsOthers.setCell _ _ _).from _), h.2.2.2.2.setCell (p := ⟨w.heap.size, 0, none⟩) (Nat.le_refl _) _⟩
theorem Ws3.s01 (h : Ws3 W L w v0 v0' v1 v2 X) : Ws3 W L w v0 u v1 v2 (X.setCell ⟨w.heap.size, 1, none⟩ u) :=
  ⟨h.1.set 1 u, RowB.other (arr := #[v1]) h.2.1 _ 1 u (by omega), RowB.other (arr := #[v2]) h.2.2.1 _ 1 u (by omega), h.2.2.2.1.trans ((KeepsOthers.setCell _ _ _).from _), h.2.2.2.2.setCell (p := ⟨w.heap.size, 1, none⟩) (Nat.le_refl _) _⟩
theorem Ws3.s1 (h : Ws3 W L w v0 v0' v1 v2 X) : Ws3 W L w v0 v0' u v2 (X.setCell ⟨w.heap.size + 1, 0, none⟩ u) :=
  ⟨h.1.other _ 0 u (by omega), h.2.1.set u, h.2.2.1.other (by omega) u, h.2.2.2.1.trans ((KeepsOthers.setCell _ _ _).from _), h.2.2.2.2.setCell (p := ⟨w.heap.size + 1, 0, none⟩) (by simp) _⟩
theorem Ws3.s2 (h : Ws3 W L w v0 v0' v1 v2 X) : Ws3 W L w v0 v0' v1 u (X.setCell ⟨w.heap.size + 1 + 1, 0, none⟩ u) :=
  ⟨h.1.other _ 0 u (by omega), h.2.1.other (by omega) u, h.2.2.1.set u, h.2.2.2.1.trans ((KeepsOthers.setCell _ _ _).from _), h.2.2.2.2.setCell (p := ⟨w.heap.size + 1 + 1, 0, none⟩) (by simp; omega) _⟩
theorem Ws3.dr (h : Ws3 W L w v0 v0' v1 v2 X) : Ws3 W L w v0 v0' v1 v2 X.drew :=
  ⟨h.1, h.2.1, h.2.2.1, ⟨h.2.2.2.1.1, h.2.2.2.1.2⟩, h.2.2.2.2.drew⟩
end

theorem al_row {w w1 : World} {arr : Array Value} {t : TypeId} (h : w.alloc (.cells arr t) = w1) : RowB w1 w.heap.size arr t ∧ w1.heap.size = w.heap.size + 1 ∧ Below w.heap.size w w1 := by
  subst h
  exact ⟨RowB.new _ _ _, World.size_alloc _ _, (Below.refl _ _).alloc (Nat.le_refl _) _⟩
abbrev nilS : Value := .slice none 0 0
theorem RdC.set {w : World} {lo rb : Nat} {vt vo : Value} {qs : List Tq} {ps : List Oq} {sy : Sy} (h : RdC w lo rb vt vo qs ps sy) {b : Nat} (hb : b < lo) (hne : b ≠ rb) (j : Nat) (v : Value) : RdC (w.setCell ⟨b, j, none⟩ v) lo rb vt vo qs ps sy :=
  h.keep (heap_set w b j v rb (fun e => hne e.symm)) (fun ty b' cur hl hh => (heap_set w b j v b' (by omega)).trans hh) (by rw [size_set]; exact Nat.le_refl _)
theorem RdC.putO {W : World} {lo rb l : Nat} {vt vo : Value} {qs : List Tq} {ps : List Oq} {sy : Sy} {o : Obj} (o' : Obj) (h : RdC W lo rb vt vo qs ps sy) (hl : W.heap[l]? = some o) (ho : o.isCells = false) : RdC (W.putObj l o') lo rb vt vo qs ps sy :=
  h.keep ((putO_ne o' hl ho h.hr).trans h.hr.symm) (fun _ _ _ _ hh => putO_ne o' hl ho hh) (below_putO (H := 0) o' (Nat.zero_le _) hl).size
def ParR (l : List UInt8) (w : World) (e : Ending) (w' : World) : Prop := ∃ At ct Ao co, e = .returned (.tuple #[.agg #[.slice At (parseS l).sy.ts.length ct, .slice Ao (parseS l).sy.os.length co], .int .i64 (parseS l).at_, .int .i64 (parseS l).err]) ∧ TkSl w' w'.heap.size At (parseS l).sy.ts ∧ OjSl w' w'.heap.size Ao (parseS l).sy.os ∧ Below w.heap.size w w'
theorem sp_end {w W X : World} {L D : Nat} {l : List UInt8} {tmps : Array Value} {a e : Int} (ha : tmps[2]?.getD undef = .pointer (some ⟨w.heap.size, 0, none⟩)) (hb : tmps[3]?.getD undef = .pointer (some ⟨w.heap.size + 1, 0, none⟩)) (hc : tmps[4]?.getD undef = .pointer (some ⟨w.heap.size + 1 + 1, 0, none⟩))
    (hD : L ≤ D) (hK : W.heap[D]? = some (.deferred (some []))) (hw : w.heap.size ≤ D) (hp : parseS l = ⟨Sy.none, a, e⟩) (h : Ws3 W L w (.slice none 0 0) (.slice none 0 0) (.int .i64 a) (.int .i64 e) X) :
    bodyPostM Fence.wide 6 Tryz.prog Tryz.f10 (ParR l w) Exit.ret { tmps := tmps, defers := [{ target := Target.collected D, args := #[] }] } X := by
  have hK' := h.2.2.2.1.same D _ hD hK rfl
  have hbp := below_putO (H := w.heap.size) (.deferred none) hw hK'
  refine ⟨by simp, .inl ⟨_, _, rfl, run_takeDeferred hK', ?_⟩⟩
  exact ⟨_, res_sparse _ _ ha hb hc (h.1.putO (.deferred none) hK' rfl) (box_putO (.deferred none) h.2.1 hK' rfl).cell (box_putO (.deferred none) h.2.2.1 hK' rfl).cell, none, 0, none, 0, (by rw [hp]; rfl), (by rw [hp]; intro k t h; cases h), (by rw [hp]; intro k t h; cases h), h.2.2.2.2.trans hbp⟩
set_option maxRecDepth 100000 in
set_option maxHeartbeats 1000000 in
theorem sparse_any (s : ByteArray) (w : World) (hs : s.size ≤ 65536) (hlines : ∀ x ∈ lns s.data.toList, x.length ≤ 3000) (hT : Tab w) (hM : Mx w) :
    Calls Tryz.prog 10 #[.string s] w (ParR s.data.toList w) := by
  have tmx : decide ((65536 : Int) < (s.size : Int)) = false := by rw [decide_eq_false_iff_not]; omega
  have tmy : decide (65536 < s.size) = false := by rw [decide_eq_false_iff_not]; omega
  have tmz : ¬ (65536 < s.size) := by omega
  obtain ⟨l, hl⟩ : ∃ l, s.data.toList = l := ⟨_, rfl⟩
  have hlen : l.length = s.size := by rw [← hl]; exact Array.length_toList
  have hll := lns_len l
  have hls := fun W b1 => lines_st (6 - 1) (by omega) (w.heap.size + 1 + 1 + 1 + 1 + 1 + 1 + 1) s (by omega) W b1
  rw [hl] at hlines hls ⊢
  have hl' := Lib.hid hl
  clear hl
  refine (callsIn_wide (n := 6)).1 ?_
  refine callsIn_of_wp_marks Tryz.func10 rfl trivial ?_ rfl
  simp only [Tryz.ntmps10, List.size_toArray, List.length_cons, List.length_nil, Nat.reduceAdd, Nat.reduceSub, Array.replicate_succ, Array.replicate_zero, List.push_toArray, List.append_toArray, List.nil_append, List.cons_append]
  gi_wp2_with fail
  refine ⟨trivial, ?_⟩
  refine (callsIn_wide.2 (linesSeq_any s _)).mono ?_
  rintro e W0 ⟨B, hB, rfl, hW0⟩
  gi_wp2_with fail
  clear hB
  obtain ⟨h0, hh0⟩ : ∃ x, w.heap.size = x := ⟨_, rfl⟩
  obtain ⟨w1, hw1⟩ : ∃ x, w.alloc (.cells #[.slice none 0 0, .slice none 0 0] 25) = x := ⟨_, rfl⟩
  rw [hw1] at hW0
  have x1 := al_row hw1
  obtain ⟨w2, hw2⟩ : ∃ x, w1.alloc (.cells #[.int .i64 0] 3) = x := ⟨_, rfl⟩
  rw [hw2] at hW0
  have x2 := al_row hw2
  obtain ⟨w3, hw3⟩ : ∃ x, w2.alloc (.cells #[.int .i64 0] 31) = x := ⟨_, rfl⟩
  rw [hw3] at hW0
  have x3 := al_row hw3
  obtain ⟨w4, hw4⟩ : ∃ x, w3.alloc (.cells #[.slice none 0 0, .slice none 0 0] 25) = x := ⟨_, rfl⟩
  rw [hw4] at hW0
  have x4 := al_row hw4
  obtain ⟨w5, hw5⟩ : ∃ x, w4.alloc (.cells #[.slice none 0 0, .slice none 0 0, .bool false] 65) = x := ⟨_, rfl⟩
  rw [hw5] at hW0
  have x5 := al_row hw5
  obtain ⟨w6, hw6⟩ : ∃ x, w5.alloc (.cells #[.pointer (some ⟨w.heap.size + 1 + 1 + 1 + 1, 0, none⟩)] 63) = x := ⟨_, rfl⟩
  rw [hw6] at hW0
  have x6 := al_row hw6
  obtain ⟨w7, hw7⟩ : ∃ x, w6.alloc (.cells #[.int .i64 0] 3) = x := ⟨_, rfl⟩
  rw [hw7] at hW0
  have x7 := al_row hw7
  have hw8 := hW0
  have x8 := al_row hw8
  have b8 := x8.2.2
  have b7 := x7.2.2.trans (b8.mono (by omega))
  have b6 := x6.2.2.trans (b7.mono (by omega))
  have b5 := x5.2.2.trans (b6.mono (by omega))
  have b4 := x4.2.2.trans (b5.mono (by omega))
  have b3 := x3.2.2.trans (b4.mono (by omega))
  have b2 := x2.2.2.trans (b3.mono (by omega))
  have hb0 := x1.2.2.trans (b2.mono (by omega))
  have y1 := x1.1.kept b2
  have y2 := x2.1.kept b3
  have y3 := x3.1.kept b4
  have y4 := x4.1.kept b5
  have y5 := x5.1.kept b6
  have y6 := x6.1.kept b7
  have y7 := x7.1.kept b8
  have y8 := x8.1
  have e1 : w1.heap.size = w.heap.size + 1 := x1.2.1
  have e2 : w2.heap.size = w.heap.size + 1 + 1 := by rw [x2.2.1, e1]
  have e3 : w3.heap.size = w.heap.size + 1 + 1 + 1 := by rw [x3.2.1, e2]
  have e4 : w4.heap.size = w.heap.size + 1 + 1 + 1 + 1 := by rw [x4.2.1, e3]
  have e5 : w5.heap.size = w.heap.size + 1 + 1 + 1 + 1 + 1 := by rw [x5.2.1, e4]
  have e6 : w6.heap.size = w.heap.size + 1 + 1 + 1 + 1 + 1 + 1 := by rw [x6.2.1, e5]
  have e7 : w7.heap.size = w.heap.size + 1 + 1 + 1 + 1 + 1 + 1 + 1 := by rw [x7.2.1, e6]
  have hsz : W0.heap.size = w.heap.size + 1 + 1 + 1 + 1 + 1 + 1 + 1 + 1 := by rw [x8.2.1, e7]
  rw [e1] at y2
  rw [e2] at y3
  rw [e3] at y4
  rw [e4] at y5
  rw [e5] at y6
  rw [e6] at y7
  rw [e7] at y8
  clear x1 x2 x3 x4 x5 x6 x7 x8 hw1 hw2 hw3 hw4 hw5 hw6 hw7 hw8 hW0 e1 e2 e3 e4 e5 e6 e7 b2 b3 b4 b5 b6 b7 b8 hh0
  obtain ⟨N, hN⟩ : ∃ N, N = w.heap.size + 1 + 1 + 1 + 1 + 1 + 1 + 1 + 1 := ⟨_, rfl⟩
  have hC0 : RdM W0 N (w.heap.size + 1 + 1 + 1 + 1) rd0 := ⟨by omega, by omega, .inl ⟨rfl, nilS, nilS, [], [], y5, Own.nil _ _, Own.nil _ _, AllP.nil _, AllP.nil _⟩⟩
  refine wpIn_rangeFunc_st rfl (by omega) (gf := 41) (lb := #[.pointer (some ⟨w.heap.size + 1 + 1 + 1 + 1 + 1 + 1 + 1, 0, none⟩)]) rfl trivial (enters_of Tryz.func41 (by kernel_rfl) rfl)
    (hls W0 y8) (by omega) (fun h k => Eq.trans k h) (fun W l o o' hl _ _ => World.putObj_heap_other (by omega)) (Below.refl _ _)
    (fun pre W => (RowB W (w.heap.size) #[.slice none 0 0, .slice none 0 0] 25 ∧ Boxed W (w.heap.size + 1) 3 (.int .i64 0) ∧ Boxed W (w.heap.size + 1 + 1) 31 (.int .i64 0)) ∧
      (RowB W (w.heap.size + 1 + 1 + 1) #[.slice none 0 0, .slice none 0 0] 25 ∧ Boxed W (w.heap.size + 1 + 1 + 1 + 1 + 1) 63 (.pointer (some ⟨w.heap.size + 1 + 1 + 1 + 1, 0, none⟩)) ∧ Boxed W (w.heap.size + 1 + 1 + 1 + 1 + 1 + 1) 3 (.int .i64 pre.length)) ∧
      (∃ r, RdM W N (w.heap.size + 1 + 1 + 1 + 1) r ∧ SofS pre r) ∧ (Below w.heap.size w W ∧ N ≤ W.heap.size))
    (fun c pre W => (∃ at_ er : Int, (RowB W (w.heap.size) #[.slice none 0 0, .slice none 0 0] 25 ∧ Boxed W (w.heap.size + 1) 3 (.int .i64 at_) ∧ Boxed W (w.heap.size + 1 + 1) 31 (.int .i64 er)) ∧ parseS l = ⟨Sy.none, at_, er⟩) ∧ Below w.heap.size w W ∧ c = .ret)
    ?_ ?_ ?_ ?_ ⟨⟨y1, y2, y3⟩, ⟨y4, y6, y7⟩, ⟨rd0, hC0, sofS_nil⟩, hb0, by omega⟩
    (fun x => { tmps := #[.string s, undef, .pointer (some ⟨w.heap.size, 0, none⟩), .pointer (some ⟨w.heap.size + 1, 0, none⟩), .pointer (some ⟨w.heap.size + 1 + 1, 0, none⟩), .pointer (some ⟨w.heap.size + 1 + 1 + 1, 0, none⟩), .pointer (some ⟨w.heap.size + 1 + 1 + 1 + 1 + 1, 0, none⟩), .pointer (some ⟨w.heap.size + 1 + 1 + 1 + 1 + 1 + 1, 0, none⟩), .string ⟨x.toArray⟩, undef, undef, .agg #[.slice none 0 0, .slice none 0 0], .string s, .int .i64 s.size, .bool false, undef, .agg #[.slice none 0 0, .slice none 0 0, .bool false], .pointer (some ⟨w.heap.size + 1 + 1 + 1 + 1, 0, none⟩), .string s, .func (.func 41) #[] #[.pointer (some ⟨w.heap.size + 1 + 1 + 1 + 1 + 1 + 1 + 1, 0, none⟩)], .string ⟨x.toArray⟩, undef, undef, undef, undef, undef, undef, undef, undef, undef, undef, undef, undef, undef, undef, undef, undef, undef, undef, undef, undef, undef, undef, undef, undef, undef, undef, undef], defers := [] })
    ?assign ?body ?done ?stop
  · exact fun pre => ((Calm.row (by omega) _ _).and ((Calm.boxed (by omega) _ _).and (Calm.boxed (by omega) _ _))).and (((Calm.row (by omega) _ _).and ((Calm.boxed (by omega) _ _).and (Calm.boxed (by omega) _ _))).and ((Calm.ex fun r => (Calm.rdM (by omega) (by omega) r).and (Calm.const _ _)).and ((Calm.below (by omega) (Nat.le_refl _)).and (Calm.size _ _))))
  · exact fun c pre => (Calm.ex fun a => Calm.ex fun b => ((Calm.row (by omega) _ _).and ((Calm.boxed (by omega) _ _).and (Calm.boxed (by omega) _ _))).and (Calm.const _ _)).and ((Calm.below (by omega) (Nat.le_refl _)).and (Calm.const _ _))
  · rintro pre W l o o' ⟨⟨r0, r1, r2⟩, ⟨r3, r5, r6⟩, ⟨r, hr, hso⟩, hbw, hNW⟩ hl ho hc
    have hbp := below_putO (H := w.heap.size) o' (by omega) ho
    exact ⟨⟨r0.putO o' ho hc, box_putO o' r1 ho hc, box_putO o' r2 ho hc⟩, ⟨r3.putO o' ho hc, box_putO o' r5 ho hc, box_putO o' r6 ho hc⟩, ⟨r, hr.putO o' ho hc, hso⟩, hbw.trans hbp, Nat.le_trans hNW hbp.size⟩
  · rintro c pre W l o o' ⟨⟨at_, er, ⟨r0, r1, r2⟩, hp⟩, hbw, hr⟩ hl ho hc
    have hbp := below_putO (H := w.heap.size) o' (by omega) ho
    exact ⟨⟨at_, er, ⟨r0.putO o' ho hc, box_putO o' r1 ho hc, box_putO o' r2 ho hc⟩, hp⟩, hbw.trans hbp, hr⟩
  case assign =>
    intro l x W K hK
    gi_wp2
    exact hK
  case body =>
    rintro lb pre x W ⟨⟨r0, r1, r2⟩, ⟨r3, r5, r6⟩, ⟨r, hr, hso⟩, hbw, hNW⟩ hok
    have hx3 := hlines x (hok.subset (by simp))
    have hpl := hok.length_le
    rw [List.length_append, List.length_singleton] at hpl
    have g6 := r6.cell
    have f6 := r6.frozen
    have hwl : IntKind.i64.wrap ((pre.length : Int) + 1) = (pre.length : Int) + 1 := by simp [IntKind.wrap, IntKind.signed, IntKind.bits]; omega
    gi_wp2_with fail
    refine ⟨trivial, ?_⟩
    have hrS := hr.set (b := w.heap.size + 1 + 1 + 1 + 1 + 1 + 1) (by omega) (by omega) 0 (.int .i64 ((pre.length : Int) + 1))
    have q0 := r0.other (w.heap.size + 1 + 1 + 1 + 1 + 1 + 1) 0 (.int .i64 ((pre.length : Int) + 1)) (by omega)
    have q1 := r1.other (B' := w.heap.size + 1 + 1 + 1 + 1 + 1 + 1) (by omega) (.int .i64 ((pre.length : Int) + 1))
    have q2 := r2.other (B' := w.heap.size + 1 + 1 + 1 + 1 + 1 + 1) (by omega) (.int .i64 ((pre.length : Int) + 1))
    have q3 := r3.other (w.heap.size + 1 + 1 + 1 + 1 + 1 + 1) 0 (.int .i64 ((pre.length : Int) + 1)) (by omega)
    have q5 := r5.other (B' := w.heap.size + 1 + 1 + 1 + 1 + 1 + 1) (by omega) (.int .i64 ((pre.length : Int) + 1))
    have q6 := r6.set (.int .i64 ((pre.length : Int) + 1))
    have hbS := hbw.setCell (p := ⟨w.heap.size + 1 + 1 + 1 + 1 + 1 + 1, 0, none⟩) (by simp; omega) (.int .i64 ((pre.length : Int) + 1))
    have hkS : KeepsFrom W0.heap.size W (W.setCell ⟨w.heap.size + 1 + 1 + 1 + 1 + 1 + 1, 0, none⟩ (.int .i64 ((pre.length : Int) + 1))) := (KeepsOthers.setCell _ _ _).from _
    have hzS := size_set W (w.heap.size + 1 + 1 + 1 + 1 + 1 + 1) 0 (.int .i64 ((pre.length : Int) + 1))
    have hbB : (W.setCell ⟨w.heap.size + 1 + 1 + 1 + 1 + 1 + 1, 0, none⟩ (.int .i64 ((pre.length : Int) + 1))).heap[w.heap.size + 1 + 1 + 1 + 1 + 1 + 1 + 1]? = W.heap[w.heap.size + 1 + 1 + 1 + 1 + 1 + 1 + 1]? := heap_set _ _ _ _ _ (by omega)
    obtain ⟨W1, hW1⟩ : ∃ x, W.setCell ⟨w.heap.size + 1 + 1 + 1 + 1 + 1 + 1, 0, none⟩ (.int .i64 ((pre.length : Int) + 1)) = x := ⟨_, rfl⟩
    rw [hW1] at hrS q0 q1 q2 q3 q5 q6 hbS hkS hzS hbB ⊢
    clear hW1 g6 f6 r0 r1 r2 r3 r5 r6 hr hbw
    refine (CallsIn.inRound lb (callsIn_wide.2 (Tryz.strings_CutSuffix ⟨x.toArray⟩ ⟨#[10]⟩ _ (by simp [ByteArray.size]; omega)))).mono ?_
    rintro e1 W2 ⟨rfl, hW2⟩
    have hW2' := hW2.symm
    clear hW2
    subst hW2'
    rw [show (⟨x.toArray⟩ : ByteArray).data.toList = x from rfl, show (⟨#[10]⟩ : ByteArray).data.toList = [10] from rfl]
    rcases hsf : Lib.hasSuffix x [10] with _ | _
    · have hpe := Lib.hid (sofS_end hso hok hsf)
      have hbase : Ws3 W W0.heap.size w (.slice none 0 0) (.slice none 0 0) (.int .i64 0) (.int .i64 0) W1 := ⟨q0, q1, q2, hkS, hbS⟩
      have g0 := q0.cell 0
      have g01 := q0.cell 1
      have g3 := q3.cell 0
      have g31 := q3.cell 1
      simp only [List.getElem?_toArray, List.getElem?_cons_zero, List.getElem?_cons_succ] at g0 g01 g3 g31
      have f0 := q0.frozen 0
      have f01 := q0.frozen 1
      have g1 := q1.cell
      have g2 := q2.cell
      have f1 := q1.frozen
      have f2 := q2.frozen
      have g6 := q6.cell
      clear hsf hso hok hrS q0 q1 q2 q3 q5 q6 hbS hkS hzS hbB
      gi_wp2_with fail
      gi_region
      all_goals
        gi_wp2_with fail
        refine (fun h => ⟨h.2.2.2.1, ⟨(pre.length : Int) + 1, 2, ⟨h.1, h.2.1, h.2.2.1⟩, by rw [hpe.out]⟩, h.2.2.2.2, rfl⟩ : Ws3 W W0.heap.size w (.slice none 0 0) (.slice none 0 0) (.int .i64 ((pre.length : Int) + 1)) (.int .i64 2) _ → _) ?_
        repeat (first | (with_reducible exact hbase) | (with_reducible apply Ws3.dr) | (with_reducible apply Ws3.s00) | (with_reducible apply Ws3.s01) | (with_reducible apply Ws3.s1) | (with_reducible apply Ws3.s2))
    · have htl : (Lib.trimSuffix x [10]).length ≤ 3000 := by
        unfold Lib.trimSuffix
        rw [if_pos hsf, List.length_take]
        omega
      have g5 := q5.cell
      gi_wp2_with fail
      refine ⟨trivial, ?_⟩
      refine (CallsIn.inRound lb (callsIn_wide.2 (sread_any N (w.heap.size + 1 + 1 + 1 + 1) r ⟨(Lib.trimSuffix x [10]).toArray⟩ W1 (by simp [ByteArray.size]; omega) hrS (by
        obtain ⟨_, h1, h2, h3⟩ := hso
        exact ⟨by omega, by omega, fun t ht => by have := h3 t ht; omega⟩) (hT.below hbS) (hM.below hbS)))).mono ?_
      rintro e2 W3 ⟨rfl, hgot, hF⟩
      rw [show (⟨(Lib.trimSuffix x [10]).toArray⟩ : ByteArray).data.toList = Lib.trimSuffix x [10] from rfl] at hgot ⊢
      have p0 : RowB W3 _ _ _ := (hF.low _ (by omega) (by omega)).trans q0
      have p1 : Boxed W3 _ _ _ := (hF.low _ (by omega) (by omega)).trans q1
      have p2 : Boxed W3 _ _ _ := (hF.low _ (by omega) (by omega)).trans q2
      have p3 : RowB W3 _ _ _ := (hF.low _ (by omega) (by omega)).trans q3
      have p5 : Boxed W3 _ _ _ := (hF.low _ (by omega) (by omega)).trans q5
      have p6 : Boxed W3 _ _ _ := (hF.low _ (by omega) (by omega)).trans q6
      have hbT := hbS.trans (hF.bel.mono (by omega))
      have hkT : KeepsFrom W0.heap.size W W3 := hkS.trans (hF.rest.from _)
      have hbC := (hF.low (w.heap.size + 1 + 1 + 1 + 1 + 1 + 1 + 1) (by omega) (by omega)).trans hbB
      have hzT := hF.rest.size
      clear g5 q0 q1 q2 q3 q5 q6 hrS hbS hkS hbB hF
      rcases hst : step r (Lib.trimSuffix x [10]) with _ | r'
      · have hpe := Lib.hid (sofS_form hso hok hsf hst)
        have hbase : Ws3 W W0.heap.size w (.slice none 0 0) (.slice none 0 0) (.int .i64 0) (.int .i64 0) W3 := ⟨p0, p1, p2, hkT, hbT⟩
        have g0 := p0.cell 0
        have g01 := p0.cell 1
        have g3 := p3.cell 0
        have g31 := p3.cell 1
        simp only [List.getElem?_toArray, List.getElem?_cons_zero, List.getElem?_cons_succ] at g0 g01 g3 g31
        have f0 := p0.frozen 0
        have f01 := p0.frozen 1
        have g1 := p1.cell
        have g2 := p2.cell
        have f1 := p1.frozen
        have f2 := p2.frozen
        have g6 := p6.cell
        clear hsf hso hok hst hgot p0 p1 p2 p3 p5 p6 hbT hkT hbC
        gi_wp2_with fail
        gi_region
        all_goals
          gi_wp2_with fail
          refine (fun h => ⟨h.2.2.2.1, ⟨(pre.length : Int) + 1, 4, ⟨h.1, h.2.1, h.2.2.1⟩, by rw [hpe.out]⟩, h.2.2.2.2, rfl⟩ : Ws3 W W0.heap.size w (.slice none 0 0) (.slice none 0 0) (.int .i64 ((pre.length : Int) + 1)) (.int .i64 4) _ → _) ?_
          repeat (first | (with_reducible exact hbase) | (with_reducible apply Ws3.dr) | (with_reducible apply Ws3.s00) | (with_reducible apply Ws3.s01) | (with_reducible apply Ws3.s1) | (with_reducible apply Ws3.s2))
      · have hso' := Lib.hid (sofS_snoc hso hsf hst)
        have hrd := Lib.hid (hgot r' hst)
        clear hsf hso hok hst hgot
        gi_wp2_with fail
        refine ⟨hkT, hbC, ⟨p0, p1, p2⟩, ⟨p3, p5, ?_⟩, ⟨r', hrd.out, hso'.out⟩, hbT, by omega⟩
        rw [List.length_append, List.length_singleton]
        exact p6
  case done =>
    rintro D ys W hD rfl ⟨⟨r0, r1, r2⟩, ⟨r3, r5, r6⟩, ⟨r, hr, hso⟩, hbw, hNW⟩ hK
    have hpe := sofS_done hso
    have g5 := r5.cell
    obtain ⟨hrb, hlo, hr⟩ := hr
    rcases hr with ⟨hop, vt, vo, qs, ps, hC⟩ | ⟨hop, hos, N', vt, vo, qs, q, ts, t, hts, hO⟩
    · rw [hop, if_neg (by decide)] at hpe
      have hpe' := Lib.hid hpe
      obtain ⟨At, ct, rfl, hTk⟩ := hC.tks
      obtain ⟨Ao, co, rfl, hOj⟩ := hC.ojs
      have c0 := hC.hr.cell 0
      have c1 := hC.hr.cell 1
      have c2 := hC.hr.cell 2
      simp only [List.getElem?_toArray, List.getElem?_cons_zero, List.getElem?_cons_succ] at c0 c1 c2
      have g0 := r0.cell 0
      have g01 := r0.cell 1
      simp only [List.getElem?_toArray, List.getElem?_cons_zero, List.getElem?_cons_succ] at g0 g01
      have f0 := r0.frozen 0
      have f01 := r0.frozen 1
      have g1 := r1.cell
      have g2 := r2.cell
      have f1 := r1.frozen
      have f2 := r2.frozen
      clear hso hop hpe
      gi_wp2_with fail
      have hD2 : W0.heap.size ≤ D := hD
      have hC4 := (((hC.set (b := w.heap.size) (by omega) (by omega) 0 (.slice At r.sy.ts.length ct)).set (b := w.heap.size) (by omega) (by omega) 1 (.slice Ao r.sy.os.length co)).set (b := w.heap.size + 1) (by omega) (by omega) 0 (.int .i64 0)).set (b := w.heap.size + 1 + 1) (by omega) (by omega) 0 (.int .i64 0)
      have k0 := ((((r0.set 0 (.slice At r.sy.ts.length ct)).set 1 (.slice Ao r.sy.os.length co)).other (w.heap.size + 1) 0 (.int .i64 0) (by omega))).other (w.heap.size + 1 + 1) 0 (.int .i64 0) (by omega)
      have k1 := (((RowB.other (arr := #[.int .i64 0]) (RowB.other (arr := #[.int .i64 0]) r1 (w.heap.size) 0 (.slice At r.sy.ts.length ct) (by omega)) (w.heap.size) 1 (.slice Ao r.sy.os.length co) (by omega))).set 0 (.int .i64 0)).other (w.heap.size + 1 + 1) 0 (.int .i64 0) (by omega)
      have k2 := ((((RowB.other (arr := #[.int .i64 0]) (RowB.other (arr := #[.int .i64 0]) r2 (w.heap.size) 0 (.slice At r.sy.ts.length ct) (by omega)) (w.heap.size) 1 (.slice Ao r.sy.os.length co) (by omega))).other (w.heap.size + 1) 0 (.int .i64 0) (by omega))).set 0 (.int .i64 0)
      have hb4 := (((hbw.setCell (p := ⟨w.heap.size, 0, none⟩) (Nat.le_refl _) (.slice At r.sy.ts.length ct)).setCell (p := ⟨w.heap.size, 1, none⟩) (Nat.le_refl _) (.slice Ao r.sy.os.length co)).setCell (p := ⟨w.heap.size + 1, 0, none⟩) (by simp) (.int .i64 0)).setCell (p := ⟨w.heap.size + 1 + 1, 0, none⟩) (by simp; omega) (.int .i64 0)
      have hK' : ((((W.setCell ⟨w.heap.size, 0, none⟩ (.slice At r.sy.ts.length ct)).setCell ⟨w.heap.size, 1, none⟩ (.slice Ao r.sy.os.length co)).setCell ⟨w.heap.size + 1, 0, none⟩ (.int .i64 0)).setCell ⟨w.heap.size + 1 + 1, 0, none⟩ (.int .i64 0)).heap[D]? = some (.deferred (some [])) := by
        rw [heap_set _ _ _ _ _ (by omega), heap_set _ _ _ _ _ (by omega), heap_set _ _ _ _ _ (by omega), heap_set _ _ _ _ _ (by omega)]
        exact hK
      obtain ⟨X, hX⟩ : ∃ x, (((W.setCell ⟨w.heap.size, 0, none⟩ (.slice At r.sy.ts.length ct)).setCell ⟨w.heap.size, 1, none⟩ (.slice Ao r.sy.os.length co)).setCell ⟨w.heap.size + 1, 0, none⟩ (.int .i64 0)).setCell ⟨w.heap.size + 1 + 1, 0, none⟩ (.int .i64 0) = x := ⟨_, rfl⟩
      rw [hX] at hC4 k0 k1 k2 hb4 hK' ⊢
      have hbp := below_putO (H := w.heap.size) (.deferred none) (by omega) hK'
      have hC5 := hC4.putO (.deferred none) hK' rfl
      obtain ⟨A1, c1', he1, hT1⟩ := hC5.tks
      obtain ⟨A2, c2', he2, hT2⟩ := hC5.ojs
      injection he1 with he1 _ _
      injection he2 with he2 _ _
      subst he1 he2
      refine ⟨by simp, .inl ⟨_, _, rfl, run_takeDeferred hK', ?_⟩⟩
      exact ⟨_, res_sparse _ _ rfl rfl rfl (k0.putO (.deferred none) hK' rfl) (box_putO (.deferred none) k1 hK' rfl).cell (box_putO (.deferred none) k2 hK' rfl).cell, At, ct, Ao, co, (by rw [hpe'.out]), (by rw [hpe'.out]; exact hT1), (by rw [hpe'.out]; exact hT2), hb4.trans hbp⟩
    · rw [hop, if_pos rfl] at hpe
      have hpe' := Lib.hid hpe
      have hbase : Ws3 W W0.heap.size w (.slice none 0 0) (.slice none 0 0) (.int .i64 0) (.int .i64 0) W := ⟨r0, r1, r2, KeepsFrom.refl _ _, hbw⟩
      have c2 := hO.hr.cell 2
      simp only [List.getElem?_toArray, List.getElem?_cons_zero, List.getElem?_cons_succ] at c2
      have g0 := r0.cell 0
      have g01 := r0.cell 1
      have g3 := r3.cell 0
      have g31 := r3.cell 1
      simp only [List.getElem?_toArray, List.getElem?_cons_zero, List.getElem?_cons_succ] at g0 g01 g3 g31
      have f0 := r0.frozen 0
      have f01 := r0.frozen 1
      have g1 := r1.cell
      have g2 := r2.cell
      have f1 := r1.frozen
      have f2 := r2.frozen
      have g6 := r6.cell
      clear hso hop hpe hO hts hos r0 r1 r2 r3 r5 r6 hbw
      gi_wp2_with fail
      gi_region
      all_goals
        gi_wp2_with fail
        refine sp_end (W := W) (L := W0.heap.size) (a := ((lns l).length : Int)) (e := 2) rfl rfl rfl hD hK (by omega) hpe'.out ?_
        repeat (first | (with_reducible exact hbase) | (with_reducible apply Ws3.dr) | (with_reducible apply Ws3.s00) | (with_reducible apply Ws3.s01) | (with_reducible apply Ws3.s1) | (with_reducible apply Ws3.s2))
  case stop =>
    rintro D c pre W hD _ ⟨⟨at_, er, ⟨r0, r1, r2⟩, hp⟩, hbw, rfl⟩ hK
    have g0 := r0.cell 0
    have g01 := r0.cell 1
    simp only [List.getElem?_toArray, List.getElem?_cons_zero, List.getElem?_cons_succ] at g0 g01
    have g1 := r1.cell
    have g2 := r2.cell
    have hp' := Lib.hid hp
    clear hp
    have hbp := below_putO (H := w.heap.size) (.deferred none) (by omega) hK
    gi_wp2_with fail
    refine ⟨by simp, .inl ⟨_, _, rfl, run_takeDeferred hK, ?_⟩⟩
    exact ⟨_, res_sparse _ _ rfl rfl rfl (r0.putO (.deferred none) hK rfl) (box_putO (.deferred none) r1 hK rfl).cell (box_putO (.deferred none) r2 hK rfl).cell, none, 0, none, 0, (by rw [hp'.out]; rfl), (by rw [hp'.out]; intro k t h; cases h), (by rw [hp'.out]; intro k t h; cases h), hbw.trans hbp⟩

end Go.Proofs.YtfgmebjbibbpdaaGreatDoor

namespace Go.Proofs.YtfgmebjbibbpdaaGreatDoor
open Go.RowKit
attribute [local go_sem] Oper.semAt_some

def exS : Sy := ⟨[⟨1, 3, 20, 0, 20, 8, [⟨21, 0, 0, 0, 0⟩]⟩], []⟩
def exL : List UInt8 := [116, 97, 115, 107, 32, 112, 101, 114, 105, 111, 100, 105, 99, 32, 51, 32, 50, 48, 32, 48, 32, 50, 48, 32, 56, 10, 100, 111, 110, 101, 10, 101, 110, 100, 10]
theorem ex_d3 : dd 3 = [51] := by unfold dd; rw [show Int.toNat 3 = 3 from rfl, dd_small (by omega)]; rfl
theorem ex_d0 : dd 0 = [48] := by unfold dd; rw [show Int.toNat 0 = 0 from rfl, dd_small (by omega)]; rfl
theorem ex_d8 : dd 8 = [56] := by unfold dd; rw [show Int.toNat 8 = 8 from rfl, dd_small (by omega)]; rfl
theorem ex_d20 : dd 20 = [50, 48] := by unfold dd; rw [show Int.toNat 20 = 20 from rfl, dd_big (by omega), show 20 / 10 = 2 from rfl, dd_small (by omega)]; rfl
theorem ex_head : headL ⟨1, 3, 20, 0, 20, 8, [⟨21, 0, 0, 0, 0⟩]⟩ = [116, 97, 115, 107, 32, 112, 101, 114, 105, 111, 100, 105, 99, 32, 51, 32, 50, 48, 32, 48, 32, 50, 48, 32, 56] := by
  unfold headL headP
  rw [Lib.join_cons]
  show taskW ++ Lib.joinTail [32] [perW, dd 3, dd 20, dd 0, dd 20, dd 8] = _
  rw [ex_d3, ex_d20, ex_d0, ex_d8]
  rfl
theorem ex_code : textOf [⟨21, 0, 0, 0, 0⟩] = [100, 111, 110, 101, 10] := by rfl
theorem ex_text : sysT exS = exL := by
  show (headL ⟨1, 3, 20, 0, 20, 8, [⟨21, 0, 0, 0, 0⟩]⟩ ++ [10] ++ (textOf [⟨21, 0, 0, 0, 0⟩] ++ (endW3 ++ [10])) ++ []) ++ [] = _
  rw [ex_head, ex_code]
  rfl
theorem ex_ok : printOk exS = true := by
  unfold printOk
  rw [ex_text]
  decide
theorem ex_sok : exS.ok := ⟨fun t ht => by
  rw [List.mem_singleton.1 ht]
  intro e he
  rw [List.mem_singleton.1 he]
  unfold Ins.ok
  decide, fun o ho => by cases ho⟩
theorem ex_parse : parseS exL = ⟨exS, 0, 0⟩ := by rw [← ex_text]; exact sys_back ex_ok ex_sok
theorem ex_print : printT exS = ⟨exL.toArray⟩ := by rw [printT_ok ex_ok, ex_text]
theorem ex_lns : ∀ x ∈ lns exL, x.length ≤ 3000 := by decide
set_option maxRecDepth 100000 in
set_option maxHeartbeats 2000000 in
theorem awake_any (w : World) (hT : Tab w) (hM : Mx w) : Calls Tryz.prog 7 #[] w fun e w' => e = .returned (.bool true) ∧ Below w.heap.size w w' := by
  have h1 := sparse_any ⟨exL.toArray⟩ w (by decide) ex_lns hT hM
  unfold ParR at h1
  rw [show (⟨exL.toArray⟩ : ByteArray).data.toList = exL from rfl, ex_parse] at h1
  have h2 := fun (W : World) (At Ao : Option Addr) (ct co : Nat) (hW : Tab W) (ht : TkSl W W.heap.size At exS.ts) (ho : OjSl W W.heap.size Ao exS.os) => sprint_any exS At Ao ct co W ht ho (by decide) (fun o h => by cases h) (by decide) (by decide) hW
  rw [ex_print, ex_ok] at h2
  have e1 : exS.ts.length = 1 := rfl
  have e2 : exS.os.length = 0 := rfl
  rw [e1, e2] at h1 h2
  unfold exL at h1 h2
  have H1 := Lib.hid h1
  have H2 := Lib.hid h2
  clear h1 h2 e1 e2
  go_enter Tryz.func7, Tryz.ntmps7
  go_wp2_with fail
  refine H1.out.mono ?_
  rintro e w1 ⟨At, ct, Ao, co, rfl, ht, ho, hb1⟩
  have hr1 := RowB.new w1 #[.slice At 1 ct, .slice Ao 0 co] 25
  have hb2 := (Below.refl w1.heap.size w1).alloc (Nat.le_refl _) (.cells #[.slice At 1 ct, .slice Ao 0 co] 25)
  go_wp2_with fail
  obtain ⟨w2, hw2⟩ : ∃ x, w1.alloc (.cells #[.slice At 1 ct, .slice Ao 0 co] 25) = x := ⟨_, rfl⟩
  rw [hw2] at hr1 hb2 ⊢
  clear hw2
  have ht2 := ht.below hb2 hb2.size
  have ho2 := ho.below hb2 hb2.size
  have hb3 := hb1.trans (hb2.mono hb1.size)
  refine (H2.out w2 At Ao ct co (hT.below hb3) ht2 ho2).mono ?_
  rintro e w3 ⟨rfl, hb4⟩
  have ht3 := ht2.below hb4 hb4.size
  obtain ⟨b, off, A', c', rfl, hlt, ⟨c0, c1, c2, c3, c4, c5, c6⟩, _⟩ := ht3 0 _ rfl
  have hr3 := hr1.kept hb4
  have g0 := hr3.cell 0
  have g1 := hr3.cell 1
  simp only [List.getElem?_toArray, List.getElem?_cons_zero, List.getElem?_cons_succ] at g0 g1
  simp only [Nat.zero_mul, Nat.add_zero] at c5 c6
  have c5' : w3.cell? ⟨b, off + 5, none⟩ = some (.int .i64 8) := c5
  have c6' : w3.cell? ⟨b, off + 6, none⟩ = some (.slice A' 1 c') := c6
  have HB := Lib.hid (hb3.trans (hb4.mono hb3.size))
  clear c0 c1 c2 c3 c4 c5 c6 ht ho ht2 ho2 ht3 hb1 hb2 hb3 hb4 H1 H2
  go_wp2_with fail
  go_ret
  exact ⟨rfl, HB.out⟩

end Go.Proofs.YtfgmebjbibbpdaaGreatDoor
