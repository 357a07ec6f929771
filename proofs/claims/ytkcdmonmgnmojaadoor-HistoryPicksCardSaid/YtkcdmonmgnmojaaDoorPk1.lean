/- Calls that one owns: their rows, and their records apart; history.own. -/
import Derived.Test.YtkcdmonmgnmojaaDoorSo14
import Derived.Test.YtkcdmonmgnmojaaDoorShelf
namespace Go.Proofs.YtkcdmonmgnmojaaDoor
open Go.RowKit

def elE : Enc El := ⟨El.cells, 7, fun _ => rfl, fun e u hu => by
  simp only [El.cells, List.mem_cons, List.not_mem_nil, or_false] at hu
  rcases hu with rfl | rfl | rfl | rfl | rfl | rfl | rfl <;> rfl, by omega⟩
theorem clTy : ElemTy Tryd.prog 41 45 7 72 := ElemTy.of (z := clV ⟨0, 0, 0, [], 0, 0, 0⟩ none 0) Tryd.underlying41 (by kernel_rfl) rfl (by omega)

/-- All blocks of words are as they were. -/
def KeepU (w w' : World) : Prop := w.heap.size ≤ w'.heap.size ∧ ∀ (b : Nat) (cs : Array Value) (fz : Nat × Nat), w.heap[b]? = some (.cells cs 22 fz) → w'.heap[b]? = w.heap[b]?
theorem KeepU.trans {w w1 w2 : World} (h1 : KeepU w w1) (h2 : KeepU w1 w2) : KeepU w w2 := ⟨Nat.le_trans h1.1 h2.1, fun b cs fz h => (h2.2 b cs fz ((h1.2 b cs fz h).trans h)).trans (h1.2 b cs fz h)⟩
theorem KeepU.of {w w' : World} (h : Below w.heap.size w w') : KeepU w w' := ⟨h.size, fun b cs fz hb => h.block b (Array.getElem?_eq_some_iff.1 hb).1⟩
theorem KeepU.kpg {g : Nat} {L : List El} {w w' : World} (h : KpG g w w') (hr : RowsG w g L) : KeepU w w' := ⟨h.size, fun b cs fz hb => h.block b (Array.getElem?_eq_some_iff.1 hb).1 (fun e => by
  subst e
  obtain ⟨rest, hr⟩ := hr
  rw [hr] at hb
  injection hb with hb
  injection hb with _ hb _
  exact absurd hb (by decide))⟩

/-- A call's record lies in a block of words. -/
structure RecT (w : World) (r : List Int) (A : Option Addr) (c : Nat) : Prop where
  at_ : ∀ (k : Nat) (z : Int), r[k]? = some z → ∃ b off cs fz, A = some ⟨b, off, none⟩ ∧ w.heap[b]? = some (.cells cs 22 fz) ∧ w.cell? ⟨b, off + k, none⟩ = some (.int .u32 z)
  wf : ∀ z ∈ r, (Lit.int .u32 z).wf = true
  le : r.length ≤ c
  cap : c ≤ maxLen
theorem RecT.ws {w : World} {r : List Int} {A : Option Addr} {c : Nat} (h : RecT w r A c) : Ws w w.heap.size A r :=
  ⟨fun k z hk => by
    obtain ⟨b, off, cs, fz, hA, hb, hc⟩ := h.at_ k z hk
    refine ⟨b, off, hA, (Array.getElem?_eq_some_iff.1 hb).1, fun j u hu => ?_⟩
    cases j with
    | zero =>
      have e : u = .int .u32 z := by simpa [ints, Enc.of1] using hu.symm
      rw [e]
      simpa [ints, Enc.of1] using hc
    | succ j => simp [ints, Enc.of1] at hu, h.wf⟩
theorem RecT.keep {w w' : World} {r : List Int} {A : Option Addr} {c : Nat} (h : RecT w r A c) (hk : KeepU w w') : RecT w' r A c :=
  ⟨fun k z hz => by
    obtain ⟨b, off, cs, fz, hA, hb, hc⟩ := h.at_ k z hz
    have e := hk.2 b cs fz hb
    exact ⟨b, off, cs, fz, hA, e.trans hb, (by unfold World.cell? at hc ⊢; rw [e]; exact hc)⟩, h.wf, h.le, h.cap⟩
theorem RecT.own {base : Nat} {w : World} {v : Value} {l : List Int} (h : OwnW base w v l) : ∃ A c, v = .slice A l.length c ∧ RecT w l A c := by
  obtain ⟨A, c, h1, h2, h3⟩ := h.ws
  refine ⟨A, c, h1, fun k z hz => ?_, h.2, h2.1, h2.2⟩
  obtain ⟨_, b, off, hA, hb, hc⟩ := h3.get hz
  rcases h.1.2 with ⟨e, e0⟩ | ⟨g, cap, cur, e, hg, hh, _⟩
  · have h0 := List.eq_nil_of_length_eq_zero e0
    rw [h0] at hz
    cases hz
  · rw [h1, hA] at e
    injection e with e1 e2 e3
    injection e1 with e1
    injection e1 with e1 e2 e3
    subst e1
    exact ⟨b, off, cur, (0, 0), hA, hh, hc⟩

/-- Calls that one owns. -/
def OwnC (base : Nat) (w : World) (v : Value) (L : List El) : Prop := Own elE 45 base w v L ∧ ∀ e ∈ L, RecT w e.x.r e.A e.c
theorem OwnC.nil (base : Nat) (w : World) : OwnC base w (.slice none 0 0) [] := ⟨Own.nil _ _, (fun e h => by cases h)⟩
theorem OwnC.below {base : Nat} {w w' : World} {v : Value} {L : List El} (h : OwnC base w v L) (hb : Below w.heap.size w w') : OwnC base w' v L := ⟨h.1.below hb (Nat.le_refl _), fun e he => (h.2 e he).keep (KeepU.of hb)⟩
set_option maxRecDepth 100000 in
theorem OwnC.rows {base : Nat} {w : World} {v : Value} {L : List El} (h : OwnC base w v L) : (v = .slice none 0 0 ∧ L = []) ∨ ∃ g cap, v = .slice (some ⟨g, 0, none⟩) L.length cap ∧ base ≤ g ∧ RowsG w g L ∧ L.length ≤ cap ∧ cap ≤ maxLen := by
  rcases h.1.2 with ⟨e, e0⟩ | ⟨g, cap, cur, e, hg, hh, h1, h2, h3, h4⟩
  · exact .inl ⟨e, List.eq_nil_of_length_eq_zero e0⟩
  · have h5 : cur.toList.take (L.length * 7) = flat L := h4
    have e1 : (flat L ++ cur.toList.drop (L.length * 7)).toArray = cur := by
      rw [← h5, List.take_append_drop]
    exact .inr ⟨g, cap, e, hg, ⟨cur.toList.drop (L.length * 7), by rw [e1]; exact hh⟩, h1, h2⟩
theorem RowsG.sl {w : World} {g : Nat} {L : List El} (h : RowsG w g L) (hr : ∀ e ∈ L, RecT w e.x.r e.A e.c) : ClSl w w.heap.size (some ⟨g, 0, none⟩) (L.map (·.x)) := fun k x hx => by
  rw [List.getElem?_map, Option.map_eq_some_iff] at hx
  obtain ⟨e, he, rfl⟩ := hx
  have hc := h.cells he
  have hre := hr e (List.mem_of_getElem? he)
  exact ⟨g, 0, e.A, e.c, rfl, h.lt, by simpa using hc, hre.ws, hre.le, hre.cap⟩

set_option maxRecDepth 100000 in
set_option maxHeartbeats 400000 in
theorem clone_any (A : Option Addr) (c : Nat) (l : List Int) (w : World) (hn : l.length ≤ 1000) (hl : Ws w w.heap.size A l) :
    Calls Tryd.prog 121 #[.slice A l.length c] w fun e w' => ∃ A' c', e = .returned (.slice A' l.length c') ∧ RecT w' l A' c' ∧ Below w.heap.size w w' := by
  obtain ⟨i0, z, hi, hz, h1, h2, h3, h4⟩ := u32Ty.hi
  cases A with
  | none =>
    have h0 : l = [] := by
      cases l with
      | nil => rfl
      | cons x l => obtain ⟨_, _, h, _⟩ := hl.1 0 x rfl; cases h
    subst h0
    refine (Tryd.slices_Clone_nil 0 c _).mono ?_
    rintro e w' ⟨rfl, rfl⟩
    exact ⟨none, 0, rfl, ⟨(fun k z h => by simp at h), (fun z h => by cases h), Nat.le_refl _, Nat.zero_le _⟩, Below.refl _ _⟩
  | some a =>
    have hc : ∀ (j : Nat) u, ((ints .u32).all l)[j]? = some u → w.cell? (a.add j) = some u := by
      intro j u hu
      have hall : (ints .u32).all l = l.map (Value.int .u32) := of1_all _ _ l
      rw [hall, List.getElem?_map] at hu
      obtain ⟨z, hz, rfl⟩ := Option.map_eq_some_iff.1 hu
      obtain ⟨_, b', off', hA, _, hcell⟩ := hl.get hz
      injection hA with hA
      subst hA
      rw [Addr.add_lit]
      exact hcell
    have hlw := Lib.hid hl.2
    clear hl
    have hnew := World.ownsRow_lit (base := w.heap.size) (e := 22) (size := 1) w #[] 0 (Nat.le_refl _) (by simp [maxLen]) rfl
    have hlt : ∀ (j : Nat) u, ((ints .u32).all l)[j]? = some u → (w.alloc (.cells #[] 22)).cell? (a.add j) = some u := fun j u hu => by
      have h := hc j u hu
      rw [World.cell?_alloc_lt w _ _ (cell_lt h)]
      exact h
    have hlt' := Lib.hid hlt
    have hnew' := Lib.hid hnew
    have hE := fun w => Lib.run_eql_slice_nil (P := Tryd.prog) w 43 22 (some a) l.length c 0 0 Tryd.underlying43
    clear hc hlt hnew
    go_enter Tryd.func121, Tryd.ntmps121
    go_wp2_with (first
      | (at_builtin; refine wpList_append_own_at _ rfl _ _ 43 rfl w.heap.size 22 i0 z 1 4 Tryd.underlying43 hi hz h1 h2 h3 h4 _ 0 [] rfl hnew'.out a l.length c ((ints .u32).all l) rfl (by rw [Enc.all_len]; rfl) hlt'.out ((ints .u32).all_one l) (by unfold maxLen; omega) (by omega) (by simp) ?_; intro v' w1 hown1 hgrow1 _ _)
      | go_in)
    go_ret
    obtain ⟨A', c', h1, h2⟩ := RecT.own (base := w.heap.size) (w := w1) (v := v') (l := l) ⟨by simpa [Own, ints, Enc.of1] using hown1, hlw.out⟩
    exact ⟨A', c', (by rw [h1]; rfl), h2, ((Below.refl _ w).alloc (Nat.le_refl _) _).trans (grown_below hnew'.out hgrow1 (Nat.le_refl _) (by simp))⟩

section
variable {W W' : World} {B N : Nat} {x : Cl} {A : Option Addr} {c : Nat}
theorem ClBox.frozen (h : ClBox W B x A c) (j : Nat) : W.frozen? ⟨B, j, none⟩ = false := by simp [World.frozen?, show W.heap[B]? = _ from h]
theorem row_set (W : World) (B : Nat) (vs : Array Value) (T : TypeId) (j : Nat) (v : Value) (h : W.heap[B]? = some (.cells vs T (0, 0))) : (W.setCell ⟨B, j, none⟩ v).heap[B]? = some (.cells (vs.setIfInBounds j v) T (0, 0)) := by
  rw [setCell_eq_setRow W B j _ _ _ _ h]
  exact setRow_heap _ B _ _ _ _ h
def set7 (W : World) (B : Nat) (v0 v1 v2 v3 v4 v5 v6 : Value) : World := ((((((W.setCell ⟨B, 0, none⟩ v0).setCell ⟨B, 1, none⟩ v1).setCell ⟨B, 2, none⟩ v2).setCell ⟨B, 3, none⟩ v3).setCell ⟨B, 4, none⟩ v4).setCell ⟨B, 5, none⟩ v5).setCell ⟨B, 6, none⟩ v6
theorem ClBox.set7 (h : ClBox W B x A c) (y : Cl) (A' : Option Addr) (c' : Nat) : ClBox (set7 W B (.int .i64 y.p) (.int .i64 y.o) (.int .i64 y.q) (.slice A' y.r.length c') (.int .i64 y.c) (.int .i64 y.b) (.int .i64 y.e)) B y A' c' := by
  have h0 : W.heap[B]? = some (.cells #[.int .i64 x.p, .int .i64 x.o, .int .i64 x.q, .slice A x.r.length c, .int .i64 x.c, .int .i64 x.b, .int .i64 x.e] 45 (0, 0)) := h
  have h1 := row_set W B _ _ 0 (.int .i64 y.p) h0
  have h2 := row_set _ B _ _ 1 (.int .i64 y.o) h1
  have h3 := row_set _ B _ _ 2 (.int .i64 y.q) h2
  have h4 := row_set _ B _ _ 3 (.slice A' y.r.length c') h3
  have h5 := row_set _ B _ _ 4 (.int .i64 y.c) h4
  have h6 := row_set _ B _ _ 5 (.int .i64 y.b) h5
  have h7 := row_set _ B _ _ 6 (.int .i64 y.e) h6
  simpa [ClBox, Proofs.YtkcdmonmgnmojaaDoor.set7] using h7
theorem ClBox.setR (h : ClBox W B x A c) (r : List Int) (A' : Option Addr) (c' : Nat) : ClBox (W.setCell ⟨B, 3, none⟩ (.slice A' r.length c')) B { x with r := r } A' c' := row_set _ _ _ _ 3 _ h
theorem heap_set (W : World) (b j : Nat) (v : Value) (n : Nat) (h : n ≠ b) : (W.setCell ⟨b, j, none⟩ v).heap[n]? = W.heap[n]? := by
  show (W.heap.modify b _)[n]? = _
  rw [Array.getElem?_modify, if_neg (fun e => h e.symm)]
theorem size_set (W : World) (b j : Nat) (v : Value) : (W.setCell ⟨b, j, none⟩ v).heap.size = W.heap.size := by
  show (W.heap.modify b _).size = _
  rw [Array.size_modify]
theorem ClBox.other (h : ClBox W B x A c) (b j : Nat) (v : Value) (hn : B ≠ b) : ClBox (W.setCell ⟨b, j, none⟩ v) B x A c := (heap_set W b j v B hn).trans h
theorem KeepU.set {w : World} {B : Nat} (h : KeepU W w) {y : Cl} {A' : Option Addr} {c' : Nat} (hb : ClBox w B y A' c') (j : Nat) (v : Value) : KeepU W (w.setCell ⟨B, j, none⟩ v) := ⟨by rw [size_set]; exact h.1, fun b cs fz hh => by
  refine (heap_set w B j v b (fun e => ?_)).trans (h.2 b cs fz hh)
  subst e
  have h1 := (h.2 b cs fz hh).trans hh
  rw [show w.heap[b]? = _ from hb] at h1
  injection h1 with h1
  injection h1 with _ h1 _
  exact absurd h1 (by decide)⟩
theorem heap_set7 (W : World) (b : Nat) (v0 v1 v2 v3 v4 v5 v6 : Value) (n : Nat) (h : n ≠ b) : (Proofs.YtkcdmonmgnmojaaDoor.set7 W b v0 v1 v2 v3 v4 v5 v6).heap[n]? = W.heap[n]? := by
  unfold Proofs.YtkcdmonmgnmojaaDoor.set7
  rw [heap_set _ _ _ _ _ h, heap_set _ _ _ _ _ h, heap_set _ _ _ _ _ h, heap_set _ _ _ _ _ h, heap_set _ _ _ _ _ h, heap_set _ _ _ _ _ h, heap_set _ _ _ _ _ h]
theorem size_set7 (W : World) (b : Nat) (v0 v1 v2 v3 v4 v5 v6 : Value) : (Proofs.YtkcdmonmgnmojaaDoor.set7 W b v0 v1 v2 v3 v4 v5 v6).heap.size = W.heap.size := by
  unfold Proofs.YtkcdmonmgnmojaaDoor.set7
  simp only [size_set]
theorem KeepU.set7 {w : World} {B : Nat} (h : KeepU W w) {y : Cl} {A' : Option Addr} {c' : Nat} (hb : ClBox w B y A' c') (v0 v1 v2 v3 v4 v5 v6 : Value) : KeepU W (Proofs.YtkcdmonmgnmojaaDoor.set7 w B v0 v1 v2 v3 v4 v5 v6) := ⟨by rw [size_set7]; exact h.1, fun b cs fz hh => by
  refine (heap_set7 w B v0 v1 v2 v3 v4 v5 v6 b (fun e => ?_)).trans (h.2 b cs fz hh)
  subst e
  have h1 := (h.2 b cs fz hh).trans hh
  rw [show w.heap[b]? = _ from hb] at h1
  injection h1 with h1
  injection h1 with _ h1 _
  exact absurd h1 (by decide)⟩
theorem below_set1 (h : Below N W W') (B j : Nat) (hB : N ≤ B) (v : Value) : Below N W (W'.setCell ⟨B, j, none⟩ v) := h.setCell (p := ⟨B, j, none⟩) hB v
theorem below_set7 (h : Below N W W') (B : Nat) (hB : N ≤ B) (v0 v1 v2 v3 v4 v5 v6 : Value) : Below N W (Proofs.YtkcdmonmgnmojaaDoor.set7 W' B v0 v1 v2 v3 v4 v5 v6) :=
  below_set1 (below_set1 (below_set1 (below_set1 (below_set1 (below_set1 (below_set1 h B 0 hB v0) B 1 hB v1) B 2 hB v2) B 3 hB v3) B 4 hB v4) B 5 hB v5) B 6 hB v6
end
theorem res_own (tmps : Array Value) (w : World) {b : Nat} {e : Cl} {A : Option Addr} {c : Nat} (ha : tmps[2]?.getD undef = .pointer (some ⟨b, 0, none⟩)) (hbox : ClBox w b e A c) :
    (results Tryd.f94 tmps).run Tryd.prog w = .ok (clV e A c) w := by
  obtain ⟨h0, h1, h2, h3, h4, h5, h6⟩ := hbox.cells
  simp [results, ha, h0, h1, h2, h3, h4, h5, h6, go_sem, clV]

set_option maxRecDepth 100000 in
set_option maxHeartbeats 4000000 in
theorem own_any (x : Cl) (A : Option Addr) (c : Nat) (w : World) (hn : x.r.length ≤ 1000) (hl : Ws w w.heap.size A x.r) :
    Calls Tryd.prog 94 #[clV x A c] w fun e w' => ∃ A' c', e = .returned (clV x A' c') ∧ RecT w' x.r A' c' ∧ Below w.heap.size w w' := by
  obtain ⟨W1, hW1⟩ : ∃ W1, (w.alloc (.cells #[.int .i64 x.p, .int .i64 x.o, .int .i64 x.q, .slice A x.r.length c, .int .i64 x.c, .int .i64 x.b, .int .i64 x.e] 45)).alloc (.cells #[.int .i64 0, .int .i64 0, .int .i64 0, .slice none 0 0, .int .i64 0, .int .i64 0, .int .i64 0] 45) = W1 := ⟨_, rfl⟩
  have hb0 := (Below.refl w.heap.size w).alloc (Nat.le_refl _) (.cells #[.int .i64 x.p, .int .i64 x.o, .int .i64 x.q, .slice A x.r.length c, .int .i64 x.c, .int .i64 x.b, .int .i64 x.e] 45)
  have hb1 := hb0.alloc hb0.size (.cells #[.int .i64 0, .int .i64 0, .int .i64 0, .slice none 0 0, .int .i64 0, .int .i64 0, .int .i64 0] 45)
  have hx1 := (ClBox.new w x A c).kept ((Below.refl _ (w.alloc (.cells #[.int .i64 x.p, .int .i64 x.o, .int .i64 x.q, .slice A x.r.length c, .int .i64 x.c, .int .i64 x.b, .int .i64 x.e] 45))).alloc (Nat.le_refl _) (.cells #[.int .i64 0, .int .i64 0, .int .i64 0, .slice none 0 0, .int .i64 0, .int .i64 0, .int .i64 0] 45))
  have hz1 := ClBox.new (w.alloc (.cells #[.int .i64 x.p, .int .i64 x.o, .int .i64 x.q, .slice A x.r.length c, .int .i64 x.c, .int .i64 x.b, .int .i64 x.e] 45)) ⟨0, 0, 0, [], 0, 0, 0⟩ none 0
  have hs1 : (w.alloc (.cells #[.int .i64 x.p, .int .i64 x.o, .int .i64 x.q, .slice A x.r.length c, .int .i64 x.c, .int .i64 x.b, .int .i64 x.e] 45)).heap.size = w.heap.size + 1 := by rw [World.size_alloc]
  rw [hs1] at hz1
  simp only [List.length_nil] at hz1
  rw [hW1] at hx1 hz1 hb1
  have hcl := clone_any A c x.r W1 hn (hl.below hb1 hb1.size)
  obtain ⟨n, hnn⟩ : ∃ n, w.heap.size = n := ⟨_, rfl⟩
  rw [hnn] at hx1 hz1 hb1 ⊢
  have HCL := Lib.hid hcl
  have HZ := Lib.hid hz1
  obtain ⟨d0, d1, d2, d3, d4, d5, d6⟩ := hx1.cells
  clear hcl hl hb0 hs1 hz1
  unfold clV
  go_enter Tryd.func94, Tryd.ntmps94
  go_wp2_with fail
  refine HCL.out.mono ?_
  rintro e w2 ⟨A', c', rfl, hrec, hb2⟩
  have hx2 := hx1.kept hb2
  have hz2 := HZ.out.kept hb2
  have hsz : n + 1 < W1.heap.size := HZ.out.lt
  have hB2 := hb1.trans (hb2.mono (by have := hb1.size; omega))
  have hf3 := hx2.frozen 3
  have df0 := hz2.frozen 0
  have df1 := hz2.frozen 1
  have df2 := hz2.frozen 2
  have df3 := hz2.frozen 3
  have df4 := hz2.frozen 4
  have df5 := hz2.frozen 5
  have df6 := hz2.frozen 6
  obtain ⟨z0, z1, z2, z3, z4, z5, z6⟩ := hz2.cells
  simp only [List.length_nil] at z0 z1 z2 z3 z4 z5 z6
  obtain ⟨c0, c1, c2, c3, c4, c5, c6⟩ := hx2.cells
  have HX3 := Lib.hid (hx2.setR x.r A' c')
  have HZ3 := Lib.hid (hz2.other n 3 (.slice A' x.r.length c') (by omega))
  have HB3 := Lib.hid (hB2.setCell (p := ⟨n, 3, none⟩) (Nat.le_refl _) (.slice A' x.r.length c'))
  have HR3 := Lib.hid (hrec.keep ((KeepU.of (Below.refl _ w2)).set hx2 3 (.slice A' x.r.length c')))
  clear hx2 hz2 hsz hB2 hb2 hrec hx1 hb1 HZ HCL d0 d1 d2 d3 d4 d5 d6
  go_wp2_with fail
  have hfin := HZ3.out.set7 x A' c'
  refine bodyPost_ret (res_own _ _ rfl hfin) rfl ?_
  exact ⟨A', c', rfl, HR3.out.keep ((KeepU.of (Below.refl _ _)).set7 HZ3.out _ _ _ _ _ _ _), below_set7 HB3.out (n + 1) (by omega) _ _ _ _ _ _ _⟩

end Go.Proofs.YtkcdmonmgnmojaaDoor
