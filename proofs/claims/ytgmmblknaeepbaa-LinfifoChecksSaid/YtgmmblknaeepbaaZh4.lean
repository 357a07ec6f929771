/- Texts joined: Calls that one owns: their rows, and their records apart; history.own. history.pick with each of its tests. Calls in a slice, with the places where they stand; what an insertion does; appends in drawn regions. coxswainref21.Sort. Which words are numbers: of no program. The reference's Digits: the number that digits are. -/
import Derived.Test.YtgmmblknaeepbaaZh3
import Derived.Test.YtgmmblknaeepbaaShelf
import Derived.Test.YtgmmblknaeepbaaZa
import Derived.Lib.Hide
import Derived.Deep.QuietTactic
import Derived.BigQuiet
import Derived.Below
import Derived.IntWalk
namespace Go.Proofs.Ytgmmblknaeepbaa
open Go.RowKit

def elE : Enc El := ⟨El.cells, 7, fun _ => rfl, fun e u hu => by
  simp only [El.cells, List.mem_cons, List.not_mem_nil, or_false] at hu
  rcases hu with rfl | rfl | rfl | rfl | rfl | rfl | rfl <;> rfl, by omega⟩
theorem clTy : ElemTy Try.prog 22 32 7 72 := ElemTy.of (z := clV ⟨0, 0, 0, [], 0, 0, 0⟩ none 0) Try.underlying22 (by kernel_rfl) rfl (by omega)

/-- All blocks of words are as they were. -/
def KeepU (w w' : World) : Prop := w.heap.size ≤ w'.heap.size ∧ ∀ (b : Nat) (cs : Array Value) (fz : Nat × Nat), w.heap[b]? = some (.cells cs 33 fz) → w'.heap[b]? = w.heap[b]?
theorem KeepU.trans {w w1 w2 : World} (h1 : KeepU w w1) (h2 : KeepU w1 w2) : KeepU w w2 := ⟨Nat.le_trans h1.1 h2.1, fun b cs fz h => (h2.2 b cs fz ((h1.2 b cs fz h).trans h)).trans (h1.2 b cs fz h)⟩
theorem KeepU.of {w w' : World} (h : Below w.heap.size w w') : KeepU w w' := ⟨h.size, fun b _cs _fz hb => h.block b (Array.getElem?_eq_some_iff.1 hb).1⟩
theorem KeepU.kpg {g : Nat} {L : List El} {w w' : World} (h : KpG g w w') (hr : RowsG w g L) : KeepU w w' := ⟨h.size, fun b cs fz hb => h.block b (Array.getElem?_eq_some_iff.1 hb).1 (fun e => by
  subst e
  obtain ⟨rest, hr⟩ := hr
  rw [hr] at hb
  injection hb with hb
  injection hb with _ hb _
  exact absurd hb (by decide))⟩

/-- A call's record lies in a block of words. -/
structure RecT (w : World) (r : List Int) (A : Option Addr) (c : Nat) : Prop where
  at_ : ∀ (k : Nat) (z : Int), r[k]? = some z → ∃ b off cs fz, A = some ⟨b, off, none⟩ ∧ w.heap[b]? = some (.cells cs 33 fz) ∧ w.cell? ⟨b, off + k, none⟩ = some (.int .u32 z)
  wf : ∀ z ∈ r, (Lit.int .u32 z).wf = true
  le : r.length ≤ c
  cap : c ≤ maxLen
theorem RecT.ws {w : World} {r : List Int} {A : Option Addr} {c : Nat} (h : RecT w r A c) : Ws w w.heap.size A r :=
  ⟨fun k z hk => by
    obtain ⟨b, off, cs, fz, hA, hb, hc⟩ := h.at_ k z hk
    refine ⟨b, off, hA, (Array.getElem?_eq_some_iff.1 hb).1, fun j u hu => ?_⟩
    cases j with
    | zero =>
      have e : u = .int .u32 z := by simpa [ints, Enc.of1] using hu.symm
      rw [e]
      simpa [ints, Enc.of1] using hc
    | succ j => simp [ints, Enc.of1] at hu, h.wf⟩
theorem RecT.keep {w w' : World} {r : List Int} {A : Option Addr} {c : Nat} (h : RecT w r A c) (hk : KeepU w w') : RecT w' r A c :=
  ⟨fun k z hz => by
    obtain ⟨b, off, cs, fz, hA, hb, hc⟩ := h.at_ k z hz
    have e := hk.2 b cs fz hb
    exact ⟨b, off, cs, fz, hA, e.trans hb, (by unfold World.cell? at hc ⊢; rw [e]; exact hc)⟩, h.wf, h.le, h.cap⟩
theorem RecT.own {base : Nat} {w : World} {v : Value} {l : List Int} (h : OwnW base w v l) : ∃ A c, v = .slice A l.length c ∧ RecT w l A c := by
  obtain ⟨A, c, h1, h2, h3⟩ := h.ws
  refine ⟨A, c, h1, fun k z hz => ?_, h.2, h2.1, h2.2⟩
  obtain ⟨_, b, off, hA, hb, hc⟩ := h3.get hz
  rcases h.1.2 with ⟨e, e0⟩ | ⟨g, cap, cur, e, hg, hh, _⟩
  · have h0 := List.eq_nil_of_length_eq_zero e0
    rw [h0] at hz
    cases hz
  · rw [h1, hA] at e
    injection e with e1 e2 e3
    injection e1 with e1
    injection e1 with e1 e2 e3
    subst e1
    exact ⟨b, off, cur, (0, 0), hA, hh, hc⟩

/-- Calls that one owns. -/
def OwnC (base : Nat) (w : World) (v : Value) (L : List El) : Prop := Own elE 32 base w v L ∧ ∀ e ∈ L, RecT w e.x.r e.A e.c
theorem OwnC.nil (base : Nat) (w : World) : OwnC base w (.slice none 0 0) [] := ⟨Own.nil _ _, (fun e h => by cases h)⟩
theorem OwnC.below {base : Nat} {w w' : World} {v : Value} {L : List El} (h : OwnC base w v L) (hb : Below w.heap.size w w') : OwnC base w' v L := ⟨h.1.below hb (Nat.le_refl _), fun e he => (h.2 e he).keep (KeepU.of hb)⟩
set_option maxRecDepth 100000 in
theorem OwnC.rows {base : Nat} {w : World} {v : Value} {L : List El} (h : OwnC base w v L) : (v = .slice none 0 0 ∧ L = []) ∨ ∃ g cap, v = .slice (some ⟨g, 0, none⟩) L.length cap ∧ base ≤ g ∧ RowsG w g L ∧ L.length ≤ cap ∧ cap ≤ maxLen := by
  rcases h.1.2 with ⟨e, e0⟩ | ⟨g, cap, cur, e, hg, hh, h1, h2, h3, h4⟩
  · exact .inl ⟨e, List.eq_nil_of_length_eq_zero e0⟩
  · have h5 : cur.toList.take (L.length * 7) = flat L := h4
    have e1 : (flat L ++ cur.toList.drop (L.length * 7)).toArray = cur := by
      rw [← h5, List.take_append_drop]
    exact .inr ⟨g, cap, e, hg, ⟨cur.toList.drop (L.length * 7), by rw [e1]; exact hh⟩, h1, h2⟩
theorem RowsG.sl {w : World} {g : Nat} {L : List El} (h : RowsG w g L) (hr : ∀ e ∈ L, RecT w e.x.r e.A e.c) : ClSl w w.heap.size (some ⟨g, 0, none⟩) (L.map (·.x)) := fun k x hx => by
  rw [List.getElem?_map, Option.map_eq_some_iff] at hx
  obtain ⟨e, he, rfl⟩ := hx
  have hc := h.cells he
  have hre := hr e (List.mem_of_getElem? he)
  exact ⟨g, 0, e.A, e.c, rfl, h.lt, by simpa using hc, hre.ws, hre.le, hre.cap⟩

set_option maxRecDepth 100000 in
set_option maxHeartbeats 400000 in
theorem clone_any (A : Option Addr) (c : Nat) (l : List Int) (w : World) (hn : l.length ≤ 1000) (hl : Ws w w.heap.size A l) :
    Calls Try.prog 69 #[.slice A l.length c] w fun e w' => ∃ A' c', e = .returned (.slice A' l.length c') ∧ RecT w' l A' c' ∧ Below w.heap.size w w' := by
  obtain ⟨i0, z, hi, hz, h1, h2, h3, h4⟩ := u32Ty.hi
  cases A with
  | none =>
    have h0 : l = [] := by
      cases l with
      | nil => rfl
      | cons x l => obtain ⟨_, _, h, _⟩ := hl.1 0 x rfl; cases h
    subst h0
    refine (Try.slices_Clone_nil 0 c _).mono ?_
    rintro e w' ⟨rfl, rfl⟩
    exact ⟨none, 0, rfl, ⟨(fun k z h => by simp at h), (fun z h => by cases h), Nat.le_refl _, Nat.zero_le _⟩, Below.refl _ _⟩
  | some a =>
    have hc : ∀ (j : Nat) u, ((ints .u32).all l)[j]? = some u → w.cell? (a.add j) = some u := by
      intro j u hu
      have hall : (ints .u32).all l = l.map (Value.int .u32) := of1_all _ _ l
      rw [hall, List.getElem?_map] at hu
      obtain ⟨z, hz, rfl⟩ := Option.map_eq_some_iff.1 hu
      obtain ⟨_, b', off', hA, _, hcell⟩ := hl.get hz
      injection hA with hA
      subst hA
      rw [Addr.add_lit]
      exact hcell
    have hlw := Lib.hid hl.2
    clear hl
    have hnew := World.ownsRow_lit (base := w.heap.size) (e := 33) (size := 1) w #[] 0 (Nat.le_refl _) (by simp [maxLen]) rfl
    have hlt : ∀ (j : Nat) u, ((ints .u32).all l)[j]? = some u → (w.alloc (.cells #[] 33)).cell? (a.add j) = some u := fun j u hu => by
      have h := hc j u hu
      rw [World.cell?_alloc_lt w _ _ (cell_lt h)]
      exact h
    have hlt' := Lib.hid hlt
    have hnew' := Lib.hid hnew
    have hE := fun w => Lib.run_eql_slice_nil (P := Try.prog) w 30 33 (some a) l.length c 0 0 Try.underlying30
    clear hc hlt hnew
    go_enter Try.func69, Try.ntmps69
    go_wp2_with (first
      | (at_builtin; refine wpList_append_own_at _ rfl _ _ 30 rfl w.heap.size 33 i0 z 1 4 Try.underlying30 hi hz h1 h2 h3 h4 _ 0 [] rfl hnew'.out a l.length c ((ints .u32).all l) rfl (by rw [Enc.all_len]; rfl) hlt'.out ((ints .u32).all_one l) (by unfold maxLen; omega) (by omega) (by simp) ?_; intro v' w1 hown1 hgrow1 _ _)
      | go_in)
    go_ret
    obtain ⟨A', c', h1, h2⟩ := RecT.own (base := w.heap.size) (w := w1) (v := v') (l := l) ⟨by simpa [Own, ints, Enc.of1] using hown1, hlw.out⟩
    exact ⟨A', c', (by rw [h1]; rfl), h2, ((Below.refl _ w).alloc (Nat.le_refl _) _).trans (grown_below hnew'.out hgrow1 (Nat.le_refl _) (by simp))⟩

section
variable {W W' : World} {B N : Nat} {x : Cl} {A : Option Addr} {c : Nat}
theorem ClBox.frozen (h : ClBox W B x A c) (j : Nat) : W.frozen? ⟨B, j, none⟩ = false := by simp [World.frozen?, show W.heap[B]? = _ from h]
theorem row_set (W : World) (B : Nat) (vs : Array Value) (T : TypeId) (j : Nat) (v : Value) (h : W.heap[B]? = some (.cells vs T (0, 0))) : (W.setCell ⟨B, j, none⟩ v).heap[B]? = some (.cells (vs.setIfInBounds j v) T (0, 0)) := by
  rw [setCell_eq_setRow W B j _ _ _ _ h]
  exact setRow_heap _ B _ _ _ _ h
def set7 (W : World) (B : Nat) (v0 v1 v2 v3 v4 v5 v6 : Value) : World := ((((((W.setCell ⟨B, 0, none⟩ v0).setCell ⟨B, 1, none⟩ v1).setCell ⟨B, 2, none⟩ v2).setCell ⟨B, 3, none⟩ v3).setCell ⟨B, 4, none⟩ v4).setCell ⟨B, 5, none⟩ v5).setCell ⟨B, 6, none⟩ v6
theorem ClBox.set7 (h : ClBox W B x A c) (y : Cl) (A' : Option Addr) (c' : Nat) : ClBox (set7 W B (.int .i64 y.p) (.int .i64 y.o) (.int .i64 y.q) (.slice A' y.r.length c') (.int .i64 y.c) (.int .i64 y.b) (.int .i64 y.e)) B y A' c' := by
  have h0 : W.heap[B]? = some (.cells #[.int .i64 x.p, .int .i64 x.o, .int .i64 x.q, .slice A x.r.length c, .int .i64 x.c, .int .i64 x.b, .int .i64 x.e] 32 (0, 0)) := h
  have h1 := row_set W B _ _ 0 (.int .i64 y.p) h0
  have h2 := row_set _ B _ _ 1 (.int .i64 y.o) h1
  have h3 := row_set _ B _ _ 2 (.int .i64 y.q) h2
  have h4 := row_set _ B _ _ 3 (.slice A' y.r.length c') h3
  have h5 := row_set _ B _ _ 4 (.int .i64 y.c) h4
  have h6 := row_set _ B _ _ 5 (.int .i64 y.b) h5
  have h7 := row_set _ B _ _ 6 (.int .i64 y.e) h6
  simpa [ClBox, Proofs.Ytgmmblknaeepbaa.set7] using h7
theorem ClBox.setR (h : ClBox W B x A c) (r : List Int) (A' : Option Addr) (c' : Nat) : ClBox (W.setCell ⟨B, 3, none⟩ (.slice A' r.length c')) B { x with r := r } A' c' := row_set _ _ _ _ 3 _ h
theorem heap_set (W : World) (b j : Nat) (v : Value) (n : Nat) (h : n ≠ b) : (W.setCell ⟨b, j, none⟩ v).heap[n]? = W.heap[n]? := by
  show (W.heap.modify b _)[n]? = _
  rw [Array.getElem?_modify, if_neg (fun e => h e.symm)]
theorem size_set (W : World) (b j : Nat) (v : Value) : (W.setCell ⟨b, j, none⟩ v).heap.size = W.heap.size := by
  show (W.heap.modify b _).size = _
  rw [Array.size_modify]
theorem ClBox.other (h : ClBox W B x A c) (b j : Nat) (v : Value) (hn : B ≠ b) : ClBox (W.setCell ⟨b, j, none⟩ v) B x A c := (heap_set W b j v B hn).trans h
theorem KeepU.set {w : World} {B : Nat} (h : KeepU W w) {y : Cl} {A' : Option Addr} {c' : Nat} (hb : ClBox w B y A' c') (j : Nat) (v : Value) : KeepU W (w.setCell ⟨B, j, none⟩ v) := ⟨by rw [size_set]; exact h.1, fun b cs fz hh => by
  refine (heap_set w B j v b (fun e => ?_)).trans (h.2 b cs fz hh)
  subst e
  have h1 := (h.2 b cs fz hh).trans hh
  rw [show w.heap[b]? = _ from hb] at h1
  injection h1 with h1
  injection h1 with _ h1 _
  exact absurd h1 (by decide)⟩
theorem heap_set7 (W : World) (b : Nat) (v0 v1 v2 v3 v4 v5 v6 : Value) (n : Nat) (h : n ≠ b) : (Proofs.Ytgmmblknaeepbaa.set7 W b v0 v1 v2 v3 v4 v5 v6).heap[n]? = W.heap[n]? := by
  unfold Proofs.Ytgmmblknaeepbaa.set7
  rw [heap_set _ _ _ _ _ h, heap_set _ _ _ _ _ h, heap_set _ _ _ _ _ h, heap_set _ _ _ _ _ h, heap_set _ _ _ _ _ h, heap_set _ _ _ _ _ h, heap_set _ _ _ _ _ h]
theorem size_set7 (W : World) (b : Nat) (v0 v1 v2 v3 v4 v5 v6 : Value) : (Proofs.Ytgmmblknaeepbaa.set7 W b v0 v1 v2 v3 v4 v5 v6).heap.size = W.heap.size := by
  unfold Proofs.Ytgmmblknaeepbaa.set7
  simp only [size_set]
theorem KeepU.set7 {w : World} {B : Nat} (h : KeepU W w) {y : Cl} {A' : Option Addr} {c' : Nat} (hb : ClBox w B y A' c') (v0 v1 v2 v3 v4 v5 v6 : Value) : KeepU W (Proofs.Ytgmmblknaeepbaa.set7 w B v0 v1 v2 v3 v4 v5 v6) := ⟨by rw [size_set7]; exact h.1, fun b cs fz hh => by
  refine (heap_set7 w B v0 v1 v2 v3 v4 v5 v6 b (fun e => ?_)).trans (h.2 b cs fz hh)
  subst e
  have h1 := (h.2 b cs fz hh).trans hh
  rw [show w.heap[b]? = _ from hb] at h1
  injection h1 with h1
  injection h1 with _ h1 _
  exact absurd h1 (by decide)⟩
theorem below_set1 (h : Below N W W') (B j : Nat) (hB : N ≤ B) (v : Value) : Below N W (W'.setCell ⟨B, j, none⟩ v) := h.setCell (p := ⟨B, j, none⟩) hB v
theorem below_set7 (h : Below N W W') (B : Nat) (hB : N ≤ B) (v0 v1 v2 v3 v4 v5 v6 : Value) : Below N W (Proofs.Ytgmmblknaeepbaa.set7 W' B v0 v1 v2 v3 v4 v5 v6) :=
  below_set1 (below_set1 (below_set1 (below_set1 (below_set1 (below_set1 (below_set1 h B 0 hB v0) B 1 hB v1) B 2 hB v2) B 3 hB v3) B 4 hB v4) B 5 hB v5) B 6 hB v6
end
theorem res_own (tmps : Array Value) (w : World) {b : Nat} {e : Cl} {A : Option Addr} {c : Nat} (ha : tmps[2]?.getD undef = .pointer (some ⟨b, 0, none⟩)) (hbox : ClBox w b e A c) :
    (results Try.f60 tmps).run Try.prog w = .ok (clV e A c) w := by
  obtain ⟨h0, h1, h2, h3, h4, h5, h6⟩ := hbox.cells
  simp [results, ha, h0, h1, h2, h3, h4, h5, h6, go_sem, clV]

set_option maxRecDepth 100000 in
set_option maxHeartbeats 4000000 in
theorem own_any (x : Cl) (A : Option Addr) (c : Nat) (w : World) (hn : x.r.length ≤ 1000) (hl : Ws w w.heap.size A x.r) :
    Calls Try.prog 60 #[clV x A c] w fun e w' => ∃ A' c', e = .returned (clV x A' c') ∧ RecT w' x.r A' c' ∧ Below w.heap.size w w' := by
  obtain ⟨W1, hW1⟩ : ∃ W1, (w.alloc (.cells #[.int .i64 x.p, .int .i64 x.o, .int .i64 x.q, .slice A x.r.length c, .int .i64 x.c, .int .i64 x.b, .int .i64 x.e] 32)).alloc (.cells #[.int .i64 0, .int .i64 0, .int .i64 0, .slice none 0 0, .int .i64 0, .int .i64 0, .int .i64 0] 32) = W1 := ⟨_, rfl⟩
  have hb0 := (Below.refl w.heap.size w).alloc (Nat.le_refl _) (.cells #[.int .i64 x.p, .int .i64 x.o, .int .i64 x.q, .slice A x.r.length c, .int .i64 x.c, .int .i64 x.b, .int .i64 x.e] 32)
  have hb1 := hb0.alloc hb0.size (.cells #[.int .i64 0, .int .i64 0, .int .i64 0, .slice none 0 0, .int .i64 0, .int .i64 0, .int .i64 0] 32)
  have hx1 := (ClBox.new w x A c).kept ((Below.refl _ (w.alloc (.cells #[.int .i64 x.p, .int .i64 x.o, .int .i64 x.q, .slice A x.r.length c, .int .i64 x.c, .int .i64 x.b, .int .i64 x.e] 32))).alloc (Nat.le_refl _) (.cells #[.int .i64 0, .int .i64 0, .int .i64 0, .slice none 0 0, .int .i64 0, .int .i64 0, .int .i64 0] 32))
  have hz1 := ClBox.new (w.alloc (.cells #[.int .i64 x.p, .int .i64 x.o, .int .i64 x.q, .slice A x.r.length c, .int .i64 x.c, .int .i64 x.b, .int .i64 x.e] 32)) ⟨0, 0, 0, [], 0, 0, 0⟩ none 0
  have hs1 : (w.alloc (.cells #[.int .i64 x.p, .int .i64 x.o, .int .i64 x.q, .slice A x.r.length c, .int .i64 x.c, .int .i64 x.b, .int .i64 x.e] 32)).heap.size = w.heap.size + 1 := by rw [World.size_alloc]
  rw [hs1] at hz1
  simp only [List.length_nil] at hz1
  rw [hW1] at hx1 hz1 hb1
  have hcl := clone_any A c x.r W1 hn (hl.below hb1 hb1.size)
  obtain ⟨n, hnn⟩ : ∃ n, w.heap.size = n := ⟨_, rfl⟩
  rw [hnn] at hx1 hz1 hb1 ⊢
  have HCL := Lib.hid hcl
  have HZ := Lib.hid hz1
  obtain ⟨d0, d1, d2, d3, d4, d5, d6⟩ := hx1.cells
  clear hcl hl hb0 hs1 hz1
  unfold clV
  go_enter Try.func60, Try.ntmps60
  go_wp2_with fail
  refine HCL.out.mono ?_
  rintro e w2 ⟨A', c', rfl, hrec, hb2⟩
  have hx2 := hx1.kept hb2
  have hz2 := HZ.out.kept hb2
  have hsz : n + 1 < W1.heap.size := HZ.out.lt
  have hB2 := hb1.trans (hb2.mono (by have := hb1.size; omega))
  have hf3 := hx2.frozen 3
  have df0 := hz2.frozen 0
  have df1 := hz2.frozen 1
  have df2 := hz2.frozen 2
  have df3 := hz2.frozen 3
  have df4 := hz2.frozen 4
  have df5 := hz2.frozen 5
  have df6 := hz2.frozen 6
  obtain ⟨z0, z1, z2, z3, z4, z5, z6⟩ := hz2.cells
  simp only [List.length_nil] at z0 z1 z2 z3 z4 z5 z6
  obtain ⟨c0, c1, c2, c3, c4, c5, c6⟩ := hx2.cells
  have HX3 := Lib.hid (hx2.setR x.r A' c')
  have HZ3 := Lib.hid (hz2.other n 3 (.slice A' x.r.length c') (by omega))
  have HB3 := Lib.hid (hB2.setCell (p := ⟨n, 3, none⟩) (Nat.le_refl _) (.slice A' x.r.length c'))
  have HR3 := Lib.hid (hrec.keep ((KeepU.of (Below.refl _ w2)).set hx2 3 (.slice A' x.r.length c')))
  clear hx2 hz2 hsz hB2 hb2 hrec hx1 hb1 HZ HCL d0 d1 d2 d3 d4 d5 d6
  go_wp2_with fail
  have hfin := HZ3.out.set7 x A' c'
  refine bodyPost_ret (res_own _ _ rfl hfin) rfl ?_
  exact ⟨A', c', rfl, HR3.out.keep ((KeepU.of (Below.refl _ _)).set7 HZ3.out _ _ _ _ _ _ _), below_set7 HB3.out (n + 1) (by omega) _ _ _ _ _ _ _⟩

end Go.Proofs.Ytgmmblknaeepbaa

namespace Go.Proofs.Ytgmmblknaeepbaa
open Go.RowKit

theorem wpList_app1g {P : Program} {w0 : World} {cs : Array Value} {ops : Array Oper} {rest : List Oper} {o : Oper} {a : Act} {Q : Exit → Act → World → Prop} (hgd : o.guard = none) (s x : Operand) (t : TypeId)
    (ho : o.op = .call { callee := .builtin .append, args := #[s, x], argTypes := #[t, t] }) {e : TypeId} {size bytes : Nat} (hT : ElemTy P t e size bytes) (base : Nat)
    {v : Value} {n : Nat} {xs : List Value} (hown : w0.ownsRow base e size v n xs) (hs : a.eval s = v) (hx : a.eval x = .slice (some ⟨w0.heap.size, 0, none⟩) 1 1) (hl : cs.size = size) (h1 : cs.toList.all (fun u => u.oneCell') = true)
    (h63 : n + 1 ≤ maxLen) (hbytes : (n + 1) * bytes ≤ 140737488355328) (hbase : base ≤ w0.heap.size)
    (h : ∀ v' w', w'.ownsRow base e size v' (n + 1) (xs ++ cs.toList) → Below base w0 w' → (w0.alloc (.cells cs e)).grownBy w' v.ownBlock → wpList P ops Q rest (a.put o.dst v') w') : wpList P ops Q (o :: rest) a (w0.alloc (.cells cs e)) := by
  obtain ⟨ht, i, z, hi, hz, hsize, hby, hzs, hsz⟩ := hT
  refine wpList_append_own_at _ hgd s x t ho base e i z size bytes ht hi hz hsize hby hzs hsz v n xs hs (hown.alloc _) ⟨w0.heap.size, 0, none⟩ 1 1 cs.toList hx (by simpa using hl) (cells_new' _ _ _ _ rfl) (fun u hu => List.all_eq_true.1 h1 u hu) h63 hbytes (by simp; omega) ?_
  intro v' w' h2 h3 h4 _
  exact h v' w' h2 (((Below.refl base w0).alloc hbase _).trans (grown_below (hown.alloc _) h3 (Nat.le_refl _) (by simp; omega))) h3
theorem KeepU.app {base n : Nat} {w0 w' : World} {v : Value} {xs : List Value} {o : Obj} (h : w0.ownsRow base 32 7 v n xs) (hg : (w0.alloc o).grownBy w' v.ownBlock) : KeepU w0 w' := by
  have hs := hg.size
  rw [World.size_alloc] at hs
  refine ⟨by omega, fun b cs fz hb => ?_⟩
  have hlt := (Array.getElem?_eq_some_iff.1 hb).1
  rw [hg.block b (by rw [World.size_alloc]; omega) (fun e => ?_), ((Below.refl w0.heap.size w0).alloc (Nat.le_refl _) o).block b hlt]
  rcases h.2 with ⟨e1, _⟩ | ⟨g, cap, cur, e1, _, hh, _⟩
  · rw [e1] at e; cases e
  · rw [e1] at e
    injection e with e
    have e : b = g := e
    subst e
    rw [hh] at hb
    injection hb with hb
    injection hb with _ hb _
    exact absurd hb (by decide)

/-- What pick has at hand after some calls. -/
structure PickAt (base : Nat) (w : World) (v : Value) (xs : List Cl) (L : List El) : Prop where
  own : OwnC base w v L
  eq : L.map (·.x) = xs
  tags : ∀ (k : Nat) (e : El), L[k]? = some e → e.t = k
theorem PickAt.nil (base : Nat) (w : World) : PickAt base w (.slice none 0 0) [] [] := ⟨OwnC.nil _ _, rfl, fun k e h => by simp at h⟩
theorem PickAt.below {base : Nat} {w w' : World} {v : Value} {xs : List Cl} {L : List El} (h : PickAt base w v xs L) (hb : Below w.heap.size w w') : PickAt base w' v xs L := ⟨h.own.below hb, h.eq, h.tags⟩
theorem PickAt.len {base : Nat} {w : World} {v : Value} {xs : List Cl} {L : List El} (h : PickAt base w v xs L) : L.length = xs.length := by rw [← h.eq, List.length_map]
theorem PickAt.snoc {base : Nat} {w0 w1 : World} {v v' : Value} {xs : List Cl} {L : List El} {x : Cl} {A : Option Addr} {c : Nat} {o : Obj} (h : PickAt base w0 v xs L) (hr : RecT w0 x.r A c)
    (h2 : w1.ownsRow base 32 7 v' (L.length + 1) (elE.all L ++ El.cells ⟨x, A, c, L.length⟩)) (hg : (w0.alloc o).grownBy w1 v.ownBlock) : PickAt base w1 v' (xs ++ [x]) (L ++ [⟨x, A, c, L.length⟩]) := by
  have hk : KeepU w0 w1 := KeepU.app h.own.1 hg
  refine ⟨⟨Own.app (E := elE) (x := ⟨x, A, c, L.length⟩) h2 rfl, fun e he => ?_⟩, by rw [List.map_append, h.eq]; rfl, fun k e he => ?_⟩
  · rcases List.mem_append.1 he with he | he
    · exact (h.own.2 e he).keep hk
    · rw [List.mem_singleton.1 he]; exact hr.keep hk
  · by_cases hk : k < L.length
    · rw [List.getElem?_append_left hk] at he
      exact h.tags k e he
    · have hlt := get_lt he
      rw [List.length_append, List.length_singleton] at hlt
      have : k = L.length := by omega
      subst this
      rw [List.getElem?_append_right (Nat.le_refl _), Nat.sub_self] at he
      injection he with he
      rw [← he]
theorem filter_yes (p : Cl → Bool) {l : List Cl} {k : Nat} {x : Cl} (h : l[k]? = some x) (hp : p x = true) : (l.take (k + 1)).filter p = (l.take k).filter p ++ [x] := by
  rw [take_snoc h, List.filter_append]
  simp [hp]
theorem filter_no (p : Cl → Bool) {l : List Cl} {k : Nat} {x : Cl} (h : l[k]? = some x) (hp : p x = false) : (l.take (k + 1)).filter p = (l.take k).filter p := by
  rw [take_snoc h, List.filter_append]
  simp [hp]

/-! ### the tests -/
theorem all_any (x : Cl) (A : Option Addr) (c : Nat) (w : World) : Calls Try.prog 41 #[clV x A c] w fun e w' => e = .returned (.bool true) ∧ Below w.heap.size w w' := by
  unfold clV
  go_enter Try.func41, Try.ntmps41
  go_wp2_with fail
  go_ret
  exact ⟨rfl, (Below.refl _ w).alloc (Nat.le_refl _) _⟩
set_option maxRecDepth 100000 in
set_option maxHeartbeats 4000000 in
theorem pickAll_any (A : Option Addr) (c : Nat) (l : List Cl) (w : World) (hn : l.length ≤ 60) (hr : ∀ x ∈ l, x.r.length ≤ 100) (hl : ClSl w w.heap.size A l) :
    Calls Try.prog 40 #[.slice A l.length c, .func (.func 41) #[] #[]] w fun e w' => ∃ v L, e = .returned v ∧ PickAt w.heap.size w' v (l.filter (fun _ => true)) L ∧ Below w.heap.size w w' := by
  go_enter Try.func40, Try.ntmps40
  go_wp2_with fail
  go_loopw [5, 10] (fun v j wr => ∃ (k : Nat) (L : List El), k ≤ l.length ∧ j = .int .i64 k ∧ PickAt w.heap.size wr v ((l.take k).filter (fun _ => true)) L ∧ Below w.heap.size w wr) (fun _ j _ => l.length - (intOf j).toNat)
  case atStart => exact ⟨0, [], Nat.zero_le _, rfl, PickAt.nil _ _, Below.refl _ _⟩
  case round =>
    obtain ⟨k, L, hk, rfl, hpk, hb⟩ := hrel
    by_cases hlt : k < l.length
    · obtain ⟨x, hx⟩ := get_some hlt
      obtain ⟨b', off, Ax, cx, rfl, hlb, ⟨h0, h1, h2, h3, h4, h5, h6⟩, hws, hc1, hc2⟩ := (hl.below hb (Nat.le_refl _)) k x hx
      have hxr := hr x (List.mem_of_getElem? hx)
      have hLL := hpk.len
      have hL60 : L.length ≤ k := by
        rw [hLL]
        refine Nat.le_trans (List.length_filter_le _ _) ?_
        rw [List.length_take]; omega
      have hsz := hb.size
      obtain ⟨W1, hW1⟩ : ∃ W1, wr.alloc (.cells #[.int .i64 x.p, .int .i64 x.o, .int .i64 x.q, .slice Ax x.r.length cx, .int .i64 x.c, .int .i64 x.b, .int .i64 x.e] 32) = W1 := ⟨_, rfl⟩
      have hbx := ClBox.new wr x Ax cx
      have hbw := (Below.refl _ wr).alloc (Nat.le_refl _) (.cells #[.int .i64 x.p, .int .i64 x.o, .int .i64 x.q, .slice Ax x.r.length cx, .int .i64 x.c, .int .i64 x.b, .int .i64 x.e] 32)
      rw [hW1] at hbx hbw
      have hclo := all_any x Ax cx W1
      unfold clV at hclo
      have hpkW := hpk.below hbw
      have hwsW := hws.below (hbw.mono hsz) (Nat.le_trans hsz hbw.size)
      have hbW := hb.trans (hbw.mono hsz)
      rcases hphi : ((fun _ => true) x) with _ | _
      · cases hphi
      · have hfs := filter_yes (fun _ => true) hx hphi
        skip
        have HCLO := Lib.hid hclo
        have HFS := Lib.hid hfs
        have HPK := Lib.hid hpkW
        have HB := Lib.hid hbW
        have HWS := Lib.hid hwsW
        have HBX := Lib.hid hbx
        obtain ⟨c0, c1, c2, c3, c4, c5, c6⟩ := hbx.cells
        clear hx hfs hpk hclo hLL hws hbw hbx hb hpkW hwsW hbW hphi
        go_wp2_with fail
        refine HCLO.out.mono ?_
        rintro e W2 ⟨rfl, hb2⟩
        have hbx2 := HBX.out.kept hb2
        have HPK2 := Lib.hid (HPK.out.below hb2)
        have HB2 := Lib.hid (HB.out.trans (hb2.mono HB.out.size))
        have hown := own_any x Ax cx W2 (by omega) (HWS.out.below hb2 hb2.size)
        unfold clV at hown
        have HOWN := Lib.hid hown
        clear c0 c1 c2 c3 c4 c5 c6
        obtain ⟨c0, c1, c2, c3, c4, c5, c6⟩ := hbx2.cells
        clear hbx2 hb2 hown HCLO HPK HB HWS HBX
        go_wp2_with fail
        refine HOWN.out.mono ?_
        rintro e W3 ⟨A', c', rfl, hrec, hb3⟩
        have HPK3 := Lib.hid (HPK2.out.below hb3)
        have HB3 := Lib.hid (HB2.out.trans (hb3.mono HB2.out.size))
        have HREC := Lib.hid hrec
        have hbase := HB3.out.size
        clear hrec hb3 HPK2 HB2 HOWN c0 c1 c2 c3 c4 c5 c6
        go_wp2_with (first
          | (at_builtin; refine wpList_app1g rfl _ _ 22 rfl clTy w.heap.size HPK3.out.own.1 rfl rfl rfl rfl (by unfold maxLen; omega) (by omega) hbase ?_; intro v' W4 hown4 hbel4 hgr4)
          | fail)
        go_roundw
        case rel => exact ⟨k + 1, L ++ [⟨x, A', c', L.length⟩], by omega, by go_num, by rw [HFS.out]; exact HPK3.out.snoc HREC.out hown4 hgr4, HB3.out.trans hbel4⟩
        case measure => simp [intOf]; omega
    · have ht := take_all hlt
      rw [ht] at hpk
      go_wp2_with fail
      go_ret
      exact ⟨_, L, rfl, hpk, hb⟩

end Go.Proofs.Ytgmmblknaeepbaa

namespace Go.Proofs.Ytgmmblknaeepbaa
open Go.RowKit

/-- A call as it lies in a slice handed in. -/
def ElAt (w : World) (B : Nat) (A : Option Addr) (k : Nat) (e : El) : Prop := e.t = k ∧ ∃ b off, A = some ⟨b, off, none⟩ ∧ b < B ∧
  (w.cell? ⟨b, off + k * 7, none⟩ = some (.int .i64 e.x.p) ∧ w.cell? ⟨b, off + k * 7 + 1, none⟩ = some (.int .i64 e.x.o) ∧ w.cell? ⟨b, off + k * 7 + 2, none⟩ = some (.int .i64 e.x.q) ∧ w.cell? ⟨b, off + k * 7 + 3, none⟩ = some (.slice e.A e.x.r.length e.c) ∧
    w.cell? ⟨b, off + k * 7 + 4, none⟩ = some (.int .i64 e.x.c) ∧ w.cell? ⟨b, off + k * 7 + 5, none⟩ = some (.int .i64 e.x.b) ∧ w.cell? ⟨b, off + k * 7 + 6, none⟩ = some (.int .i64 e.x.e)) ∧ Ws w B e.A e.x.r ∧ e.x.r.length ≤ e.c ∧ e.c ≤ maxLen
theorem ElAt.below {w w' : World} {B B' : Nat} {A : Option Addr} {k : Nat} {e : El} (h : ElAt w B A k e) (hb : Below B w w') (hB : B ≤ B') : ElAt w' B' A k e := by
  obtain ⟨ht, b, off, hA, hlt, ⟨h0, h1, h2, h3, h4, h5, h6⟩, hr, hc⟩ := h
  have hk : ∀ {i : Nat} {u : Value}, w.cell? ⟨b, i, none⟩ = some u → w'.cell? ⟨b, i, none⟩ = some u := fun {i u} hc => (hb.cell (p := ⟨b, i, none⟩) hlt).trans hc
  exact ⟨ht, b, off, hA, by omega, ⟨hk h0, hk h1, hk h2, hk h3, hk h4, hk h5, hk h6⟩, hr.below hb hB, hc⟩
def ElSl (w : World) (B : Nat) (A : Option Addr) (L : List El) : Prop := ∀ (k : Nat) (e : El), L[k]? = some e → ElAt w B A k e
theorem ClSl.els {w : World} {B : Nat} {A : Option Addr} {l : List Cl} (h : ClSl w B A l) : ∃ L : List El, L.map (·.x) = l ∧ ElSl w B A L := by
  have key : ∀ n, n ≤ l.length → ∃ L : List El, L.map (·.x) = l.take n ∧ ElSl w B A L := by
    intro n
    induction n with
    | zero => exact fun _ => ⟨[], by simp, fun k e h => by simp at h⟩
    | succ n ih =>
      intro hn
      obtain ⟨L, h1, h2⟩ := ih (by omega)
      obtain ⟨x, hx⟩ := get_some (show n < l.length by omega)
      obtain ⟨b, off, Ar, c, hA, hb, hcs, hws, hc1, hc2⟩ := h n x hx
      have hl : L.length = n := by
        have := congrArg List.length h1
        rw [List.length_map, List.length_take] at this
        omega
      refine ⟨L ++ [⟨x, Ar, c, n⟩], by rw [take_snoc hx, List.map_append, h1]; rfl, fun k e he => ?_⟩
      by_cases hk : k < L.length
      · rw [List.getElem?_append_left hk] at he
        exact h2 k e he
      · have hlt := get_lt he
        rw [List.length_append, List.length_singleton] at hlt
        have hkn : k = n := by omega
        subst hkn
        rw [List.getElem?_append_right (by omega), hl, Nat.sub_self] at he
        injection he with he
        subst he
        exact ⟨rfl, b, off, hA, hb, hcs, hws, hc1, hc2⟩
  obtain ⟨L, h1, h2⟩ := key l.length (Nat.le_refl _)
  exact ⟨L, by rw [h1, List.take_length], h2⟩
theorem ElSl.tag {w : World} {B : Nat} {A : Option Addr} {L : List El} (h : ElSl w B A L) {k : Nat} {e : El} (he : L[k]? = some e) : e.t = k := (h k e he).1

/-- Insertion keeps the order. -/
theorem srt_insert {M : List El} {a : Nat} {x : El} (hM : Srt ltE M) (ha : a ≤ M.length) (h1 : a = 0 ∨ ∃ e, 0 < a ∧ M[a - 1]? = some e ∧ ltE e x) (h2 : ∀ e ∈ M.drop a, ltE x e) : Srt ltE (M.take a ++ [x] ++ M.drop a) := by
  have hM' : Srt ltE (M.take a ++ M.drop a) := by rw [List.take_append_drop]; exact hM
  have hlow : ∀ e ∈ M.take a, ltE e x := by
    rcases h1 with rfl | ⟨e, h0, he, hl⟩
    · intro e he; rw [List.take_zero] at he; cases he
    · intro f hf
      have := take_snoc he
      rw [show a - 1 + 1 = a by omega] at this
      rw [this] at hf hM'
      rcases List.mem_append.1 hf with hf | hf
      · exact ltE_tr _ _ _ (hM'.left.across f hf e (by simp)) hl
      · rw [List.mem_singleton.1 hf]; exact hl
  rw [List.append_assoc]
  exact Srt.app hM'.left (List.pairwise_cons.2 ⟨h2, hM'.right⟩) (fun f hf g hg => by
    rcases List.mem_append.1 hg with hg | hg
    · rw [List.mem_singleton.1 hg]; exact hlow f hf
    · exact hM'.across f hf g hg)

/-! ### appends -/
/-- What a spread slice holds: rows somewhere, or nothing. -/
def NewsAt (w : World) (size : Nat) (x : Value) (m : Nat) (news : List Value) : Prop := news.length = m * size ∧ (∀ u ∈ news, u.oneCell' = true) ∧ ((∃ ad c, x = .slice (some ad) m c ∧ ∀ (j : Nat) u, news[j]? = some u → w.cell? (ad.add j) = some u) ∨ (m = 0 ∧ x = .slice none 0 0))
section
variable {P : Program} {w : World}
theorem run_append_zero (t ty e : TypeId) (i : TypeInfo) (base : Option Addr) (n cap : Nat) (ht : P.underlying t = some (.slice e)) (hi : P.info? e = some i) (h : n ≤ cap) :
    (Builtin.append_ #[t, t] ty #[.slice base n cap, .slice none 0 0]).run P w = .ok (.slice base n cap) w := by
  cases base with
  | none => simp [Builtin.append_, run_underlying ht, sizeOf, typeInfo, hi, Builtin.lenOf, Builtin.firstCells, h]
  | some a => simp [Builtin.append_, run_underlying ht, sizeOf, typeInfo, hi, Builtin.lenOf, Builtin.firstCells, h, storeCells]
theorem run_app_any (base : Nat) (t ty : TypeId) {e : TypeId} {size bytes : Nat} (hT : ElemTy P t e size bytes) (v : Value) (n : Nat) (xs : List Value) (hown : w.ownsRow base e size v n xs)
    (x : Value) (m : Nat) (news : List Value) (hx : NewsAt w size x m news) (h63 : n + m ≤ maxLen) (hbytes : (n + m) * bytes ≤ 140737488355328) (hbase : base ≤ w.heap.size) :
    ∃ v' w', (Builtin.append_ #[t, t] ty #[v, x]).run P w = .ok v' w' ∧ w'.ownsRow base e size v' (n + m) (xs ++ news) ∧ w.grownBy w' v.ownBlock ∧
      (v' = .slice none 0 0 ↔ v = .slice none 0 0 ∧ m = 0) ∧ (v'.ownBlock = v.ownBlock ∨ v'.ownBlock = some w.heap.size) := by
  obtain ⟨ht, i, z, hi, hz, hsize, hby, hzs, hsz⟩ := hT
  obtain ⟨hl, h1, ⟨ad, c, rfl, hc⟩ | ⟨rfl, rfl⟩⟩ := hx
  · exact run_append_own_at w base t ty e i z size bytes ht hi hz hsize hby hzs hsz v n xs hown ad m c news hl hc h1 h63 hbytes hbase
  · have h0 : news = [] := List.eq_nil_of_length_eq_zero (by simpa using hl)
    subst h0
    rw [List.append_nil]
    refine ⟨v, w, ?_, hown, ⟨rfl, rfl, rfl, Nat.le_refl _, fun _ _ _ => rfl⟩, by simp, .inl rfl⟩
    rcases hown.2 with ⟨rfl, rfl⟩ | ⟨g, cap, cur, rfl, _, _, hnc, _⟩
    · exact run_append_zero t ty e i none 0 0 ht hi (Nat.le_refl _)
    · exact run_append_zero t ty e i _ n cap ht hi hnc
theorem wpList_app_any {ops : Array Oper} {rest : List Oper} {o : Oper} {a : Act} {Q : Exit → Act → World → Prop} (hgd : o.guard = none) (s x : Operand) (t : TypeId)
    (ho : o.op = .call { callee := .builtin .append, args := #[s, x], argTypes := #[t, t] }) {e : TypeId} {size bytes : Nat} (hT : ElemTy P t e size bytes) (base : Nat)
    (v : Value) (n : Nat) (xs : List Value) (hs : a.eval s = v) (hown : w.ownsRow base e size v n xs) (m : Nat) (news : List Value) (hx : NewsAt w size (a.eval x) m news)
    (h63 : n + m ≤ maxLen) (hbytes : (n + m) * bytes ≤ 140737488355328) (hbase : base ≤ w.heap.size)
    (h : ∀ v' w', w'.ownsRow base e size v' (n + m) (xs ++ news) → w.grownBy w' v.ownBlock → (v' = .slice none 0 0 ↔ v = .slice none 0 0 ∧ m = 0) → (v'.ownBlock = v.ownBlock ∨ v'.ownBlock = some w.heap.size) → wpList P ops Q rest (a.put o.dst v') w') :
    wpList P ops Q (o :: rest) a w := by
  refine wpList_plain hgd fun K hK => ?_
  obtain ⟨v', w', hr, h2, h3, h4, h5⟩ := run_app_any (P := P) base t o.type hT v n xs hown _ m news hx h63 hbytes hbase
  unfold Oper.wp execOp
  simp only [ho, resolve, invoke, builtin, Sem.run_bind, Sem.run_pure, Result.andThen_ok, List.map_toArray, List.map_cons, List.map_nil, hs, hr]
  exact hK _ _ (h v' w' h2 h3 h4 h5)
/-- The same in a drawn region. -/
theorem step_append_any {ops : Array Oper} {o : Oper} {a : Act} {K : Act → World → Prop} {Q : Exit → Act → World → Prop} {E : Prop} (hgd : o.guard = none) (s x : Operand) (t : TypeId)
    (ho : o.op = .call { callee := .builtin .append, args := #[s, x], argTypes := #[t, t] }) {e : TypeId} {size bytes : Nat} (hT : ElemTy P t e size bytes) (base : Nat)
    (v : Value) (n : Nat) (xs : List Value) (hs : a.eval s = v) (hown : w.ownsRow base e size v n xs) (m : Nat) (news : List Value) (xv : Value) (hxv : a.eval x = xv) (hx : NewsAt w size xv m news)
    (h63 : n + m ≤ maxLen) (hbytes : (n + m) * bytes ≤ 140737488355328) (hbase : base ≤ w.heap.size)
    (h : ∀ v' w', w'.ownsRow base e size v' (n + m) (xs ++ news) → w.grownBy w' v.ownBlock → (v' = .slice none 0 0 ↔ v = .slice none 0 0 ∧ m = 0) → (v'.ownBlock = v.ownBlock ∨ v'.ownBlock = some w.heap.size) → K (a.put o.dst v') w') :
    if Region.wanted o (yielded ops a.tmps) = true then Oper.wp P o a w K Q else E := by
  have hw : Region.wanted o (yielded ops a.tmps) = true := by simp [Region.wanted, hgd]
  rw [if_pos hw]
  subst hxv
  obtain ⟨v', w', hr, h2, h3, h4, h5⟩ := run_app_any (P := P) base t o.type hT v n xs hown _ m news hx h63 hbytes hbase
  unfold Oper.wp execOp
  simp only [ho, resolve, invoke, builtin, Sem.run_bind, Sem.run_pure, Result.andThen_ok, List.map_toArray, List.map_cons, List.map_nil, hs, hr]
  exact h v' w' h2 h3 h4 h5
end
theorem NewsAt.new (w : World) (cs : Array Value) (t : TypeId) (size : Nat) (hl : cs.size = size) (h1 : cs.toList.all (fun u => u.oneCell') = true) : NewsAt (w.alloc (.cells cs t)) size (.slice (some ⟨w.heap.size, 0, none⟩) 1 1) 1 cs.toList :=
  ⟨by simpa using hl, fun u hu => List.all_eq_true.1 h1 u hu, .inl ⟨_, 1, rfl, cells_new' _ _ _ _ rfl⟩⟩

/-! ### parts of what one owns -/
/-- The first ones. -/
theorem Own.head {base : Nat} {w : World} {g n cap : Nat} {M : List El} (h : Own elE 32 base w (.slice (some ⟨g, 0, none⟩) n cap) M) {a : Nat} (ha : a ≤ M.length) : Own elE 32 base w (.slice (some ⟨g, 0, none⟩) a cap) (M.take a) := by
  have hla : (M.take a).length = a := by rw [List.length_take]; omega
  refine ⟨elE.all_len _, .inr ?_⟩
  rcases h.2 with ⟨e, _⟩ | ⟨g', cap', cur, e, hg, hh, h1, h2, h3, h4⟩
  · cases e
  · injection e with e1 e2 e3
    injection e1 with e1
    injection e1 with e1 _ _
    subst e1 e3
    refine ⟨g, cap, cur, by rw [hla], hg, hh, by omega, h2, h3, ?_⟩
    have h5 : cur.toList.take (M.length * 7) = flat M := h4
    show cur.toList.take ((M.take a).length * 7) = flat (M.take a)
    have h6 : flat M = flat (M.take a) ++ flat (M.drop a) := by
      show M.flatMap El.cells = _
      conv => lhs; rw [← List.take_append_drop a M]
      rw [List.flatMap_append]
      rfl
    have h7 : cur.toList.take ((M.take a).length * 7) = (cur.toList.take (M.length * 7)).take ((M.take a).length * 7) := by
      rw [List.take_take, Nat.min_eq_left (by rw [hla]; omega)]
    rw [h7, h5, h6]
    have h8 := flat_len (M.take a)
    rw [← h8]
    exact List.take_left
/-- The rows from a place on, spread. -/
theorem Own.tailNews {base : Nat} {w : World} {v : Value} {M : List El} (h : Own elE 32 base w v M) {a : Nat} (ha : a ≤ M.length) {A : Option Addr} {c : Nat} (hv : v = .slice A M.length c) :
    NewsAt w 7 (.slice (if c = a then A else A.map (·.add (a * 7))) (M.length - a) (c - a)) (M.length - a) (elE.all (M.drop a)) := by
  refine ⟨by rw [elE.all_len, List.length_drop]; rfl, elE.all_one _, ?_⟩
  rcases h.2 with ⟨e, e0⟩ | ⟨g, cap, cur, e, hg, hh, h1, h2, h3, h4⟩
  · rw [hv] at e
    injection e with e1 e2 e3
    subst e1 e3
    right
    refine ⟨by omega, ?_⟩
    rw [e0]
    simp
  · rw [hv] at e
    injection e with e1 e2 e3
    subst e1 e3
    left
    by_cases hca : c = a
    · rw [if_pos hca]
      refine ⟨_, _, rfl, fun j u hu => ?_⟩
      have h0 : M.drop a = [] := List.drop_eq_nil_of_le (by omega)
      rw [h0] at hu
      simp [Enc.all] at hu
    · rw [if_neg hca]
      refine ⟨_, _, rfl, fun j u hu => ?_⟩
      show w.cell? (((⟨g, 0, none⟩ : Addr).add (a * 7)).add j) = some u
      rw [Addr.add_lit, Addr.add_lit]
      have hj := get_lt hu
      rw [elE.all_len, List.length_drop] at hj
      have h5 : cur.toList.take (M.length * 7) = flat M := h4
      have h6 : flat M = flat (M.take a) ++ flat (M.drop a) := by
        show M.flatMap El.cells = _
        conv => lhs; rw [← List.take_append_drop a M]
        rw [List.flatMap_append]
        rfl
      have h7 : (flat M)[a * 7 + j]? = some u := by
        rw [h6, List.getElem?_append_right (by rw [flat_len, List.length_take]; omega), flat_len, List.length_take, Nat.min_eq_left ha, Nat.add_sub_cancel_left]
        exact hu
      rw [← h5] at h7
      have h8 : cur[a * 7 + j]? = some u := by
        have hlt : a * 7 + j < M.length * 7 := by
          have := get_lt h7
          rw [List.length_take] at this
          omega
        rw [List.getElem?_take_of_lt hlt, Array.getElem?_toList] at h7
        exact h7
      rw [cell_of_row _ _ _ cur _ (0, 0) hh]
      simpa using h8

end Go.Proofs.Ytgmmblknaeepbaa

namespace Go.Proofs.Ytgmmblknaeepbaa
open Go.RowKit
attribute [local go_sem] Oper.semAt_some

theorem own_rows {base : Nat} {w : World} {v : Value} {L : List El} (h : Own elE 32 base w v L) : (v = .slice none 0 0 ∧ L = []) ∨ ∃ g cap, v = .slice (some ⟨g, 0, none⟩) L.length cap ∧ base ≤ g ∧ RowsG w g L ∧ L.length ≤ cap ∧ cap ≤ maxLen := by
  rcases h.2 with ⟨e, e0⟩ | ⟨g, cap, cur, e, hg, hh, h1, h2, h3, h4⟩
  · exact .inl ⟨e, List.eq_nil_of_length_eq_zero e0⟩
  · have h5 : cur.toList.take (L.length * 7) = flat L := h4
    have e1 : (flat L ++ cur.toList.drop (L.length * 7)).toArray = cur := by
      rw [← h5, List.take_append_drop]
    exact .inr ⟨g, cap, e, hg, ⟨cur.toList.drop (L.length * 7), by rw [e1]; exact hh⟩, h1, h2⟩
theorem drop_cons {M : List El} {p : Nat} {f : El} (h : M[p]? = some f) : M.drop p = f :: M.drop (p + 1) := by
  have hk := get_lt h
  rw [List.drop_eq_getElem_cons hk]
  rw [List.getElem?_eq_getElem hk] at h
  rw [Option.some.inj h]

theorem mem_drop {M : List El} {p : Nat} {e f : El} (h : M[p]? = some f) (h1 : ltE e f) (h2 : ∀ u ∈ M.drop (p + 1), ltE e u) : ∀ u ∈ M.drop p, ltE e u := fun u hu => by
  rw [drop_cons h] at hu
  rcases List.mem_cons.1 hu with rfl | hu
  · exact h1
  · exact h2 u hu
theorem newsAt_of {W3 W : World} {r a cr : Nat} {cur : Array Value} {M : List El} (hr2 : W3.heap[r]? = some (.cells cur 32 (0, 0))) (hr3 : cur.toList.take ((M.length - a) * 7) = elE.all (M.drop a)) (hW : W.heap[r]? = W3.heap[r]?) (ha : a ≤ M.length) :
    NewsAt W 7 (.slice (some ⟨r, 0, none⟩) (M.length - a) cr) (M.length - a) (elE.all (M.drop a)) := by
  refine ⟨by rw [elE.all_len, List.length_drop]; rfl, elE.all_one _, .inl ⟨_, _, rfl, fun j u hu => ?_⟩⟩
  rw [Addr.add_lit, cell_of_row _ _ _ cur _ (0, 0) (hW.trans hr2)]
  rw [← hr3] at hu
  have hlt := get_lt hu
  rw [List.length_take] at hlt
  rw [List.getElem?_take_of_lt (by omega), Array.getElem?_toList] at hu
  simpa using hu
theorem Own.tailAny {base : Nat} {w : World} {g cap a : Nat} {M : List El} (h : Own elE 32 base w (.slice (some ⟨g, 0, none⟩) M.length cap) M) (ha : a ≤ M.length) :
    NewsAt w 7 (.slice (some ⟨g, a * 7, none⟩) (M.length - a) (cap - a)) (M.length - a) (elE.all (M.drop a)) := by
  by_cases hc : cap = a
  · have hl : M.length = a := by
      rcases h.2 with ⟨e, _⟩ | ⟨_, _, _, e, _, _, h1, _⟩
      · cases e
      · injection e with _ _ e3
        omega
    have h0 : M.drop a = [] := List.drop_eq_nil_of_le (by omega)
    rw [h0]
    refine ⟨by simp [Enc.all, hl], (fun u hu => by simp [Enc.all] at hu), .inl ⟨_, _, rfl, fun j u hu => by simp [Enc.all] at hu⟩⟩
  · have := h.tailNews ha rfl
    rw [if_neg hc] at this
    have e : (some (⟨g, 0, none⟩ : Addr)).map (·.add (a * 7)) = some ⟨g, a * 7, none⟩ := by
      show some ((⟨g, 0, none⟩ : Addr).add (a * 7)) = _
      rw [Addr.add_lit, Nat.zero_add]
    rw [e] at this
    exact this
theorem Own.tailEnd {base : Nat} {w : World} {g a : Nat} {M : List El} (h : Own elE 32 base w (.slice (some ⟨g, 0, none⟩) M.length a) M) (ha : a ≤ M.length) (A' : Addr) (c' : Nat) :
    NewsAt w 7 (.slice (some A') (M.length - a) c') (M.length - a) (elE.all (M.drop a)) := by
  have hl : M.length = a := by
    rcases h.2 with ⟨e, _⟩ | ⟨_, _, _, e, _, _, h1, _⟩
    · cases e
    · injection e with _ _ e3
      omega
  have h0 : M.drop a = [] := List.drop_eq_nil_of_le (by omega)
  rw [h0]
  exact ⟨by simp [Enc.all, hl], (fun u hu => by simp [Enc.all] at hu), .inl ⟨_, _, rfl, fun j u hu => by simp [Enc.all] at hu⟩⟩
theorem Own.headRow {base : Nat} {w : World} {g n cap : Nat} {M : List El} (h : Own elE 32 base w (.slice (some ⟨g, 0, none⟩) n cap) M) {a : Nat} (ha : a ≤ M.length) : w.ownsRow base 32 7 (.slice (some ⟨g, 0, none⟩) a cap) a (elE.all (M.take a)) := by
  have h1 := h.head ha
  unfold Own at h1
  rw [show (M.take a).length = a by rw [List.length_take]; omega] at h1
  exact h1
set_option maxRecDepth 100000 in
set_option maxHeartbeats 8000000 in
theorem rsort_any (A : Option Addr) (c : Nat) (L0 : List El) (w : World) (hn : L0.length ≤ 60) (hl : ElSl w w.heap.size A L0) :
    Calls Try.prog 26 #[.slice A L0.length c] w fun e w' => ∃ v M, e = .returned v ∧ Own elE 32 w.heap.size w' v M ∧ M.Perm L0 ∧ Srt ltE M ∧ Below w.heap.size w w' := by
  go_enter Try.func26, Try.ntmps26
  go_wp2_with fail
  go_loopw [3, 10] (fun v j wr => ∃ (k : Nat) (M : List El), k ≤ L0.length ∧ j = .int .i64 k ∧ Own elE 32 w.heap.size wr v M ∧ M.Perm (L0.take k) ∧ Srt ltE M ∧ Below w.heap.size w wr) (fun _ j _ => L0.length - (intOf j).toNat)
  case atStart => exact ⟨0, [], Nat.zero_le _, rfl, Own.nil _ _, List.Perm.refl _, List.Pairwise.nil, Below.refl _ _⟩
  case round =>
    obtain ⟨k, M, hk, rfl, hown, hpm, hsm, hb⟩ := hrel
    by_cases hlt : k < L0.length
    · obtain ⟨e, he⟩ := get_some hlt
      obtain ⟨het, b', off, rfl, hlb, ⟨h0, h1, h2, h3, h4, h5, h6⟩, _⟩ := (hl k e he).below hb (Nat.le_refl _)
      have hMl : M.length = k := by rw [hpm.length_eq, List.length_take]; omega
      have htg : ∀ f ∈ M, f.t < e.t := fun f hf => by
        obtain ⟨i, hi⟩ := List.getElem?_of_mem (hpm.subset hf)
        have hik : i < k := by
          have := get_lt hi
          rw [List.length_take] at this; omega
        rw [List.getElem?_take_of_lt hik] at hi
        rw [hl.tag hi, het]
        exact hik
      have hpm2 : ∀ a, a ≤ M.length → (M.take a ++ [e] ++ M.drop a).Perm (L0.take (k + 1)) := fun a _ => by
        rw [take_snoc he]
        refine List.Perm.trans ?_ (hpm.append_right [e])
        simp only [List.append_assoc, List.singleton_append]
        refine List.perm_middle.trans ?_
        rw [List.take_append_drop]
        exact (List.perm_append_singleton e M).symm
      obtain ⟨W1, hW1⟩ : ∃ W1, wr.alloc (.cells #[.int .i64 e.x.p, .int .i64 e.x.o, .int .i64 e.x.q, .slice e.A e.x.r.length e.c, .int .i64 e.x.c, .int .i64 e.x.b, .int .i64 e.x.e] 32) = W1 := ⟨_, rfl⟩
      have hbx := ClBox.new wr e.x e.A e.c
      have hbw := (Below.refl _ wr).alloc (Nat.le_refl _) (.cells #[.int .i64 e.x.p, .int .i64 e.x.o, .int .i64 e.x.q, .slice e.A e.x.r.length e.c, .int .i64 e.x.c, .int .i64 e.x.b, .int .i64 e.x.e] 32)
      rw [hW1] at hbx hbw
      have hsz := hb.size
      have hbW := hb.trans (hbw.mono hsz)
      have hownW := hown.below hbw (Nat.le_refl _)
      obtain ⟨bx, hbxe⟩ : ∃ bx, wr.heap.size = bx := ⟨_, rfl⟩
      rw [hbxe] at hbx
      have HPM := Lib.hid hpm2
      have HSM := Lib.hid hsm
      have HTG := Lib.hid htg
      have HML := Lib.hid hMl
      have HBX := Lib.hid hbx
      have HBW := Lib.hid hbW
      have HOWN := Lib.hid hownW
      have HBXE := Lib.hid hbxe
      have HRG : Hid (∀ g, RowsG wr g M → RowsG W1 g M) := Lib.hid fun g hg => hg.kept hbw
      have hbase := hbW.size
      rcases own_rows hown with ⟨rfl, rfl⟩ | ⟨g, cap, rfl, hg, hrow, hcap1, hcap2⟩
      · clear hpm2 hpm hsm htg hMl hbx hbw hbW hownW hown hb hsz he
        clear HRG
        go_wp2_with fail
        go_loopw [6] (fun j wq => j = .int .i64 0 ∧ Below W1.heap.size W1 wq) (fun j _ => (intOf j).toNat)
        case atStart => exact ⟨rfl, Below.refl _ _⟩
        case round =>
          clear h0 h1 h2 h3 h4 h5 h6
          obtain ⟨rfl, hbq⟩ := hrel
          have HBQ := Lib.hid hbq
          have HUP : Hid (∀ f ∈ ([] : List El).drop 0, ltE e f) := Lib.hid (fun f hf => by cases hf)
          clear hbq
          go_wp2_with fail
          go_quiet (fail)
          have hB2 := drewN_below HBQ.out nq
          generalize wr.drewN nq = W2 at hB2 ⊢
          have HOWN2 := Lib.hid (HOWN.out.below hB2 (Nat.le_refl _))
          have hbx2 := HBX.out.kept hB2
          have hbase2 := Nat.le_trans hbase hB2.size
          skip
          have HB2 := Lib.hid (HBW.out.trans (hB2.mono hbase))
          clear hB2
          have haM : 0 ≤ ([] : List El).length := Nat.zero_le _
          have hM60 : ([] : List El).length ≤ 60 := by have := HML.out; omega
          skip
          have HLIT := Lib.hid (World.ownsRow_lit (base := W2.heap.size) (e := 32) (size := 7) W2 #[] 0 (Nat.le_refl _) (by simp [maxLen]) rfl)
          have HN1 := Lib.hid ((⟨rfl, (fun u hu => by cases hu), .inr ⟨rfl, rfl⟩⟩ : NewsAt (W2.alloc (.cells #[] 32)) 7 (.slice none 0 0) 0 []))
          go_wp2_with (first
            | (at_builtin; refine wpList_app_any rfl _ _ 22 rfl clTy W2.heap.size _ 0 [] rfl HLIT.out (([] : List El).length - 0) (elE.all (([] : List El).drop 0)) (by first | exact HN1.out | simpa using HN1.out | simpa [Enc.all] using HN1.out) (by unfold maxLen; omega) (by omega) (by simp) ?_; intro v7 W3 ho3 hg3 hn3 _)
            | fail)
          have hB3 : Below W2.heap.size W2 W3 := ((Below.refl _ W2).alloc (Nat.le_refl _) _).trans (grown_below HLIT.out hg3 (Nat.le_refl _) (by simp))
          have HOWN3 := Lib.hid (HOWN2.out.below hB3 (Nat.le_refl _))
          have hbx3 := hbx2.kept hB3
          have HB3 := Lib.hid (HB2.out.trans (hB3.mono hbase2))
          have hbase3 := Nat.le_trans hbase2 hB3.size
          obtain ⟨r, cr, cur, rfl, hr1, hr2, hr3⟩ : ∃ r cr cur, v7 = .slice (some ⟨r, 0, none⟩) (([] : List El).length - 0) cr ∧ W2.heap.size ≤ r ∧ W3.heap[r]? = some (.cells cur 32 (0, 0)) ∧ cur.toList.take ((([] : List El).length - 0) * 7) = elE.all (([] : List El).drop 0) := by
            rcases ho3.2 with ⟨e1, _⟩ | ⟨r, cr, cur, e1, q1, q2, q3, q4, q5, q6⟩
            · have := hn3.1 e1
              cases this.1
            · rw [Nat.zero_add] at e1 q6
              exact ⟨r, cr, cur, e1, q1, q2, by simpa using q6⟩
          have hrlt : r < W3.heap.size := (Array.getElem?_eq_some_iff.1 hr2).1
          have hrne : (Value.slice none 0 0).ownBlock ≠ some r := fun h => by cases h
          have HNW : Hid (∀ W : World, W.heap[r]? = W3.heap[r]? → NewsAt W 7 (.slice (some ⟨r, 0, none⟩) (([] : List El).length - 0) cr) (([] : List El).length - 0) (elE.all (([] : List El).drop 0))) := Lib.hid fun W hW => newsAt_of hr2 hr3 hW haM
          clear ho3 hg3 hn3 hB3 hr2 hr3 HLIT HN1 HOWN2 hbx2 HB2
          go_wp2_with fail
          have hSd : (fun _ : World => True) W3.drew := trivial
          refine wp_region_held_drew (S := fun _ => True) (by kernel_rfl) hSd (fun hHeld => ?_)
          have hb4 := (Below.refl W3.heap.size W3).drew
          have HOWN4 := Lib.hid (HOWN3.out.below hb4 (Nat.le_refl _))
          have hbx4 := hbx3.kept hb4
          have HB4 := Lib.hid (HB3.out.trans (hb4.mono hbase3))
          have hbase4 := Nat.le_trans hbase3 hb4.size
          have hr4 : W3.drew.heap[r]? = W3.heap[r]? := rfl
          have hrlt4 : r < W3.drew.heap.size := hrlt
          generalize W3.drew = W4 at hHeld hbx4 HB4 hbase4 HOWN4 hr4 hrlt4 ⊢
          clear hb4 hbx3
          obtain ⟨b0, b1, b2, b3, b4, b5, b6⟩ := hbx4.cells
          refine wpAnyH_take (i := 0) (oi := ?_) (v := ?_) ?_ (by kernel_rfl) (by kernel_rfl) (by kernel_rfl) ?_ (Or.inl ⟨?_, ?_⟩) (by assumption) ?_
          rotate_left 2
          · (simp only [List.getElem?_toArray, List.getElem?_cons_zero]; rfl)
          · first | exact fun _ _ _ h => h | exact fun _ _ _ h => by cases h.1
          · rfl
          · ((intro wq hSq; (try dsimp only at hSq); go_simp); (try with_reducible rfl))
          try simp only [Act.put, List.setIfInBounds_toArray, List.set_cons_zero, List.set_cons_succ]
          refine wpAnyH_take (i := 1) (oi := ?_) (v := ?_) ?_ (by kernel_rfl) (by kernel_rfl) (by kernel_rfl) ?_ (Or.inl ⟨?_, ?_⟩) (by assumption) ?_
          rotate_left 2
          · (simp only [List.getElem?_toArray, List.getElem?_cons_succ, List.getElem?_cons_zero]; rfl)
          · first | exact fun _ _ _ h => h | exact fun _ _ _ h => by cases h.1
          · rfl
          · ((intro wq hSq; (try dsimp only at hSq); go_simp); (try with_reducible rfl))
          try simp only [Act.put, List.setIfInBounds_toArray, List.set_cons_zero, List.set_cons_succ]
          refine wpAnyH_take (i := 2) (oi := ?_) (v := ?_) ?_ (by kernel_rfl) (by kernel_rfl) (by kernel_rfl) ?_ (Or.inl ⟨?_, ?_⟩) (by assumption) ?_
          rotate_left 2
          · (simp only [List.getElem?_toArray, List.getElem?_cons_succ, List.getElem?_cons_zero]; rfl)
          · first | exact fun _ _ _ h => h | exact fun _ _ _ h => by cases h.1
          · rfl
          · ((intro wq hSq; (try dsimp only at hSq); go_simp); (try with_reducible rfl))
          try simp only [Act.put, List.setIfInBounds_toArray, List.set_cons_zero, List.set_cons_succ]
          refine wpAnyH_take (i := 6) (oi := ?_) (v := ?_) ?_ (by kernel_rfl) (by kernel_rfl) (by kernel_rfl) ?_ (Or.inl ⟨?_, ?_⟩) (by assumption) ?_
          rotate_left 2
          · (simp only [List.getElem?_toArray, List.getElem?_cons_succ, List.getElem?_cons_zero]; rfl)
          · first | exact fun _ _ _ h => h | exact fun _ _ _ h => by cases h.1
          · rfl
          · ((intro wq hSq; (try dsimp only at hSq); go_simp); (try with_reducible rfl))
          try simp only [Act.put, List.setIfInBounds_toArray, List.set_cons_zero, List.set_cons_succ]
          refine wpAnyH_ready (rs := [3]) (by kernel_rfl) (by simp) ?_
          refine AllReadyH.cons (o := ?_) ?_ (fun K hK => ?_) AllReadyH.nil
          rotate_left
          · (simp only [List.getElem?_toArray, List.getElem?_cons_succ, List.getElem?_cons_zero]; rfl)
          go_simp
          refine hK.out _ _ trivial (fun hHeld => ?_)
          clear hK K
          try simp only [Act.put, List.setIfInBounds_toArray, List.set_cons_zero, List.set_cons_succ]
          refine wpAnyH_ready (rs := [4]) (by kernel_rfl) (by simp) ?_
          refine AllReadyH.cons (o := ?_) ?_ (fun K hK => ?_) AllReadyH.nil
          rotate_left
          · (simp only [List.getElem?_toArray, List.getElem?_cons_succ, List.getElem?_cons_zero]; rfl)
          go_simp
          refine hK.out _ _ trivial (fun hHeld => ?_)
          clear hK K
          try simp only [Act.put, List.setIfInBounds_toArray, List.set_cons_zero, List.set_cons_succ]
          refine wpAnyH_ready (rs := [5]) (by kernel_rfl) (by simp) ?_
          refine AllReadyH.cons (o := ?_) ?_ (fun K hK => ?_) AllReadyH.nil
          rotate_left
          · (simp only [List.getElem?_toArray, List.getElem?_cons_succ, List.getElem?_cons_zero]; rfl)
          refine step_append_any rfl (.tmp 60) (.tmp 62) 22 rfl clTy w.heap.size (.slice none 0 0) (0) (elE.all (([] : List El).take 0)) rfl (Own.nil (E := elE) _ _) (1) (El.cells e) _ rfl (NewsAt.new W4 (El.cells e).toArray 32 7 rfl rfl) (by unfold maxLen; omega) (by omega) (by rw [World.size_alloc]; omega) ?_
          intro v5 W5 ho5 hg5 _ _
          refine hK.out _ _ trivial (fun hHeld => ?_)
          clear hK K
          try simp only [Act.put, List.setIfInBounds_toArray, List.set_cons_zero, List.set_cons_succ]
          have hsz5 := hg5.size
          rw [World.size_alloc] at hsz5
          have hr5 : W5.heap[r]? = W3.heap[r]? := by
            rw [hg5.block r (by rw [World.size_alloc]; omega) (fun e => hrne e.symm), ← hr4]
            exact ((Below.refl _ W4).alloc (Nat.le_refl _) _).block r hrlt4
          have hB5 := HB4.out.trans (((Below.refl _ W4).alloc hbase4 _).trans (grown_below (base := w.heap.size) (World.ownsRow_nil _ _ 32 7) hg5 (Nat.le_refl _) (by rw [World.size_alloc]; omega)))
          refine wpAnyH_ready (rs := [7]) (by kernel_rfl) (by simp) ?_
          refine AllReadyH.cons (o := ?_) ?_ (fun K hK => ?_) AllReadyH.nil
          rotate_left
          · (simp only [List.getElem?_toArray, List.getElem?_cons_succ, List.getElem?_cons_zero]; rfl)
          refine step_append_any rfl (.tmp 63) (.tmp 64) 22 rfl clTy w.heap.size (v5) (0 + 1) (elE.all (([] : List El).take 0) ++ El.cells e) rfl (ho5) (([] : List El).length - 0) (elE.all (([] : List El).drop 0)) _ rfl (HNW.out W5 hr5) (by unfold maxLen; omega) (by omega) (by omega) ?_
          intro v6 W6 ho6 hg6 _ _
          refine hK.out _ _ trivial (fun hHeld => ?_)
          clear hK K
          try simp only [Act.put, List.setIfInBounds_toArray, List.set_cons_zero, List.set_cons_succ]
          refine wpAnyH_take (i := 8) (oi := ?_) (v := ?_) ?_ (by kernel_rfl) (by kernel_rfl) (by kernel_rfl) ?_ (Or.inl ⟨?_, ?_⟩) (by assumption) ?_
          rotate_left 2
          · (simp only [List.getElem?_toArray, List.getElem?_cons_succ, List.getElem?_cons_zero]; rfl)
          · first | exact fun _ _ _ h => h | exact fun _ _ _ h => by cases h.1
          · rfl
          · ((intro wq hSq; (try dsimp only at hSq); go_simp); (try with_reducible rfl))
          try simp only [Act.put, List.setIfInBounds_toArray, List.set_cons_zero, List.set_cons_succ]
          have hB6 := hB5.trans (grown_below ho5 hg6 (Nat.le_refl _) (by omega))
          have HFIN : Hid (Own elE 32 w.heap.size W6 v6 (([] : List El).take 0 ++ [e] ++ ([] : List El).drop 0) ∧ Below w.heap.size w W6) := Lib.hid ⟨by
            unfold Own
            rw [elE.all_append, elE.all_append, show (([] : List El).take 0 ++ [e] ++ ([] : List El).drop 0).length = 0 + 1 + (([] : List El).length - 0) by simp <;> omega]
            have hs1 : elE.all [e] = El.cells e := by simp [Enc.all, elE]
            rw [hs1]
            exact ho6, hB6⟩
          refine wpAnyH_done (by kernel_rfl) ?_ _
          clear ho5 hg5 ho6 hg6 hB5 hB6 hr4 hr5 hsz5 HOWN4 HB4
          go_wp2_with fail
          go_roundw
          case rel => exact ⟨k + 1, ([] : List El).take 0 ++ [e] ++ ([] : List El).drop 0, by omega, by go_num, HFIN.out.1, HPM.out _ haM, srt_insert HSM.out haM (.inl rfl) HUP.out, HFIN.out.2⟩
          case measure => simp [intOf]; omega
      · have HROW := Lib.hid (HRG.out g hrow)
        clear hpm2 hpm hsm htg hMl hbx hbw hbW hownW hown hb hsz he hrow HRG
        go_wp2_with fail
        go_loopw [6] (fun j wq => ∃ a : Nat, j = .int .i64 a ∧ a ≤ M.length ∧ (∀ f ∈ M.drop a, ltE e f) ∧ Below W1.heap.size W1 wq) (fun j _ => (intOf j).toNat)
        case atStart => exact ⟨M.length, rfl, Nat.le_refl _, (fun f hf => by rw [List.drop_eq_nil_of_le (Nat.le_refl _)] at hf; cases hf), Below.refl _ _⟩
        case round =>
          clear h0 h1 h2 h3 h4 h5 h6
          obtain ⟨a, rfl, ha, hup, hbq⟩ := hrel
          rcases Nat.eq_zero_or_pos a with rfl | ha0
          · have HUP := Lib.hid hup
            have HBQ := Lib.hid hbq
            clear hup hbq
            go_wp2_with fail
            go_quiet (fail)
            rcases Decidable.em (cap = 0) with hca | hca
            · subst hca
              have hB2 := drewN_below HBQ.out nq
              generalize wr.drewN nq = W2 at hB2 ⊢
              have HOWN2 := Lib.hid (HOWN.out.below hB2 (Nat.le_refl _))
              have hbx2 := HBX.out.kept hB2
              have hbase2 := Nat.le_trans hbase hB2.size
              have hgW2 : g < W2.heap.size := Nat.lt_of_lt_of_le HROW.out.lt hB2.size
              have HB2 := Lib.hid (HBW.out.trans (hB2.mono hbase))
              clear hB2
              have haM : 0 ≤ M.length := Nat.zero_le _
              have hM60 : M.length ≤ 60 := by have := HML.out; omega
              have hac : 0 ≤ 0 := Nat.le_trans haM hcap1
              have HLIT := Lib.hid (World.ownsRow_lit (base := W2.heap.size) (e := 32) (size := 7) W2 #[] 0 (Nat.le_refl _) (by simp [maxLen]) rfl)
              have HN1 := Lib.hid ((HOWN2.out.alloc (.cells #[] 32)).tailEnd haM ⟨g, 0, none⟩ 0)
              go_wp2_with (first
                | (at_builtin; refine wpList_app_any rfl _ _ 22 rfl clTy W2.heap.size _ 0 [] rfl HLIT.out (M.length - 0) (elE.all (M.drop 0)) (by first | exact HN1.out | simpa using HN1.out | simpa [Enc.all] using HN1.out) (by unfold maxLen; omega) (by omega) (by simp) ?_; intro v7 W3 ho3 hg3 hn3 _)
                | fail)
              have hMa : M.length = 0 := by omega
              obtain ⟨r, hre⟩ : ∃ r, W2.heap.size = r := ⟨_, rfl⟩
              have hB3 : Below W2.heap.size W2 (W2.alloc (.cells #[] 32)) := (Below.refl _ W2).alloc (Nat.le_refl _) _
              have hrlt : r < (W2.alloc (.cells #[] 32)).heap.size := by rw [World.size_alloc]; omega
              try rw [hre]
              generalize W2.alloc (.cells #[] 32) = W3 at hB3 hrlt ⊢
              have HOWN3 := Lib.hid (HOWN2.out.below hB3 (Nat.le_refl _))
              have hbx3 := hbx2.kept hB3
              have HB3 := Lib.hid (HB2.out.trans (hB3.mono hbase2))
              have hbase3 := Nat.le_trans hbase2 hB3.size
              have hrne : (Value.slice (some ⟨g, 0, none⟩) 0 0).ownBlock ≠ some r := fun h => by
                have h2 : g = r := by injection h
                omega
              have HNW : Hid (∀ W : World, W.heap[r]? = W3.heap[r]? → NewsAt W 7 (.slice (some ⟨r, 0, none⟩) 0 0) (M.length - 0) (elE.all (M.drop 0))) := Lib.hid fun W _ => by
                rw [show M.length - 0 = 0 by omega, show M.drop 0 = [] from List.drop_eq_nil_of_le (by omega)]
                exact ⟨rfl, (fun u hu => by cases hu), .inl ⟨_, _, rfl, fun j u hu => by cases hu⟩⟩
              clear hB3 HLIT HN1 HOWN2 hbx2 HB2
              go_wp2_with fail
              have hSd : (fun _ : World => True) W3.drew := trivial
              refine wp_region_held_drew (S := fun _ => True) (by kernel_rfl) hSd (fun hHeld => ?_)
              have hb4 := (Below.refl W3.heap.size W3).drew
              have HOWN4 := Lib.hid (HOWN3.out.below hb4 (Nat.le_refl _))
              have hbx4 := hbx3.kept hb4
              have HB4 := Lib.hid (HB3.out.trans (hb4.mono hbase3))
              have hbase4 := Nat.le_trans hbase3 hb4.size
              have hr4 : W3.drew.heap[r]? = W3.heap[r]? := rfl
              have hrlt4 : r < W3.drew.heap.size := hrlt
              generalize W3.drew = W4 at hHeld hbx4 HB4 hbase4 HOWN4 hr4 hrlt4 ⊢
              clear hb4 hbx3
              obtain ⟨b0, b1, b2, b3, b4, b5, b6⟩ := hbx4.cells
              refine wpAnyH_take (i := 0) (oi := ?_) (v := ?_) ?_ (by kernel_rfl) (by kernel_rfl) (by kernel_rfl) ?_ (Or.inl ⟨?_, ?_⟩) (by assumption) ?_
              rotate_left 2
              · (simp only [List.getElem?_toArray, List.getElem?_cons_zero]; rfl)
              · first | exact fun _ _ _ h => h | exact fun _ _ _ h => by cases h.1
              · rfl
              · ((intro wq hSq; (try dsimp only at hSq); go_simp); (try with_reducible rfl))
              try simp only [Act.put, List.setIfInBounds_toArray, List.set_cons_zero, List.set_cons_succ]
              refine wpAnyH_take (i := 1) (oi := ?_) (v := ?_) ?_ (by kernel_rfl) (by kernel_rfl) (by kernel_rfl) ?_ (Or.inl ⟨?_, ?_⟩) (by assumption) ?_
              rotate_left 2
              · (simp only [List.getElem?_toArray, List.getElem?_cons_succ, List.getElem?_cons_zero]; rfl)
              · first | exact fun _ _ _ h => h | exact fun _ _ _ h => by cases h.1
              · rfl
              · ((intro wq hSq; (try dsimp only at hSq); go_simp); (try with_reducible rfl))
              try simp only [Act.put, List.setIfInBounds_toArray, List.set_cons_zero, List.set_cons_succ]
              refine wpAnyH_take (i := 2) (oi := ?_) (v := ?_) ?_ (by kernel_rfl) (by kernel_rfl) (by kernel_rfl) ?_ (Or.inl ⟨?_, ?_⟩) (by assumption) ?_
              rotate_left 2
              · (simp only [List.getElem?_toArray, List.getElem?_cons_succ, List.getElem?_cons_zero]; rfl)
              · first | exact fun _ _ _ h => h | exact fun _ _ _ h => by cases h.1
              · rfl
              · ((intro wq hSq; (try dsimp only at hSq); go_simp); (try with_reducible rfl))
              try simp only [Act.put, List.setIfInBounds_toArray, List.set_cons_zero, List.set_cons_succ]
              refine wpAnyH_take (i := 6) (oi := ?_) (v := ?_) ?_ (by kernel_rfl) (by kernel_rfl) (by kernel_rfl) ?_ (Or.inl ⟨?_, ?_⟩) (by assumption) ?_
              rotate_left 2
              · (simp only [List.getElem?_toArray, List.getElem?_cons_succ, List.getElem?_cons_zero]; rfl)
              · first | exact fun _ _ _ h => h | exact fun _ _ _ h => by cases h.1
              · rfl
              · ((intro wq hSq; (try dsimp only at hSq); go_simp); (try with_reducible rfl))
              try simp only [Act.put, List.setIfInBounds_toArray, List.set_cons_zero, List.set_cons_succ]
              refine wpAnyH_ready (rs := [3]) (by kernel_rfl) (by simp) ?_
              refine AllReadyH.cons (o := ?_) ?_ (fun K hK => ?_) AllReadyH.nil
              rotate_left
              · (simp only [List.getElem?_toArray, List.getElem?_cons_succ, List.getElem?_cons_zero]; rfl)
              go_simp
              refine hK.out _ _ trivial (fun hHeld => ?_)
              clear hK K
              try simp only [Act.put, List.setIfInBounds_toArray, List.set_cons_zero, List.set_cons_succ]
              refine wpAnyH_ready (rs := [4]) (by kernel_rfl) (by simp) ?_
              refine AllReadyH.cons (o := ?_) ?_ (fun K hK => ?_) AllReadyH.nil
              rotate_left
              · (simp only [List.getElem?_toArray, List.getElem?_cons_succ, List.getElem?_cons_zero]; rfl)
              go_simp
              refine hK.out _ _ trivial (fun hHeld => ?_)
              clear hK K
              try simp only [Act.put, List.setIfInBounds_toArray, List.set_cons_zero, List.set_cons_succ]
              refine wpAnyH_ready (rs := [5]) (by kernel_rfl) (by simp) ?_
              refine AllReadyH.cons (o := ?_) ?_ (fun K hK => ?_) AllReadyH.nil
              rotate_left
              · (simp only [List.getElem?_toArray, List.getElem?_cons_succ, List.getElem?_cons_zero]; rfl)
              refine step_append_any rfl (.tmp 60) (.tmp 62) 22 rfl clTy w.heap.size (.slice (some ⟨g, 0, none⟩) 0 0) (0) (elE.all (M.take 0)) rfl (Own.headRow (HOWN4.out.alloc _) haM) (1) (El.cells e) _ rfl (NewsAt.new W4 (El.cells e).toArray 32 7 rfl rfl) (by unfold maxLen; omega) (by omega) (by rw [World.size_alloc]; omega) ?_
              intro v5 W5 ho5 hg5 _ _
              refine hK.out _ _ trivial (fun hHeld => ?_)
              clear hK K
              try simp only [Act.put, List.setIfInBounds_toArray, List.set_cons_zero, List.set_cons_succ]
              have hsz5 := hg5.size
              rw [World.size_alloc] at hsz5
              have hr5 : W5.heap[r]? = W3.heap[r]? := by
                rw [hg5.block r (by rw [World.size_alloc]; omega) (fun e => hrne e.symm), ← hr4]
                exact ((Below.refl _ W4).alloc (Nat.le_refl _) _).block r hrlt4
              have hB5 := HB4.out.trans (((Below.refl _ W4).alloc hbase4 _).trans (grown_below (base := w.heap.size) (Own.headRow (HOWN4.out.alloc _) haM) hg5 (Nat.le_refl _) (by rw [World.size_alloc]; omega)))
              refine wpAnyH_ready (rs := [7]) (by kernel_rfl) (by simp) ?_
              refine AllReadyH.cons (o := ?_) ?_ (fun K hK => ?_) AllReadyH.nil
              rotate_left
              · (simp only [List.getElem?_toArray, List.getElem?_cons_succ, List.getElem?_cons_zero]; rfl)
              refine step_append_any rfl (.tmp 63) (.tmp 64) 22 rfl clTy w.heap.size (v5) (0 + 1) (elE.all (M.take 0) ++ El.cells e) rfl (ho5) (M.length - 0) (elE.all (M.drop 0)) _ rfl (HNW.out W5 hr5) (by unfold maxLen; omega) (by omega) (by omega) ?_
              intro v6 W6 ho6 hg6 _ _
              refine hK.out _ _ trivial (fun hHeld => ?_)
              clear hK K
              try simp only [Act.put, List.setIfInBounds_toArray, List.set_cons_zero, List.set_cons_succ]
              refine wpAnyH_take (i := 8) (oi := ?_) (v := ?_) ?_ (by kernel_rfl) (by kernel_rfl) (by kernel_rfl) ?_ (Or.inl ⟨?_, ?_⟩) (by assumption) ?_
              rotate_left 2
              · (simp only [List.getElem?_toArray, List.getElem?_cons_succ, List.getElem?_cons_zero]; rfl)
              · first | exact fun _ _ _ h => h | exact fun _ _ _ h => by cases h.1
              · rfl
              · ((intro wq hSq; (try dsimp only at hSq); go_simp); (try with_reducible rfl))
              try simp only [Act.put, List.setIfInBounds_toArray, List.set_cons_zero, List.set_cons_succ]
              have hB6 := hB5.trans (grown_below ho5 hg6 (Nat.le_refl _) (by omega))
              have HFIN : Hid (Own elE 32 w.heap.size W6 v6 (M.take 0 ++ [e] ++ M.drop 0) ∧ Below w.heap.size w W6) := Lib.hid ⟨by
                unfold Own
                rw [elE.all_append, elE.all_append, show (M.take 0 ++ [e] ++ M.drop 0).length = 0 + 1 + (M.length - 0) by simp <;> omega]
                have hs1 : elE.all [e] = El.cells e := by simp [Enc.all, elE]
                rw [hs1]
                exact ho6, hB6⟩
              refine wpAnyH_done (by kernel_rfl) ?_ _
              clear ho5 hg5 ho6 hg6 hB5 hB6 hr4 hr5 hsz5 HOWN4 HB4
              go_wp2_with fail
              go_roundw
              case rel => exact ⟨k + 1, M.take 0 ++ [e] ++ M.drop 0, by omega, by go_num, HFIN.out.1, HPM.out _ haM, srt_insert HSM.out haM (.inl rfl) HUP.out, HFIN.out.2⟩
              case measure => simp [intOf]; omega
            · have hB2 := drewN_below HBQ.out nq
              generalize wr.drewN nq = W2 at hB2 ⊢
              have HOWN2 := Lib.hid (HOWN.out.below hB2 (Nat.le_refl _))
              have hbx2 := HBX.out.kept hB2
              have hbase2 := Nat.le_trans hbase hB2.size
              have hgW2 : g < W2.heap.size := Nat.lt_of_lt_of_le HROW.out.lt hB2.size
              have HB2 := Lib.hid (HBW.out.trans (hB2.mono hbase))
              clear hB2
              have haM : 0 ≤ M.length := Nat.zero_le _
              have hM60 : M.length ≤ 60 := by have := HML.out; omega
              have hac : 0 ≤ cap := Nat.le_trans haM hcap1
              have HLIT := Lib.hid (World.ownsRow_lit (base := W2.heap.size) (e := 32) (size := 7) W2 #[] 0 (Nat.le_refl _) (by simp [maxLen]) rfl)
              have HN1 := Lib.hid ((HOWN2.out.alloc (.cells #[] 32)).tailAny haM)
              go_wp2_with (first
                | (at_builtin; refine wpList_app_any rfl _ _ 22 rfl clTy W2.heap.size _ 0 [] rfl HLIT.out (M.length - 0) (elE.all (M.drop 0)) (by first | exact HN1.out | simpa using HN1.out | simpa [Enc.all] using HN1.out) (by unfold maxLen; omega) (by omega) (by simp) ?_; intro v7 W3 ho3 hg3 hn3 _)
                | fail)
              have hB3 : Below W2.heap.size W2 W3 := ((Below.refl _ W2).alloc (Nat.le_refl _) _).trans (grown_below HLIT.out hg3 (Nat.le_refl _) (by simp))
              have HOWN3 := Lib.hid (HOWN2.out.below hB3 (Nat.le_refl _))
              have hbx3 := hbx2.kept hB3
              have HB3 := Lib.hid (HB2.out.trans (hB3.mono hbase2))
              have hbase3 := Nat.le_trans hbase2 hB3.size
              obtain ⟨r, cr, cur, rfl, hr1, hr2, hr3⟩ : ∃ r cr cur, v7 = .slice (some ⟨r, 0, none⟩) (M.length - 0) cr ∧ W2.heap.size ≤ r ∧ W3.heap[r]? = some (.cells cur 32 (0, 0)) ∧ cur.toList.take ((M.length - 0) * 7) = elE.all (M.drop 0) := by
                rcases ho3.2 with ⟨e1, _⟩ | ⟨r, cr, cur, e1, q1, q2, q3, q4, q5, q6⟩
                · have := hn3.1 e1
                  cases this.1
                · rw [Nat.zero_add] at e1 q6
                  exact ⟨r, cr, cur, e1, q1, q2, by simpa using q6⟩
              have hrlt : r < W3.heap.size := (Array.getElem?_eq_some_iff.1 hr2).1
              have hrne : (Value.slice (some ⟨g, 0, none⟩) 0 cap).ownBlock ≠ some r := fun h => by
                have h2 : g = r := by injection h
                omega
              have HNW : Hid (∀ W : World, W.heap[r]? = W3.heap[r]? → NewsAt W 7 (.slice (some ⟨r, 0, none⟩) (M.length - 0) cr) (M.length - 0) (elE.all (M.drop 0))) := Lib.hid fun W hW => newsAt_of hr2 hr3 hW haM
              clear ho3 hg3 hn3 hB3 hr2 hr3 HLIT HN1 HOWN2 hbx2 HB2
              go_wp2_with fail
              have hSd : (fun _ : World => True) W3.drew := trivial
              refine wp_region_held_drew (S := fun _ => True) (by kernel_rfl) hSd (fun hHeld => ?_)
              have hb4 := (Below.refl W3.heap.size W3).drew
              have HOWN4 := Lib.hid (HOWN3.out.below hb4 (Nat.le_refl _))
              have hbx4 := hbx3.kept hb4
              have HB4 := Lib.hid (HB3.out.trans (hb4.mono hbase3))
              have hbase4 := Nat.le_trans hbase3 hb4.size
              have hr4 : W3.drew.heap[r]? = W3.heap[r]? := rfl
              have hrlt4 : r < W3.drew.heap.size := hrlt
              generalize W3.drew = W4 at hHeld hbx4 HB4 hbase4 HOWN4 hr4 hrlt4 ⊢
              clear hb4 hbx3
              obtain ⟨b0, b1, b2, b3, b4, b5, b6⟩ := hbx4.cells
              refine wpAnyH_take (i := 0) (oi := ?_) (v := ?_) ?_ (by kernel_rfl) (by kernel_rfl) (by kernel_rfl) ?_ (Or.inl ⟨?_, ?_⟩) (by assumption) ?_
              rotate_left 2
              · (simp only [List.getElem?_toArray, List.getElem?_cons_zero]; rfl)
              · first | exact fun _ _ _ h => h | exact fun _ _ _ h => by cases h.1
              · rfl
              · ((intro wq hSq; (try dsimp only at hSq); go_simp); (try with_reducible rfl))
              try simp only [Act.put, List.setIfInBounds_toArray, List.set_cons_zero, List.set_cons_succ]
              refine wpAnyH_take (i := 1) (oi := ?_) (v := ?_) ?_ (by kernel_rfl) (by kernel_rfl) (by kernel_rfl) ?_ (Or.inl ⟨?_, ?_⟩) (by assumption) ?_
              rotate_left 2
              · (simp only [List.getElem?_toArray, List.getElem?_cons_succ, List.getElem?_cons_zero]; rfl)
              · first | exact fun _ _ _ h => h | exact fun _ _ _ h => by cases h.1
              · rfl
              · ((intro wq hSq; (try dsimp only at hSq); go_simp); (try with_reducible rfl))
              try simp only [Act.put, List.setIfInBounds_toArray, List.set_cons_zero, List.set_cons_succ]
              refine wpAnyH_take (i := 2) (oi := ?_) (v := ?_) ?_ (by kernel_rfl) (by kernel_rfl) (by kernel_rfl) ?_ (Or.inl ⟨?_, ?_⟩) (by assumption) ?_
              rotate_left 2
              · (simp only [List.getElem?_toArray, List.getElem?_cons_succ, List.getElem?_cons_zero]; rfl)
              · first | exact fun _ _ _ h => h | exact fun _ _ _ h => by cases h.1
              · rfl
              · ((intro wq hSq; (try dsimp only at hSq); go_simp); (try with_reducible rfl))
              try simp only [Act.put, List.setIfInBounds_toArray, List.set_cons_zero, List.set_cons_succ]
              refine wpAnyH_take (i := 6) (oi := ?_) (v := ?_) ?_ (by kernel_rfl) (by kernel_rfl) (by kernel_rfl) ?_ (Or.inl ⟨?_, ?_⟩) (by assumption) ?_
              rotate_left 2
              · (simp only [List.getElem?_toArray, List.getElem?_cons_succ, List.getElem?_cons_zero]; rfl)
              · first | exact fun _ _ _ h => h | exact fun _ _ _ h => by cases h.1
              · rfl
              · ((intro wq hSq; (try dsimp only at hSq); go_simp); (try with_reducible rfl))
              try simp only [Act.put, List.setIfInBounds_toArray, List.set_cons_zero, List.set_cons_succ]
              refine wpAnyH_ready (rs := [3]) (by kernel_rfl) (by simp) ?_
              refine AllReadyH.cons (o := ?_) ?_ (fun K hK => ?_) AllReadyH.nil
              rotate_left
              · (simp only [List.getElem?_toArray, List.getElem?_cons_succ, List.getElem?_cons_zero]; rfl)
              go_simp
              refine hK.out _ _ trivial (fun hHeld => ?_)
              clear hK K
              try simp only [Act.put, List.setIfInBounds_toArray, List.set_cons_zero, List.set_cons_succ]
              refine wpAnyH_ready (rs := [4]) (by kernel_rfl) (by simp) ?_
              refine AllReadyH.cons (o := ?_) ?_ (fun K hK => ?_) AllReadyH.nil
              rotate_left
              · (simp only [List.getElem?_toArray, List.getElem?_cons_succ, List.getElem?_cons_zero]; rfl)
              go_simp
              refine hK.out _ _ trivial (fun hHeld => ?_)
              clear hK K
              try simp only [Act.put, List.setIfInBounds_toArray, List.set_cons_zero, List.set_cons_succ]
              refine wpAnyH_ready (rs := [5]) (by kernel_rfl) (by simp) ?_
              refine AllReadyH.cons (o := ?_) ?_ (fun K hK => ?_) AllReadyH.nil
              rotate_left
              · (simp only [List.getElem?_toArray, List.getElem?_cons_succ, List.getElem?_cons_zero]; rfl)
              refine step_append_any rfl (.tmp 60) (.tmp 62) 22 rfl clTy w.heap.size (.slice (some ⟨g, 0, none⟩) 0 cap) (0) (elE.all (M.take 0)) rfl (Own.headRow (HOWN4.out.alloc _) haM) (1) (El.cells e) _ rfl (NewsAt.new W4 (El.cells e).toArray 32 7 rfl rfl) (by unfold maxLen; omega) (by omega) (by rw [World.size_alloc]; omega) ?_
              intro v5 W5 ho5 hg5 _ _
              refine hK.out _ _ trivial (fun hHeld => ?_)
              clear hK K
              try simp only [Act.put, List.setIfInBounds_toArray, List.set_cons_zero, List.set_cons_succ]
              have hsz5 := hg5.size
              rw [World.size_alloc] at hsz5
              have hr5 : W5.heap[r]? = W3.heap[r]? := by
                rw [hg5.block r (by rw [World.size_alloc]; omega) (fun e => hrne e.symm), ← hr4]
                exact ((Below.refl _ W4).alloc (Nat.le_refl _) _).block r hrlt4
              have hB5 := HB4.out.trans (((Below.refl _ W4).alloc hbase4 _).trans (grown_below (base := w.heap.size) (Own.headRow (HOWN4.out.alloc _) haM) hg5 (Nat.le_refl _) (by rw [World.size_alloc]; omega)))
              refine wpAnyH_ready (rs := [7]) (by kernel_rfl) (by simp) ?_
              refine AllReadyH.cons (o := ?_) ?_ (fun K hK => ?_) AllReadyH.nil
              rotate_left
              · (simp only [List.getElem?_toArray, List.getElem?_cons_succ, List.getElem?_cons_zero]; rfl)
              refine step_append_any rfl (.tmp 63) (.tmp 64) 22 rfl clTy w.heap.size (v5) (0 + 1) (elE.all (M.take 0) ++ El.cells e) rfl (ho5) (M.length - 0) (elE.all (M.drop 0)) _ rfl (HNW.out W5 hr5) (by unfold maxLen; omega) (by omega) (by omega) ?_
              intro v6 W6 ho6 hg6 _ _
              refine hK.out _ _ trivial (fun hHeld => ?_)
              clear hK K
              try simp only [Act.put, List.setIfInBounds_toArray, List.set_cons_zero, List.set_cons_succ]
              refine wpAnyH_take (i := 8) (oi := ?_) (v := ?_) ?_ (by kernel_rfl) (by kernel_rfl) (by kernel_rfl) ?_ (Or.inl ⟨?_, ?_⟩) (by assumption) ?_
              rotate_left 2
              · (simp only [List.getElem?_toArray, List.getElem?_cons_succ, List.getElem?_cons_zero]; rfl)
              · first | exact fun _ _ _ h => h | exact fun _ _ _ h => by cases h.1
              · rfl
              · ((intro wq hSq; (try dsimp only at hSq); go_simp); (try with_reducible rfl))
              try simp only [Act.put, List.setIfInBounds_toArray, List.set_cons_zero, List.set_cons_succ]
              have hB6 := hB5.trans (grown_below ho5 hg6 (Nat.le_refl _) (by omega))
              have HFIN : Hid (Own elE 32 w.heap.size W6 v6 (M.take 0 ++ [e] ++ M.drop 0) ∧ Below w.heap.size w W6) := Lib.hid ⟨by
                unfold Own
                rw [elE.all_append, elE.all_append, show (M.take 0 ++ [e] ++ M.drop 0).length = 0 + 1 + (M.length - 0) by simp <;> omega]
                have hs1 : elE.all [e] = El.cells e := by simp [Enc.all, elE]
                rw [hs1]
                exact ho6, hB6⟩
              refine wpAnyH_done (by kernel_rfl) ?_ _
              clear ho5 hg5 ho6 hg6 hB5 hB6 hr4 hr5 hsz5 HOWN4 HB4
              go_wp2_with fail
              go_roundw
              case rel => exact ⟨k + 1, M.take 0 ++ [e] ++ M.drop 0, by omega, by go_num, HFIN.out.1, HPM.out _ haM, srt_insert HSM.out haM (.inl rfl) HUP.out, HFIN.out.2⟩
              case measure => simp [intOf]; omega
          · obtain ⟨p, rfl⟩ : ∃ p, a = p + 1 := ⟨a - 1, by omega⟩
            obtain ⟨f, hf⟩ := get_some (show p < M.length by omega)
            obtain ⟨f0, f1, f2, f3, f4, f5, f6⟩ := (HROW.out.kept hbq).cells hf
            obtain ⟨c0, c1, c2, c3, c4, c5, c6⟩ := (HBX.out.kept hbq).cells
            have j1 : (p : Int) < (M.length : Int) := by omega
            have j2 : decide ((0 : Int) < (p : Int) + 1) = true := by rw [decide_eq_true_iff]; omega
            have j3 : decide (0 < p + 1) = true := by simp
            have jw : IntKind.i64.wrap (p : Int) = (p : Int) := so_wrap (by omega) (by have := HML.out; omega)
            have hcase : (decide (e.x.b < f.x.b) = true ∧ ltE e f) ∨ (decide (e.x.b < f.x.b) = false ∧ (f.x.b == e.x.b) = true ∧ decide (e.x.p < f.x.p) = true ∧ ltE e f) ∨ (decide (e.x.b < f.x.b) = false ∧ (f.x.b == e.x.b) = false ∧ ltE f e) ∨ (decide (e.x.b < f.x.b) = false ∧ (f.x.b == e.x.b) = true ∧ decide (e.x.p < f.x.p) = false ∧ ltE f e) := by
              have ht := HTG.out f (List.mem_of_getElem? hf)
              unfold ltE
              simp only [decide_eq_true_eq, decide_eq_false_iff_not, beq_iff_eq, beq_eq_false_iff_ne]
              omega
            have HF := Lib.hid hf
            have HUP := Lib.hid hup
            have HBQ := Lib.hid hbq
            have HA := Lib.hid ha
            clear hf hup hbq ha
            rcases hcase with ⟨d1, hl⟩ | ⟨d1, d2, d3, hl⟩ | ⟨d1, d2, hl⟩ | ⟨d1, d2, d3, hl⟩
            · have HLE := Lib.hid hl
              clear hl
              go_wp2_with fail
              go_quiet (fail)
              go_wp2_with fail
              go_roundw
              case rel => exact ⟨p, rfl, by have := HA.out; omega, mem_drop HF.out HLE.out HUP.out, drewN_below HBQ.out _⟩
              case measure => simp [intOf]
            · have HLE := Lib.hid hl
              clear hl
              go_wp2_with fail
              go_quiet (fail)
              go_wp2_with fail
              go_roundw
              case rel => exact ⟨p, rfl, by have := HA.out; omega, mem_drop HF.out HLE.out HUP.out, drewN_below HBQ.out _⟩
              case measure => simp [intOf]
            · have HLE := Lib.hid hl
              clear hl
              go_wp2_with fail
              go_quiet (fail)
              rcases Decidable.em (cap = (p + 1)) with hca | hca
              · subst hca
                have hB2 := drewN_below HBQ.out nq
                generalize wr.drewN nq = W2 at hB2 ⊢
                have HOWN2 := Lib.hid (HOWN.out.below hB2 (Nat.le_refl _))
                have hbx2 := HBX.out.kept hB2
                have hbase2 := Nat.le_trans hbase hB2.size
                have hgW2 : g < W2.heap.size := Nat.lt_of_lt_of_le HROW.out.lt hB2.size
                have HB2 := Lib.hid (HBW.out.trans (hB2.mono hbase))
                clear hB2
                have haM : (p + 1) ≤ M.length := HA.out
                have hM60 : M.length ≤ 60 := by have := HML.out; omega
                have hac : (p + 1) ≤ (p + 1) := Nat.le_trans haM hcap1
                have q1 : (0 : Int) ≤ (p : Int) + 1 := by omega
                have HLIT := Lib.hid (World.ownsRow_lit (base := W2.heap.size) (e := 32) (size := 7) W2 #[] 0 (Nat.le_refl _) (by simp [maxLen]) rfl)
                have HN1 := Lib.hid ((HOWN2.out.alloc (.cells #[] 32)).tailEnd haM ⟨g, 0, none⟩ 0)
                go_wp2_with (first
                  | (at_builtin; refine wpList_app_any rfl _ _ 22 rfl clTy W2.heap.size _ 0 [] rfl HLIT.out (M.length - (p + 1)) (elE.all (M.drop (p + 1))) (by first | exact HN1.out | simpa using HN1.out | simpa [Enc.all] using HN1.out) (by unfold maxLen; omega) (by omega) (by simp) ?_; intro v7 W3 ho3 hg3 hn3 _)
                  | fail)
                have hMa : M.length = (p + 1) := by omega
                obtain ⟨r, hre⟩ : ∃ r, W2.heap.size = r := ⟨_, rfl⟩
                have hB3 : Below W2.heap.size W2 (W2.alloc (.cells #[] 32)) := (Below.refl _ W2).alloc (Nat.le_refl _) _
                have hrlt : r < (W2.alloc (.cells #[] 32)).heap.size := by rw [World.size_alloc]; omega
                try rw [hre]
                generalize W2.alloc (.cells #[] 32) = W3 at hB3 hrlt ⊢
                have HOWN3 := Lib.hid (HOWN2.out.below hB3 (Nat.le_refl _))
                have hbx3 := hbx2.kept hB3
                have HB3 := Lib.hid (HB2.out.trans (hB3.mono hbase2))
                have hbase3 := Nat.le_trans hbase2 hB3.size
                have hrne : (Value.slice (some ⟨g, 0, none⟩) (p + 1) (p + 1)).ownBlock ≠ some r := fun h => by
                  have h2 : g = r := by injection h
                  omega
                have HNW : Hid (∀ W : World, W.heap[r]? = W3.heap[r]? → NewsAt W 7 (.slice (some ⟨r, 0, none⟩) 0 0) (M.length - (p + 1)) (elE.all (M.drop (p + 1)))) := Lib.hid fun W _ => by
                  rw [show M.length - (p + 1) = 0 by omega, show M.drop (p + 1) = [] from List.drop_eq_nil_of_le (by omega)]
                  exact ⟨rfl, (fun u hu => by cases hu), .inl ⟨_, _, rfl, fun j u hu => by cases hu⟩⟩
                clear hB3 HLIT HN1 HOWN2 hbx2 HB2
                go_wp2_with fail
                have hSd : (fun _ : World => True) W3.drew := trivial
                refine wp_region_held_drew (S := fun _ => True) (by kernel_rfl) hSd (fun hHeld => ?_)
                have hb4 := (Below.refl W3.heap.size W3).drew
                have HOWN4 := Lib.hid (HOWN3.out.below hb4 (Nat.le_refl _))
                have hbx4 := hbx3.kept hb4
                have HB4 := Lib.hid (HB3.out.trans (hb4.mono hbase3))
                have hbase4 := Nat.le_trans hbase3 hb4.size
                have hr4 : W3.drew.heap[r]? = W3.heap[r]? := rfl
                have hrlt4 : r < W3.drew.heap.size := hrlt
                generalize W3.drew = W4 at hHeld hbx4 HB4 hbase4 HOWN4 hr4 hrlt4 ⊢
                clear hb4 hbx3
                obtain ⟨b0, b1, b2, b3, b4, b5, b6⟩ := hbx4.cells
                refine wpAnyH_take (i := 0) (oi := ?_) (v := ?_) ?_ (by kernel_rfl) (by kernel_rfl) (by kernel_rfl) ?_ (Or.inl ⟨?_, ?_⟩) (by assumption) ?_
                rotate_left 2
                · (simp only [List.getElem?_toArray, List.getElem?_cons_zero]; rfl)
                · first | exact fun _ _ _ h => h | exact fun _ _ _ h => by cases h.1
                · rfl
                · ((intro wq hSq; (try dsimp only at hSq); go_simp); (try with_reducible rfl))
                try simp only [Act.put, List.setIfInBounds_toArray, List.set_cons_zero, List.set_cons_succ]
                refine wpAnyH_take (i := 1) (oi := ?_) (v := ?_) ?_ (by kernel_rfl) (by kernel_rfl) (by kernel_rfl) ?_ (Or.inl ⟨?_, ?_⟩) (by assumption) ?_
                rotate_left 2
                · (simp only [List.getElem?_toArray, List.getElem?_cons_succ, List.getElem?_cons_zero]; rfl)
                · first | exact fun _ _ _ h => h | exact fun _ _ _ h => by cases h.1
                · rfl
                · ((intro wq hSq; (try dsimp only at hSq); go_simp); (try with_reducible rfl))
                try simp only [Act.put, List.setIfInBounds_toArray, List.set_cons_zero, List.set_cons_succ]
                refine wpAnyH_take (i := 2) (oi := ?_) (v := ?_) ?_ (by kernel_rfl) (by kernel_rfl) (by kernel_rfl) ?_ (Or.inl ⟨?_, ?_⟩) (by assumption) ?_
                rotate_left 2
                · (simp only [List.getElem?_toArray, List.getElem?_cons_succ, List.getElem?_cons_zero]; rfl)
                · first | exact fun _ _ _ h => h | exact fun _ _ _ h => by cases h.1
                · rfl
                · ((intro wq hSq; (try dsimp only at hSq); go_simp); (try with_reducible rfl))
                try simp only [Act.put, List.setIfInBounds_toArray, List.set_cons_zero, List.set_cons_succ]
                refine wpAnyH_take (i := 6) (oi := ?_) (v := ?_) ?_ (by kernel_rfl) (by kernel_rfl) (by kernel_rfl) ?_ (Or.inl ⟨?_, ?_⟩) (by assumption) ?_
                rotate_left 2
                · (simp only [List.getElem?_toArray, List.getElem?_cons_succ, List.getElem?_cons_zero]; rfl)
                · first | exact fun _ _ _ h => h | exact fun _ _ _ h => by cases h.1
                · rfl
                · ((intro wq hSq; (try dsimp only at hSq); go_simp); (try with_reducible rfl))
                try simp only [Act.put, List.setIfInBounds_toArray, List.set_cons_zero, List.set_cons_succ]
                refine wpAnyH_ready (rs := [3]) (by kernel_rfl) (by simp) ?_
                refine AllReadyH.cons (o := ?_) ?_ (fun K hK => ?_) AllReadyH.nil
                rotate_left
                · (simp only [List.getElem?_toArray, List.getElem?_cons_succ, List.getElem?_cons_zero]; rfl)
                go_simp
                refine hK.out _ _ trivial (fun hHeld => ?_)
                clear hK K
                try simp only [Act.put, List.setIfInBounds_toArray, List.set_cons_zero, List.set_cons_succ]
                refine wpAnyH_ready (rs := [4]) (by kernel_rfl) (by simp) ?_
                refine AllReadyH.cons (o := ?_) ?_ (fun K hK => ?_) AllReadyH.nil
                rotate_left
                · (simp only [List.getElem?_toArray, List.getElem?_cons_succ, List.getElem?_cons_zero]; rfl)
                go_simp
                refine hK.out _ _ trivial (fun hHeld => ?_)
                clear hK K
                try simp only [Act.put, List.setIfInBounds_toArray, List.set_cons_zero, List.set_cons_succ]
                refine wpAnyH_ready (rs := [5]) (by kernel_rfl) (by simp) ?_
                refine AllReadyH.cons (o := ?_) ?_ (fun K hK => ?_) AllReadyH.nil
                rotate_left
                · (simp only [List.getElem?_toArray, List.getElem?_cons_succ, List.getElem?_cons_zero]; rfl)
                refine step_append_any rfl (.tmp 60) (.tmp 62) 22 rfl clTy w.heap.size (.slice (some ⟨g, 0, none⟩) (p + 1) (p + 1)) ((p + 1)) (elE.all (M.take (p + 1))) rfl (Own.headRow (HOWN4.out.alloc _) haM) (1) (El.cells e) _ rfl (NewsAt.new W4 (El.cells e).toArray 32 7 rfl rfl) (by unfold maxLen; omega) (by omega) (by rw [World.size_alloc]; omega) ?_
                intro v5 W5 ho5 hg5 _ _
                refine hK.out _ _ trivial (fun hHeld => ?_)
                clear hK K
                try simp only [Act.put, List.setIfInBounds_toArray, List.set_cons_zero, List.set_cons_succ]
                have hsz5 := hg5.size
                rw [World.size_alloc] at hsz5
                have hr5 : W5.heap[r]? = W3.heap[r]? := by
                  rw [hg5.block r (by rw [World.size_alloc]; omega) (fun e => hrne e.symm), ← hr4]
                  exact ((Below.refl _ W4).alloc (Nat.le_refl _) _).block r hrlt4
                have hB5 := HB4.out.trans (((Below.refl _ W4).alloc hbase4 _).trans (grown_below (base := w.heap.size) (Own.headRow (HOWN4.out.alloc _) haM) hg5 (Nat.le_refl _) (by rw [World.size_alloc]; omega)))
                refine wpAnyH_ready (rs := [7]) (by kernel_rfl) (by simp) ?_
                refine AllReadyH.cons (o := ?_) ?_ (fun K hK => ?_) AllReadyH.nil
                rotate_left
                · (simp only [List.getElem?_toArray, List.getElem?_cons_succ, List.getElem?_cons_zero]; rfl)
                refine step_append_any rfl (.tmp 63) (.tmp 64) 22 rfl clTy w.heap.size (v5) ((p + 1) + 1) (elE.all (M.take (p + 1)) ++ El.cells e) rfl (ho5) (M.length - (p + 1)) (elE.all (M.drop (p + 1))) _ rfl (HNW.out W5 hr5) (by unfold maxLen; omega) (by omega) (by omega) ?_
                intro v6 W6 ho6 hg6 _ _
                refine hK.out _ _ trivial (fun hHeld => ?_)
                clear hK K
                try simp only [Act.put, List.setIfInBounds_toArray, List.set_cons_zero, List.set_cons_succ]
                refine wpAnyH_take (i := 8) (oi := ?_) (v := ?_) ?_ (by kernel_rfl) (by kernel_rfl) (by kernel_rfl) ?_ (Or.inl ⟨?_, ?_⟩) (by assumption) ?_
                rotate_left 2
                · (simp only [List.getElem?_toArray, List.getElem?_cons_succ, List.getElem?_cons_zero]; rfl)
                · first | exact fun _ _ _ h => h | exact fun _ _ _ h => by cases h.1
                · rfl
                · ((intro wq hSq; (try dsimp only at hSq); go_simp); (try with_reducible rfl))
                try simp only [Act.put, List.setIfInBounds_toArray, List.set_cons_zero, List.set_cons_succ]
                have hB6 := hB5.trans (grown_below ho5 hg6 (Nat.le_refl _) (by omega))
                have HFIN : Hid (Own elE 32 w.heap.size W6 v6 (M.take (p + 1) ++ [e] ++ M.drop (p + 1)) ∧ Below w.heap.size w W6) := Lib.hid ⟨by
                  unfold Own
                  rw [elE.all_append, elE.all_append, show (M.take (p + 1) ++ [e] ++ M.drop (p + 1)).length = (p + 1) + 1 + (M.length - (p + 1)) by simp <;> omega]
                  have hs1 : elE.all [e] = El.cells e := by simp [Enc.all, elE]
                  rw [hs1]
                  exact ho6, hB6⟩
                refine wpAnyH_done (by kernel_rfl) ?_ _
                clear ho5 hg5 ho6 hg6 hB5 hB6 hr4 hr5 hsz5 HOWN4 HB4
                go_wp2_with fail
                go_roundw
                case rel => exact ⟨k + 1, M.take (p + 1) ++ [e] ++ M.drop (p + 1), by omega, by go_num, HFIN.out.1, HPM.out _ haM, srt_insert HSM.out haM (.inr ⟨f, by omega, by simpa using HF.out, HLE.out⟩) HUP.out, HFIN.out.2⟩
                case measure => simp [intOf]; omega
              · have hB2 := drewN_below HBQ.out nq
                generalize wr.drewN nq = W2 at hB2 ⊢
                have HOWN2 := Lib.hid (HOWN.out.below hB2 (Nat.le_refl _))
                have hbx2 := HBX.out.kept hB2
                have hbase2 := Nat.le_trans hbase hB2.size
                have hgW2 : g < W2.heap.size := Nat.lt_of_lt_of_le HROW.out.lt hB2.size
                have HB2 := Lib.hid (HBW.out.trans (hB2.mono hbase))
                clear hB2
                have haM : (p + 1) ≤ M.length := HA.out
                have hM60 : M.length ≤ 60 := by have := HML.out; omega
                have hac : (p + 1) ≤ cap := Nat.le_trans haM hcap1
                have q1 : (0 : Int) ≤ (p : Int) + 1 := by omega
                have q2 : (p : Int) + 1 ≤ (cap : Int) := by omega
                have HLIT := Lib.hid (World.ownsRow_lit (base := W2.heap.size) (e := 32) (size := 7) W2 #[] 0 (Nat.le_refl _) (by simp [maxLen]) rfl)
                have HN1 := Lib.hid ((HOWN2.out.alloc (.cells #[] 32)).tailAny haM)
                go_wp2_with (first
                  | (at_builtin; refine wpList_app_any rfl _ _ 22 rfl clTy W2.heap.size _ 0 [] rfl HLIT.out (M.length - (p + 1)) (elE.all (M.drop (p + 1))) (by first | exact HN1.out | simpa using HN1.out | simpa [Enc.all] using HN1.out) (by unfold maxLen; omega) (by omega) (by simp) ?_; intro v7 W3 ho3 hg3 hn3 _)
                  | fail)
                have hB3 : Below W2.heap.size W2 W3 := ((Below.refl _ W2).alloc (Nat.le_refl _) _).trans (grown_below HLIT.out hg3 (Nat.le_refl _) (by simp))
                have HOWN3 := Lib.hid (HOWN2.out.below hB3 (Nat.le_refl _))
                have hbx3 := hbx2.kept hB3
                have HB3 := Lib.hid (HB2.out.trans (hB3.mono hbase2))
                have hbase3 := Nat.le_trans hbase2 hB3.size
                obtain ⟨r, cr, cur, rfl, hr1, hr2, hr3⟩ : ∃ r cr cur, v7 = .slice (some ⟨r, 0, none⟩) (M.length - (p + 1)) cr ∧ W2.heap.size ≤ r ∧ W3.heap[r]? = some (.cells cur 32 (0, 0)) ∧ cur.toList.take ((M.length - (p + 1)) * 7) = elE.all (M.drop (p + 1)) := by
                  rcases ho3.2 with ⟨e1, _⟩ | ⟨r, cr, cur, e1, q1, q2, q3, q4, q5, q6⟩
                  · have := hn3.1 e1
                    cases this.1
                  · rw [Nat.zero_add] at e1 q6
                    exact ⟨r, cr, cur, e1, q1, q2, by simpa using q6⟩
                have hrlt : r < W3.heap.size := (Array.getElem?_eq_some_iff.1 hr2).1
                have hrne : (Value.slice (some ⟨g, 0, none⟩) (p + 1) cap).ownBlock ≠ some r := fun h => by
                  have h2 : g = r := by injection h
                  omega
                have HNW : Hid (∀ W : World, W.heap[r]? = W3.heap[r]? → NewsAt W 7 (.slice (some ⟨r, 0, none⟩) (M.length - (p + 1)) cr) (M.length - (p + 1)) (elE.all (M.drop (p + 1)))) := Lib.hid fun W hW => newsAt_of hr2 hr3 hW haM
                clear ho3 hg3 hn3 hB3 hr2 hr3 HLIT HN1 HOWN2 hbx2 HB2
                go_wp2_with fail
                have hSd : (fun _ : World => True) W3.drew := trivial
                refine wp_region_held_drew (S := fun _ => True) (by kernel_rfl) hSd (fun hHeld => ?_)
                have hb4 := (Below.refl W3.heap.size W3).drew
                have HOWN4 := Lib.hid (HOWN3.out.below hb4 (Nat.le_refl _))
                have hbx4 := hbx3.kept hb4
                have HB4 := Lib.hid (HB3.out.trans (hb4.mono hbase3))
                have hbase4 := Nat.le_trans hbase3 hb4.size
                have hr4 : W3.drew.heap[r]? = W3.heap[r]? := rfl
                have hrlt4 : r < W3.drew.heap.size := hrlt
                generalize W3.drew = W4 at hHeld hbx4 HB4 hbase4 HOWN4 hr4 hrlt4 ⊢
                clear hb4 hbx3
                obtain ⟨b0, b1, b2, b3, b4, b5, b6⟩ := hbx4.cells
                refine wpAnyH_take (i := 0) (oi := ?_) (v := ?_) ?_ (by kernel_rfl) (by kernel_rfl) (by kernel_rfl) ?_ (Or.inl ⟨?_, ?_⟩) (by assumption) ?_
                rotate_left 2
                · (simp only [List.getElem?_toArray, List.getElem?_cons_zero]; rfl)
                · first | exact fun _ _ _ h => h | exact fun _ _ _ h => by cases h.1
                · rfl
                · ((intro wq hSq; (try dsimp only at hSq); go_simp); (try with_reducible rfl))
                try simp only [Act.put, List.setIfInBounds_toArray, List.set_cons_zero, List.set_cons_succ]
                refine wpAnyH_take (i := 1) (oi := ?_) (v := ?_) ?_ (by kernel_rfl) (by kernel_rfl) (by kernel_rfl) ?_ (Or.inl ⟨?_, ?_⟩) (by assumption) ?_
                rotate_left 2
                · (simp only [List.getElem?_toArray, List.getElem?_cons_succ, List.getElem?_cons_zero]; rfl)
                · first | exact fun _ _ _ h => h | exact fun _ _ _ h => by cases h.1
                · rfl
                · ((intro wq hSq; (try dsimp only at hSq); go_simp); (try with_reducible rfl))
                try simp only [Act.put, List.setIfInBounds_toArray, List.set_cons_zero, List.set_cons_succ]
                refine wpAnyH_take (i := 2) (oi := ?_) (v := ?_) ?_ (by kernel_rfl) (by kernel_rfl) (by kernel_rfl) ?_ (Or.inl ⟨?_, ?_⟩) (by assumption) ?_
                rotate_left 2
                · (simp only [List.getElem?_toArray, List.getElem?_cons_succ, List.getElem?_cons_zero]; rfl)
                · first | exact fun _ _ _ h => h | exact fun _ _ _ h => by cases h.1
                · rfl
                · ((intro wq hSq; (try dsimp only at hSq); go_simp); (try with_reducible rfl))
                try simp only [Act.put, List.setIfInBounds_toArray, List.set_cons_zero, List.set_cons_succ]
                refine wpAnyH_take (i := 6) (oi := ?_) (v := ?_) ?_ (by kernel_rfl) (by kernel_rfl) (by kernel_rfl) ?_ (Or.inl ⟨?_, ?_⟩) (by assumption) ?_
                rotate_left 2
                · (simp only [List.getElem?_toArray, List.getElem?_cons_succ, List.getElem?_cons_zero]; rfl)
                · first | exact fun _ _ _ h => h | exact fun _ _ _ h => by cases h.1
                · rfl
                · ((intro wq hSq; (try dsimp only at hSq); go_simp); (try with_reducible rfl))
                try simp only [Act.put, List.setIfInBounds_toArray, List.set_cons_zero, List.set_cons_succ]
                refine wpAnyH_ready (rs := [3]) (by kernel_rfl) (by simp) ?_
                refine AllReadyH.cons (o := ?_) ?_ (fun K hK => ?_) AllReadyH.nil
                rotate_left
                · (simp only [List.getElem?_toArray, List.getElem?_cons_succ, List.getElem?_cons_zero]; rfl)
                go_simp
                refine hK.out _ _ trivial (fun hHeld => ?_)
                clear hK K
                try simp only [Act.put, List.setIfInBounds_toArray, List.set_cons_zero, List.set_cons_succ]
                refine wpAnyH_ready (rs := [4]) (by kernel_rfl) (by simp) ?_
                refine AllReadyH.cons (o := ?_) ?_ (fun K hK => ?_) AllReadyH.nil
                rotate_left
                · (simp only [List.getElem?_toArray, List.getElem?_cons_succ, List.getElem?_cons_zero]; rfl)
                go_simp
                refine hK.out _ _ trivial (fun hHeld => ?_)
                clear hK K
                try simp only [Act.put, List.setIfInBounds_toArray, List.set_cons_zero, List.set_cons_succ]
                refine wpAnyH_ready (rs := [5]) (by kernel_rfl) (by simp) ?_
                refine AllReadyH.cons (o := ?_) ?_ (fun K hK => ?_) AllReadyH.nil
                rotate_left
                · (simp only [List.getElem?_toArray, List.getElem?_cons_succ, List.getElem?_cons_zero]; rfl)
                refine step_append_any rfl (.tmp 60) (.tmp 62) 22 rfl clTy w.heap.size (.slice (some ⟨g, 0, none⟩) (p + 1) cap) ((p + 1)) (elE.all (M.take (p + 1))) rfl (Own.headRow (HOWN4.out.alloc _) haM) (1) (El.cells e) _ rfl (NewsAt.new W4 (El.cells e).toArray 32 7 rfl rfl) (by unfold maxLen; omega) (by omega) (by rw [World.size_alloc]; omega) ?_
                intro v5 W5 ho5 hg5 _ _
                refine hK.out _ _ trivial (fun hHeld => ?_)
                clear hK K
                try simp only [Act.put, List.setIfInBounds_toArray, List.set_cons_zero, List.set_cons_succ]
                have hsz5 := hg5.size
                rw [World.size_alloc] at hsz5
                have hr5 : W5.heap[r]? = W3.heap[r]? := by
                  rw [hg5.block r (by rw [World.size_alloc]; omega) (fun e => hrne e.symm), ← hr4]
                  exact ((Below.refl _ W4).alloc (Nat.le_refl _) _).block r hrlt4
                have hB5 := HB4.out.trans (((Below.refl _ W4).alloc hbase4 _).trans (grown_below (base := w.heap.size) (Own.headRow (HOWN4.out.alloc _) haM) hg5 (Nat.le_refl _) (by rw [World.size_alloc]; omega)))
                refine wpAnyH_ready (rs := [7]) (by kernel_rfl) (by simp) ?_
                refine AllReadyH.cons (o := ?_) ?_ (fun K hK => ?_) AllReadyH.nil
                rotate_left
                · (simp only [List.getElem?_toArray, List.getElem?_cons_succ, List.getElem?_cons_zero]; rfl)
                refine step_append_any rfl (.tmp 63) (.tmp 64) 22 rfl clTy w.heap.size (v5) ((p + 1) + 1) (elE.all (M.take (p + 1)) ++ El.cells e) rfl (ho5) (M.length - (p + 1)) (elE.all (M.drop (p + 1))) _ rfl (HNW.out W5 hr5) (by unfold maxLen; omega) (by omega) (by omega) ?_
                intro v6 W6 ho6 hg6 _ _
                refine hK.out _ _ trivial (fun hHeld => ?_)
                clear hK K
                try simp only [Act.put, List.setIfInBounds_toArray, List.set_cons_zero, List.set_cons_succ]
                refine wpAnyH_take (i := 8) (oi := ?_) (v := ?_) ?_ (by kernel_rfl) (by kernel_rfl) (by kernel_rfl) ?_ (Or.inl ⟨?_, ?_⟩) (by assumption) ?_
                rotate_left 2
                · (simp only [List.getElem?_toArray, List.getElem?_cons_succ, List.getElem?_cons_zero]; rfl)
                · first | exact fun _ _ _ h => h | exact fun _ _ _ h => by cases h.1
                · rfl
                · ((intro wq hSq; (try dsimp only at hSq); go_simp); (try with_reducible rfl))
                try simp only [Act.put, List.setIfInBounds_toArray, List.set_cons_zero, List.set_cons_succ]
                have hB6 := hB5.trans (grown_below ho5 hg6 (Nat.le_refl _) (by omega))
                have HFIN : Hid (Own elE 32 w.heap.size W6 v6 (M.take (p + 1) ++ [e] ++ M.drop (p + 1)) ∧ Below w.heap.size w W6) := Lib.hid ⟨by
                  unfold Own
                  rw [elE.all_append, elE.all_append, show (M.take (p + 1) ++ [e] ++ M.drop (p + 1)).length = (p + 1) + 1 + (M.length - (p + 1)) by simp <;> omega]
                  have hs1 : elE.all [e] = El.cells e := by simp [Enc.all, elE]
                  rw [hs1]
                  exact ho6, hB6⟩
                refine wpAnyH_done (by kernel_rfl) ?_ _
                clear ho5 hg5 ho6 hg6 hB5 hB6 hr4 hr5 hsz5 HOWN4 HB4
                go_wp2_with fail
                go_roundw
                case rel => exact ⟨k + 1, M.take (p + 1) ++ [e] ++ M.drop (p + 1), by omega, by go_num, HFIN.out.1, HPM.out _ haM, srt_insert HSM.out haM (.inr ⟨f, by omega, by simpa using HF.out, HLE.out⟩) HUP.out, HFIN.out.2⟩
                case measure => simp [intOf]; omega
            · have HLE := Lib.hid hl
              clear hl
              go_wp2_with fail
              go_quiet (fail)
              rcases Decidable.em (cap = (p + 1)) with hca | hca
              · subst hca
                have hB2 := drewN_below HBQ.out nq
                generalize wr.drewN nq = W2 at hB2 ⊢
                have HOWN2 := Lib.hid (HOWN.out.below hB2 (Nat.le_refl _))
                have hbx2 := HBX.out.kept hB2
                have hbase2 := Nat.le_trans hbase hB2.size
                have hgW2 : g < W2.heap.size := Nat.lt_of_lt_of_le HROW.out.lt hB2.size
                have HB2 := Lib.hid (HBW.out.trans (hB2.mono hbase))
                clear hB2
                have haM : (p + 1) ≤ M.length := HA.out
                have hM60 : M.length ≤ 60 := by have := HML.out; omega
                have hac : (p + 1) ≤ (p + 1) := Nat.le_trans haM hcap1
                have q1 : (0 : Int) ≤ (p : Int) + 1 := by omega
                have HLIT := Lib.hid (World.ownsRow_lit (base := W2.heap.size) (e := 32) (size := 7) W2 #[] 0 (Nat.le_refl _) (by simp [maxLen]) rfl)
                have HN1 := Lib.hid ((HOWN2.out.alloc (.cells #[] 32)).tailEnd haM ⟨g, 0, none⟩ 0)
                go_wp2_with (first
                  | (at_builtin; refine wpList_app_any rfl _ _ 22 rfl clTy W2.heap.size _ 0 [] rfl HLIT.out (M.length - (p + 1)) (elE.all (M.drop (p + 1))) (by first | exact HN1.out | simpa using HN1.out | simpa [Enc.all] using HN1.out) (by unfold maxLen; omega) (by omega) (by simp) ?_; intro v7 W3 ho3 hg3 hn3 _)
                  | fail)
                have hMa : M.length = (p + 1) := by omega
                obtain ⟨r, hre⟩ : ∃ r, W2.heap.size = r := ⟨_, rfl⟩
                have hB3 : Below W2.heap.size W2 (W2.alloc (.cells #[] 32)) := (Below.refl _ W2).alloc (Nat.le_refl _) _
                have hrlt : r < (W2.alloc (.cells #[] 32)).heap.size := by rw [World.size_alloc]; omega
                try rw [hre]
                generalize W2.alloc (.cells #[] 32) = W3 at hB3 hrlt ⊢
                have HOWN3 := Lib.hid (HOWN2.out.below hB3 (Nat.le_refl _))
                have hbx3 := hbx2.kept hB3
                have HB3 := Lib.hid (HB2.out.trans (hB3.mono hbase2))
                have hbase3 := Nat.le_trans hbase2 hB3.size
                have hrne : (Value.slice (some ⟨g, 0, none⟩) (p + 1) (p + 1)).ownBlock ≠ some r := fun h => by
                  have h2 : g = r := by injection h
                  omega
                have HNW : Hid (∀ W : World, W.heap[r]? = W3.heap[r]? → NewsAt W 7 (.slice (some ⟨r, 0, none⟩) 0 0) (M.length - (p + 1)) (elE.all (M.drop (p + 1)))) := Lib.hid fun W _ => by
                  rw [show M.length - (p + 1) = 0 by omega, show M.drop (p + 1) = [] from List.drop_eq_nil_of_le (by omega)]
                  exact ⟨rfl, (fun u hu => by cases hu), .inl ⟨_, _, rfl, fun j u hu => by cases hu⟩⟩
                clear hB3 HLIT HN1 HOWN2 hbx2 HB2
                go_wp2_with fail
                have hSd : (fun _ : World => True) W3.drew := trivial
                refine wp_region_held_drew (S := fun _ => True) (by kernel_rfl) hSd (fun hHeld => ?_)
                have hb4 := (Below.refl W3.heap.size W3).drew
                have HOWN4 := Lib.hid (HOWN3.out.below hb4 (Nat.le_refl _))
                have hbx4 := hbx3.kept hb4
                have HB4 := Lib.hid (HB3.out.trans (hb4.mono hbase3))
                have hbase4 := Nat.le_trans hbase3 hb4.size
                have hr4 : W3.drew.heap[r]? = W3.heap[r]? := rfl
                have hrlt4 : r < W3.drew.heap.size := hrlt
                generalize W3.drew = W4 at hHeld hbx4 HB4 hbase4 HOWN4 hr4 hrlt4 ⊢
                clear hb4 hbx3
                obtain ⟨b0, b1, b2, b3, b4, b5, b6⟩ := hbx4.cells
                refine wpAnyH_take (i := 0) (oi := ?_) (v := ?_) ?_ (by kernel_rfl) (by kernel_rfl) (by kernel_rfl) ?_ (Or.inl ⟨?_, ?_⟩) (by assumption) ?_
                rotate_left 2
                · (simp only [List.getElem?_toArray, List.getElem?_cons_zero]; rfl)
                · first | exact fun _ _ _ h => h | exact fun _ _ _ h => by cases h.1
                · rfl
                · ((intro wq hSq; (try dsimp only at hSq); go_simp); (try with_reducible rfl))
                try simp only [Act.put, List.setIfInBounds_toArray, List.set_cons_zero, List.set_cons_succ]
                refine wpAnyH_take (i := 1) (oi := ?_) (v := ?_) ?_ (by kernel_rfl) (by kernel_rfl) (by kernel_rfl) ?_ (Or.inl ⟨?_, ?_⟩) (by assumption) ?_
                rotate_left 2
                · (simp only [List.getElem?_toArray, List.getElem?_cons_succ, List.getElem?_cons_zero]; rfl)
                · first | exact fun _ _ _ h => h | exact fun _ _ _ h => by cases h.1
                · rfl
                · ((intro wq hSq; (try dsimp only at hSq); go_simp); (try with_reducible rfl))
                try simp only [Act.put, List.setIfInBounds_toArray, List.set_cons_zero, List.set_cons_succ]
                refine wpAnyH_take (i := 2) (oi := ?_) (v := ?_) ?_ (by kernel_rfl) (by kernel_rfl) (by kernel_rfl) ?_ (Or.inl ⟨?_, ?_⟩) (by assumption) ?_
                rotate_left 2
                · (simp only [List.getElem?_toArray, List.getElem?_cons_succ, List.getElem?_cons_zero]; rfl)
                · first | exact fun _ _ _ h => h | exact fun _ _ _ h => by cases h.1
                · rfl
                · ((intro wq hSq; (try dsimp only at hSq); go_simp); (try with_reducible rfl))
                try simp only [Act.put, List.setIfInBounds_toArray, List.set_cons_zero, List.set_cons_succ]
                refine wpAnyH_take (i := 6) (oi := ?_) (v := ?_) ?_ (by kernel_rfl) (by kernel_rfl) (by kernel_rfl) ?_ (Or.inl ⟨?_, ?_⟩) (by assumption) ?_
                rotate_left 2
                · (simp only [List.getElem?_toArray, List.getElem?_cons_succ, List.getElem?_cons_zero]; rfl)
                · first | exact fun _ _ _ h => h | exact fun _ _ _ h => by cases h.1
                · rfl
                · ((intro wq hSq; (try dsimp only at hSq); go_simp); (try with_reducible rfl))
                try simp only [Act.put, List.setIfInBounds_toArray, List.set_cons_zero, List.set_cons_succ]
                refine wpAnyH_ready (rs := [3]) (by kernel_rfl) (by simp) ?_
                refine AllReadyH.cons (o := ?_) ?_ (fun K hK => ?_) AllReadyH.nil
                rotate_left
                · (simp only [List.getElem?_toArray, List.getElem?_cons_succ, List.getElem?_cons_zero]; rfl)
                go_simp
                refine hK.out _ _ trivial (fun hHeld => ?_)
                clear hK K
                try simp only [Act.put, List.setIfInBounds_toArray, List.set_cons_zero, List.set_cons_succ]
                refine wpAnyH_ready (rs := [4]) (by kernel_rfl) (by simp) ?_
                refine AllReadyH.cons (o := ?_) ?_ (fun K hK => ?_) AllReadyH.nil
                rotate_left
                · (simp only [List.getElem?_toArray, List.getElem?_cons_succ, List.getElem?_cons_zero]; rfl)
                go_simp
                refine hK.out _ _ trivial (fun hHeld => ?_)
                clear hK K
                try simp only [Act.put, List.setIfInBounds_toArray, List.set_cons_zero, List.set_cons_succ]
                refine wpAnyH_ready (rs := [5]) (by kernel_rfl) (by simp) ?_
                refine AllReadyH.cons (o := ?_) ?_ (fun K hK => ?_) AllReadyH.nil
                rotate_left
                · (simp only [List.getElem?_toArray, List.getElem?_cons_succ, List.getElem?_cons_zero]; rfl)
                refine step_append_any rfl (.tmp 60) (.tmp 62) 22 rfl clTy w.heap.size (.slice (some ⟨g, 0, none⟩) (p + 1) (p + 1)) ((p + 1)) (elE.all (M.take (p + 1))) rfl (Own.headRow (HOWN4.out.alloc _) haM) (1) (El.cells e) _ rfl (NewsAt.new W4 (El.cells e).toArray 32 7 rfl rfl) (by unfold maxLen; omega) (by omega) (by rw [World.size_alloc]; omega) ?_
                intro v5 W5 ho5 hg5 _ _
                refine hK.out _ _ trivial (fun hHeld => ?_)
                clear hK K
                try simp only [Act.put, List.setIfInBounds_toArray, List.set_cons_zero, List.set_cons_succ]
                have hsz5 := hg5.size
                rw [World.size_alloc] at hsz5
                have hr5 : W5.heap[r]? = W3.heap[r]? := by
                  rw [hg5.block r (by rw [World.size_alloc]; omega) (fun e => hrne e.symm), ← hr4]
                  exact ((Below.refl _ W4).alloc (Nat.le_refl _) _).block r hrlt4
                have hB5 := HB4.out.trans (((Below.refl _ W4).alloc hbase4 _).trans (grown_below (base := w.heap.size) (Own.headRow (HOWN4.out.alloc _) haM) hg5 (Nat.le_refl _) (by rw [World.size_alloc]; omega)))
                refine wpAnyH_ready (rs := [7]) (by kernel_rfl) (by simp) ?_
                refine AllReadyH.cons (o := ?_) ?_ (fun K hK => ?_) AllReadyH.nil
                rotate_left
                · (simp only [List.getElem?_toArray, List.getElem?_cons_succ, List.getElem?_cons_zero]; rfl)
                refine step_append_any rfl (.tmp 63) (.tmp 64) 22 rfl clTy w.heap.size (v5) ((p + 1) + 1) (elE.all (M.take (p + 1)) ++ El.cells e) rfl (ho5) (M.length - (p + 1)) (elE.all (M.drop (p + 1))) _ rfl (HNW.out W5 hr5) (by unfold maxLen; omega) (by omega) (by omega) ?_
                intro v6 W6 ho6 hg6 _ _
                refine hK.out _ _ trivial (fun hHeld => ?_)
                clear hK K
                try simp only [Act.put, List.setIfInBounds_toArray, List.set_cons_zero, List.set_cons_succ]
                refine wpAnyH_take (i := 8) (oi := ?_) (v := ?_) ?_ (by kernel_rfl) (by kernel_rfl) (by kernel_rfl) ?_ (Or.inl ⟨?_, ?_⟩) (by assumption) ?_
                rotate_left 2
                · (simp only [List.getElem?_toArray, List.getElem?_cons_succ, List.getElem?_cons_zero]; rfl)
                · first | exact fun _ _ _ h => h | exact fun _ _ _ h => by cases h.1
                · rfl
                · ((intro wq hSq; (try dsimp only at hSq); go_simp); (try with_reducible rfl))
                try simp only [Act.put, List.setIfInBounds_toArray, List.set_cons_zero, List.set_cons_succ]
                have hB6 := hB5.trans (grown_below ho5 hg6 (Nat.le_refl _) (by omega))
                have HFIN : Hid (Own elE 32 w.heap.size W6 v6 (M.take (p + 1) ++ [e] ++ M.drop (p + 1)) ∧ Below w.heap.size w W6) := Lib.hid ⟨by
                  unfold Own
                  rw [elE.all_append, elE.all_append, show (M.take (p + 1) ++ [e] ++ M.drop (p + 1)).length = (p + 1) + 1 + (M.length - (p + 1)) by simp <;> omega]
                  have hs1 : elE.all [e] = El.cells e := by simp [Enc.all, elE]
                  rw [hs1]
                  exact ho6, hB6⟩
                refine wpAnyH_done (by kernel_rfl) ?_ _
                clear ho5 hg5 ho6 hg6 hB5 hB6 hr4 hr5 hsz5 HOWN4 HB4
                go_wp2_with fail
                go_roundw
                case rel => exact ⟨k + 1, M.take (p + 1) ++ [e] ++ M.drop (p + 1), by omega, by go_num, HFIN.out.1, HPM.out _ haM, srt_insert HSM.out haM (.inr ⟨f, by omega, by simpa using HF.out, HLE.out⟩) HUP.out, HFIN.out.2⟩
                case measure => simp [intOf]; omega
              · have hB2 := drewN_below HBQ.out nq
                generalize wr.drewN nq = W2 at hB2 ⊢
                have HOWN2 := Lib.hid (HOWN.out.below hB2 (Nat.le_refl _))
                have hbx2 := HBX.out.kept hB2
                have hbase2 := Nat.le_trans hbase hB2.size
                have hgW2 : g < W2.heap.size := Nat.lt_of_lt_of_le HROW.out.lt hB2.size
                have HB2 := Lib.hid (HBW.out.trans (hB2.mono hbase))
                clear hB2
                have haM : (p + 1) ≤ M.length := HA.out
                have hM60 : M.length ≤ 60 := by have := HML.out; omega
                have hac : (p + 1) ≤ cap := Nat.le_trans haM hcap1
                have q1 : (0 : Int) ≤ (p : Int) + 1 := by omega
                have q2 : (p : Int) + 1 ≤ (cap : Int) := by omega
                have HLIT := Lib.hid (World.ownsRow_lit (base := W2.heap.size) (e := 32) (size := 7) W2 #[] 0 (Nat.le_refl _) (by simp [maxLen]) rfl)
                have HN1 := Lib.hid ((HOWN2.out.alloc (.cells #[] 32)).tailAny haM)
                go_wp2_with (first
                  | (at_builtin; refine wpList_app_any rfl _ _ 22 rfl clTy W2.heap.size _ 0 [] rfl HLIT.out (M.length - (p + 1)) (elE.all (M.drop (p + 1))) (by first | exact HN1.out | simpa using HN1.out | simpa [Enc.all] using HN1.out) (by unfold maxLen; omega) (by omega) (by simp) ?_; intro v7 W3 ho3 hg3 hn3 _)
                  | fail)
                have hB3 : Below W2.heap.size W2 W3 := ((Below.refl _ W2).alloc (Nat.le_refl _) _).trans (grown_below HLIT.out hg3 (Nat.le_refl _) (by simp))
                have HOWN3 := Lib.hid (HOWN2.out.below hB3 (Nat.le_refl _))
                have hbx3 := hbx2.kept hB3
                have HB3 := Lib.hid (HB2.out.trans (hB3.mono hbase2))
                have hbase3 := Nat.le_trans hbase2 hB3.size
                obtain ⟨r, cr, cur, rfl, hr1, hr2, hr3⟩ : ∃ r cr cur, v7 = .slice (some ⟨r, 0, none⟩) (M.length - (p + 1)) cr ∧ W2.heap.size ≤ r ∧ W3.heap[r]? = some (.cells cur 32 (0, 0)) ∧ cur.toList.take ((M.length - (p + 1)) * 7) = elE.all (M.drop (p + 1)) := by
                  rcases ho3.2 with ⟨e1, _⟩ | ⟨r, cr, cur, e1, q1, q2, q3, q4, q5, q6⟩
                  · have := hn3.1 e1
                    cases this.1
                  · rw [Nat.zero_add] at e1 q6
                    exact ⟨r, cr, cur, e1, q1, q2, by simpa using q6⟩
                have hrlt : r < W3.heap.size := (Array.getElem?_eq_some_iff.1 hr2).1
                have hrne : (Value.slice (some ⟨g, 0, none⟩) (p + 1) cap).ownBlock ≠ some r := fun h => by
                  have h2 : g = r := by injection h
                  omega
                have HNW : Hid (∀ W : World, W.heap[r]? = W3.heap[r]? → NewsAt W 7 (.slice (some ⟨r, 0, none⟩) (M.length - (p + 1)) cr) (M.length - (p + 1)) (elE.all (M.drop (p + 1)))) := Lib.hid fun W hW => newsAt_of hr2 hr3 hW haM
                clear ho3 hg3 hn3 hB3 hr2 hr3 HLIT HN1 HOWN2 hbx2 HB2
                go_wp2_with fail
                have hSd : (fun _ : World => True) W3.drew := trivial
                refine wp_region_held_drew (S := fun _ => True) (by kernel_rfl) hSd (fun hHeld => ?_)
                have hb4 := (Below.refl W3.heap.size W3).drew
                have HOWN4 := Lib.hid (HOWN3.out.below hb4 (Nat.le_refl _))
                have hbx4 := hbx3.kept hb4
                have HB4 := Lib.hid (HB3.out.trans (hb4.mono hbase3))
                have hbase4 := Nat.le_trans hbase3 hb4.size
                have hr4 : W3.drew.heap[r]? = W3.heap[r]? := rfl
                have hrlt4 : r < W3.drew.heap.size := hrlt
                generalize W3.drew = W4 at hHeld hbx4 HB4 hbase4 HOWN4 hr4 hrlt4 ⊢
                clear hb4 hbx3
                obtain ⟨b0, b1, b2, b3, b4, b5, b6⟩ := hbx4.cells
                refine wpAnyH_take (i := 0) (oi := ?_) (v := ?_) ?_ (by kernel_rfl) (by kernel_rfl) (by kernel_rfl) ?_ (Or.inl ⟨?_, ?_⟩) (by assumption) ?_
                rotate_left 2
                · (simp only [List.getElem?_toArray, List.getElem?_cons_zero]; rfl)
                · first | exact fun _ _ _ h => h | exact fun _ _ _ h => by cases h.1
                · rfl
                · ((intro wq hSq; (try dsimp only at hSq); go_simp); (try with_reducible rfl))
                try simp only [Act.put, List.setIfInBounds_toArray, List.set_cons_zero, List.set_cons_succ]
                refine wpAnyH_take (i := 1) (oi := ?_) (v := ?_) ?_ (by kernel_rfl) (by kernel_rfl) (by kernel_rfl) ?_ (Or.inl ⟨?_, ?_⟩) (by assumption) ?_
                rotate_left 2
                · (simp only [List.getElem?_toArray, List.getElem?_cons_succ, List.getElem?_cons_zero]; rfl)
                · first | exact fun _ _ _ h => h | exact fun _ _ _ h => by cases h.1
                · rfl
                · ((intro wq hSq; (try dsimp only at hSq); go_simp); (try with_reducible rfl))
                try simp only [Act.put, List.setIfInBounds_toArray, List.set_cons_zero, List.set_cons_succ]
                refine wpAnyH_take (i := 2) (oi := ?_) (v := ?_) ?_ (by kernel_rfl) (by kernel_rfl) (by kernel_rfl) ?_ (Or.inl ⟨?_, ?_⟩) (by assumption) ?_
                rotate_left 2
                · (simp only [List.getElem?_toArray, List.getElem?_cons_succ, List.getElem?_cons_zero]; rfl)
                · first | exact fun _ _ _ h => h | exact fun _ _ _ h => by cases h.1
                · rfl
                · ((intro wq hSq; (try dsimp only at hSq); go_simp); (try with_reducible rfl))
                try simp only [Act.put, List.setIfInBounds_toArray, List.set_cons_zero, List.set_cons_succ]
                refine wpAnyH_take (i := 6) (oi := ?_) (v := ?_) ?_ (by kernel_rfl) (by kernel_rfl) (by kernel_rfl) ?_ (Or.inl ⟨?_, ?_⟩) (by assumption) ?_
                rotate_left 2
                · (simp only [List.getElem?_toArray, List.getElem?_cons_succ, List.getElem?_cons_zero]; rfl)
                · first | exact fun _ _ _ h => h | exact fun _ _ _ h => by cases h.1
                · rfl
                · ((intro wq hSq; (try dsimp only at hSq); go_simp); (try with_reducible rfl))
                try simp only [Act.put, List.setIfInBounds_toArray, List.set_cons_zero, List.set_cons_succ]
                refine wpAnyH_ready (rs := [3]) (by kernel_rfl) (by simp) ?_
                refine AllReadyH.cons (o := ?_) ?_ (fun K hK => ?_) AllReadyH.nil
                rotate_left
                · (simp only [List.getElem?_toArray, List.getElem?_cons_succ, List.getElem?_cons_zero]; rfl)
                go_simp
                refine hK.out _ _ trivial (fun hHeld => ?_)
                clear hK K
                try simp only [Act.put, List.setIfInBounds_toArray, List.set_cons_zero, List.set_cons_succ]
                refine wpAnyH_ready (rs := [4]) (by kernel_rfl) (by simp) ?_
                refine AllReadyH.cons (o := ?_) ?_ (fun K hK => ?_) AllReadyH.nil
                rotate_left
                · (simp only [List.getElem?_toArray, List.getElem?_cons_succ, List.getElem?_cons_zero]; rfl)
                go_simp
                refine hK.out _ _ trivial (fun hHeld => ?_)
                clear hK K
                try simp only [Act.put, List.setIfInBounds_toArray, List.set_cons_zero, List.set_cons_succ]
                refine wpAnyH_ready (rs := [5]) (by kernel_rfl) (by simp) ?_
                refine AllReadyH.cons (o := ?_) ?_ (fun K hK => ?_) AllReadyH.nil
                rotate_left
                · (simp only [List.getElem?_toArray, List.getElem?_cons_succ, List.getElem?_cons_zero]; rfl)
                refine step_append_any rfl (.tmp 60) (.tmp 62) 22 rfl clTy w.heap.size (.slice (some ⟨g, 0, none⟩) (p + 1) cap) ((p + 1)) (elE.all (M.take (p + 1))) rfl (Own.headRow (HOWN4.out.alloc _) haM) (1) (El.cells e) _ rfl (NewsAt.new W4 (El.cells e).toArray 32 7 rfl rfl) (by unfold maxLen; omega) (by omega) (by rw [World.size_alloc]; omega) ?_
                intro v5 W5 ho5 hg5 _ _
                refine hK.out _ _ trivial (fun hHeld => ?_)
                clear hK K
                try simp only [Act.put, List.setIfInBounds_toArray, List.set_cons_zero, List.set_cons_succ]
                have hsz5 := hg5.size
                rw [World.size_alloc] at hsz5
                have hr5 : W5.heap[r]? = W3.heap[r]? := by
                  rw [hg5.block r (by rw [World.size_alloc]; omega) (fun e => hrne e.symm), ← hr4]
                  exact ((Below.refl _ W4).alloc (Nat.le_refl _) _).block r hrlt4
                have hB5 := HB4.out.trans (((Below.refl _ W4).alloc hbase4 _).trans (grown_below (base := w.heap.size) (Own.headRow (HOWN4.out.alloc _) haM) hg5 (Nat.le_refl _) (by rw [World.size_alloc]; omega)))
                refine wpAnyH_ready (rs := [7]) (by kernel_rfl) (by simp) ?_
                refine AllReadyH.cons (o := ?_) ?_ (fun K hK => ?_) AllReadyH.nil
                rotate_left
                · (simp only [List.getElem?_toArray, List.getElem?_cons_succ, List.getElem?_cons_zero]; rfl)
                refine step_append_any rfl (.tmp 63) (.tmp 64) 22 rfl clTy w.heap.size (v5) ((p + 1) + 1) (elE.all (M.take (p + 1)) ++ El.cells e) rfl (ho5) (M.length - (p + 1)) (elE.all (M.drop (p + 1))) _ rfl (HNW.out W5 hr5) (by unfold maxLen; omega) (by omega) (by omega) ?_
                intro v6 W6 ho6 hg6 _ _
                refine hK.out _ _ trivial (fun hHeld => ?_)
                clear hK K
                try simp only [Act.put, List.setIfInBounds_toArray, List.set_cons_zero, List.set_cons_succ]
                refine wpAnyH_take (i := 8) (oi := ?_) (v := ?_) ?_ (by kernel_rfl) (by kernel_rfl) (by kernel_rfl) ?_ (Or.inl ⟨?_, ?_⟩) (by assumption) ?_
                rotate_left 2
                · (simp only [List.getElem?_toArray, List.getElem?_cons_succ, List.getElem?_cons_zero]; rfl)
                · first | exact fun _ _ _ h => h | exact fun _ _ _ h => by cases h.1
                · rfl
                · ((intro wq hSq; (try dsimp only at hSq); go_simp); (try with_reducible rfl))
                try simp only [Act.put, List.setIfInBounds_toArray, List.set_cons_zero, List.set_cons_succ]
                have hB6 := hB5.trans (grown_below ho5 hg6 (Nat.le_refl _) (by omega))
                have HFIN : Hid (Own elE 32 w.heap.size W6 v6 (M.take (p + 1) ++ [e] ++ M.drop (p + 1)) ∧ Below w.heap.size w W6) := Lib.hid ⟨by
                  unfold Own
                  rw [elE.all_append, elE.all_append, show (M.take (p + 1) ++ [e] ++ M.drop (p + 1)).length = (p + 1) + 1 + (M.length - (p + 1)) by simp <;> omega]
                  have hs1 : elE.all [e] = El.cells e := by simp [Enc.all, elE]
                  rw [hs1]
                  exact ho6, hB6⟩
                refine wpAnyH_done (by kernel_rfl) ?_ _
                clear ho5 hg5 ho6 hg6 hB5 hB6 hr4 hr5 hsz5 HOWN4 HB4
                go_wp2_with fail
                go_roundw
                case rel => exact ⟨k + 1, M.take (p + 1) ++ [e] ++ M.drop (p + 1), by omega, by go_num, HFIN.out.1, HPM.out _ haM, srt_insert HSM.out haM (.inr ⟨f, by omega, by simpa using HF.out, HLE.out⟩) HUP.out, HFIN.out.2⟩
                case measure => simp [intOf]; omega
    · have ht : L0.take k = L0 := take_all hlt
      rw [ht] at hpm
      go_wp2_with fail
      go_ret
      exact ⟨_, M, rfl, hown, hpm, hsm, hb⟩

end Go.Proofs.Ytgmmblknaeepbaa

namespace Go.Proofs.Ytgmmblknaeepbaa
open Go.RowKit

def headB (l : List UInt8) : Bool := decide (l.length ≠ 0 ∧ l.length ≤ 10 ∧ ¬(1 < l.length ∧ l.headD 0 = 48))
def numB (l : List UInt8) : Bool := headB l && (l.all digB && decide (dv l < 4294967296))
theorem numB_head {l : List UInt8} (h : ¬(l.length ≠ 0 ∧ l.length ≤ 10 ∧ ¬(1 < l.length ∧ l.headD 0 = 48))) : numB l = false := by
  have : headB l = false := decide_eq_false h
  unfold numB
  rw [this]
  rfl
theorem numB_dig {l : List UInt8} {k : Nat} {x : UInt8} (hx : l[k]? = some x) (hd : ¬(48 ≤ x.toNat ∧ x.toNat ≤ 57)) : numB l = false := by
  have : l.all digB = false := by
    rw [List.all_eq_false]
    refine ⟨x, List.mem_of_getElem? hx, ?_⟩
    simp only [digB, Bool.and_eq_true, decide_eq_true_eq]
    exact hd
  unfold numB
  rw [this]
  simp
theorem numB_all {l : List UInt8} (h : headB l = true) (ha : l.all digB = true) : numB l = decide ((dv l : Int) < 4294967296) := by
  unfold numB
  rw [h, ha, Bool.true_and, Bool.true_and]
  exact decide_eq_decide.2 (by omega)

end Go.Proofs.Ytgmmblknaeepbaa

namespace Go.Proofs.Ytgmmblknaeepbaa
open Go.RowKit

def digN (l : List UInt8) : Option Nat := if l.all digB = true ∧ l.length ≤ 14 then some (dv l) else none
def digNV (l : List UInt8) : Int := match digN l with
  | some n => n
  | none => -9
theorem digNV_yes {l : List UInt8} (h : l.all digB = true) (h2 : l.length ≤ 14) : digNV l = dv l := by unfold digNV digN; rw [if_pos ⟨h, h2⟩]
theorem digNV_no {l : List UInt8} (h : ¬(l.all digB = true ∧ l.length ≤ 14)) : digNV l = -9 := by unfold digNV digN; rw [if_neg h]
theorem all_no {l : List UInt8} {k : Nat} {x : UInt8} (hx : l[k]? = some x) (hd : digB x = false) : ¬ l.all digB = true := fun h => by
  have := List.all_eq_true.1 h x (List.mem_of_getElem? hx)
  rw [hd] at this
  cases this

end Go.Proofs.Ytgmmblknaeepbaa
