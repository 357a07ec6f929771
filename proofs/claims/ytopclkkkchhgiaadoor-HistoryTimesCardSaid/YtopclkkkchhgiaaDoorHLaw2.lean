/- The statement HistoryTimes. -/
import Derived.Test.YtopclkkkchhgiaaDoorHeld
import Derived.Test.YtopclkkkchhgiaaDoorHis7
namespace Go.Proofs.YtopclkkkchhgiaaDoor
open Go.RowKit

def zC : Cl := ⟨0, 0, 0, [], 0, 0, 0⟩
/-- Seven cells stored. -/
def put7 (w : World) (B : Nat) (x : Cl) (A : Option Addr) (c : Nat) : World := ((((((w.setCell ⟨B, 0, none⟩ (.int .i64 x.p)).setCell ⟨B, 1, none⟩ (.int .i64 x.o)).setCell ⟨B, 2, none⟩ (.int .i64 x.q)).setCell ⟨B, 3, none⟩ (.slice A x.r.length c)).setCell ⟨B, 4, none⟩ (.int .i64 x.c)).setCell ⟨B, 5, none⟩ (.int .i64 x.b)).setCell ⟨B, 6, none⟩ (.int .i64 x.e)
theorem put7_heap (w : World) (B : Nat) (x : Cl) (A : Option Addr) (c k : Nat) (h : k ≠ B) : (put7 w B x A c).heap[k]? = w.heap[k]? := by
  unfold put7
  rw [Below.heap_setCell _ _ _ _ h, Below.heap_setCell _ _ _ _ h, Below.heap_setCell _ _ _ _ h, Below.heap_setCell _ _ _ _ h, Below.heap_setCell _ _ _ _ h, Below.heap_setCell _ _ _ _ h, Below.heap_setCell _ _ _ _ h]
theorem put7_below {w0 w : World} {N B : Nat} (h : Below N w0 w) (hB : N ≤ B) (x : Cl) (A : Option Addr) (c : Nat) : Below N w0 (put7 w B x A c) :=
  ((((((h.setCell (p := ⟨B, 0, none⟩) hB _).setCell (p := ⟨B, 1, none⟩) hB _).setCell (p := ⟨B, 2, none⟩) hB _).setCell (p := ⟨B, 3, none⟩) hB _).setCell (p := ⟨B, 4, none⟩) hB _).setCell (p := ⟨B, 5, none⟩) hB _).setCell (p := ⟨B, 6, none⟩) hB _
theorem ClBox.far {w : World} {B B' : Nat} {x y : Cl} {A A' : Option Addr} {c c' : Nat} (h : ClBox w B x A c) (hne : B ≠ B') : ClBox (put7 w B' y A' c') B x A c := (put7_heap w B' y A' c' B hne).trans h
theorem ClBox.put {w : World} {B : Nat} {x : Cl} {A : Option Addr} {c : Nat} (h : ClBox w B x A c) (y : Cl) (A' : Option Addr) (c' : Nat) : ClBox (put7 w B y A' c') B y A' c' := by
  have h0 : w.heap[B]? = some (.cells #[.int .i64 x.p, .int .i64 x.o, .int .i64 x.q, .slice A x.r.length c, .int .i64 x.c, .int .i64 x.b, .int .i64 x.e] 47 (0, 0)) := h
  have step : ∀ (W : World) (cs : Array Value) (j : Nat) (v : Value), W.heap[B]? = some (.cells cs 47 (0, 0)) → (W.setCell ⟨B, j, none⟩ v).heap[B]? = some (.cells (cs.setIfInBounds j v) 47 (0, 0)) := fun W cs j v hW => by
    rw [setCell_eq_setRow W B j _ _ _ _ hW]
    exact setRow_heap W B _ _ _ _ hW
  have h1 := step _ _ 0 (.int .i64 y.p) h0
  have h2 := step _ _ 1 (.int .i64 y.o) h1
  have h3 := step _ _ 2 (.int .i64 y.q) h2
  have h4 := step _ _ 3 (.slice A' y.r.length c') h3
  have h5 := step _ _ 4 (.int .i64 y.c) h4
  have h6 := step _ _ 5 (.int .i64 y.b) h5
  have h7 := step _ _ 6 (.int .i64 y.e) h6
  simp only [List.setIfInBounds_toArray, List.set_cons_zero, List.set_cons_succ] at h7
  exact h7
theorem ClBox.fr {w : World} {B : Nat} {x : Cl} {A : Option Addr} {c : Nat} (h : ClBox w B x A c) (j : Nat) : w.frozen? ⟨B, j, none⟩ = false := by
  simp [World.frozen?, show w.heap[B]? = _ from h]

def HtSt (wB : World) (n : Nat) (xa xb xc xd : Cl) (Aa Ab Ac Ad : Option Addr) (ca cb cc cd : Nat) (w' : World) : Prop := Below wB.heap.size wB w' ∧ w'.cell? ⟨n, 0, none⟩ = some (.int .i64 xa.p) ∧ w'.cell? ⟨n, 1, none⟩ = some (.int .i64 xa.o) ∧ w'.cell? ⟨n, 2, none⟩ = some (.int .i64 xa.q) ∧ w'.cell? ⟨n, 3, none⟩ = some (.slice Aa xa.r.length ca) ∧ w'.cell? ⟨n, 4, none⟩ = some (.int .i64 xa.c) ∧ w'.cell? ⟨n, 5, none⟩ = some (.int .i64 xa.b) ∧ w'.cell? ⟨n, 6, none⟩ = some (.int .i64 xa.e) ∧ w'.cell? ⟨n, 7, none⟩ = some (.int .i64 xb.p) ∧ w'.cell? ⟨n, 8, none⟩ = some (.int .i64 xb.o) ∧ w'.cell? ⟨n, 9, none⟩ = some (.int .i64 xb.q) ∧ w'.cell? ⟨n, 10, none⟩ = some (.slice Ab xb.r.length cb) ∧ w'.cell? ⟨n, 11, none⟩ = some (.int .i64 xb.c) ∧ w'.cell? ⟨n, 12, none⟩ = some (.int .i64 xb.b) ∧ w'.cell? ⟨n, 13, none⟩ = some (.int .i64 xb.e) ∧ w'.cell? ⟨n, 14, none⟩ = some (.int .i64 xc.p) ∧ w'.cell? ⟨n, 15, none⟩ = some (.int .i64 xc.o) ∧ w'.cell? ⟨n, 16, none⟩ = some (.int .i64 xc.q) ∧ w'.cell? ⟨n, 17, none⟩ = some (.slice Ac xc.r.length cc) ∧ w'.cell? ⟨n, 18, none⟩ = some (.int .i64 xc.c) ∧ w'.cell? ⟨n, 19, none⟩ = some (.int .i64 xc.b) ∧ w'.cell? ⟨n, 20, none⟩ = some (.int .i64 xc.e) ∧ w'.cell? ⟨n, 21, none⟩ = some (.int .i64 xd.p) ∧ w'.cell? ⟨n, 22, none⟩ = some (.int .i64 xd.o) ∧ w'.cell? ⟨n, 23, none⟩ = some (.int .i64 xd.q) ∧ w'.cell? ⟨n, 24, none⟩ = some (.slice Ad xd.r.length cd) ∧ w'.cell? ⟨n, 25, none⟩ = some (.int .i64 xd.c) ∧ w'.cell? ⟨n, 26, none⟩ = some (.int .i64 xd.b) ∧ w'.cell? ⟨n, 27, none⟩ = some (.int .i64 xd.e)
theorem HtSt.of {wB : World} {n : Nat} {xa xb xc xd : Cl} {Aa Ab Ac Ad : Option Addr} {ca cb cc cd : Nat} {w' : World} (h0 : wB.heap[n]? = some (.cells #[.int .i64 xa.p, .int .i64 xa.o, .int .i64 xa.q, .slice Aa xa.r.length ca, .int .i64 xa.c, .int .i64 xa.b, .int .i64 xa.e, .int .i64 xb.p, .int .i64 xb.o, .int .i64 xb.q, .slice Ab xb.r.length cb, .int .i64 xb.c, .int .i64 xb.b, .int .i64 xb.e, .int .i64 xc.p, .int .i64 xc.o, .int .i64 xc.q, .slice Ac xc.r.length cc, .int .i64 xc.c, .int .i64 xc.b, .int .i64 xc.e, .int .i64 xd.p, .int .i64 xd.o, .int .i64 xd.q, .slice Ad xd.r.length cd, .int .i64 xd.c, .int .i64 xd.b, .int .i64 xd.e] 50 (0, 0))) (hb : Below wB.heap.size wB w') : HtSt wB n xa xb xc xd Aa Ab Ac Ad ca cb cc cd w' := by
  have hn : n < wB.heap.size := (Array.getElem?_eq_some_iff.1 h0).1
  have hk : ∀ j, w'.cell? ⟨n, j, none⟩ = #[.int .i64 xa.p, .int .i64 xa.o, .int .i64 xa.q, .slice Aa xa.r.length ca, .int .i64 xa.c, .int .i64 xa.b, .int .i64 xa.e, .int .i64 xb.p, .int .i64 xb.o, .int .i64 xb.q, .slice Ab xb.r.length cb, .int .i64 xb.c, .int .i64 xb.b, .int .i64 xb.e, .int .i64 xc.p, .int .i64 xc.o, .int .i64 xc.q, .slice Ac xc.r.length cc, .int .i64 xc.c, .int .i64 xc.b, .int .i64 xc.e, .int .i64 xd.p, .int .i64 xd.o, .int .i64 xd.q, .slice Ad xd.r.length cd, .int .i64 xd.c, .int .i64 xd.b, .int .i64 xd.e][j]? := fun j => by
    rw [hb.cell (p := ⟨n, j, none⟩) hn]
    simp only [World.cell?, h0]
    rfl
  exact ⟨hb, hk 0, hk 1, hk 2, hk 3, hk 4, hk 5, hk 6, hk 7, hk 8, hk 9, hk 10, hk 11, hk 12, hk 13, hk 14, hk 15, hk 16, hk 17, hk 18, hk 19, hk 20, hk 21, hk 22, hk 23, hk 24, hk 25, hk 26, hk 27⟩
/-- What is left to do, once the blocks are there. -/
theorem held_cut {Pr : Program} {md : Region.Mode} {ops : Array Oper} {Q : Exit → Act → World → Prop} {S : World → Prop} (T : Act → World → Prop) (L : Array Bool) (k : Nat) {fuel : Nat} {listed : Array Bool} {a : Act} {w : World}
    (ht : ∀ a w, T a w → wpAnyH Pr md ops Q S k L a w) (h : (∀ a w, T a w → wpAnyH Pr md ops Q S k L a w) → wpAnyH Pr md ops Q S fuel listed a w) : wpAnyH Pr md ops Q S fuel listed a w := h ht
theorem held_at {Pr : Program} {md : Region.Mode} {ops : Array Oper} {Q : Exit → Act → World → Prop} {S : World → Prop} {L L' : Array Bool} {k : Nat} {a : Act} {w : World} (e : L = L') (h : wpAnyH Pr md ops Q S k L' a w) : wpAnyH Pr md ops Q S k L a w := by
  rw [e]; exact h
/-- A region whose ways all end alike, but for four numbers and the world. -/
theorem region_to4 {Pr : Program} {id : Nat} {ops : Array Oper} {b : Bool} {a : Act} {w : World} {Q : Exit → Act → World → Prop} (A : Nat → Nat → Nat → Nat → Act) (X : Nat → Nat → Nat → Nat → World → Prop)
    (h : (Code.region id ops b).wp Pr (fun e a w => e = .normal ∧ ∃ p3 p4 p5 p6, a = A p3 p4 p5 p6 ∧ X p3 p4 p5 p6 w) a w) (hq : ∀ p3 p4 p5 p6 w, X p3 p4 p5 p6 w → Q .normal (A p3 p4 p5 p6) w) : (Code.region id ops b).wp Pr Q a w :=
  Code.wp_mono (fun e a w ⟨he, p3, p4, p5, p6, ha, hx⟩ => by
    subst he ha
    exact hq p3 p4 p5 p6 w hx) h

def Bx4 (xa xb xc xd : Cl) (Aa Ab Ac Ad : Option Addr) (ca cb cc cd p3 p4 p5 p6 : Nat) (W : World) : Prop := ClBox W p3 xa Aa ca ∧ ClBox W p4 xb Ab cb ∧ ClBox W p5 xc Ac cc ∧ ClBox W p6 xd Ad cd
theorem Bx4.kept {xa xb xc xd : Cl} {Aa Ab Ac Ad : Option Addr} {ca cb cc cd p3 p4 p5 p6 : Nat} {W W' : World} (h : Bx4 xa xb xc xd Aa Ab Ac Ad ca cb cc cd p3 p4 p5 p6 W) (hb : Below W.heap.size W W') : Bx4 xa xb xc xd Aa Ab Ac Ad ca cb cc cd p3 p4 p5 p6 W' :=
  ⟨h.1.kept hb, h.2.1.kept hb, h.2.2.1.kept hb, h.2.2.2.kept hb⟩

set_option maxRecDepth 100000 in
set_option maxHeartbeats 16000000 in
theorem historyTimes_any (xa xb xc xd : Cl) (Aa Ab Ac Ad : Option Addr) (ca cb cc cd : Nat) (w : World) (hWa : Ws w w.heap.size Aa xa.r) (hca : xa.r.length ≤ ca) (hca2 : ca ≤ maxLen) (hT : Tab w) :
    Calls Tryd.prog 8 #[.agg #[.int .i64 xa.p, .int .i64 xa.o, .int .i64 xa.q, .slice Aa xa.r.length ca, .int .i64 xa.c, .int .i64 xa.b, .int .i64 xa.e, .int .i64 xb.p, .int .i64 xb.o, .int .i64 xb.q, .slice Ab xb.r.length cb, .int .i64 xb.c, .int .i64 xb.b, .int .i64 xb.e, .int .i64 xc.p, .int .i64 xc.o, .int .i64 xc.q, .slice Ac xc.r.length cc, .int .i64 xc.c, .int .i64 xc.b, .int .i64 xc.e, .int .i64 xd.p, .int .i64 xd.o, .int .i64 xd.q, .slice Ad xd.r.length cd, .int .i64 xd.c, .int .i64 xd.b, .int .i64 xd.e]] w fun e w' => e = .returned (.bool true) ∧ Below w.heap.size w w' := by
  go_enter Tryd.func8, Tryd.ntmps8
  go_wp2_with fail
  have hB0 := (Below.refl w.heap.size w).alloc (Nat.le_refl _) (.cells #[.int .i64 xa.p, .int .i64 xa.o, .int .i64 xa.q, .slice Aa xa.r.length ca, .int .i64 xa.c, .int .i64 xa.b, .int .i64 xa.e, .int .i64 xb.p, .int .i64 xb.o, .int .i64 xb.q, .slice Ab xb.r.length cb, .int .i64 xb.c, .int .i64 xb.b, .int .i64 xb.e, .int .i64 xc.p, .int .i64 xc.o, .int .i64 xc.q, .slice Ac xc.r.length cc, .int .i64 xc.c, .int .i64 xc.b, .int .i64 xc.e, .int .i64 xd.p, .int .i64 xd.o, .int .i64 xd.q, .slice Ad xd.r.length cd, .int .i64 xd.c, .int .i64 xd.b, .int .i64 xd.e] 50)
  have h0 : (w.alloc (.cells #[.int .i64 xa.p, .int .i64 xa.o, .int .i64 xa.q, .slice Aa xa.r.length ca, .int .i64 xa.c, .int .i64 xa.b, .int .i64 xa.e, .int .i64 xb.p, .int .i64 xb.o, .int .i64 xb.q, .slice Ab xb.r.length cb, .int .i64 xb.c, .int .i64 xb.b, .int .i64 xb.e, .int .i64 xc.p, .int .i64 xc.o, .int .i64 xc.q, .slice Ac xc.r.length cc, .int .i64 xc.c, .int .i64 xc.b, .int .i64 xc.e, .int .i64 xd.p, .int .i64 xd.o, .int .i64 xd.q, .slice Ad xd.r.length cd, .int .i64 xd.c, .int .i64 xd.b, .int .i64 xd.e] 50)).heap[w.heap.size]? = some (.cells #[.int .i64 xa.p, .int .i64 xa.o, .int .i64 xa.q, .slice Aa xa.r.length ca, .int .i64 xa.c, .int .i64 xa.b, .int .i64 xa.e, .int .i64 xb.p, .int .i64 xb.o, .int .i64 xb.q, .slice Ab xb.r.length cb, .int .i64 xb.c, .int .i64 xb.b, .int .i64 xb.e, .int .i64 xc.p, .int .i64 xc.o, .int .i64 xc.q, .slice Ac xc.r.length cc, .int .i64 xc.c, .int .i64 xc.b, .int .i64 xc.e, .int .i64 xd.p, .int .i64 xd.o, .int .i64 xd.q, .slice Ad xd.r.length cd, .int .i64 xd.c, .int .i64 xd.b, .int .i64 xd.e] 50 (0, 0)) := heap_alloc_new w _
  obtain ⟨wB, hwB⟩ : ∃ x, w.alloc (.cells #[.int .i64 xa.p, .int .i64 xa.o, .int .i64 xa.q, .slice Aa xa.r.length ca, .int .i64 xa.c, .int .i64 xa.b, .int .i64 xa.e, .int .i64 xb.p, .int .i64 xb.o, .int .i64 xb.q, .slice Ab xb.r.length cb, .int .i64 xb.c, .int .i64 xb.b, .int .i64 xb.e, .int .i64 xc.p, .int .i64 xc.o, .int .i64 xc.q, .slice Ac xc.r.length cc, .int .i64 xc.c, .int .i64 xc.b, .int .i64 xc.e, .int .i64 xd.p, .int .i64 xd.o, .int .i64 xd.q, .slice Ad xd.r.length cd, .int .i64 xd.c, .int .i64 xd.b, .int .i64 xd.e] 50) = x := ⟨_, rfl⟩
  obtain ⟨n, hn⟩ : ∃ x, w.heap.size = x := ⟨_, rfl⟩
  rw [hwB] at h0 hB0
  rw [hn] at h0
  have hHS := Lib.hid hn
  first | rw [hwB, hn] | rw [hwB] | skip
  clear hwB hn
  refine region_to4 (fun p3 p4 p5 p6 => { tmps := #[.agg #[.int .i64 xa.p, .int .i64 xa.o, .int .i64 xa.q, .slice Aa xa.r.length ca, .int .i64 xa.c, .int .i64 xa.b, .int .i64 xa.e, .int .i64 xb.p, .int .i64 xb.o, .int .i64 xb.q, .slice Ab xb.r.length cb, .int .i64 xb.c, .int .i64 xb.b, .int .i64 xb.e, .int .i64 xc.p, .int .i64 xc.o, .int .i64 xc.q, .slice Ac xc.r.length cc, .int .i64 xc.c, .int .i64 xc.b, .int .i64 xc.e, .int .i64 xd.p, .int .i64 xd.o, .int .i64 xd.q, .slice Ad xd.r.length cd, .int .i64 xd.c, .int .i64 xd.b, .int .i64 xd.e], .pointer (some ⟨n, 0, none⟩), .bool false, .pointer (some ⟨p3, 0, none⟩), .pointer (some ⟨p4, 0, none⟩), .pointer (some ⟨p5, 0, none⟩), .pointer (some ⟨p6, 0, none⟩), .pointer (some ⟨n, 0, none⟩), .agg #[.int .i64 xa.p, .int .i64 xa.o, .int .i64 xa.q, .slice Aa xa.r.length ca, .int .i64 xa.c, .int .i64 xa.b, .int .i64 xa.e], .pointer (some ⟨n, 7, none⟩), .agg #[.int .i64 xb.p, .int .i64 xb.o, .int .i64 xb.q, .slice Ab xb.r.length cb, .int .i64 xb.c, .int .i64 xb.b, .int .i64 xb.e], .pointer (some ⟨n, 14, none⟩), .agg #[.int .i64 xc.p, .int .i64 xc.o, .int .i64 xc.q, .slice Ac xc.r.length cc, .int .i64 xc.c, .int .i64 xc.b, .int .i64 xc.e], .pointer (some ⟨n, 21, none⟩), .agg #[.int .i64 xd.p, .int .i64 xd.o, .int .i64 xd.q, .slice Ad xd.r.length cd, .int .i64 xd.c, .int .i64 xd.b, .int .i64 xd.e], undef, undef, undef, undef, undef, undef, undef, undef, undef, undef, undef, undef, undef, undef, undef, undef, undef, undef, undef, undef, undef, undef, undef, undef, undef, undef, undef, undef, undef, undef, undef, undef, undef], defers := [] }) (fun p3 p4 p5 p6 W => Bx4 xa xb xc xd Aa Ab Ac Ad ca cb cc cd p3 p4 p5 p6 W ∧ Below wB.heap.size wB W) ?reg ?cont
  case reg =>
    refine wp_region_held_drew (S := fun w' => Below wB.heap.size wB w' ∧ w'.cell? ⟨n, 0, none⟩ = some (.int .i64 xa.p) ∧ w'.cell? ⟨n, 1, none⟩ = some (.int .i64 xa.o) ∧ w'.cell? ⟨n, 2, none⟩ = some (.int .i64 xa.q) ∧ w'.cell? ⟨n, 3, none⟩ = some (.slice Aa xa.r.length ca) ∧ w'.cell? ⟨n, 4, none⟩ = some (.int .i64 xa.c) ∧ w'.cell? ⟨n, 5, none⟩ = some (.int .i64 xa.b) ∧ w'.cell? ⟨n, 6, none⟩ = some (.int .i64 xa.e) ∧ w'.cell? ⟨n, 7, none⟩ = some (.int .i64 xb.p) ∧ w'.cell? ⟨n, 8, none⟩ = some (.int .i64 xb.o) ∧ w'.cell? ⟨n, 9, none⟩ = some (.int .i64 xb.q) ∧ w'.cell? ⟨n, 10, none⟩ = some (.slice Ab xb.r.length cb) ∧ w'.cell? ⟨n, 11, none⟩ = some (.int .i64 xb.c) ∧ w'.cell? ⟨n, 12, none⟩ = some (.int .i64 xb.b) ∧ w'.cell? ⟨n, 13, none⟩ = some (.int .i64 xb.e) ∧ w'.cell? ⟨n, 14, none⟩ = some (.int .i64 xc.p) ∧ w'.cell? ⟨n, 15, none⟩ = some (.int .i64 xc.o) ∧ w'.cell? ⟨n, 16, none⟩ = some (.int .i64 xc.q) ∧ w'.cell? ⟨n, 17, none⟩ = some (.slice Ac xc.r.length cc) ∧ w'.cell? ⟨n, 18, none⟩ = some (.int .i64 xc.c) ∧ w'.cell? ⟨n, 19, none⟩ = some (.int .i64 xc.b) ∧ w'.cell? ⟨n, 20, none⟩ = some (.int .i64 xc.e) ∧ w'.cell? ⟨n, 21, none⟩ = some (.int .i64 xd.p) ∧ w'.cell? ⟨n, 22, none⟩ = some (.int .i64 xd.o) ∧ w'.cell? ⟨n, 23, none⟩ = some (.int .i64 xd.q) ∧ w'.cell? ⟨n, 24, none⟩ = some (.slice Ad xd.r.length cd) ∧ w'.cell? ⟨n, 25, none⟩ = some (.int .i64 xd.c) ∧ w'.cell? ⟨n, 26, none⟩ = some (.int .i64 xd.b) ∧ w'.cell? ⟨n, 27, none⟩ = some (.int .i64 xd.e)) (by kernel_rfl) (HtSt.of h0 (Below.refl _ _).drew) (fun hHeld => ?_)
    have hb0 := hHeld.1
    generalize wB.drew = u0 at hHeld hb0 ⊢
    refine wpAnyH_take (i := 0) (oi := ?_) (v := ?_) ?_ (by kernel_rfl) (by kernel_rfl) (by kernel_rfl) ?_ (Or.inl ⟨?_, ?_⟩) (by assumption) ?_
    rotate_left 2
    · (simp only [List.getElem?_toArray, List.getElem?_cons_zero]; rfl)
    · first | exact fun _ _ _ h => h | exact fun _ _ _ h => by cases h.1
    · rfl
    · ((intro wq hSq; (try dsimp only at hSq); go_simp); (try with_reducible rfl))
    try simp only [Act.put, List.setIfInBounds_toArray, List.set_cons_zero, List.set_cons_succ]
    refine wpAnyH_take (i := 1) (oi := ?_) (v := ?_) ?_ (by kernel_rfl) (by kernel_rfl) (by kernel_rfl) ?_ (Or.inl ⟨?_, ?_⟩) (by assumption) ?_
    rotate_left 2
    · (simp only [List.getElem?_toArray, List.getElem?_cons_succ, List.getElem?_cons_zero]; rfl)
    · first | exact fun _ _ _ h => h | exact fun _ _ _ h => by cases h.1
    · rfl
    · ((intro wq hSq; (try dsimp only at hSq); go_simp); (try with_reducible rfl))
    try simp only [Act.put, List.setIfInBounds_toArray, List.set_cons_zero, List.set_cons_succ]
    refine wpAnyH_take (i := 2) (oi := ?_) (v := ?_) ?_ (by kernel_rfl) (by kernel_rfl) (by kernel_rfl) ?_ (Or.inl ⟨?_, ?_⟩) (by assumption) ?_
    rotate_left 2
    · (simp only [List.getElem?_toArray, List.getElem?_cons_succ, List.getElem?_cons_zero]; rfl)
    · first | exact fun _ _ _ h => h | exact fun _ _ _ h => by cases h.1
    · rfl
    · ((intro wq hSq; (try dsimp only at hSq); go_simp); (try with_reducible rfl))
    try simp only [Act.put, List.setIfInBounds_toArray, List.set_cons_zero, List.set_cons_succ]
    refine wpAnyH_take (i := 3) (oi := ?_) (v := ?_) ?_ (by kernel_rfl) (by kernel_rfl) (by kernel_rfl) ?_ (Or.inl ⟨?_, ?_⟩) (by assumption) ?_
    rotate_left 2
    · (simp only [List.getElem?_toArray, List.getElem?_cons_succ, List.getElem?_cons_zero]; rfl)
    · first | exact fun _ _ _ h => h | exact fun _ _ _ h => by cases h.1
    · rfl
    · ((intro wq hSq; (try dsimp only at hSq); go_simp); (try with_reducible rfl))
    try simp only [Act.put, List.setIfInBounds_toArray, List.set_cons_zero, List.set_cons_succ]
    refine wpAnyH_take (i := 4) (oi := ?_) (v := ?_) ?_ (by kernel_rfl) (by kernel_rfl) (by kernel_rfl) ?_ (Or.inl ⟨?_, ?_⟩) (by assumption) ?_
    rotate_left 2
    · (simp only [List.getElem?_toArray, List.getElem?_cons_succ, List.getElem?_cons_zero]; rfl)
    · first | exact fun _ _ _ h => h | exact fun _ _ _ h => by cases h.1
    · rfl
    · ((intro wq hSq; (try dsimp only at hSq); go_simp); (try with_reducible rfl))
    try simp only [Act.put, List.setIfInBounds_toArray, List.set_cons_zero, List.set_cons_succ]
    refine wpAnyH_take (i := 5) (oi := ?_) (v := ?_) ?_ (by kernel_rfl) (by kernel_rfl) (by kernel_rfl) ?_ (Or.inl ⟨?_, ?_⟩) (by assumption) ?_
    rotate_left 2
    · (simp only [List.getElem?_toArray, List.getElem?_cons_succ, List.getElem?_cons_zero]; rfl)
    · first | exact fun _ _ _ h => h | exact fun _ _ _ h => by cases h.1
    · rfl
    · ((intro wq hSq; (try dsimp only at hSq); go_simp); (try with_reducible rfl))
    try simp only [Act.put, List.setIfInBounds_toArray, List.set_cons_zero, List.set_cons_succ]
    refine wpAnyH_take (i := 6) (oi := ?_) (v := ?_) ?_ (by kernel_rfl) (by kernel_rfl) (by kernel_rfl) ?_ (Or.inl ⟨?_, ?_⟩) (by assumption) ?_
    rotate_left 2
    · (simp only [List.getElem?_toArray, List.getElem?_cons_succ, List.getElem?_cons_zero]; rfl)
    · first | exact fun _ _ _ h => h | exact fun _ _ _ h => by cases h.1
    · rfl
    · ((intro wq hSq; (try dsimp only at hSq); go_simp); (try with_reducible rfl))
    try simp only [Act.put, List.setIfInBounds_toArray, List.set_cons_zero, List.set_cons_succ]
    refine wpAnyH_take (i := 7) (oi := ?_) (v := ?_) ?_ (by kernel_rfl) (by kernel_rfl) (by kernel_rfl) ?_ (Or.inl ⟨?_, ?_⟩) (by assumption) ?_
    rotate_left 2
    · (simp only [List.getElem?_toArray, List.getElem?_cons_succ, List.getElem?_cons_zero]; rfl)
    · first | exact fun _ _ _ h => h | exact fun _ _ _ h => by cases h.1
    · rfl
    · ((intro wq hSq; (try dsimp only at hSq); go_simp); (try with_reducible rfl))
    try simp only [Act.put, List.setIfInBounds_toArray, List.set_cons_zero, List.set_cons_succ]
    clear hHeld
    refine held_cut (T := fun a W => ∃ p3 p4 p5 p6, a = { tmps := #[.agg #[.int .i64 xa.p, .int .i64 xa.o, .int .i64 xa.q, .slice Aa xa.r.length ca, .int .i64 xa.c, .int .i64 xa.b, .int .i64 xa.e, .int .i64 xb.p, .int .i64 xb.o, .int .i64 xb.q, .slice Ab xb.r.length cb, .int .i64 xb.c, .int .i64 xb.b, .int .i64 xb.e, .int .i64 xc.p, .int .i64 xc.o, .int .i64 xc.q, .slice Ac xc.r.length cc, .int .i64 xc.c, .int .i64 xc.b, .int .i64 xc.e, .int .i64 xd.p, .int .i64 xd.o, .int .i64 xd.q, .slice Ad xd.r.length cd, .int .i64 xd.c, .int .i64 xd.b, .int .i64 xd.e], .pointer (some ⟨n, 0, none⟩), .bool false, .pointer (some ⟨p3, 0, none⟩), .pointer (some ⟨p4, 0, none⟩), .pointer (some ⟨p5, 0, none⟩), .pointer (some ⟨p6, 0, none⟩), .pointer (some ⟨n, 0, none⟩), .agg #[.int .i64 xa.p, .int .i64 xa.o, .int .i64 xa.q, .slice Aa xa.r.length ca, .int .i64 xa.c, .int .i64 xa.b, .int .i64 xa.e], .pointer (some ⟨n, 7, none⟩), .agg #[.int .i64 xb.p, .int .i64 xb.o, .int .i64 xb.q, .slice Ab xb.r.length cb, .int .i64 xb.c, .int .i64 xb.b, .int .i64 xb.e], .pointer (some ⟨n, 14, none⟩), .agg #[.int .i64 xc.p, .int .i64 xc.o, .int .i64 xc.q, .slice Ac xc.r.length cc, .int .i64 xc.c, .int .i64 xc.b, .int .i64 xc.e], .pointer (some ⟨n, 21, none⟩), .agg #[.int .i64 xd.p, .int .i64 xd.o, .int .i64 xd.q, .slice Ad xd.r.length cd, .int .i64 xd.c, .int .i64 xd.b, .int .i64 xd.e], undef, undef, undef, undef, undef, undef, undef, undef, undef, undef, undef, undef, undef, undef, undef, undef, undef, undef, undef, undef, undef, undef, undef, undef, undef, undef, undef, undef, undef, undef, undef, undef, undef], defers := [] } ∧ Below wB.heap.size wB W ∧ wB.heap.size ≤ p3 ∧ wB.heap.size ≤ p4 ∧ wB.heap.size ≤ p5 ∧ wB.heap.size ≤ p6 ∧ p3 ≠ p4 ∧ p3 ≠ p5 ∧ p3 ≠ p6 ∧ p4 ≠ p5 ∧ p4 ≠ p6 ∧ p5 ≠ p6 ∧ ClBox W p3 zC none 0 ∧ ClBox W p4 zC none 0 ∧ ClBox W p5 zC none 0 ∧ ClBox W p6 zC none 0) (L := #[true, true, true, true, true, true, true, true, true, true, true, true, false, false, false, false]) (k := 4) ?tail ?main
    case tail =>
      rintro a u ⟨p3, p4, p5, p6, rfl, hb, g0, g1, g2, g3, ne01, ne02, ne03, ne12, ne13, ne23, z0, z1, z2, z3⟩
      obtain ⟨b0, b1, b2, b3, b4, b5, b6⟩ := z0.cells
      have hf := z0.fr
      simp only [zC, List.length_nil] at b0 b1 b2 b3 b4 b5 b6
      have f0 := hf 0
      have f1 := hf 1
      have f2 := hf 2
      have f3 := hf 3
      have f4 := hf 4
      have f5 := hf 5
      have f6 := hf 6
      clear hf
      have hb' := put7_below hb g0 xa Aa ca
      have hSx := HtSt.of (wB := wB) (n := n) (xa := xa) (xb := xb) (xc := xc) (xd := xd) (Aa := Aa) (Ab := Ab) (Ac := Ac) (Ad := Ad) (ca := ca) (cb := cb) (cc := cc) (cd := cd) h0 hb'
      have z0' := z0.put xa Aa ca
      have z1' := z1.far (y := xa) (A' := Aa) (c' := ca) (ne01.symm : p4 ≠ p3)
      have z2' := z2.far (y := xa) (A' := Aa) (c' := ca) (ne02.symm : p5 ≠ p3)
      have z3' := z3.far (y := xa) (A' := Aa) (c' := ca) (ne03.symm : p6 ≠ p3)
      refine wpAnyH_ready (rs := [12]) (by kernel_rfl) (by simp) ?_
      refine AllReadyH.cons (o := ?_) ?_ (fun K hK => ?_) AllReadyH.nil
      rotate_left
      · (simp only [List.getElem?_toArray, List.getElem?_cons_succ, List.getElem?_cons_zero]; rfl)
      go_simp
      refine hK.out _ (put7 u p3 xa Aa ca) hSx (fun hHeld => ?_)
      clear hK K hHeld hSx b0 b1 b2 b3 b4 b5 b6 f0 f1 f2 f3 f4 f5 f6 z0 z1 z2 z3 hb
      try simp only [Act.put, List.setIfInBounds_toArray, List.set_cons_zero, List.set_cons_succ]
      generalize put7 u p3 xa Aa ca = u1 at z0' z1' z2' z3' hb' ⊢
      have z0 := z0'
      have z1 := z1'
      have z2 := z2'
      have z3 := z3'
      have hb := hb'
      clear z0' z1' z2' z3' hb'
      obtain ⟨b0, b1, b2, b3, b4, b5, b6⟩ := z1.cells
      have hf := z1.fr
      simp only [zC, List.length_nil] at b0 b1 b2 b3 b4 b5 b6
      have f0 := hf 0
      have f1 := hf 1
      have f2 := hf 2
      have f3 := hf 3
      have f4 := hf 4
      have f5 := hf 5
      have f6 := hf 6
      clear hf
      have hb' := put7_below hb g1 xb Ab cb
      have hSx := HtSt.of (wB := wB) (n := n) (xa := xa) (xb := xb) (xc := xc) (xd := xd) (Aa := Aa) (Ab := Ab) (Ac := Ac) (Ad := Ad) (ca := ca) (cb := cb) (cc := cc) (cd := cd) h0 hb'
      have z0' := z0.far (y := xb) (A' := Ab) (c' := cb) (ne01 : p3 ≠ p4)
      have z1' := z1.put xb Ab cb
      have z2' := z2.far (y := xb) (A' := Ab) (c' := cb) (ne12.symm : p5 ≠ p4)
      have z3' := z3.far (y := xb) (A' := Ab) (c' := cb) (ne13.symm : p6 ≠ p4)
      refine wpAnyH_ready (rs := [13]) (by kernel_rfl) (by simp) ?_
      refine AllReadyH.cons (o := ?_) ?_ (fun K hK => ?_) AllReadyH.nil
      rotate_left
      · (simp only [List.getElem?_toArray, List.getElem?_cons_succ, List.getElem?_cons_zero]; rfl)
      go_simp
      refine hK.out _ (put7 u1 p4 xb Ab cb) hSx (fun hHeld => ?_)
      clear hK K hHeld hSx b0 b1 b2 b3 b4 b5 b6 f0 f1 f2 f3 f4 f5 f6 z0 z1 z2 z3 hb
      try simp only [Act.put, List.setIfInBounds_toArray, List.set_cons_zero, List.set_cons_succ]
      generalize put7 u1 p4 xb Ab cb = u2 at z0' z1' z2' z3' hb' ⊢
      have z0 := z0'
      have z1 := z1'
      have z2 := z2'
      have z3 := z3'
      have hb := hb'
      clear z0' z1' z2' z3' hb'
      obtain ⟨b0, b1, b2, b3, b4, b5, b6⟩ := z2.cells
      have hf := z2.fr
      simp only [zC, List.length_nil] at b0 b1 b2 b3 b4 b5 b6
      have f0 := hf 0
      have f1 := hf 1
      have f2 := hf 2
      have f3 := hf 3
      have f4 := hf 4
      have f5 := hf 5
      have f6 := hf 6
      clear hf
      have hb' := put7_below hb g2 xc Ac cc
      have hSx := HtSt.of (wB := wB) (n := n) (xa := xa) (xb := xb) (xc := xc) (xd := xd) (Aa := Aa) (Ab := Ab) (Ac := Ac) (Ad := Ad) (ca := ca) (cb := cb) (cc := cc) (cd := cd) h0 hb'
      have z0' := z0.far (y := xc) (A' := Ac) (c' := cc) (ne02 : p3 ≠ p5)
      have z1' := z1.far (y := xc) (A' := Ac) (c' := cc) (ne12 : p4 ≠ p5)
      have z2' := z2.put xc Ac cc
      have z3' := z3.far (y := xc) (A' := Ac) (c' := cc) (ne23.symm : p6 ≠ p5)
      refine wpAnyH_ready (rs := [14]) (by kernel_rfl) (by simp) ?_
      refine AllReadyH.cons (o := ?_) ?_ (fun K hK => ?_) AllReadyH.nil
      rotate_left
      · (simp only [List.getElem?_toArray, List.getElem?_cons_succ, List.getElem?_cons_zero]; rfl)
      go_simp
      refine hK.out _ (put7 u2 p5 xc Ac cc) hSx (fun hHeld => ?_)
      clear hK K hHeld hSx b0 b1 b2 b3 b4 b5 b6 f0 f1 f2 f3 f4 f5 f6 z0 z1 z2 z3 hb
      try simp only [Act.put, List.setIfInBounds_toArray, List.set_cons_zero, List.set_cons_succ]
      generalize put7 u2 p5 xc Ac cc = u3 at z0' z1' z2' z3' hb' ⊢
      have z0 := z0'
      have z1 := z1'
      have z2 := z2'
      have z3 := z3'
      have hb := hb'
      clear z0' z1' z2' z3' hb'
      obtain ⟨b0, b1, b2, b3, b4, b5, b6⟩ := z3.cells
      have hf := z3.fr
      simp only [zC, List.length_nil] at b0 b1 b2 b3 b4 b5 b6
      have f0 := hf 0
      have f1 := hf 1
      have f2 := hf 2
      have f3 := hf 3
      have f4 := hf 4
      have f5 := hf 5
      have f6 := hf 6
      clear hf
      have hb' := put7_below hb g3 xd Ad cd
      have hSx := HtSt.of (wB := wB) (n := n) (xa := xa) (xb := xb) (xc := xc) (xd := xd) (Aa := Aa) (Ab := Ab) (Ac := Ac) (Ad := Ad) (ca := ca) (cb := cb) (cc := cc) (cd := cd) h0 hb'
      have z0' := z0.far (y := xd) (A' := Ad) (c' := cd) (ne03 : p3 ≠ p6)
      have z1' := z1.far (y := xd) (A' := Ad) (c' := cd) (ne13 : p4 ≠ p6)
      have z2' := z2.far (y := xd) (A' := Ad) (c' := cd) (ne23 : p5 ≠ p6)
      have z3' := z3.put xd Ad cd
      refine wpAnyH_ready (rs := [15]) (by kernel_rfl) (by simp) ?_
      refine AllReadyH.cons (o := ?_) ?_ (fun K hK => ?_) AllReadyH.nil
      rotate_left
      · (simp only [List.getElem?_toArray, List.getElem?_cons_succ, List.getElem?_cons_zero]; rfl)
      go_simp
      refine hK.out _ (put7 u3 p6 xd Ad cd) hSx (fun hHeld => ?_)
      clear hK K hHeld hSx b0 b1 b2 b3 b4 b5 b6 f0 f1 f2 f3 f4 f5 f6 z0 z1 z2 z3 hb
      try simp only [Act.put, List.setIfInBounds_toArray, List.set_cons_zero, List.set_cons_succ]
      generalize put7 u3 p6 xd Ad cd = u4 at z0' z1' z2' z3' hb' ⊢
      have z0 := z0'
      have z1 := z1'
      have z2 := z2'
      have z3 := z3'
      have hb := hb'
      clear z0' z1' z2' z3' hb'
      refine wpAnyH_done (by kernel_rfl) ?_ _
      exact ⟨rfl, p3, p4, p5, p6, rfl, ⟨z0, z1, z2, z3⟩, hb⟩
    case main =>
      intro htail
      refine wpAnyH_ready (rs := [8, 9, 10, 11]) (by kernel_rfl) (by simp) ?_
      refine AllReadyH.cons (o := ?_) ?_ (fun K hK => ?_) ?_
      rotate_left
      · (simp only [List.getElem?_toArray, List.getElem?_cons_succ, List.getElem?_cons_zero]; rfl)
      · go_simp
        have hnew := ClBox.new u0 zC none 0
        have hbk := (Below.refl u0.heap.size u0).alloc (Nat.le_refl _) (.cells #[.int .i64 0, .int .i64 0, .int .i64 0, .slice none 0 0, .int .i64 0, .int .i64 0, .int .i64 0] 47)
        have g0 := hb0.size
        have hb1 := hb0.trans (hbk.mono hb0.size)
        refine hK.out _ (u0.alloc (.cells #[.int .i64 0, .int .i64 0, .int .i64 0, .slice none 0 0, .int .i64 0, .int .i64 0, .int .i64 0] 47)) (HtSt.of h0 hb1) (fun hHeld => ?_)
        clear hK K hHeld
        try simp only [Act.put, List.setIfInBounds_toArray, List.set_cons_zero, List.set_cons_succ]
        have z0 : ClBox (u0.alloc (.cells #[.int .i64 0, .int .i64 0, .int .i64 0, .slice none 0 0, .int .i64 0, .int .i64 0, .int .i64 0] 47)) u0.heap.size zC none 0 := hnew
        clear hnew hbk
        generalize u0.alloc (.cells #[.int .i64 0, .int .i64 0, .int .i64 0, .slice none 0 0, .int .i64 0, .int .i64 0, .int .i64 0] 47) = u1 at z0 hb1 ⊢
        generalize u0.heap.size = p3 at g0 z0 ⊢
        refine wpAnyH_ready (rs := [9, 10, 11]) (by kernel_rfl) (by simp) ?_
        refine AllReadyH.cons (o := ?_) ?_ (fun K hK => ?_) ?_
        rotate_left
        · (simp only [List.getElem?_toArray, List.getElem?_cons_succ, List.getElem?_cons_zero]; rfl)
        · go_simp
          have hnew := ClBox.new u1 zC none 0
          have hbk := (Below.refl u1.heap.size u1).alloc (Nat.le_refl _) (.cells #[.int .i64 0, .int .i64 0, .int .i64 0, .slice none 0 0, .int .i64 0, .int .i64 0, .int .i64 0] 47)
          have g1 := hb1.size
          have hb2 := hb1.trans (hbk.mono hb1.size)
          refine hK.out _ (u1.alloc (.cells #[.int .i64 0, .int .i64 0, .int .i64 0, .slice none 0 0, .int .i64 0, .int .i64 0, .int .i64 0] 47)) (HtSt.of h0 hb2) (fun hHeld => ?_)
          clear hK K hHeld
          try simp only [Act.put, List.setIfInBounds_toArray, List.set_cons_zero, List.set_cons_succ]
          have ne01 := Nat.ne_of_lt z0.lt
          replace z0 := z0.kept hbk
          have z1 : ClBox (u1.alloc (.cells #[.int .i64 0, .int .i64 0, .int .i64 0, .slice none 0 0, .int .i64 0, .int .i64 0, .int .i64 0] 47)) u1.heap.size zC none 0 := hnew
          clear hnew hbk
          generalize u1.alloc (.cells #[.int .i64 0, .int .i64 0, .int .i64 0, .slice none 0 0, .int .i64 0, .int .i64 0, .int .i64 0] 47) = u2 at z0 z1 hb2 ⊢
          generalize u1.heap.size = p4 at g1 z1 ne01 ⊢
          refine wpAnyH_ready (rs := [10, 11]) (by kernel_rfl) (by simp) ?_
          refine AllReadyH.cons (o := ?_) ?_ (fun K hK => ?_) ?_
          rotate_left
          · (simp only [List.getElem?_toArray, List.getElem?_cons_succ, List.getElem?_cons_zero]; rfl)
          · go_simp
            have hnew := ClBox.new u2 zC none 0
            have hbk := (Below.refl u2.heap.size u2).alloc (Nat.le_refl _) (.cells #[.int .i64 0, .int .i64 0, .int .i64 0, .slice none 0 0, .int .i64 0, .int .i64 0, .int .i64 0] 47)
            have g2 := hb2.size
            have hb3 := hb2.trans (hbk.mono hb2.size)
            refine hK.out _ (u2.alloc (.cells #[.int .i64 0, .int .i64 0, .int .i64 0, .slice none 0 0, .int .i64 0, .int .i64 0, .int .i64 0] 47)) (HtSt.of h0 hb3) (fun hHeld => ?_)
            clear hK K hHeld
            try simp only [Act.put, List.setIfInBounds_toArray, List.set_cons_zero, List.set_cons_succ]
            have ne02 := Nat.ne_of_lt z0.lt
            have ne12 := Nat.ne_of_lt z1.lt
            replace z0 := z0.kept hbk
            replace z1 := z1.kept hbk
            have z2 : ClBox (u2.alloc (.cells #[.int .i64 0, .int .i64 0, .int .i64 0, .slice none 0 0, .int .i64 0, .int .i64 0, .int .i64 0] 47)) u2.heap.size zC none 0 := hnew
            clear hnew hbk
            generalize u2.alloc (.cells #[.int .i64 0, .int .i64 0, .int .i64 0, .slice none 0 0, .int .i64 0, .int .i64 0, .int .i64 0] 47) = u3 at z0 z1 z2 hb3 ⊢
            generalize u2.heap.size = p5 at g2 z2 ne02 ne12 ⊢
            refine wpAnyH_ready (rs := [11]) (by kernel_rfl) (by simp) ?_
            refine AllReadyH.cons (o := ?_) ?_ (fun K hK => ?_) AllReadyH.nil
            rotate_left
            · (simp only [List.getElem?_toArray, List.getElem?_cons_succ, List.getElem?_cons_zero]; rfl)
            · go_simp
              have hnew := ClBox.new u3 zC none 0
              have hbk := (Below.refl u3.heap.size u3).alloc (Nat.le_refl _) (.cells #[.int .i64 0, .int .i64 0, .int .i64 0, .slice none 0 0, .int .i64 0, .int .i64 0, .int .i64 0] 47)
              have g3 := hb3.size
              have hb4 := hb3.trans (hbk.mono hb3.size)
              refine hK.out _ (u3.alloc (.cells #[.int .i64 0, .int .i64 0, .int .i64 0, .slice none 0 0, .int .i64 0, .int .i64 0, .int .i64 0] 47)) (HtSt.of h0 hb4) (fun hHeld => ?_)
              clear hK K hHeld
              try simp only [Act.put, List.setIfInBounds_toArray, List.set_cons_zero, List.set_cons_succ]
              have ne03 := Nat.ne_of_lt z0.lt
              have ne13 := Nat.ne_of_lt z1.lt
              have ne23 := Nat.ne_of_lt z2.lt
              replace z0 := z0.kept hbk
              replace z1 := z1.kept hbk
              replace z2 := z2.kept hbk
              have z3 : ClBox (u3.alloc (.cells #[.int .i64 0, .int .i64 0, .int .i64 0, .slice none 0 0, .int .i64 0, .int .i64 0, .int .i64 0] 47)) u3.heap.size zC none 0 := hnew
              clear hnew hbk
              generalize u3.alloc (.cells #[.int .i64 0, .int .i64 0, .int .i64 0, .slice none 0 0, .int .i64 0, .int .i64 0, .int .i64 0] 47) = u4 at z0 z1 z2 z3 hb4 ⊢
              generalize u3.heap.size = p6 at g3 z3 ne03 ne13 ne23 ⊢
              refine held_at (L' := #[true, true, true, true, true, true, true, true, true, true, true, true, false, false, false, false]) (by kernel_rfl) ?_
              exact htail _ _ ⟨p3, p4, p5, p6, rfl, hb4, g0, g1, g2, g3, ne01, ne02, ne03, ne12, ne13, ne23, z0, z1, z2, z3⟩
          · skip
            refine AllReadyH.cons (o := ?_) ?_ (fun K hK => ?_) AllReadyH.nil
            rotate_left
            · (simp only [List.getElem?_toArray, List.getElem?_cons_succ, List.getElem?_cons_zero]; rfl)
            · go_simp
              have hnew := ClBox.new u2 zC none 0
              have hbk := (Below.refl u2.heap.size u2).alloc (Nat.le_refl _) (.cells #[.int .i64 0, .int .i64 0, .int .i64 0, .slice none 0 0, .int .i64 0, .int .i64 0, .int .i64 0] 47)
              have g3 := hb2.size
              have hb3 := hb2.trans (hbk.mono hb2.size)
              refine hK.out _ (u2.alloc (.cells #[.int .i64 0, .int .i64 0, .int .i64 0, .slice none 0 0, .int .i64 0, .int .i64 0, .int .i64 0] 47)) (HtSt.of h0 hb3) (fun hHeld => ?_)
              clear hK K hHeld
              try simp only [Act.put, List.setIfInBounds_toArray, List.set_cons_zero, List.set_cons_succ]
              have ne03 := Nat.ne_of_lt z0.lt
              have ne13 := Nat.ne_of_lt z1.lt
              replace z0 := z0.kept hbk
              replace z1 := z1.kept hbk
              have z3 : ClBox (u2.alloc (.cells #[.int .i64 0, .int .i64 0, .int .i64 0, .slice none 0 0, .int .i64 0, .int .i64 0, .int .i64 0] 47)) u2.heap.size zC none 0 := hnew
              clear hnew hbk
              generalize u2.alloc (.cells #[.int .i64 0, .int .i64 0, .int .i64 0, .slice none 0 0, .int .i64 0, .int .i64 0, .int .i64 0] 47) = u3 at z0 z1 z3 hb3 ⊢
              generalize u2.heap.size = p6 at g3 z3 ne03 ne13 ⊢
              refine wpAnyH_ready (rs := [10]) (by kernel_rfl) (by simp) ?_
              refine AllReadyH.cons (o := ?_) ?_ (fun K hK => ?_) AllReadyH.nil
              rotate_left
              · (simp only [List.getElem?_toArray, List.getElem?_cons_succ, List.getElem?_cons_zero]; rfl)
              · go_simp
                have hnew := ClBox.new u3 zC none 0
                have hbk := (Below.refl u3.heap.size u3).alloc (Nat.le_refl _) (.cells #[.int .i64 0, .int .i64 0, .int .i64 0, .slice none 0 0, .int .i64 0, .int .i64 0, .int .i64 0] 47)
                have g2 := hb3.size
                have hb4 := hb3.trans (hbk.mono hb3.size)
                refine hK.out _ (u3.alloc (.cells #[.int .i64 0, .int .i64 0, .int .i64 0, .slice none 0 0, .int .i64 0, .int .i64 0, .int .i64 0] 47)) (HtSt.of h0 hb4) (fun hHeld => ?_)
                clear hK K hHeld
                try simp only [Act.put, List.setIfInBounds_toArray, List.set_cons_zero, List.set_cons_succ]
                have ne02 := Nat.ne_of_lt z0.lt
                have ne12 := Nat.ne_of_lt z1.lt
                have ne32 := Nat.ne_of_lt z3.lt
                replace z0 := z0.kept hbk
                replace z1 := z1.kept hbk
                replace z3 := z3.kept hbk
                have z2 : ClBox (u3.alloc (.cells #[.int .i64 0, .int .i64 0, .int .i64 0, .slice none 0 0, .int .i64 0, .int .i64 0, .int .i64 0] 47)) u3.heap.size zC none 0 := hnew
                clear hnew hbk
                generalize u3.alloc (.cells #[.int .i64 0, .int .i64 0, .int .i64 0, .slice none 0 0, .int .i64 0, .int .i64 0, .int .i64 0] 47) = u4 at z0 z1 z3 z2 hb4 ⊢
                generalize u3.heap.size = p5 at g2 z2 ne02 ne12 ne32 ⊢
                refine held_at (L' := #[true, true, true, true, true, true, true, true, true, true, true, true, false, false, false, false]) (by kernel_rfl) ?_
                exact htail _ _ ⟨p3, p4, p5, p6, rfl, hb4, g0, g1, g2, g3, ne01, ne02, ne03, ne12, ne13, ne32.symm, z0, z1, z2, z3⟩
        · skip
          refine AllReadyH.cons (o := ?_) ?_ (fun K hK => ?_) ?_
          rotate_left
          · (simp only [List.getElem?_toArray, List.getElem?_cons_succ, List.getElem?_cons_zero]; rfl)
          · go_simp
            have hnew := ClBox.new u1 zC none 0
            have hbk := (Below.refl u1.heap.size u1).alloc (Nat.le_refl _) (.cells #[.int .i64 0, .int .i64 0, .int .i64 0, .slice none 0 0, .int .i64 0, .int .i64 0, .int .i64 0] 47)
            have g2 := hb1.size
            have hb2 := hb1.trans (hbk.mono hb1.size)
            refine hK.out _ (u1.alloc (.cells #[.int .i64 0, .int .i64 0, .int .i64 0, .slice none 0 0, .int .i64 0, .int .i64 0, .int .i64 0] 47)) (HtSt.of h0 hb2) (fun hHeld => ?_)
            clear hK K hHeld
            try simp only [Act.put, List.setIfInBounds_toArray, List.set_cons_zero, List.set_cons_succ]
            have ne02 := Nat.ne_of_lt z0.lt
            replace z0 := z0.kept hbk
            have z2 : ClBox (u1.alloc (.cells #[.int .i64 0, .int .i64 0, .int .i64 0, .slice none 0 0, .int .i64 0, .int .i64 0, .int .i64 0] 47)) u1.heap.size zC none 0 := hnew
            clear hnew hbk
            generalize u1.alloc (.cells #[.int .i64 0, .int .i64 0, .int .i64 0, .slice none 0 0, .int .i64 0, .int .i64 0, .int .i64 0] 47) = u2 at z0 z2 hb2 ⊢
            generalize u1.heap.size = p5 at g2 z2 ne02 ⊢
            refine wpAnyH_ready (rs := [9, 11]) (by kernel_rfl) (by simp) ?_
            refine AllReadyH.cons (o := ?_) ?_ (fun K hK => ?_) ?_
            rotate_left
            · (simp only [List.getElem?_toArray, List.getElem?_cons_succ, List.getElem?_cons_zero]; rfl)
            · go_simp
              have hnew := ClBox.new u2 zC none 0
              have hbk := (Below.refl u2.heap.size u2).alloc (Nat.le_refl _) (.cells #[.int .i64 0, .int .i64 0, .int .i64 0, .slice none 0 0, .int .i64 0, .int .i64 0, .int .i64 0] 47)
              have g1 := hb2.size
              have hb3 := hb2.trans (hbk.mono hb2.size)
              refine hK.out _ (u2.alloc (.cells #[.int .i64 0, .int .i64 0, .int .i64 0, .slice none 0 0, .int .i64 0, .int .i64 0, .int .i64 0] 47)) (HtSt.of h0 hb3) (fun hHeld => ?_)
              clear hK K hHeld
              try simp only [Act.put, List.setIfInBounds_toArray, List.set_cons_zero, List.set_cons_succ]
              have ne01 := Nat.ne_of_lt z0.lt
              have ne21 := Nat.ne_of_lt z2.lt
              replace z0 := z0.kept hbk
              replace z2 := z2.kept hbk
              have z1 : ClBox (u2.alloc (.cells #[.int .i64 0, .int .i64 0, .int .i64 0, .slice none 0 0, .int .i64 0, .int .i64 0, .int .i64 0] 47)) u2.heap.size zC none 0 := hnew
              clear hnew hbk
              generalize u2.alloc (.cells #[.int .i64 0, .int .i64 0, .int .i64 0, .slice none 0 0, .int .i64 0, .int .i64 0, .int .i64 0] 47) = u3 at z0 z2 z1 hb3 ⊢
              generalize u2.heap.size = p4 at g1 z1 ne01 ne21 ⊢
              refine wpAnyH_ready (rs := [11]) (by kernel_rfl) (by simp) ?_
              refine AllReadyH.cons (o := ?_) ?_ (fun K hK => ?_) AllReadyH.nil
              rotate_left
              · (simp only [List.getElem?_toArray, List.getElem?_cons_succ, List.getElem?_cons_zero]; rfl)
              · go_simp
                have hnew := ClBox.new u3 zC none 0
                have hbk := (Below.refl u3.heap.size u3).alloc (Nat.le_refl _) (.cells #[.int .i64 0, .int .i64 0, .int .i64 0, .slice none 0 0, .int .i64 0, .int .i64 0, .int .i64 0] 47)
                have g3 := hb3.size
                have hb4 := hb3.trans (hbk.mono hb3.size)
                refine hK.out _ (u3.alloc (.cells #[.int .i64 0, .int .i64 0, .int .i64 0, .slice none 0 0, .int .i64 0, .int .i64 0, .int .i64 0] 47)) (HtSt.of h0 hb4) (fun hHeld => ?_)
                clear hK K hHeld
                try simp only [Act.put, List.setIfInBounds_toArray, List.set_cons_zero, List.set_cons_succ]
                have ne03 := Nat.ne_of_lt z0.lt
                have ne23 := Nat.ne_of_lt z2.lt
                have ne13 := Nat.ne_of_lt z1.lt
                replace z0 := z0.kept hbk
                replace z2 := z2.kept hbk
                replace z1 := z1.kept hbk
                have z3 : ClBox (u3.alloc (.cells #[.int .i64 0, .int .i64 0, .int .i64 0, .slice none 0 0, .int .i64 0, .int .i64 0, .int .i64 0] 47)) u3.heap.size zC none 0 := hnew
                clear hnew hbk
                generalize u3.alloc (.cells #[.int .i64 0, .int .i64 0, .int .i64 0, .slice none 0 0, .int .i64 0, .int .i64 0, .int .i64 0] 47) = u4 at z0 z2 z1 z3 hb4 ⊢
                generalize u3.heap.size = p6 at g3 z3 ne03 ne23 ne13 ⊢
                refine held_at (L' := #[true, true, true, true, true, true, true, true, true, true, true, true, false, false, false, false]) (by kernel_rfl) ?_
                exact htail _ _ ⟨p3, p4, p5, p6, rfl, hb4, g0, g1, g2, g3, ne01, ne02, ne03, ne21.symm, ne13, ne23, z0, z1, z2, z3⟩
            · skip
              refine AllReadyH.cons (o := ?_) ?_ (fun K hK => ?_) AllReadyH.nil
              rotate_left
              · (simp only [List.getElem?_toArray, List.getElem?_cons_succ, List.getElem?_cons_zero]; rfl)
              · go_simp
                have hnew := ClBox.new u2 zC none 0
                have hbk := (Below.refl u2.heap.size u2).alloc (Nat.le_refl _) (.cells #[.int .i64 0, .int .i64 0, .int .i64 0, .slice none 0 0, .int .i64 0, .int .i64 0, .int .i64 0] 47)
                have g3 := hb2.size
                have hb3 := hb2.trans (hbk.mono hb2.size)
                refine hK.out _ (u2.alloc (.cells #[.int .i64 0, .int .i64 0, .int .i64 0, .slice none 0 0, .int .i64 0, .int .i64 0, .int .i64 0] 47)) (HtSt.of h0 hb3) (fun hHeld => ?_)
                clear hK K hHeld
                try simp only [Act.put, List.setIfInBounds_toArray, List.set_cons_zero, List.set_cons_succ]
                have ne03 := Nat.ne_of_lt z0.lt
                have ne23 := Nat.ne_of_lt z2.lt
                replace z0 := z0.kept hbk
                replace z2 := z2.kept hbk
                have z3 : ClBox (u2.alloc (.cells #[.int .i64 0, .int .i64 0, .int .i64 0, .slice none 0 0, .int .i64 0, .int .i64 0, .int .i64 0] 47)) u2.heap.size zC none 0 := hnew
                clear hnew hbk
                generalize u2.alloc (.cells #[.int .i64 0, .int .i64 0, .int .i64 0, .slice none 0 0, .int .i64 0, .int .i64 0, .int .i64 0] 47) = u3 at z0 z2 z3 hb3 ⊢
                generalize u2.heap.size = p6 at g3 z3 ne03 ne23 ⊢
                refine wpAnyH_ready (rs := [9]) (by kernel_rfl) (by simp) ?_
                refine AllReadyH.cons (o := ?_) ?_ (fun K hK => ?_) AllReadyH.nil
                rotate_left
                · (simp only [List.getElem?_toArray, List.getElem?_cons_succ, List.getElem?_cons_zero]; rfl)
                · go_simp
                  have hnew := ClBox.new u3 zC none 0
                  have hbk := (Below.refl u3.heap.size u3).alloc (Nat.le_refl _) (.cells #[.int .i64 0, .int .i64 0, .int .i64 0, .slice none 0 0, .int .i64 0, .int .i64 0, .int .i64 0] 47)
                  have g1 := hb3.size
                  have hb4 := hb3.trans (hbk.mono hb3.size)
                  refine hK.out _ (u3.alloc (.cells #[.int .i64 0, .int .i64 0, .int .i64 0, .slice none 0 0, .int .i64 0, .int .i64 0, .int .i64 0] 47)) (HtSt.of h0 hb4) (fun hHeld => ?_)
                  clear hK K hHeld
                  try simp only [Act.put, List.setIfInBounds_toArray, List.set_cons_zero, List.set_cons_succ]
                  have ne01 := Nat.ne_of_lt z0.lt
                  have ne21 := Nat.ne_of_lt z2.lt
                  have ne31 := Nat.ne_of_lt z3.lt
                  replace z0 := z0.kept hbk
                  replace z2 := z2.kept hbk
                  replace z3 := z3.kept hbk
                  have z1 : ClBox (u3.alloc (.cells #[.int .i64 0, .int .i64 0, .int .i64 0, .slice none 0 0, .int .i64 0, .int .i64 0, .int .i64 0] 47)) u3.heap.size zC none 0 := hnew
                  clear hnew hbk
                  generalize u3.alloc (.cells #[.int .i64 0, .int .i64 0, .int .i64 0, .slice none 0 0, .int .i64 0, .int .i64 0, .int .i64 0] 47) = u4 at z0 z2 z3 z1 hb4 ⊢
                  generalize u3.heap.size = p4 at g1 z1 ne01 ne21 ne31 ⊢
                  refine held_at (L' := #[true, true, true, true, true, true, true, true, true, true, true, true, false, false, false, false]) (by kernel_rfl) ?_
                  exact htail _ _ ⟨p3, p4, p5, p6, rfl, hb4, g0, g1, g2, g3, ne01, ne02, ne03, ne21.symm, ne31.symm, ne23, z0, z1, z2, z3⟩
          · skip
            refine AllReadyH.cons (o := ?_) ?_ (fun K hK => ?_) AllReadyH.nil
            rotate_left
            · (simp only [List.getElem?_toArray, List.getElem?_cons_succ, List.getElem?_cons_zero]; rfl)
            · go_simp
              have hnew := ClBox.new u1 zC none 0
              have hbk := (Below.refl u1.heap.size u1).alloc (Nat.le_refl _) (.cells #[.int .i64 0, .int .i64 0, .int .i64 0, .slice none 0 0, .int .i64 0, .int .i64 0, .int .i64 0] 47)
              have g3 := hb1.size
              have hb2 := hb1.trans (hbk.mono hb1.size)
              refine hK.out _ (u1.alloc (.cells #[.int .i64 0, .int .i64 0, .int .i64 0, .slice none 0 0, .int .i64 0, .int .i64 0, .int .i64 0] 47)) (HtSt.of h0 hb2) (fun hHeld => ?_)
              clear hK K hHeld
              try simp only [Act.put, List.setIfInBounds_toArray, List.set_cons_zero, List.set_cons_succ]
              have ne03 := Nat.ne_of_lt z0.lt
              replace z0 := z0.kept hbk
              have z3 : ClBox (u1.alloc (.cells #[.int .i64 0, .int .i64 0, .int .i64 0, .slice none 0 0, .int .i64 0, .int .i64 0, .int .i64 0] 47)) u1.heap.size zC none 0 := hnew
              clear hnew hbk
              generalize u1.alloc (.cells #[.int .i64 0, .int .i64 0, .int .i64 0, .slice none 0 0, .int .i64 0, .int .i64 0, .int .i64 0] 47) = u2 at z0 z3 hb2 ⊢
              generalize u1.heap.size = p6 at g3 z3 ne03 ⊢
              refine wpAnyH_ready (rs := [9, 10]) (by kernel_rfl) (by simp) ?_
              refine AllReadyH.cons (o := ?_) ?_ (fun K hK => ?_) ?_
              rotate_left
              · (simp only [List.getElem?_toArray, List.getElem?_cons_succ, List.getElem?_cons_zero]; rfl)
              · go_simp
                have hnew := ClBox.new u2 zC none 0
                have hbk := (Below.refl u2.heap.size u2).alloc (Nat.le_refl _) (.cells #[.int .i64 0, .int .i64 0, .int .i64 0, .slice none 0 0, .int .i64 0, .int .i64 0, .int .i64 0] 47)
                have g1 := hb2.size
                have hb3 := hb2.trans (hbk.mono hb2.size)
                refine hK.out _ (u2.alloc (.cells #[.int .i64 0, .int .i64 0, .int .i64 0, .slice none 0 0, .int .i64 0, .int .i64 0, .int .i64 0] 47)) (HtSt.of h0 hb3) (fun hHeld => ?_)
                clear hK K hHeld
                try simp only [Act.put, List.setIfInBounds_toArray, List.set_cons_zero, List.set_cons_succ]
                have ne01 := Nat.ne_of_lt z0.lt
                have ne31 := Nat.ne_of_lt z3.lt
                replace z0 := z0.kept hbk
                replace z3 := z3.kept hbk
                have z1 : ClBox (u2.alloc (.cells #[.int .i64 0, .int .i64 0, .int .i64 0, .slice none 0 0, .int .i64 0, .int .i64 0, .int .i64 0] 47)) u2.heap.size zC none 0 := hnew
                clear hnew hbk
                generalize u2.alloc (.cells #[.int .i64 0, .int .i64 0, .int .i64 0, .slice none 0 0, .int .i64 0, .int .i64 0, .int .i64 0] 47) = u3 at z0 z3 z1 hb3 ⊢
                generalize u2.heap.size = p4 at g1 z1 ne01 ne31 ⊢
                refine wpAnyH_ready (rs := [10]) (by kernel_rfl) (by simp) ?_
                refine AllReadyH.cons (o := ?_) ?_ (fun K hK => ?_) AllReadyH.nil
                rotate_left
                · (simp only [List.getElem?_toArray, List.getElem?_cons_succ, List.getElem?_cons_zero]; rfl)
                · go_simp
                  have hnew := ClBox.new u3 zC none 0
                  have hbk := (Below.refl u3.heap.size u3).alloc (Nat.le_refl _) (.cells #[.int .i64 0, .int .i64 0, .int .i64 0, .slice none 0 0, .int .i64 0, .int .i64 0, .int .i64 0] 47)
                  have g2 := hb3.size
                  have hb4 := hb3.trans (hbk.mono hb3.size)
                  refine hK.out _ (u3.alloc (.cells #[.int .i64 0, .int .i64 0, .int .i64 0, .slice none 0 0, .int .i64 0, .int .i64 0, .int .i64 0] 47)) (HtSt.of h0 hb4) (fun hHeld => ?_)
                  clear hK K hHeld
                  try simp only [Act.put, List.setIfInBounds_toArray, List.set_cons_zero, List.set_cons_succ]
                  have ne02 := Nat.ne_of_lt z0.lt
                  have ne32 := Nat.ne_of_lt z3.lt
                  have ne12 := Nat.ne_of_lt z1.lt
                  replace z0 := z0.kept hbk
                  replace z3 := z3.kept hbk
                  replace z1 := z1.kept hbk
                  have z2 : ClBox (u3.alloc (.cells #[.int .i64 0, .int .i64 0, .int .i64 0, .slice none 0 0, .int .i64 0, .int .i64 0, .int .i64 0] 47)) u3.heap.size zC none 0 := hnew
                  clear hnew hbk
                  generalize u3.alloc (.cells #[.int .i64 0, .int .i64 0, .int .i64 0, .slice none 0 0, .int .i64 0, .int .i64 0, .int .i64 0] 47) = u4 at z0 z3 z1 z2 hb4 ⊢
                  generalize u3.heap.size = p5 at g2 z2 ne02 ne32 ne12 ⊢
                  refine held_at (L' := #[true, true, true, true, true, true, true, true, true, true, true, true, false, false, false, false]) (by kernel_rfl) ?_
                  exact htail _ _ ⟨p3, p4, p5, p6, rfl, hb4, g0, g1, g2, g3, ne01, ne02, ne03, ne12, ne31.symm, ne32.symm, z0, z1, z2, z3⟩
              · skip
                refine AllReadyH.cons (o := ?_) ?_ (fun K hK => ?_) AllReadyH.nil
                rotate_left
                · (simp only [List.getElem?_toArray, List.getElem?_cons_succ, List.getElem?_cons_zero]; rfl)
                · go_simp
                  have hnew := ClBox.new u2 zC none 0
                  have hbk := (Below.refl u2.heap.size u2).alloc (Nat.le_refl _) (.cells #[.int .i64 0, .int .i64 0, .int .i64 0, .slice none 0 0, .int .i64 0, .int .i64 0, .int .i64 0] 47)
                  have g2 := hb2.size
                  have hb3 := hb2.trans (hbk.mono hb2.size)
                  refine hK.out _ (u2.alloc (.cells #[.int .i64 0, .int .i64 0, .int .i64 0, .slice none 0 0, .int .i64 0, .int .i64 0, .int .i64 0] 47)) (HtSt.of h0 hb3) (fun hHeld => ?_)
                  clear hK K hHeld
                  try simp only [Act.put, List.setIfInBounds_toArray, List.set_cons_zero, List.set_cons_succ]
                  have ne02 := Nat.ne_of_lt z0.lt
                  have ne32 := Nat.ne_of_lt z3.lt
                  replace z0 := z0.kept hbk
                  replace z3 := z3.kept hbk
                  have z2 : ClBox (u2.alloc (.cells #[.int .i64 0, .int .i64 0, .int .i64 0, .slice none 0 0, .int .i64 0, .int .i64 0, .int .i64 0] 47)) u2.heap.size zC none 0 := hnew
                  clear hnew hbk
                  generalize u2.alloc (.cells #[.int .i64 0, .int .i64 0, .int .i64 0, .slice none 0 0, .int .i64 0, .int .i64 0, .int .i64 0] 47) = u3 at z0 z3 z2 hb3 ⊢
                  generalize u2.heap.size = p5 at g2 z2 ne02 ne32 ⊢
                  refine wpAnyH_ready (rs := [9]) (by kernel_rfl) (by simp) ?_
                  refine AllReadyH.cons (o := ?_) ?_ (fun K hK => ?_) AllReadyH.nil
                  rotate_left
                  · (simp only [List.getElem?_toArray, List.getElem?_cons_succ, List.getElem?_cons_zero]; rfl)
                  · go_simp
                    have hnew := ClBox.new u3 zC none 0
                    have hbk := (Below.refl u3.heap.size u3).alloc (Nat.le_refl _) (.cells #[.int .i64 0, .int .i64 0, .int .i64 0, .slice none 0 0, .int .i64 0, .int .i64 0, .int .i64 0] 47)
                    have g1 := hb3.size
                    have hb4 := hb3.trans (hbk.mono hb3.size)
                    refine hK.out _ (u3.alloc (.cells #[.int .i64 0, .int .i64 0, .int .i64 0, .slice none 0 0, .int .i64 0, .int .i64 0, .int .i64 0] 47)) (HtSt.of h0 hb4) (fun hHeld => ?_)
                    clear hK K hHeld
                    try simp only [Act.put, List.setIfInBounds_toArray, List.set_cons_zero, List.set_cons_succ]
                    have ne01 := Nat.ne_of_lt z0.lt
                    have ne31 := Nat.ne_of_lt z3.lt
                    have ne21 := Nat.ne_of_lt z2.lt
                    replace z0 := z0.kept hbk
                    replace z3 := z3.kept hbk
                    replace z2 := z2.kept hbk
                    have z1 : ClBox (u3.alloc (.cells #[.int .i64 0, .int .i64 0, .int .i64 0, .slice none 0 0, .int .i64 0, .int .i64 0, .int .i64 0] 47)) u3.heap.size zC none 0 := hnew
                    clear hnew hbk
                    generalize u3.alloc (.cells #[.int .i64 0, .int .i64 0, .int .i64 0, .slice none 0 0, .int .i64 0, .int .i64 0, .int .i64 0] 47) = u4 at z0 z3 z2 z1 hb4 ⊢
                    generalize u3.heap.size = p4 at g1 z1 ne01 ne31 ne21 ⊢
                    refine held_at (L' := #[true, true, true, true, true, true, true, true, true, true, true, true, false, false, false, false]) (by kernel_rfl) ?_
                    exact htail _ _ ⟨p3, p4, p5, p6, rfl, hb4, g0, g1, g2, g3, ne01, ne02, ne03, ne21.symm, ne31.symm, ne32.symm, z0, z1, z2, z3⟩
      · skip
        refine AllReadyH.cons (o := ?_) ?_ (fun K hK => ?_) ?_
        rotate_left
        · (simp only [List.getElem?_toArray, List.getElem?_cons_succ, List.getElem?_cons_zero]; rfl)
        · go_simp
          have hnew := ClBox.new u0 zC none 0
          have hbk := (Below.refl u0.heap.size u0).alloc (Nat.le_refl _) (.cells #[.int .i64 0, .int .i64 0, .int .i64 0, .slice none 0 0, .int .i64 0, .int .i64 0, .int .i64 0] 47)
          have g1 := hb0.size
          have hb1 := hb0.trans (hbk.mono hb0.size)
          refine hK.out _ (u0.alloc (.cells #[.int .i64 0, .int .i64 0, .int .i64 0, .slice none 0 0, .int .i64 0, .int .i64 0, .int .i64 0] 47)) (HtSt.of h0 hb1) (fun hHeld => ?_)
          clear hK K hHeld
          try simp only [Act.put, List.setIfInBounds_toArray, List.set_cons_zero, List.set_cons_succ]
          have z1 : ClBox (u0.alloc (.cells #[.int .i64 0, .int .i64 0, .int .i64 0, .slice none 0 0, .int .i64 0, .int .i64 0, .int .i64 0] 47)) u0.heap.size zC none 0 := hnew
          clear hnew hbk
          generalize u0.alloc (.cells #[.int .i64 0, .int .i64 0, .int .i64 0, .slice none 0 0, .int .i64 0, .int .i64 0, .int .i64 0] 47) = u1 at z1 hb1 ⊢
          generalize u0.heap.size = p4 at g1 z1 ⊢
          refine wpAnyH_ready (rs := [8, 10, 11]) (by kernel_rfl) (by simp) ?_
          refine AllReadyH.cons (o := ?_) ?_ (fun K hK => ?_) ?_
          rotate_left
          · (simp only [List.getElem?_toArray, List.getElem?_cons_succ, List.getElem?_cons_zero]; rfl)
          · go_simp
            have hnew := ClBox.new u1 zC none 0
            have hbk := (Below.refl u1.heap.size u1).alloc (Nat.le_refl _) (.cells #[.int .i64 0, .int .i64 0, .int .i64 0, .slice none 0 0, .int .i64 0, .int .i64 0, .int .i64 0] 47)
            have g0 := hb1.size
            have hb2 := hb1.trans (hbk.mono hb1.size)
            refine hK.out _ (u1.alloc (.cells #[.int .i64 0, .int .i64 0, .int .i64 0, .slice none 0 0, .int .i64 0, .int .i64 0, .int .i64 0] 47)) (HtSt.of h0 hb2) (fun hHeld => ?_)
            clear hK K hHeld
            try simp only [Act.put, List.setIfInBounds_toArray, List.set_cons_zero, List.set_cons_succ]
            have ne10 := Nat.ne_of_lt z1.lt
            replace z1 := z1.kept hbk
            have z0 : ClBox (u1.alloc (.cells #[.int .i64 0, .int .i64 0, .int .i64 0, .slice none 0 0, .int .i64 0, .int .i64 0, .int .i64 0] 47)) u1.heap.size zC none 0 := hnew
            clear hnew hbk
            generalize u1.alloc (.cells #[.int .i64 0, .int .i64 0, .int .i64 0, .slice none 0 0, .int .i64 0, .int .i64 0, .int .i64 0] 47) = u2 at z1 z0 hb2 ⊢
            generalize u1.heap.size = p3 at g0 z0 ne10 ⊢
            refine wpAnyH_ready (rs := [10, 11]) (by kernel_rfl) (by simp) ?_
            refine AllReadyH.cons (o := ?_) ?_ (fun K hK => ?_) ?_
            rotate_left
            · (simp only [List.getElem?_toArray, List.getElem?_cons_succ, List.getElem?_cons_zero]; rfl)
            · go_simp
              have hnew := ClBox.new u2 zC none 0
              have hbk := (Below.refl u2.heap.size u2).alloc (Nat.le_refl _) (.cells #[.int .i64 0, .int .i64 0, .int .i64 0, .slice none 0 0, .int .i64 0, .int .i64 0, .int .i64 0] 47)
              have g2 := hb2.size
              have hb3 := hb2.trans (hbk.mono hb2.size)
              refine hK.out _ (u2.alloc (.cells #[.int .i64 0, .int .i64 0, .int .i64 0, .slice none 0 0, .int .i64 0, .int .i64 0, .int .i64 0] 47)) (HtSt.of h0 hb3) (fun hHeld => ?_)
              clear hK K hHeld
              try simp only [Act.put, List.setIfInBounds_toArray, List.set_cons_zero, List.set_cons_succ]
              have ne12 := Nat.ne_of_lt z1.lt
              have ne02 := Nat.ne_of_lt z0.lt
              replace z1 := z1.kept hbk
              replace z0 := z0.kept hbk
              have z2 : ClBox (u2.alloc (.cells #[.int .i64 0, .int .i64 0, .int .i64 0, .slice none 0 0, .int .i64 0, .int .i64 0, .int .i64 0] 47)) u2.heap.size zC none 0 := hnew
              clear hnew hbk
              generalize u2.alloc (.cells #[.int .i64 0, .int .i64 0, .int .i64 0, .slice none 0 0, .int .i64 0, .int .i64 0, .int .i64 0] 47) = u3 at z1 z0 z2 hb3 ⊢
              generalize u2.heap.size = p5 at g2 z2 ne12 ne02 ⊢
              refine wpAnyH_ready (rs := [11]) (by kernel_rfl) (by simp) ?_
              refine AllReadyH.cons (o := ?_) ?_ (fun K hK => ?_) AllReadyH.nil
              rotate_left
              · (simp only [List.getElem?_toArray, List.getElem?_cons_succ, List.getElem?_cons_zero]; rfl)
              · go_simp
                have hnew := ClBox.new u3 zC none 0
                have hbk := (Below.refl u3.heap.size u3).alloc (Nat.le_refl _) (.cells #[.int .i64 0, .int .i64 0, .int .i64 0, .slice none 0 0, .int .i64 0, .int .i64 0, .int .i64 0] 47)
                have g3 := hb3.size
                have hb4 := hb3.trans (hbk.mono hb3.size)
                refine hK.out _ (u3.alloc (.cells #[.int .i64 0, .int .i64 0, .int .i64 0, .slice none 0 0, .int .i64 0, .int .i64 0, .int .i64 0] 47)) (HtSt.of h0 hb4) (fun hHeld => ?_)
                clear hK K hHeld
                try simp only [Act.put, List.setIfInBounds_toArray, List.set_cons_zero, List.set_cons_succ]
                have ne13 := Nat.ne_of_lt z1.lt
                have ne03 := Nat.ne_of_lt z0.lt
                have ne23 := Nat.ne_of_lt z2.lt
                replace z1 := z1.kept hbk
                replace z0 := z0.kept hbk
                replace z2 := z2.kept hbk
                have z3 : ClBox (u3.alloc (.cells #[.int .i64 0, .int .i64 0, .int .i64 0, .slice none 0 0, .int .i64 0, .int .i64 0, .int .i64 0] 47)) u3.heap.size zC none 0 := hnew
                clear hnew hbk
                generalize u3.alloc (.cells #[.int .i64 0, .int .i64 0, .int .i64 0, .slice none 0 0, .int .i64 0, .int .i64 0, .int .i64 0] 47) = u4 at z1 z0 z2 z3 hb4 ⊢
                generalize u3.heap.size = p6 at g3 z3 ne13 ne03 ne23 ⊢
                refine held_at (L' := #[true, true, true, true, true, true, true, true, true, true, true, true, false, false, false, false]) (by kernel_rfl) ?_
                exact htail _ _ ⟨p3, p4, p5, p6, rfl, hb4, g0, g1, g2, g3, ne10.symm, ne02, ne03, ne12, ne13, ne23, z0, z1, z2, z3⟩
            · skip
              refine AllReadyH.cons (o := ?_) ?_ (fun K hK => ?_) AllReadyH.nil
              rotate_left
              · (simp only [List.getElem?_toArray, List.getElem?_cons_succ, List.getElem?_cons_zero]; rfl)
              · go_simp
                have hnew := ClBox.new u2 zC none 0
                have hbk := (Below.refl u2.heap.size u2).alloc (Nat.le_refl _) (.cells #[.int .i64 0, .int .i64 0, .int .i64 0, .slice none 0 0, .int .i64 0, .int .i64 0, .int .i64 0] 47)
                have g3 := hb2.size
                have hb3 := hb2.trans (hbk.mono hb2.size)
                refine hK.out _ (u2.alloc (.cells #[.int .i64 0, .int .i64 0, .int .i64 0, .slice none 0 0, .int .i64 0, .int .i64 0, .int .i64 0] 47)) (HtSt.of h0 hb3) (fun hHeld => ?_)
                clear hK K hHeld
                try simp only [Act.put, List.setIfInBounds_toArray, List.set_cons_zero, List.set_cons_succ]
                have ne13 := Nat.ne_of_lt z1.lt
                have ne03 := Nat.ne_of_lt z0.lt
                replace z1 := z1.kept hbk
                replace z0 := z0.kept hbk
                have z3 : ClBox (u2.alloc (.cells #[.int .i64 0, .int .i64 0, .int .i64 0, .slice none 0 0, .int .i64 0, .int .i64 0, .int .i64 0] 47)) u2.heap.size zC none 0 := hnew
                clear hnew hbk
                generalize u2.alloc (.cells #[.int .i64 0, .int .i64 0, .int .i64 0, .slice none 0 0, .int .i64 0, .int .i64 0, .int .i64 0] 47) = u3 at z1 z0 z3 hb3 ⊢
                generalize u2.heap.size = p6 at g3 z3 ne13 ne03 ⊢
                refine wpAnyH_ready (rs := [10]) (by kernel_rfl) (by simp) ?_
                refine AllReadyH.cons (o := ?_) ?_ (fun K hK => ?_) AllReadyH.nil
                rotate_left
                · (simp only [List.getElem?_toArray, List.getElem?_cons_succ, List.getElem?_cons_zero]; rfl)
                · go_simp
                  have hnew := ClBox.new u3 zC none 0
                  have hbk := (Below.refl u3.heap.size u3).alloc (Nat.le_refl _) (.cells #[.int .i64 0, .int .i64 0, .int .i64 0, .slice none 0 0, .int .i64 0, .int .i64 0, .int .i64 0] 47)
                  have g2 := hb3.size
                  have hb4 := hb3.trans (hbk.mono hb3.size)
                  refine hK.out _ (u3.alloc (.cells #[.int .i64 0, .int .i64 0, .int .i64 0, .slice none 0 0, .int .i64 0, .int .i64 0, .int .i64 0] 47)) (HtSt.of h0 hb4) (fun hHeld => ?_)
                  clear hK K hHeld
                  try simp only [Act.put, List.setIfInBounds_toArray, List.set_cons_zero, List.set_cons_succ]
                  have ne12 := Nat.ne_of_lt z1.lt
                  have ne02 := Nat.ne_of_lt z0.lt
                  have ne32 := Nat.ne_of_lt z3.lt
                  replace z1 := z1.kept hbk
                  replace z0 := z0.kept hbk
                  replace z3 := z3.kept hbk
                  have z2 : ClBox (u3.alloc (.cells #[.int .i64 0, .int .i64 0, .int .i64 0, .slice none 0 0, .int .i64 0, .int .i64 0, .int .i64 0] 47)) u3.heap.size zC none 0 := hnew
                  clear hnew hbk
                  generalize u3.alloc (.cells #[.int .i64 0, .int .i64 0, .int .i64 0, .slice none 0 0, .int .i64 0, .int .i64 0, .int .i64 0] 47) = u4 at z1 z0 z3 z2 hb4 ⊢
                  generalize u3.heap.size = p5 at g2 z2 ne12 ne02 ne32 ⊢
                  refine held_at (L' := #[true, true, true, true, true, true, true, true, true, true, true, true, false, false, false, false]) (by kernel_rfl) ?_
                  exact htail _ _ ⟨p3, p4, p5, p6, rfl, hb4, g0, g1, g2, g3, ne10.symm, ne02, ne03, ne12, ne13, ne32.symm, z0, z1, z2, z3⟩
          · skip
            refine AllReadyH.cons (o := ?_) ?_ (fun K hK => ?_) ?_
            rotate_left
            · (simp only [List.getElem?_toArray, List.getElem?_cons_succ, List.getElem?_cons_zero]; rfl)
            · go_simp
              have hnew := ClBox.new u1 zC none 0
              have hbk := (Below.refl u1.heap.size u1).alloc (Nat.le_refl _) (.cells #[.int .i64 0, .int .i64 0, .int .i64 0, .slice none 0 0, .int .i64 0, .int .i64 0, .int .i64 0] 47)
              have g2 := hb1.size
              have hb2 := hb1.trans (hbk.mono hb1.size)
              refine hK.out _ (u1.alloc (.cells #[.int .i64 0, .int .i64 0, .int .i64 0, .slice none 0 0, .int .i64 0, .int .i64 0, .int .i64 0] 47)) (HtSt.of h0 hb2) (fun hHeld => ?_)
              clear hK K hHeld
              try simp only [Act.put, List.setIfInBounds_toArray, List.set_cons_zero, List.set_cons_succ]
              have ne12 := Nat.ne_of_lt z1.lt
              replace z1 := z1.kept hbk
              have z2 : ClBox (u1.alloc (.cells #[.int .i64 0, .int .i64 0, .int .i64 0, .slice none 0 0, .int .i64 0, .int .i64 0, .int .i64 0] 47)) u1.heap.size zC none 0 := hnew
              clear hnew hbk
              generalize u1.alloc (.cells #[.int .i64 0, .int .i64 0, .int .i64 0, .slice none 0 0, .int .i64 0, .int .i64 0, .int .i64 0] 47) = u2 at z1 z2 hb2 ⊢
              generalize u1.heap.size = p5 at g2 z2 ne12 ⊢
              refine wpAnyH_ready (rs := [8, 11]) (by kernel_rfl) (by simp) ?_
              refine AllReadyH.cons (o := ?_) ?_ (fun K hK => ?_) ?_
              rotate_left
              · (simp only [List.getElem?_toArray, List.getElem?_cons_succ, List.getElem?_cons_zero]; rfl)
              · go_simp
                have hnew := ClBox.new u2 zC none 0
                have hbk := (Below.refl u2.heap.size u2).alloc (Nat.le_refl _) (.cells #[.int .i64 0, .int .i64 0, .int .i64 0, .slice none 0 0, .int .i64 0, .int .i64 0, .int .i64 0] 47)
                have g0 := hb2.size
                have hb3 := hb2.trans (hbk.mono hb2.size)
                refine hK.out _ (u2.alloc (.cells #[.int .i64 0, .int .i64 0, .int .i64 0, .slice none 0 0, .int .i64 0, .int .i64 0, .int .i64 0] 47)) (HtSt.of h0 hb3) (fun hHeld => ?_)
                clear hK K hHeld
                try simp only [Act.put, List.setIfInBounds_toArray, List.set_cons_zero, List.set_cons_succ]
                have ne10 := Nat.ne_of_lt z1.lt
                have ne20 := Nat.ne_of_lt z2.lt
                replace z1 := z1.kept hbk
                replace z2 := z2.kept hbk
                have z0 : ClBox (u2.alloc (.cells #[.int .i64 0, .int .i64 0, .int .i64 0, .slice none 0 0, .int .i64 0, .int .i64 0, .int .i64 0] 47)) u2.heap.size zC none 0 := hnew
                clear hnew hbk
                generalize u2.alloc (.cells #[.int .i64 0, .int .i64 0, .int .i64 0, .slice none 0 0, .int .i64 0, .int .i64 0, .int .i64 0] 47) = u3 at z1 z2 z0 hb3 ⊢
                generalize u2.heap.size = p3 at g0 z0 ne10 ne20 ⊢
                refine wpAnyH_ready (rs := [11]) (by kernel_rfl) (by simp) ?_
                refine AllReadyH.cons (o := ?_) ?_ (fun K hK => ?_) AllReadyH.nil
                rotate_left
                · (simp only [List.getElem?_toArray, List.getElem?_cons_succ, List.getElem?_cons_zero]; rfl)
                · go_simp
                  have hnew := ClBox.new u3 zC none 0
                  have hbk := (Below.refl u3.heap.size u3).alloc (Nat.le_refl _) (.cells #[.int .i64 0, .int .i64 0, .int .i64 0, .slice none 0 0, .int .i64 0, .int .i64 0, .int .i64 0] 47)
                  have g3 := hb3.size
                  have hb4 := hb3.trans (hbk.mono hb3.size)
                  refine hK.out _ (u3.alloc (.cells #[.int .i64 0, .int .i64 0, .int .i64 0, .slice none 0 0, .int .i64 0, .int .i64 0, .int .i64 0] 47)) (HtSt.of h0 hb4) (fun hHeld => ?_)
                  clear hK K hHeld
                  try simp only [Act.put, List.setIfInBounds_toArray, List.set_cons_zero, List.set_cons_succ]
                  have ne13 := Nat.ne_of_lt z1.lt
                  have ne23 := Nat.ne_of_lt z2.lt
                  have ne03 := Nat.ne_of_lt z0.lt
                  replace z1 := z1.kept hbk
                  replace z2 := z2.kept hbk
                  replace z0 := z0.kept hbk
                  have z3 : ClBox (u3.alloc (.cells #[.int .i64 0, .int .i64 0, .int .i64 0, .slice none 0 0, .int .i64 0, .int .i64 0, .int .i64 0] 47)) u3.heap.size zC none 0 := hnew
                  clear hnew hbk
                  generalize u3.alloc (.cells #[.int .i64 0, .int .i64 0, .int .i64 0, .slice none 0 0, .int .i64 0, .int .i64 0, .int .i64 0] 47) = u4 at z1 z2 z0 z3 hb4 ⊢
                  generalize u3.heap.size = p6 at g3 z3 ne13 ne23 ne03 ⊢
                  refine held_at (L' := #[true, true, true, true, true, true, true, true, true, true, true, true, false, false, false, false]) (by kernel_rfl) ?_
                  exact htail _ _ ⟨p3, p4, p5, p6, rfl, hb4, g0, g1, g2, g3, ne10.symm, ne20.symm, ne03, ne12, ne13, ne23, z0, z1, z2, z3⟩
              · skip
                refine AllReadyH.cons (o := ?_) ?_ (fun K hK => ?_) AllReadyH.nil
                rotate_left
                · (simp only [List.getElem?_toArray, List.getElem?_cons_succ, List.getElem?_cons_zero]; rfl)
                · go_simp
                  have hnew := ClBox.new u2 zC none 0
                  have hbk := (Below.refl u2.heap.size u2).alloc (Nat.le_refl _) (.cells #[.int .i64 0, .int .i64 0, .int .i64 0, .slice none 0 0, .int .i64 0, .int .i64 0, .int .i64 0] 47)
                  have g3 := hb2.size
                  have hb3 := hb2.trans (hbk.mono hb2.size)
                  refine hK.out _ (u2.alloc (.cells #[.int .i64 0, .int .i64 0, .int .i64 0, .slice none 0 0, .int .i64 0, .int .i64 0, .int .i64 0] 47)) (HtSt.of h0 hb3) (fun hHeld => ?_)
                  clear hK K hHeld
                  try simp only [Act.put, List.setIfInBounds_toArray, List.set_cons_zero, List.set_cons_succ]
                  have ne13 := Nat.ne_of_lt z1.lt
                  have ne23 := Nat.ne_of_lt z2.lt
                  replace z1 := z1.kept hbk
                  replace z2 := z2.kept hbk
                  have z3 : ClBox (u2.alloc (.cells #[.int .i64 0, .int .i64 0, .int .i64 0, .slice none 0 0, .int .i64 0, .int .i64 0, .int .i64 0] 47)) u2.heap.size zC none 0 := hnew
                  clear hnew hbk
                  generalize u2.alloc (.cells #[.int .i64 0, .int .i64 0, .int .i64 0, .slice none 0 0, .int .i64 0, .int .i64 0, .int .i64 0] 47) = u3 at z1 z2 z3 hb3 ⊢
                  generalize u2.heap.size = p6 at g3 z3 ne13 ne23 ⊢
                  refine wpAnyH_ready (rs := [8]) (by kernel_rfl) (by simp) ?_
                  refine AllReadyH.cons (o := ?_) ?_ (fun K hK => ?_) AllReadyH.nil
                  rotate_left
                  · (simp only [List.getElem?_toArray, List.getElem?_cons_succ, List.getElem?_cons_zero]; rfl)
                  · go_simp
                    have hnew := ClBox.new u3 zC none 0
                    have hbk := (Below.refl u3.heap.size u3).alloc (Nat.le_refl _) (.cells #[.int .i64 0, .int .i64 0, .int .i64 0, .slice none 0 0, .int .i64 0, .int .i64 0, .int .i64 0] 47)
                    have g0 := hb3.size
                    have hb4 := hb3.trans (hbk.mono hb3.size)
                    refine hK.out _ (u3.alloc (.cells #[.int .i64 0, .int .i64 0, .int .i64 0, .slice none 0 0, .int .i64 0, .int .i64 0, .int .i64 0] 47)) (HtSt.of h0 hb4) (fun hHeld => ?_)
                    clear hK K hHeld
                    try simp only [Act.put, List.setIfInBounds_toArray, List.set_cons_zero, List.set_cons_succ]
                    have ne10 := Nat.ne_of_lt z1.lt
                    have ne20 := Nat.ne_of_lt z2.lt
                    have ne30 := Nat.ne_of_lt z3.lt
                    replace z1 := z1.kept hbk
                    replace z2 := z2.kept hbk
                    replace z3 := z3.kept hbk
                    have z0 : ClBox (u3.alloc (.cells #[.int .i64 0, .int .i64 0, .int .i64 0, .slice none 0 0, .int .i64 0, .int .i64 0, .int .i64 0] 47)) u3.heap.size zC none 0 := hnew
                    clear hnew hbk
                    generalize u3.alloc (.cells #[.int .i64 0, .int .i64 0, .int .i64 0, .slice none 0 0, .int .i64 0, .int .i64 0, .int .i64 0] 47) = u4 at z1 z2 z3 z0 hb4 ⊢
                    generalize u3.heap.size = p3 at g0 z0 ne10 ne20 ne30 ⊢
                    refine held_at (L' := #[true, true, true, true, true, true, true, true, true, true, true, true, false, false, false, false]) (by kernel_rfl) ?_
                    exact htail _ _ ⟨p3, p4, p5, p6, rfl, hb4, g0, g1, g2, g3, ne10.symm, ne20.symm, ne30.symm, ne12, ne13, ne23, z0, z1, z2, z3⟩
            · skip
              refine AllReadyH.cons (o := ?_) ?_ (fun K hK => ?_) AllReadyH.nil
              rotate_left
              · (simp only [List.getElem?_toArray, List.getElem?_cons_succ, List.getElem?_cons_zero]; rfl)
              · go_simp
                have hnew := ClBox.new u1 zC none 0
                have hbk := (Below.refl u1.heap.size u1).alloc (Nat.le_refl _) (.cells #[.int .i64 0, .int .i64 0, .int .i64 0, .slice none 0 0, .int .i64 0, .int .i64 0, .int .i64 0] 47)
                have g3 := hb1.size
                have hb2 := hb1.trans (hbk.mono hb1.size)
                refine hK.out _ (u1.alloc (.cells #[.int .i64 0, .int .i64 0, .int .i64 0, .slice none 0 0, .int .i64 0, .int .i64 0, .int .i64 0] 47)) (HtSt.of h0 hb2) (fun hHeld => ?_)
                clear hK K hHeld
                try simp only [Act.put, List.setIfInBounds_toArray, List.set_cons_zero, List.set_cons_succ]
                have ne13 := Nat.ne_of_lt z1.lt
                replace z1 := z1.kept hbk
                have z3 : ClBox (u1.alloc (.cells #[.int .i64 0, .int .i64 0, .int .i64 0, .slice none 0 0, .int .i64 0, .int .i64 0, .int .i64 0] 47)) u1.heap.size zC none 0 := hnew
                clear hnew hbk
                generalize u1.alloc (.cells #[.int .i64 0, .int .i64 0, .int .i64 0, .slice none 0 0, .int .i64 0, .int .i64 0, .int .i64 0] 47) = u2 at z1 z3 hb2 ⊢
                generalize u1.heap.size = p6 at g3 z3 ne13 ⊢
                refine wpAnyH_ready (rs := [8, 10]) (by kernel_rfl) (by simp) ?_
                refine AllReadyH.cons (o := ?_) ?_ (fun K hK => ?_) ?_
                rotate_left
                · (simp only [List.getElem?_toArray, List.getElem?_cons_succ, List.getElem?_cons_zero]; rfl)
                · go_simp
                  have hnew := ClBox.new u2 zC none 0
                  have hbk := (Below.refl u2.heap.size u2).alloc (Nat.le_refl _) (.cells #[.int .i64 0, .int .i64 0, .int .i64 0, .slice none 0 0, .int .i64 0, .int .i64 0, .int .i64 0] 47)
                  have g0 := hb2.size
                  have hb3 := hb2.trans (hbk.mono hb2.size)
                  refine hK.out _ (u2.alloc (.cells #[.int .i64 0, .int .i64 0, .int .i64 0, .slice none 0 0, .int .i64 0, .int .i64 0, .int .i64 0] 47)) (HtSt.of h0 hb3) (fun hHeld => ?_)
                  clear hK K hHeld
                  try simp only [Act.put, List.setIfInBounds_toArray, List.set_cons_zero, List.set_cons_succ]
                  have ne10 := Nat.ne_of_lt z1.lt
                  have ne30 := Nat.ne_of_lt z3.lt
                  replace z1 := z1.kept hbk
                  replace z3 := z3.kept hbk
                  have z0 : ClBox (u2.alloc (.cells #[.int .i64 0, .int .i64 0, .int .i64 0, .slice none 0 0, .int .i64 0, .int .i64 0, .int .i64 0] 47)) u2.heap.size zC none 0 := hnew
                  clear hnew hbk
                  generalize u2.alloc (.cells #[.int .i64 0, .int .i64 0, .int .i64 0, .slice none 0 0, .int .i64 0, .int .i64 0, .int .i64 0] 47) = u3 at z1 z3 z0 hb3 ⊢
                  generalize u2.heap.size = p3 at g0 z0 ne10 ne30 ⊢
                  refine wpAnyH_ready (rs := [10]) (by kernel_rfl) (by simp) ?_
                  refine AllReadyH.cons (o := ?_) ?_ (fun K hK => ?_) AllReadyH.nil
                  rotate_left
                  · (simp only [List.getElem?_toArray, List.getElem?_cons_succ, List.getElem?_cons_zero]; rfl)
                  · go_simp
                    have hnew := ClBox.new u3 zC none 0
                    have hbk := (Below.refl u3.heap.size u3).alloc (Nat.le_refl _) (.cells #[.int .i64 0, .int .i64 0, .int .i64 0, .slice none 0 0, .int .i64 0, .int .i64 0, .int .i64 0] 47)
                    have g2 := hb3.size
                    have hb4 := hb3.trans (hbk.mono hb3.size)
                    refine hK.out _ (u3.alloc (.cells #[.int .i64 0, .int .i64 0, .int .i64 0, .slice none 0 0, .int .i64 0, .int .i64 0, .int .i64 0] 47)) (HtSt.of h0 hb4) (fun hHeld => ?_)
                    clear hK K hHeld
                    try simp only [Act.put, List.setIfInBounds_toArray, List.set_cons_zero, List.set_cons_succ]
                    have ne12 := Nat.ne_of_lt z1.lt
                    have ne32 := Nat.ne_of_lt z3.lt
                    have ne02 := Nat.ne_of_lt z0.lt
                    replace z1 := z1.kept hbk
                    replace z3 := z3.kept hbk
                    replace z0 := z0.kept hbk
                    have z2 : ClBox (u3.alloc (.cells #[.int .i64 0, .int .i64 0, .int .i64 0, .slice none 0 0, .int .i64 0, .int .i64 0, .int .i64 0] 47)) u3.heap.size zC none 0 := hnew
                    clear hnew hbk
                    generalize u3.alloc (.cells #[.int .i64 0, .int .i64 0, .int .i64 0, .slice none 0 0, .int .i64 0, .int .i64 0, .int .i64 0] 47) = u4 at z1 z3 z0 z2 hb4 ⊢
                    generalize u3.heap.size = p5 at g2 z2 ne12 ne32 ne02 ⊢
                    refine held_at (L' := #[true, true, true, true, true, true, true, true, true, true, true, true, false, false, false, false]) (by kernel_rfl) ?_
                    exact htail _ _ ⟨p3, p4, p5, p6, rfl, hb4, g0, g1, g2, g3, ne10.symm, ne02, ne30.symm, ne12, ne13, ne32.symm, z0, z1, z2, z3⟩
                · skip
                  refine AllReadyH.cons (o := ?_) ?_ (fun K hK => ?_) AllReadyH.nil
                  rotate_left
                  · (simp only [List.getElem?_toArray, List.getElem?_cons_succ, List.getElem?_cons_zero]; rfl)
                  · go_simp
                    have hnew := ClBox.new u2 zC none 0
                    have hbk := (Below.refl u2.heap.size u2).alloc (Nat.le_refl _) (.cells #[.int .i64 0, .int .i64 0, .int .i64 0, .slice none 0 0, .int .i64 0, .int .i64 0, .int .i64 0] 47)
                    have g2 := hb2.size
                    have hb3 := hb2.trans (hbk.mono hb2.size)
                    refine hK.out _ (u2.alloc (.cells #[.int .i64 0, .int .i64 0, .int .i64 0, .slice none 0 0, .int .i64 0, .int .i64 0, .int .i64 0] 47)) (HtSt.of h0 hb3) (fun hHeld => ?_)
                    clear hK K hHeld
                    try simp only [Act.put, List.setIfInBounds_toArray, List.set_cons_zero, List.set_cons_succ]
                    have ne12 := Nat.ne_of_lt z1.lt
                    have ne32 := Nat.ne_of_lt z3.lt
                    replace z1 := z1.kept hbk
                    replace z3 := z3.kept hbk
                    have z2 : ClBox (u2.alloc (.cells #[.int .i64 0, .int .i64 0, .int .i64 0, .slice none 0 0, .int .i64 0, .int .i64 0, .int .i64 0] 47)) u2.heap.size zC none 0 := hnew
                    clear hnew hbk
                    generalize u2.alloc (.cells #[.int .i64 0, .int .i64 0, .int .i64 0, .slice none 0 0, .int .i64 0, .int .i64 0, .int .i64 0] 47) = u3 at z1 z3 z2 hb3 ⊢
                    generalize u2.heap.size = p5 at g2 z2 ne12 ne32 ⊢
                    refine wpAnyH_ready (rs := [8]) (by kernel_rfl) (by simp) ?_
                    refine AllReadyH.cons (o := ?_) ?_ (fun K hK => ?_) AllReadyH.nil
                    rotate_left
                    · (simp only [List.getElem?_toArray, List.getElem?_cons_succ, List.getElem?_cons_zero]; rfl)
                    · go_simp
                      have hnew := ClBox.new u3 zC none 0
                      have hbk := (Below.refl u3.heap.size u3).alloc (Nat.le_refl _) (.cells #[.int .i64 0, .int .i64 0, .int .i64 0, .slice none 0 0, .int .i64 0, .int .i64 0, .int .i64 0] 47)
                      have g0 := hb3.size
                      have hb4 := hb3.trans (hbk.mono hb3.size)
                      refine hK.out _ (u3.alloc (.cells #[.int .i64 0, .int .i64 0, .int .i64 0, .slice none 0 0, .int .i64 0, .int .i64 0, .int .i64 0] 47)) (HtSt.of h0 hb4) (fun hHeld => ?_)
                      clear hK K hHeld
                      try simp only [Act.put, List.setIfInBounds_toArray, List.set_cons_zero, List.set_cons_succ]
                      have ne10 := Nat.ne_of_lt z1.lt
                      have ne30 := Nat.ne_of_lt z3.lt
                      have ne20 := Nat.ne_of_lt z2.lt
                      replace z1 := z1.kept hbk
                      replace z3 := z3.kept hbk
                      replace z2 := z2.kept hbk
                      have z0 : ClBox (u3.alloc (.cells #[.int .i64 0, .int .i64 0, .int .i64 0, .slice none 0 0, .int .i64 0, .int .i64 0, .int .i64 0] 47)) u3.heap.size zC none 0 := hnew
                      clear hnew hbk
                      generalize u3.alloc (.cells #[.int .i64 0, .int .i64 0, .int .i64 0, .slice none 0 0, .int .i64 0, .int .i64 0, .int .i64 0] 47) = u4 at z1 z3 z2 z0 hb4 ⊢
                      generalize u3.heap.size = p3 at g0 z0 ne10 ne30 ne20 ⊢
                      refine held_at (L' := #[true, true, true, true, true, true, true, true, true, true, true, true, false, false, false, false]) (by kernel_rfl) ?_
                      exact htail _ _ ⟨p3, p4, p5, p6, rfl, hb4, g0, g1, g2, g3, ne10.symm, ne20.symm, ne30.symm, ne12, ne13, ne32.symm, z0, z1, z2, z3⟩
        · skip
          refine AllReadyH.cons (o := ?_) ?_ (fun K hK => ?_) ?_
          rotate_left
          · (simp only [List.getElem?_toArray, List.getElem?_cons_succ, List.getElem?_cons_zero]; rfl)
          · go_simp
            have hnew := ClBox.new u0 zC none 0
            have hbk := (Below.refl u0.heap.size u0).alloc (Nat.le_refl _) (.cells #[.int .i64 0, .int .i64 0, .int .i64 0, .slice none 0 0, .int .i64 0, .int .i64 0, .int .i64 0] 47)
            have g2 := hb0.size
            have hb1 := hb0.trans (hbk.mono hb0.size)
            refine hK.out _ (u0.alloc (.cells #[.int .i64 0, .int .i64 0, .int .i64 0, .slice none 0 0, .int .i64 0, .int .i64 0, .int .i64 0] 47)) (HtSt.of h0 hb1) (fun hHeld => ?_)
            clear hK K hHeld
            try simp only [Act.put, List.setIfInBounds_toArray, List.set_cons_zero, List.set_cons_succ]
            have z2 : ClBox (u0.alloc (.cells #[.int .i64 0, .int .i64 0, .int .i64 0, .slice none 0 0, .int .i64 0, .int .i64 0, .int .i64 0] 47)) u0.heap.size zC none 0 := hnew
            clear hnew hbk
            generalize u0.alloc (.cells #[.int .i64 0, .int .i64 0, .int .i64 0, .slice none 0 0, .int .i64 0, .int .i64 0, .int .i64 0] 47) = u1 at z2 hb1 ⊢
            generalize u0.heap.size = p5 at g2 z2 ⊢
            refine wpAnyH_ready (rs := [8, 9, 11]) (by kernel_rfl) (by simp) ?_
            refine AllReadyH.cons (o := ?_) ?_ (fun K hK => ?_) ?_
            rotate_left
            · (simp only [List.getElem?_toArray, List.getElem?_cons_succ, List.getElem?_cons_zero]; rfl)
            · go_simp
              have hnew := ClBox.new u1 zC none 0
              have hbk := (Below.refl u1.heap.size u1).alloc (Nat.le_refl _) (.cells #[.int .i64 0, .int .i64 0, .int .i64 0, .slice none 0 0, .int .i64 0, .int .i64 0, .int .i64 0] 47)
              have g0 := hb1.size
              have hb2 := hb1.trans (hbk.mono hb1.size)
              refine hK.out _ (u1.alloc (.cells #[.int .i64 0, .int .i64 0, .int .i64 0, .slice none 0 0, .int .i64 0, .int .i64 0, .int .i64 0] 47)) (HtSt.of h0 hb2) (fun hHeld => ?_)
              clear hK K hHeld
              try simp only [Act.put, List.setIfInBounds_toArray, List.set_cons_zero, List.set_cons_succ]
              have ne20 := Nat.ne_of_lt z2.lt
              replace z2 := z2.kept hbk
              have z0 : ClBox (u1.alloc (.cells #[.int .i64 0, .int .i64 0, .int .i64 0, .slice none 0 0, .int .i64 0, .int .i64 0, .int .i64 0] 47)) u1.heap.size zC none 0 := hnew
              clear hnew hbk
              generalize u1.alloc (.cells #[.int .i64 0, .int .i64 0, .int .i64 0, .slice none 0 0, .int .i64 0, .int .i64 0, .int .i64 0] 47) = u2 at z2 z0 hb2 ⊢
              generalize u1.heap.size = p3 at g0 z0 ne20 ⊢
              refine wpAnyH_ready (rs := [9, 11]) (by kernel_rfl) (by simp) ?_
              refine AllReadyH.cons (o := ?_) ?_ (fun K hK => ?_) ?_
              rotate_left
              · (simp only [List.getElem?_toArray, List.getElem?_cons_succ, List.getElem?_cons_zero]; rfl)
              · go_simp
                have hnew := ClBox.new u2 zC none 0
                have hbk := (Below.refl u2.heap.size u2).alloc (Nat.le_refl _) (.cells #[.int .i64 0, .int .i64 0, .int .i64 0, .slice none 0 0, .int .i64 0, .int .i64 0, .int .i64 0] 47)
                have g1 := hb2.size
                have hb3 := hb2.trans (hbk.mono hb2.size)
                refine hK.out _ (u2.alloc (.cells #[.int .i64 0, .int .i64 0, .int .i64 0, .slice none 0 0, .int .i64 0, .int .i64 0, .int .i64 0] 47)) (HtSt.of h0 hb3) (fun hHeld => ?_)
                clear hK K hHeld
                try simp only [Act.put, List.setIfInBounds_toArray, List.set_cons_zero, List.set_cons_succ]
                have ne21 := Nat.ne_of_lt z2.lt
                have ne01 := Nat.ne_of_lt z0.lt
                replace z2 := z2.kept hbk
                replace z0 := z0.kept hbk
                have z1 : ClBox (u2.alloc (.cells #[.int .i64 0, .int .i64 0, .int .i64 0, .slice none 0 0, .int .i64 0, .int .i64 0, .int .i64 0] 47)) u2.heap.size zC none 0 := hnew
                clear hnew hbk
                generalize u2.alloc (.cells #[.int .i64 0, .int .i64 0, .int .i64 0, .slice none 0 0, .int .i64 0, .int .i64 0, .int .i64 0] 47) = u3 at z2 z0 z1 hb3 ⊢
                generalize u2.heap.size = p4 at g1 z1 ne21 ne01 ⊢
                refine wpAnyH_ready (rs := [11]) (by kernel_rfl) (by simp) ?_
                refine AllReadyH.cons (o := ?_) ?_ (fun K hK => ?_) AllReadyH.nil
                rotate_left
                · (simp only [List.getElem?_toArray, List.getElem?_cons_succ, List.getElem?_cons_zero]; rfl)
                · go_simp
                  have hnew := ClBox.new u3 zC none 0
                  have hbk := (Below.refl u3.heap.size u3).alloc (Nat.le_refl _) (.cells #[.int .i64 0, .int .i64 0, .int .i64 0, .slice none 0 0, .int .i64 0, .int .i64 0, .int .i64 0] 47)
                  have g3 := hb3.size
                  have hb4 := hb3.trans (hbk.mono hb3.size)
                  refine hK.out _ (u3.alloc (.cells #[.int .i64 0, .int .i64 0, .int .i64 0, .slice none 0 0, .int .i64 0, .int .i64 0, .int .i64 0] 47)) (HtSt.of h0 hb4) (fun hHeld => ?_)
                  clear hK K hHeld
                  try simp only [Act.put, List.setIfInBounds_toArray, List.set_cons_zero, List.set_cons_succ]
                  have ne23 := Nat.ne_of_lt z2.lt
                  have ne03 := Nat.ne_of_lt z0.lt
                  have ne13 := Nat.ne_of_lt z1.lt
                  replace z2 := z2.kept hbk
                  replace z0 := z0.kept hbk
                  replace z1 := z1.kept hbk
                  have z3 : ClBox (u3.alloc (.cells #[.int .i64 0, .int .i64 0, .int .i64 0, .slice none 0 0, .int .i64 0, .int .i64 0, .int .i64 0] 47)) u3.heap.size zC none 0 := hnew
                  clear hnew hbk
                  generalize u3.alloc (.cells #[.int .i64 0, .int .i64 0, .int .i64 0, .slice none 0 0, .int .i64 0, .int .i64 0, .int .i64 0] 47) = u4 at z2 z0 z1 z3 hb4 ⊢
                  generalize u3.heap.size = p6 at g3 z3 ne23 ne03 ne13 ⊢
                  refine held_at (L' := #[true, true, true, true, true, true, true, true, true, true, true, true, false, false, false, false]) (by kernel_rfl) ?_
                  exact htail _ _ ⟨p3, p4, p5, p6, rfl, hb4, g0, g1, g2, g3, ne01, ne20.symm, ne03, ne21.symm, ne13, ne23, z0, z1, z2, z3⟩
              · skip
                refine AllReadyH.cons (o := ?_) ?_ (fun K hK => ?_) AllReadyH.nil
                rotate_left
                · (simp only [List.getElem?_toArray, List.getElem?_cons_succ, List.getElem?_cons_zero]; rfl)
                · go_simp
                  have hnew := ClBox.new u2 zC none 0
                  have hbk := (Below.refl u2.heap.size u2).alloc (Nat.le_refl _) (.cells #[.int .i64 0, .int .i64 0, .int .i64 0, .slice none 0 0, .int .i64 0, .int .i64 0, .int .i64 0] 47)
                  have g3 := hb2.size
                  have hb3 := hb2.trans (hbk.mono hb2.size)
                  refine hK.out _ (u2.alloc (.cells #[.int .i64 0, .int .i64 0, .int .i64 0, .slice none 0 0, .int .i64 0, .int .i64 0, .int .i64 0] 47)) (HtSt.of h0 hb3) (fun hHeld => ?_)
                  clear hK K hHeld
                  try simp only [Act.put, List.setIfInBounds_toArray, List.set_cons_zero, List.set_cons_succ]
                  have ne23 := Nat.ne_of_lt z2.lt
                  have ne03 := Nat.ne_of_lt z0.lt
                  replace z2 := z2.kept hbk
                  replace z0 := z0.kept hbk
                  have z3 : ClBox (u2.alloc (.cells #[.int .i64 0, .int .i64 0, .int .i64 0, .slice none 0 0, .int .i64 0, .int .i64 0, .int .i64 0] 47)) u2.heap.size zC none 0 := hnew
                  clear hnew hbk
                  generalize u2.alloc (.cells #[.int .i64 0, .int .i64 0, .int .i64 0, .slice none 0 0, .int .i64 0, .int .i64 0, .int .i64 0] 47) = u3 at z2 z0 z3 hb3 ⊢
                  generalize u2.heap.size = p6 at g3 z3 ne23 ne03 ⊢
                  refine wpAnyH_ready (rs := [9]) (by kernel_rfl) (by simp) ?_
                  refine AllReadyH.cons (o := ?_) ?_ (fun K hK => ?_) AllReadyH.nil
                  rotate_left
                  · (simp only [List.getElem?_toArray, List.getElem?_cons_succ, List.getElem?_cons_zero]; rfl)
                  · go_simp
                    have hnew := ClBox.new u3 zC none 0
                    have hbk := (Below.refl u3.heap.size u3).alloc (Nat.le_refl _) (.cells #[.int .i64 0, .int .i64 0, .int .i64 0, .slice none 0 0, .int .i64 0, .int .i64 0, .int .i64 0] 47)
                    have g1 := hb3.size
                    have hb4 := hb3.trans (hbk.mono hb3.size)
                    refine hK.out _ (u3.alloc (.cells #[.int .i64 0, .int .i64 0, .int .i64 0, .slice none 0 0, .int .i64 0, .int .i64 0, .int .i64 0] 47)) (HtSt.of h0 hb4) (fun hHeld => ?_)
                    clear hK K hHeld
                    try simp only [Act.put, List.setIfInBounds_toArray, List.set_cons_zero, List.set_cons_succ]
                    have ne21 := Nat.ne_of_lt z2.lt
                    have ne01 := Nat.ne_of_lt z0.lt
                    have ne31 := Nat.ne_of_lt z3.lt
                    replace z2 := z2.kept hbk
                    replace z0 := z0.kept hbk
                    replace z3 := z3.kept hbk
                    have z1 : ClBox (u3.alloc (.cells #[.int .i64 0, .int .i64 0, .int .i64 0, .slice none 0 0, .int .i64 0, .int .i64 0, .int .i64 0] 47)) u3.heap.size zC none 0 := hnew
                    clear hnew hbk
                    generalize u3.alloc (.cells #[.int .i64 0, .int .i64 0, .int .i64 0, .slice none 0 0, .int .i64 0, .int .i64 0, .int .i64 0] 47) = u4 at z2 z0 z3 z1 hb4 ⊢
                    generalize u3.heap.size = p4 at g1 z1 ne21 ne01 ne31 ⊢
                    refine held_at (L' := #[true, true, true, true, true, true, true, true, true, true, true, true, false, false, false, false]) (by kernel_rfl) ?_
                    exact htail _ _ ⟨p3, p4, p5, p6, rfl, hb4, g0, g1, g2, g3, ne01, ne20.symm, ne03, ne21.symm, ne31.symm, ne23, z0, z1, z2, z3⟩
            · skip
              refine AllReadyH.cons (o := ?_) ?_ (fun K hK => ?_) ?_
              rotate_left
              · (simp only [List.getElem?_toArray, List.getElem?_cons_succ, List.getElem?_cons_zero]; rfl)
              · go_simp
                have hnew := ClBox.new u1 zC none 0
                have hbk := (Below.refl u1.heap.size u1).alloc (Nat.le_refl _) (.cells #[.int .i64 0, .int .i64 0, .int .i64 0, .slice none 0 0, .int .i64 0, .int .i64 0, .int .i64 0] 47)
                have g1 := hb1.size
                have hb2 := hb1.trans (hbk.mono hb1.size)
                refine hK.out _ (u1.alloc (.cells #[.int .i64 0, .int .i64 0, .int .i64 0, .slice none 0 0, .int .i64 0, .int .i64 0, .int .i64 0] 47)) (HtSt.of h0 hb2) (fun hHeld => ?_)
                clear hK K hHeld
                try simp only [Act.put, List.setIfInBounds_toArray, List.set_cons_zero, List.set_cons_succ]
                have ne21 := Nat.ne_of_lt z2.lt
                replace z2 := z2.kept hbk
                have z1 : ClBox (u1.alloc (.cells #[.int .i64 0, .int .i64 0, .int .i64 0, .slice none 0 0, .int .i64 0, .int .i64 0, .int .i64 0] 47)) u1.heap.size zC none 0 := hnew
                clear hnew hbk
                generalize u1.alloc (.cells #[.int .i64 0, .int .i64 0, .int .i64 0, .slice none 0 0, .int .i64 0, .int .i64 0, .int .i64 0] 47) = u2 at z2 z1 hb2 ⊢
                generalize u1.heap.size = p4 at g1 z1 ne21 ⊢
                refine wpAnyH_ready (rs := [8, 11]) (by kernel_rfl) (by simp) ?_
                refine AllReadyH.cons (o := ?_) ?_ (fun K hK => ?_) ?_
                rotate_left
                · (simp only [List.getElem?_toArray, List.getElem?_cons_succ, List.getElem?_cons_zero]; rfl)
                · go_simp
                  have hnew := ClBox.new u2 zC none 0
                  have hbk := (Below.refl u2.heap.size u2).alloc (Nat.le_refl _) (.cells #[.int .i64 0, .int .i64 0, .int .i64 0, .slice none 0 0, .int .i64 0, .int .i64 0, .int .i64 0] 47)
                  have g0 := hb2.size
                  have hb3 := hb2.trans (hbk.mono hb2.size)
                  refine hK.out _ (u2.alloc (.cells #[.int .i64 0, .int .i64 0, .int .i64 0, .slice none 0 0, .int .i64 0, .int .i64 0, .int .i64 0] 47)) (HtSt.of h0 hb3) (fun hHeld => ?_)
                  clear hK K hHeld
                  try simp only [Act.put, List.setIfInBounds_toArray, List.set_cons_zero, List.set_cons_succ]
                  have ne20 := Nat.ne_of_lt z2.lt
                  have ne10 := Nat.ne_of_lt z1.lt
                  replace z2 := z2.kept hbk
                  replace z1 := z1.kept hbk
                  have z0 : ClBox (u2.alloc (.cells #[.int .i64 0, .int .i64 0, .int .i64 0, .slice none 0 0, .int .i64 0, .int .i64 0, .int .i64 0] 47)) u2.heap.size zC none 0 := hnew
                  clear hnew hbk
                  generalize u2.alloc (.cells #[.int .i64 0, .int .i64 0, .int .i64 0, .slice none 0 0, .int .i64 0, .int .i64 0, .int .i64 0] 47) = u3 at z2 z1 z0 hb3 ⊢
                  generalize u2.heap.size = p3 at g0 z0 ne20 ne10 ⊢
                  refine wpAnyH_ready (rs := [11]) (by kernel_rfl) (by simp) ?_
                  refine AllReadyH.cons (o := ?_) ?_ (fun K hK => ?_) AllReadyH.nil
                  rotate_left
                  · (simp only [List.getElem?_toArray, List.getElem?_cons_succ, List.getElem?_cons_zero]; rfl)
                  · go_simp
                    have hnew := ClBox.new u3 zC none 0
                    have hbk := (Below.refl u3.heap.size u3).alloc (Nat.le_refl _) (.cells #[.int .i64 0, .int .i64 0, .int .i64 0, .slice none 0 0, .int .i64 0, .int .i64 0, .int .i64 0] 47)
                    have g3 := hb3.size
                    have hb4 := hb3.trans (hbk.mono hb3.size)
                    refine hK.out _ (u3.alloc (.cells #[.int .i64 0, .int .i64 0, .int .i64 0, .slice none 0 0, .int .i64 0, .int .i64 0, .int .i64 0] 47)) (HtSt.of h0 hb4) (fun hHeld => ?_)
                    clear hK K hHeld
                    try simp only [Act.put, List.setIfInBounds_toArray, List.set_cons_zero, List.set_cons_succ]
                    have ne23 := Nat.ne_of_lt z2.lt
                    have ne13 := Nat.ne_of_lt z1.lt
                    have ne03 := Nat.ne_of_lt z0.lt
                    replace z2 := z2.kept hbk
                    replace z1 := z1.kept hbk
                    replace z0 := z0.kept hbk
                    have z3 : ClBox (u3.alloc (.cells #[.int .i64 0, .int .i64 0, .int .i64 0, .slice none 0 0, .int .i64 0, .int .i64 0, .int .i64 0] 47)) u3.heap.size zC none 0 := hnew
                    clear hnew hbk
                    generalize u3.alloc (.cells #[.int .i64 0, .int .i64 0, .int .i64 0, .slice none 0 0, .int .i64 0, .int .i64 0, .int .i64 0] 47) = u4 at z2 z1 z0 z3 hb4 ⊢
                    generalize u3.heap.size = p6 at g3 z3 ne23 ne13 ne03 ⊢
                    refine held_at (L' := #[true, true, true, true, true, true, true, true, true, true, true, true, false, false, false, false]) (by kernel_rfl) ?_
                    exact htail _ _ ⟨p3, p4, p5, p6, rfl, hb4, g0, g1, g2, g3, ne10.symm, ne20.symm, ne03, ne21.symm, ne13, ne23, z0, z1, z2, z3⟩
                · skip
                  refine AllReadyH.cons (o := ?_) ?_ (fun K hK => ?_) AllReadyH.nil
                  rotate_left
                  · (simp only [List.getElem?_toArray, List.getElem?_cons_succ, List.getElem?_cons_zero]; rfl)
                  · go_simp
                    have hnew := ClBox.new u2 zC none 0
                    have hbk := (Below.refl u2.heap.size u2).alloc (Nat.le_refl _) (.cells #[.int .i64 0, .int .i64 0, .int .i64 0, .slice none 0 0, .int .i64 0, .int .i64 0, .int .i64 0] 47)
                    have g3 := hb2.size
                    have hb3 := hb2.trans (hbk.mono hb2.size)
                    refine hK.out _ (u2.alloc (.cells #[.int .i64 0, .int .i64 0, .int .i64 0, .slice none 0 0, .int .i64 0, .int .i64 0, .int .i64 0] 47)) (HtSt.of h0 hb3) (fun hHeld => ?_)
                    clear hK K hHeld
                    try simp only [Act.put, List.setIfInBounds_toArray, List.set_cons_zero, List.set_cons_succ]
                    have ne23 := Nat.ne_of_lt z2.lt
                    have ne13 := Nat.ne_of_lt z1.lt
                    replace z2 := z2.kept hbk
                    replace z1 := z1.kept hbk
                    have z3 : ClBox (u2.alloc (.cells #[.int .i64 0, .int .i64 0, .int .i64 0, .slice none 0 0, .int .i64 0, .int .i64 0, .int .i64 0] 47)) u2.heap.size zC none 0 := hnew
                    clear hnew hbk
                    generalize u2.alloc (.cells #[.int .i64 0, .int .i64 0, .int .i64 0, .slice none 0 0, .int .i64 0, .int .i64 0, .int .i64 0] 47) = u3 at z2 z1 z3 hb3 ⊢
                    generalize u2.heap.size = p6 at g3 z3 ne23 ne13 ⊢
                    refine wpAnyH_ready (rs := [8]) (by kernel_rfl) (by simp) ?_
                    refine AllReadyH.cons (o := ?_) ?_ (fun K hK => ?_) AllReadyH.nil
                    rotate_left
                    · (simp only [List.getElem?_toArray, List.getElem?_cons_succ, List.getElem?_cons_zero]; rfl)
                    · go_simp
                      have hnew := ClBox.new u3 zC none 0
                      have hbk := (Below.refl u3.heap.size u3).alloc (Nat.le_refl _) (.cells #[.int .i64 0, .int .i64 0, .int .i64 0, .slice none 0 0, .int .i64 0, .int .i64 0, .int .i64 0] 47)
                      have g0 := hb3.size
                      have hb4 := hb3.trans (hbk.mono hb3.size)
                      refine hK.out _ (u3.alloc (.cells #[.int .i64 0, .int .i64 0, .int .i64 0, .slice none 0 0, .int .i64 0, .int .i64 0, .int .i64 0] 47)) (HtSt.of h0 hb4) (fun hHeld => ?_)
                      clear hK K hHeld
                      try simp only [Act.put, List.setIfInBounds_toArray, List.set_cons_zero, List.set_cons_succ]
                      have ne20 := Nat.ne_of_lt z2.lt
                      have ne10 := Nat.ne_of_lt z1.lt
                      have ne30 := Nat.ne_of_lt z3.lt
                      replace z2 := z2.kept hbk
                      replace z1 := z1.kept hbk
                      replace z3 := z3.kept hbk
                      have z0 : ClBox (u3.alloc (.cells #[.int .i64 0, .int .i64 0, .int .i64 0, .slice none 0 0, .int .i64 0, .int .i64 0, .int .i64 0] 47)) u3.heap.size zC none 0 := hnew
                      clear hnew hbk
                      generalize u3.alloc (.cells #[.int .i64 0, .int .i64 0, .int .i64 0, .slice none 0 0, .int .i64 0, .int .i64 0, .int .i64 0] 47) = u4 at z2 z1 z3 z0 hb4 ⊢
                      generalize u3.heap.size = p3 at g0 z0 ne20 ne10 ne30 ⊢
                      refine held_at (L' := #[true, true, true, true, true, true, true, true, true, true, true, true, false, false, false, false]) (by kernel_rfl) ?_
                      exact htail _ _ ⟨p3, p4, p5, p6, rfl, hb4, g0, g1, g2, g3, ne10.symm, ne20.symm, ne30.symm, ne21.symm, ne13, ne23, z0, z1, z2, z3⟩
              · skip
                refine AllReadyH.cons (o := ?_) ?_ (fun K hK => ?_) AllReadyH.nil
                rotate_left
                · (simp only [List.getElem?_toArray, List.getElem?_cons_succ, List.getElem?_cons_zero]; rfl)
                · go_simp
                  have hnew := ClBox.new u1 zC none 0
                  have hbk := (Below.refl u1.heap.size u1).alloc (Nat.le_refl _) (.cells #[.int .i64 0, .int .i64 0, .int .i64 0, .slice none 0 0, .int .i64 0, .int .i64 0, .int .i64 0] 47)
                  have g3 := hb1.size
                  have hb2 := hb1.trans (hbk.mono hb1.size)
                  refine hK.out _ (u1.alloc (.cells #[.int .i64 0, .int .i64 0, .int .i64 0, .slice none 0 0, .int .i64 0, .int .i64 0, .int .i64 0] 47)) (HtSt.of h0 hb2) (fun hHeld => ?_)
                  clear hK K hHeld
                  try simp only [Act.put, List.setIfInBounds_toArray, List.set_cons_zero, List.set_cons_succ]
                  have ne23 := Nat.ne_of_lt z2.lt
                  replace z2 := z2.kept hbk
                  have z3 : ClBox (u1.alloc (.cells #[.int .i64 0, .int .i64 0, .int .i64 0, .slice none 0 0, .int .i64 0, .int .i64 0, .int .i64 0] 47)) u1.heap.size zC none 0 := hnew
                  clear hnew hbk
                  generalize u1.alloc (.cells #[.int .i64 0, .int .i64 0, .int .i64 0, .slice none 0 0, .int .i64 0, .int .i64 0, .int .i64 0] 47) = u2 at z2 z3 hb2 ⊢
                  generalize u1.heap.size = p6 at g3 z3 ne23 ⊢
                  refine wpAnyH_ready (rs := [8, 9]) (by kernel_rfl) (by simp) ?_
                  refine AllReadyH.cons (o := ?_) ?_ (fun K hK => ?_) ?_
                  rotate_left
                  · (simp only [List.getElem?_toArray, List.getElem?_cons_succ, List.getElem?_cons_zero]; rfl)
                  · go_simp
                    have hnew := ClBox.new u2 zC none 0
                    have hbk := (Below.refl u2.heap.size u2).alloc (Nat.le_refl _) (.cells #[.int .i64 0, .int .i64 0, .int .i64 0, .slice none 0 0, .int .i64 0, .int .i64 0, .int .i64 0] 47)
                    have g0 := hb2.size
                    have hb3 := hb2.trans (hbk.mono hb2.size)
                    refine hK.out _ (u2.alloc (.cells #[.int .i64 0, .int .i64 0, .int .i64 0, .slice none 0 0, .int .i64 0, .int .i64 0, .int .i64 0] 47)) (HtSt.of h0 hb3) (fun hHeld => ?_)
                    clear hK K hHeld
                    try simp only [Act.put, List.setIfInBounds_toArray, List.set_cons_zero, List.set_cons_succ]
                    have ne20 := Nat.ne_of_lt z2.lt
                    have ne30 := Nat.ne_of_lt z3.lt
                    replace z2 := z2.kept hbk
                    replace z3 := z3.kept hbk
                    have z0 : ClBox (u2.alloc (.cells #[.int .i64 0, .int .i64 0, .int .i64 0, .slice none 0 0, .int .i64 0, .int .i64 0, .int .i64 0] 47)) u2.heap.size zC none 0 := hnew
                    clear hnew hbk
                    generalize u2.alloc (.cells #[.int .i64 0, .int .i64 0, .int .i64 0, .slice none 0 0, .int .i64 0, .int .i64 0, .int .i64 0] 47) = u3 at z2 z3 z0 hb3 ⊢
                    generalize u2.heap.size = p3 at g0 z0 ne20 ne30 ⊢
                    refine wpAnyH_ready (rs := [9]) (by kernel_rfl) (by simp) ?_
                    refine AllReadyH.cons (o := ?_) ?_ (fun K hK => ?_) AllReadyH.nil
                    rotate_left
                    · (simp only [List.getElem?_toArray, List.getElem?_cons_succ, List.getElem?_cons_zero]; rfl)
                    · go_simp
                      have hnew := ClBox.new u3 zC none 0
                      have hbk := (Below.refl u3.heap.size u3).alloc (Nat.le_refl _) (.cells #[.int .i64 0, .int .i64 0, .int .i64 0, .slice none 0 0, .int .i64 0, .int .i64 0, .int .i64 0] 47)
                      have g1 := hb3.size
                      have hb4 := hb3.trans (hbk.mono hb3.size)
                      refine hK.out _ (u3.alloc (.cells #[.int .i64 0, .int .i64 0, .int .i64 0, .slice none 0 0, .int .i64 0, .int .i64 0, .int .i64 0] 47)) (HtSt.of h0 hb4) (fun hHeld => ?_)
                      clear hK K hHeld
                      try simp only [Act.put, List.setIfInBounds_toArray, List.set_cons_zero, List.set_cons_succ]
                      have ne21 := Nat.ne_of_lt z2.lt
                      have ne31 := Nat.ne_of_lt z3.lt
                      have ne01 := Nat.ne_of_lt z0.lt
                      replace z2 := z2.kept hbk
                      replace z3 := z3.kept hbk
                      replace z0 := z0.kept hbk
                      have z1 : ClBox (u3.alloc (.cells #[.int .i64 0, .int .i64 0, .int .i64 0, .slice none 0 0, .int .i64 0, .int .i64 0, .int .i64 0] 47)) u3.heap.size zC none 0 := hnew
                      clear hnew hbk
                      generalize u3.alloc (.cells #[.int .i64 0, .int .i64 0, .int .i64 0, .slice none 0 0, .int .i64 0, .int .i64 0, .int .i64 0] 47) = u4 at z2 z3 z0 z1 hb4 ⊢
                      generalize u3.heap.size = p4 at g1 z1 ne21 ne31 ne01 ⊢
                      refine held_at (L' := #[true, true, true, true, true, true, true, true, true, true, true, true, false, false, false, false]) (by kernel_rfl) ?_
                      exact htail _ _ ⟨p3, p4, p5, p6, rfl, hb4, g0, g1, g2, g3, ne01, ne20.symm, ne30.symm, ne21.symm, ne31.symm, ne23, z0, z1, z2, z3⟩
                  · skip
                    refine AllReadyH.cons (o := ?_) ?_ (fun K hK => ?_) AllReadyH.nil
                    rotate_left
                    · (simp only [List.getElem?_toArray, List.getElem?_cons_succ, List.getElem?_cons_zero]; rfl)
                    · go_simp
                      have hnew := ClBox.new u2 zC none 0
                      have hbk := (Below.refl u2.heap.size u2).alloc (Nat.le_refl _) (.cells #[.int .i64 0, .int .i64 0, .int .i64 0, .slice none 0 0, .int .i64 0, .int .i64 0, .int .i64 0] 47)
                      have g1 := hb2.size
                      have hb3 := hb2.trans (hbk.mono hb2.size)
                      refine hK.out _ (u2.alloc (.cells #[.int .i64 0, .int .i64 0, .int .i64 0, .slice none 0 0, .int .i64 0, .int .i64 0, .int .i64 0] 47)) (HtSt.of h0 hb3) (fun hHeld => ?_)
                      clear hK K hHeld
                      try simp only [Act.put, List.setIfInBounds_toArray, List.set_cons_zero, List.set_cons_succ]
                      have ne21 := Nat.ne_of_lt z2.lt
                      have ne31 := Nat.ne_of_lt z3.lt
                      replace z2 := z2.kept hbk
                      replace z3 := z3.kept hbk
                      have z1 : ClBox (u2.alloc (.cells #[.int .i64 0, .int .i64 0, .int .i64 0, .slice none 0 0, .int .i64 0, .int .i64 0, .int .i64 0] 47)) u2.heap.size zC none 0 := hnew
                      clear hnew hbk
                      generalize u2.alloc (.cells #[.int .i64 0, .int .i64 0, .int .i64 0, .slice none 0 0, .int .i64 0, .int .i64 0, .int .i64 0] 47) = u3 at z2 z3 z1 hb3 ⊢
                      generalize u2.heap.size = p4 at g1 z1 ne21 ne31 ⊢
                      refine wpAnyH_ready (rs := [8]) (by kernel_rfl) (by simp) ?_
                      refine AllReadyH.cons (o := ?_) ?_ (fun K hK => ?_) AllReadyH.nil
                      rotate_left
                      · (simp only [List.getElem?_toArray, List.getElem?_cons_succ, List.getElem?_cons_zero]; rfl)
                      · go_simp
                        have hnew := ClBox.new u3 zC none 0
                        have hbk := (Below.refl u3.heap.size u3).alloc (Nat.le_refl _) (.cells #[.int .i64 0, .int .i64 0, .int .i64 0, .slice none 0 0, .int .i64 0, .int .i64 0, .int .i64 0] 47)
                        have g0 := hb3.size
                        have hb4 := hb3.trans (hbk.mono hb3.size)
                        refine hK.out _ (u3.alloc (.cells #[.int .i64 0, .int .i64 0, .int .i64 0, .slice none 0 0, .int .i64 0, .int .i64 0, .int .i64 0] 47)) (HtSt.of h0 hb4) (fun hHeld => ?_)
                        clear hK K hHeld
                        try simp only [Act.put, List.setIfInBounds_toArray, List.set_cons_zero, List.set_cons_succ]
                        have ne20 := Nat.ne_of_lt z2.lt
                        have ne30 := Nat.ne_of_lt z3.lt
                        have ne10 := Nat.ne_of_lt z1.lt
                        replace z2 := z2.kept hbk
                        replace z3 := z3.kept hbk
                        replace z1 := z1.kept hbk
                        have z0 : ClBox (u3.alloc (.cells #[.int .i64 0, .int .i64 0, .int .i64 0, .slice none 0 0, .int .i64 0, .int .i64 0, .int .i64 0] 47)) u3.heap.size zC none 0 := hnew
                        clear hnew hbk
                        generalize u3.alloc (.cells #[.int .i64 0, .int .i64 0, .int .i64 0, .slice none 0 0, .int .i64 0, .int .i64 0, .int .i64 0] 47) = u4 at z2 z3 z1 z0 hb4 ⊢
                        generalize u3.heap.size = p3 at g0 z0 ne20 ne30 ne10 ⊢
                        refine held_at (L' := #[true, true, true, true, true, true, true, true, true, true, true, true, false, false, false, false]) (by kernel_rfl) ?_
                        exact htail _ _ ⟨p3, p4, p5, p6, rfl, hb4, g0, g1, g2, g3, ne10.symm, ne20.symm, ne30.symm, ne21.symm, ne31.symm, ne23, z0, z1, z2, z3⟩
          · skip
            refine AllReadyH.cons (o := ?_) ?_ (fun K hK => ?_) AllReadyH.nil
            rotate_left
            · (simp only [List.getElem?_toArray, List.getElem?_cons_succ, List.getElem?_cons_zero]; rfl)
            · go_simp
              have hnew := ClBox.new u0 zC none 0
              have hbk := (Below.refl u0.heap.size u0).alloc (Nat.le_refl _) (.cells #[.int .i64 0, .int .i64 0, .int .i64 0, .slice none 0 0, .int .i64 0, .int .i64 0, .int .i64 0] 47)
              have g3 := hb0.size
              have hb1 := hb0.trans (hbk.mono hb0.size)
              refine hK.out _ (u0.alloc (.cells #[.int .i64 0, .int .i64 0, .int .i64 0, .slice none 0 0, .int .i64 0, .int .i64 0, .int .i64 0] 47)) (HtSt.of h0 hb1) (fun hHeld => ?_)
              clear hK K hHeld
              try simp only [Act.put, List.setIfInBounds_toArray, List.set_cons_zero, List.set_cons_succ]
              have z3 : ClBox (u0.alloc (.cells #[.int .i64 0, .int .i64 0, .int .i64 0, .slice none 0 0, .int .i64 0, .int .i64 0, .int .i64 0] 47)) u0.heap.size zC none 0 := hnew
              clear hnew hbk
              generalize u0.alloc (.cells #[.int .i64 0, .int .i64 0, .int .i64 0, .slice none 0 0, .int .i64 0, .int .i64 0, .int .i64 0] 47) = u1 at z3 hb1 ⊢
              generalize u0.heap.size = p6 at g3 z3 ⊢
              refine wpAnyH_ready (rs := [8, 9, 10]) (by kernel_rfl) (by simp) ?_
              refine AllReadyH.cons (o := ?_) ?_ (fun K hK => ?_) ?_
              rotate_left
              · (simp only [List.getElem?_toArray, List.getElem?_cons_succ, List.getElem?_cons_zero]; rfl)
              · go_simp
                have hnew := ClBox.new u1 zC none 0
                have hbk := (Below.refl u1.heap.size u1).alloc (Nat.le_refl _) (.cells #[.int .i64 0, .int .i64 0, .int .i64 0, .slice none 0 0, .int .i64 0, .int .i64 0, .int .i64 0] 47)
                have g0 := hb1.size
                have hb2 := hb1.trans (hbk.mono hb1.size)
                refine hK.out _ (u1.alloc (.cells #[.int .i64 0, .int .i64 0, .int .i64 0, .slice none 0 0, .int .i64 0, .int .i64 0, .int .i64 0] 47)) (HtSt.of h0 hb2) (fun hHeld => ?_)
                clear hK K hHeld
                try simp only [Act.put, List.setIfInBounds_toArray, List.set_cons_zero, List.set_cons_succ]
                have ne30 := Nat.ne_of_lt z3.lt
                replace z3 := z3.kept hbk
                have z0 : ClBox (u1.alloc (.cells #[.int .i64 0, .int .i64 0, .int .i64 0, .slice none 0 0, .int .i64 0, .int .i64 0, .int .i64 0] 47)) u1.heap.size zC none 0 := hnew
                clear hnew hbk
                generalize u1.alloc (.cells #[.int .i64 0, .int .i64 0, .int .i64 0, .slice none 0 0, .int .i64 0, .int .i64 0, .int .i64 0] 47) = u2 at z3 z0 hb2 ⊢
                generalize u1.heap.size = p3 at g0 z0 ne30 ⊢
                refine wpAnyH_ready (rs := [9, 10]) (by kernel_rfl) (by simp) ?_
                refine AllReadyH.cons (o := ?_) ?_ (fun K hK => ?_) ?_
                rotate_left
                · (simp only [List.getElem?_toArray, List.getElem?_cons_succ, List.getElem?_cons_zero]; rfl)
                · go_simp
                  have hnew := ClBox.new u2 zC none 0
                  have hbk := (Below.refl u2.heap.size u2).alloc (Nat.le_refl _) (.cells #[.int .i64 0, .int .i64 0, .int .i64 0, .slice none 0 0, .int .i64 0, .int .i64 0, .int .i64 0] 47)
                  have g1 := hb2.size
                  have hb3 := hb2.trans (hbk.mono hb2.size)
                  refine hK.out _ (u2.alloc (.cells #[.int .i64 0, .int .i64 0, .int .i64 0, .slice none 0 0, .int .i64 0, .int .i64 0, .int .i64 0] 47)) (HtSt.of h0 hb3) (fun hHeld => ?_)
                  clear hK K hHeld
                  try simp only [Act.put, List.setIfInBounds_toArray, List.set_cons_zero, List.set_cons_succ]
                  have ne31 := Nat.ne_of_lt z3.lt
                  have ne01 := Nat.ne_of_lt z0.lt
                  replace z3 := z3.kept hbk
                  replace z0 := z0.kept hbk
                  have z1 : ClBox (u2.alloc (.cells #[.int .i64 0, .int .i64 0, .int .i64 0, .slice none 0 0, .int .i64 0, .int .i64 0, .int .i64 0] 47)) u2.heap.size zC none 0 := hnew
                  clear hnew hbk
                  generalize u2.alloc (.cells #[.int .i64 0, .int .i64 0, .int .i64 0, .slice none 0 0, .int .i64 0, .int .i64 0, .int .i64 0] 47) = u3 at z3 z0 z1 hb3 ⊢
                  generalize u2.heap.size = p4 at g1 z1 ne31 ne01 ⊢
                  refine wpAnyH_ready (rs := [10]) (by kernel_rfl) (by simp) ?_
                  refine AllReadyH.cons (o := ?_) ?_ (fun K hK => ?_) AllReadyH.nil
                  rotate_left
                  · (simp only [List.getElem?_toArray, List.getElem?_cons_succ, List.getElem?_cons_zero]; rfl)
                  · go_simp
                    have hnew := ClBox.new u3 zC none 0
                    have hbk := (Below.refl u3.heap.size u3).alloc (Nat.le_refl _) (.cells #[.int .i64 0, .int .i64 0, .int .i64 0, .slice none 0 0, .int .i64 0, .int .i64 0, .int .i64 0] 47)
                    have g2 := hb3.size
                    have hb4 := hb3.trans (hbk.mono hb3.size)
                    refine hK.out _ (u3.alloc (.cells #[.int .i64 0, .int .i64 0, .int .i64 0, .slice none 0 0, .int .i64 0, .int .i64 0, .int .i64 0] 47)) (HtSt.of h0 hb4) (fun hHeld => ?_)
                    clear hK K hHeld
                    try simp only [Act.put, List.setIfInBounds_toArray, List.set_cons_zero, List.set_cons_succ]
                    have ne32 := Nat.ne_of_lt z3.lt
                    have ne02 := Nat.ne_of_lt z0.lt
                    have ne12 := Nat.ne_of_lt z1.lt
                    replace z3 := z3.kept hbk
                    replace z0 := z0.kept hbk
                    replace z1 := z1.kept hbk
                    have z2 : ClBox (u3.alloc (.cells #[.int .i64 0, .int .i64 0, .int .i64 0, .slice none 0 0, .int .i64 0, .int .i64 0, .int .i64 0] 47)) u3.heap.size zC none 0 := hnew
                    clear hnew hbk
                    generalize u3.alloc (.cells #[.int .i64 0, .int .i64 0, .int .i64 0, .slice none 0 0, .int .i64 0, .int .i64 0, .int .i64 0] 47) = u4 at z3 z0 z1 z2 hb4 ⊢
                    generalize u3.heap.size = p5 at g2 z2 ne32 ne02 ne12 ⊢
                    refine held_at (L' := #[true, true, true, true, true, true, true, true, true, true, true, true, false, false, false, false]) (by kernel_rfl) ?_
                    exact htail _ _ ⟨p3, p4, p5, p6, rfl, hb4, g0, g1, g2, g3, ne01, ne02, ne30.symm, ne12, ne31.symm, ne32.symm, z0, z1, z2, z3⟩
                · skip
                  refine AllReadyH.cons (o := ?_) ?_ (fun K hK => ?_) AllReadyH.nil
                  rotate_left
                  · (simp only [List.getElem?_toArray, List.getElem?_cons_succ, List.getElem?_cons_zero]; rfl)
                  · go_simp
                    have hnew := ClBox.new u2 zC none 0
                    have hbk := (Below.refl u2.heap.size u2).alloc (Nat.le_refl _) (.cells #[.int .i64 0, .int .i64 0, .int .i64 0, .slice none 0 0, .int .i64 0, .int .i64 0, .int .i64 0] 47)
                    have g2 := hb2.size
                    have hb3 := hb2.trans (hbk.mono hb2.size)
                    refine hK.out _ (u2.alloc (.cells #[.int .i64 0, .int .i64 0, .int .i64 0, .slice none 0 0, .int .i64 0, .int .i64 0, .int .i64 0] 47)) (HtSt.of h0 hb3) (fun hHeld => ?_)
                    clear hK K hHeld
                    try simp only [Act.put, List.setIfInBounds_toArray, List.set_cons_zero, List.set_cons_succ]
                    have ne32 := Nat.ne_of_lt z3.lt
                    have ne02 := Nat.ne_of_lt z0.lt
                    replace z3 := z3.kept hbk
                    replace z0 := z0.kept hbk
                    have z2 : ClBox (u2.alloc (.cells #[.int .i64 0, .int .i64 0, .int .i64 0, .slice none 0 0, .int .i64 0, .int .i64 0, .int .i64 0] 47)) u2.heap.size zC none 0 := hnew
                    clear hnew hbk
                    generalize u2.alloc (.cells #[.int .i64 0, .int .i64 0, .int .i64 0, .slice none 0 0, .int .i64 0, .int .i64 0, .int .i64 0] 47) = u3 at z3 z0 z2 hb3 ⊢
                    generalize u2.heap.size = p5 at g2 z2 ne32 ne02 ⊢
                    refine wpAnyH_ready (rs := [9]) (by kernel_rfl) (by simp) ?_
                    refine AllReadyH.cons (o := ?_) ?_ (fun K hK => ?_) AllReadyH.nil
                    rotate_left
                    · (simp only [List.getElem?_toArray, List.getElem?_cons_succ, List.getElem?_cons_zero]; rfl)
                    · go_simp
                      have hnew := ClBox.new u3 zC none 0
                      have hbk := (Below.refl u3.heap.size u3).alloc (Nat.le_refl _) (.cells #[.int .i64 0, .int .i64 0, .int .i64 0, .slice none 0 0, .int .i64 0, .int .i64 0, .int .i64 0] 47)
                      have g1 := hb3.size
                      have hb4 := hb3.trans (hbk.mono hb3.size)
                      refine hK.out _ (u3.alloc (.cells #[.int .i64 0, .int .i64 0, .int .i64 0, .slice none 0 0, .int .i64 0, .int .i64 0, .int .i64 0] 47)) (HtSt.of h0 hb4) (fun hHeld => ?_)
                      clear hK K hHeld
                      try simp only [Act.put, List.setIfInBounds_toArray, List.set_cons_zero, List.set_cons_succ]
                      have ne31 := Nat.ne_of_lt z3.lt
                      have ne01 := Nat.ne_of_lt z0.lt
                      have ne21 := Nat.ne_of_lt z2.lt
                      replace z3 := z3.kept hbk
                      replace z0 := z0.kept hbk
                      replace z2 := z2.kept hbk
                      have z1 : ClBox (u3.alloc (.cells #[.int .i64 0, .int .i64 0, .int .i64 0, .slice none 0 0, .int .i64 0, .int .i64 0, .int .i64 0] 47)) u3.heap.size zC none 0 := hnew
                      clear hnew hbk
                      generalize u3.alloc (.cells #[.int .i64 0, .int .i64 0, .int .i64 0, .slice none 0 0, .int .i64 0, .int .i64 0, .int .i64 0] 47) = u4 at z3 z0 z2 z1 hb4 ⊢
                      generalize u3.heap.size = p4 at g1 z1 ne31 ne01 ne21 ⊢
                      refine held_at (L' := #[true, true, true, true, true, true, true, true, true, true, true, true, false, false, false, false]) (by kernel_rfl) ?_
                      exact htail _ _ ⟨p3, p4, p5, p6, rfl, hb4, g0, g1, g2, g3, ne01, ne02, ne30.symm, ne21.symm, ne31.symm, ne32.symm, z0, z1, z2, z3⟩
              · skip
                refine AllReadyH.cons (o := ?_) ?_ (fun K hK => ?_) ?_
                rotate_left
                · (simp only [List.getElem?_toArray, List.getElem?_cons_succ, List.getElem?_cons_zero]; rfl)
                · go_simp
                  have hnew := ClBox.new u1 zC none 0
                  have hbk := (Below.refl u1.heap.size u1).alloc (Nat.le_refl _) (.cells #[.int .i64 0, .int .i64 0, .int .i64 0, .slice none 0 0, .int .i64 0, .int .i64 0, .int .i64 0] 47)
                  have g1 := hb1.size
                  have hb2 := hb1.trans (hbk.mono hb1.size)
                  refine hK.out _ (u1.alloc (.cells #[.int .i64 0, .int .i64 0, .int .i64 0, .slice none 0 0, .int .i64 0, .int .i64 0, .int .i64 0] 47)) (HtSt.of h0 hb2) (fun hHeld => ?_)
                  clear hK K hHeld
                  try simp only [Act.put, List.setIfInBounds_toArray, List.set_cons_zero, List.set_cons_succ]
                  have ne31 := Nat.ne_of_lt z3.lt
                  replace z3 := z3.kept hbk
                  have z1 : ClBox (u1.alloc (.cells #[.int .i64 0, .int .i64 0, .int .i64 0, .slice none 0 0, .int .i64 0, .int .i64 0, .int .i64 0] 47)) u1.heap.size zC none 0 := hnew
                  clear hnew hbk
                  generalize u1.alloc (.cells #[.int .i64 0, .int .i64 0, .int .i64 0, .slice none 0 0, .int .i64 0, .int .i64 0, .int .i64 0] 47) = u2 at z3 z1 hb2 ⊢
                  generalize u1.heap.size = p4 at g1 z1 ne31 ⊢
                  refine wpAnyH_ready (rs := [8, 10]) (by kernel_rfl) (by simp) ?_
                  refine AllReadyH.cons (o := ?_) ?_ (fun K hK => ?_) ?_
                  rotate_left
                  · (simp only [List.getElem?_toArray, List.getElem?_cons_succ, List.getElem?_cons_zero]; rfl)
                  · go_simp
                    have hnew := ClBox.new u2 zC none 0
                    have hbk := (Below.refl u2.heap.size u2).alloc (Nat.le_refl _) (.cells #[.int .i64 0, .int .i64 0, .int .i64 0, .slice none 0 0, .int .i64 0, .int .i64 0, .int .i64 0] 47)
                    have g0 := hb2.size
                    have hb3 := hb2.trans (hbk.mono hb2.size)
                    refine hK.out _ (u2.alloc (.cells #[.int .i64 0, .int .i64 0, .int .i64 0, .slice none 0 0, .int .i64 0, .int .i64 0, .int .i64 0] 47)) (HtSt.of h0 hb3) (fun hHeld => ?_)
                    clear hK K hHeld
                    try simp only [Act.put, List.setIfInBounds_toArray, List.set_cons_zero, List.set_cons_succ]
                    have ne30 := Nat.ne_of_lt z3.lt
                    have ne10 := Nat.ne_of_lt z1.lt
                    replace z3 := z3.kept hbk
                    replace z1 := z1.kept hbk
                    have z0 : ClBox (u2.alloc (.cells #[.int .i64 0, .int .i64 0, .int .i64 0, .slice none 0 0, .int .i64 0, .int .i64 0, .int .i64 0] 47)) u2.heap.size zC none 0 := hnew
                    clear hnew hbk
                    generalize u2.alloc (.cells #[.int .i64 0, .int .i64 0, .int .i64 0, .slice none 0 0, .int .i64 0, .int .i64 0, .int .i64 0] 47) = u3 at z3 z1 z0 hb3 ⊢
                    generalize u2.heap.size = p3 at g0 z0 ne30 ne10 ⊢
                    refine wpAnyH_ready (rs := [10]) (by kernel_rfl) (by simp) ?_
                    refine AllReadyH.cons (o := ?_) ?_ (fun K hK => ?_) AllReadyH.nil
                    rotate_left
                    · (simp only [List.getElem?_toArray, List.getElem?_cons_succ, List.getElem?_cons_zero]; rfl)
                    · go_simp
                      have hnew := ClBox.new u3 zC none 0
                      have hbk := (Below.refl u3.heap.size u3).alloc (Nat.le_refl _) (.cells #[.int .i64 0, .int .i64 0, .int .i64 0, .slice none 0 0, .int .i64 0, .int .i64 0, .int .i64 0] 47)
                      have g2 := hb3.size
                      have hb4 := hb3.trans (hbk.mono hb3.size)
                      refine hK.out _ (u3.alloc (.cells #[.int .i64 0, .int .i64 0, .int .i64 0, .slice none 0 0, .int .i64 0, .int .i64 0, .int .i64 0] 47)) (HtSt.of h0 hb4) (fun hHeld => ?_)
                      clear hK K hHeld
                      try simp only [Act.put, List.setIfInBounds_toArray, List.set_cons_zero, List.set_cons_succ]
                      have ne32 := Nat.ne_of_lt z3.lt
                      have ne12 := Nat.ne_of_lt z1.lt
                      have ne02 := Nat.ne_of_lt z0.lt
                      replace z3 := z3.kept hbk
                      replace z1 := z1.kept hbk
                      replace z0 := z0.kept hbk
                      have z2 : ClBox (u3.alloc (.cells #[.int .i64 0, .int .i64 0, .int .i64 0, .slice none 0 0, .int .i64 0, .int .i64 0, .int .i64 0] 47)) u3.heap.size zC none 0 := hnew
                      clear hnew hbk
                      generalize u3.alloc (.cells #[.int .i64 0, .int .i64 0, .int .i64 0, .slice none 0 0, .int .i64 0, .int .i64 0, .int .i64 0] 47) = u4 at z3 z1 z0 z2 hb4 ⊢
                      generalize u3.heap.size = p5 at g2 z2 ne32 ne12 ne02 ⊢
                      refine held_at (L' := #[true, true, true, true, true, true, true, true, true, true, true, true, false, false, false, false]) (by kernel_rfl) ?_
                      exact htail _ _ ⟨p3, p4, p5, p6, rfl, hb4, g0, g1, g2, g3, ne10.symm, ne02, ne30.symm, ne12, ne31.symm, ne32.symm, z0, z1, z2, z3⟩
                  · skip
                    refine AllReadyH.cons (o := ?_) ?_ (fun K hK => ?_) AllReadyH.nil
                    rotate_left
                    · (simp only [List.getElem?_toArray, List.getElem?_cons_succ, List.getElem?_cons_zero]; rfl)
                    · go_simp
                      have hnew := ClBox.new u2 zC none 0
                      have hbk := (Below.refl u2.heap.size u2).alloc (Nat.le_refl _) (.cells #[.int .i64 0, .int .i64 0, .int .i64 0, .slice none 0 0, .int .i64 0, .int .i64 0, .int .i64 0] 47)
                      have g2 := hb2.size
                      have hb3 := hb2.trans (hbk.mono hb2.size)
                      refine hK.out _ (u2.alloc (.cells #[.int .i64 0, .int .i64 0, .int .i64 0, .slice none 0 0, .int .i64 0, .int .i64 0, .int .i64 0] 47)) (HtSt.of h0 hb3) (fun hHeld => ?_)
                      clear hK K hHeld
                      try simp only [Act.put, List.setIfInBounds_toArray, List.set_cons_zero, List.set_cons_succ]
                      have ne32 := Nat.ne_of_lt z3.lt
                      have ne12 := Nat.ne_of_lt z1.lt
                      replace z3 := z3.kept hbk
                      replace z1 := z1.kept hbk
                      have z2 : ClBox (u2.alloc (.cells #[.int .i64 0, .int .i64 0, .int .i64 0, .slice none 0 0, .int .i64 0, .int .i64 0, .int .i64 0] 47)) u2.heap.size zC none 0 := hnew
                      clear hnew hbk
                      generalize u2.alloc (.cells #[.int .i64 0, .int .i64 0, .int .i64 0, .slice none 0 0, .int .i64 0, .int .i64 0, .int .i64 0] 47) = u3 at z3 z1 z2 hb3 ⊢
                      generalize u2.heap.size = p5 at g2 z2 ne32 ne12 ⊢
                      refine wpAnyH_ready (rs := [8]) (by kernel_rfl) (by simp) ?_
                      refine AllReadyH.cons (o := ?_) ?_ (fun K hK => ?_) AllReadyH.nil
                      rotate_left
                      · (simp only [List.getElem?_toArray, List.getElem?_cons_succ, List.getElem?_cons_zero]; rfl)
                      · go_simp
                        have hnew := ClBox.new u3 zC none 0
                        have hbk := (Below.refl u3.heap.size u3).alloc (Nat.le_refl _) (.cells #[.int .i64 0, .int .i64 0, .int .i64 0, .slice none 0 0, .int .i64 0, .int .i64 0, .int .i64 0] 47)
                        have g0 := hb3.size
                        have hb4 := hb3.trans (hbk.mono hb3.size)
                        refine hK.out _ (u3.alloc (.cells #[.int .i64 0, .int .i64 0, .int .i64 0, .slice none 0 0, .int .i64 0, .int .i64 0, .int .i64 0] 47)) (HtSt.of h0 hb4) (fun hHeld => ?_)
                        clear hK K hHeld
                        try simp only [Act.put, List.setIfInBounds_toArray, List.set_cons_zero, List.set_cons_succ]
                        have ne30 := Nat.ne_of_lt z3.lt
                        have ne10 := Nat.ne_of_lt z1.lt
                        have ne20 := Nat.ne_of_lt z2.lt
                        replace z3 := z3.kept hbk
                        replace z1 := z1.kept hbk
                        replace z2 := z2.kept hbk
                        have z0 : ClBox (u3.alloc (.cells #[.int .i64 0, .int .i64 0, .int .i64 0, .slice none 0 0, .int .i64 0, .int .i64 0, .int .i64 0] 47)) u3.heap.size zC none 0 := hnew
                        clear hnew hbk
                        generalize u3.alloc (.cells #[.int .i64 0, .int .i64 0, .int .i64 0, .slice none 0 0, .int .i64 0, .int .i64 0, .int .i64 0] 47) = u4 at z3 z1 z2 z0 hb4 ⊢
                        generalize u3.heap.size = p3 at g0 z0 ne30 ne10 ne20 ⊢
                        refine held_at (L' := #[true, true, true, true, true, true, true, true, true, true, true, true, false, false, false, false]) (by kernel_rfl) ?_
                        exact htail _ _ ⟨p3, p4, p5, p6, rfl, hb4, g0, g1, g2, g3, ne10.symm, ne20.symm, ne30.symm, ne12, ne31.symm, ne32.symm, z0, z1, z2, z3⟩
                · skip
                  refine AllReadyH.cons (o := ?_) ?_ (fun K hK => ?_) AllReadyH.nil
                  rotate_left
                  · (simp only [List.getElem?_toArray, List.getElem?_cons_succ, List.getElem?_cons_zero]; rfl)
                  · go_simp
                    have hnew := ClBox.new u1 zC none 0
                    have hbk := (Below.refl u1.heap.size u1).alloc (Nat.le_refl _) (.cells #[.int .i64 0, .int .i64 0, .int .i64 0, .slice none 0 0, .int .i64 0, .int .i64 0, .int .i64 0] 47)
                    have g2 := hb1.size
                    have hb2 := hb1.trans (hbk.mono hb1.size)
                    refine hK.out _ (u1.alloc (.cells #[.int .i64 0, .int .i64 0, .int .i64 0, .slice none 0 0, .int .i64 0, .int .i64 0, .int .i64 0] 47)) (HtSt.of h0 hb2) (fun hHeld => ?_)
                    clear hK K hHeld
                    try simp only [Act.put, List.setIfInBounds_toArray, List.set_cons_zero, List.set_cons_succ]
                    have ne32 := Nat.ne_of_lt z3.lt
                    replace z3 := z3.kept hbk
                    have z2 : ClBox (u1.alloc (.cells #[.int .i64 0, .int .i64 0, .int .i64 0, .slice none 0 0, .int .i64 0, .int .i64 0, .int .i64 0] 47)) u1.heap.size zC none 0 := hnew
                    clear hnew hbk
                    generalize u1.alloc (.cells #[.int .i64 0, .int .i64 0, .int .i64 0, .slice none 0 0, .int .i64 0, .int .i64 0, .int .i64 0] 47) = u2 at z3 z2 hb2 ⊢
                    generalize u1.heap.size = p5 at g2 z2 ne32 ⊢
                    refine wpAnyH_ready (rs := [8, 9]) (by kernel_rfl) (by simp) ?_
                    refine AllReadyH.cons (o := ?_) ?_ (fun K hK => ?_) ?_
                    rotate_left
                    · (simp only [List.getElem?_toArray, List.getElem?_cons_succ, List.getElem?_cons_zero]; rfl)
                    · go_simp
                      have hnew := ClBox.new u2 zC none 0
                      have hbk := (Below.refl u2.heap.size u2).alloc (Nat.le_refl _) (.cells #[.int .i64 0, .int .i64 0, .int .i64 0, .slice none 0 0, .int .i64 0, .int .i64 0, .int .i64 0] 47)
                      have g0 := hb2.size
                      have hb3 := hb2.trans (hbk.mono hb2.size)
                      refine hK.out _ (u2.alloc (.cells #[.int .i64 0, .int .i64 0, .int .i64 0, .slice none 0 0, .int .i64 0, .int .i64 0, .int .i64 0] 47)) (HtSt.of h0 hb3) (fun hHeld => ?_)
                      clear hK K hHeld
                      try simp only [Act.put, List.setIfInBounds_toArray, List.set_cons_zero, List.set_cons_succ]
                      have ne30 := Nat.ne_of_lt z3.lt
                      have ne20 := Nat.ne_of_lt z2.lt
                      replace z3 := z3.kept hbk
                      replace z2 := z2.kept hbk
                      have z0 : ClBox (u2.alloc (.cells #[.int .i64 0, .int .i64 0, .int .i64 0, .slice none 0 0, .int .i64 0, .int .i64 0, .int .i64 0] 47)) u2.heap.size zC none 0 := hnew
                      clear hnew hbk
                      generalize u2.alloc (.cells #[.int .i64 0, .int .i64 0, .int .i64 0, .slice none 0 0, .int .i64 0, .int .i64 0, .int .i64 0] 47) = u3 at z3 z2 z0 hb3 ⊢
                      generalize u2.heap.size = p3 at g0 z0 ne30 ne20 ⊢
                      refine wpAnyH_ready (rs := [9]) (by kernel_rfl) (by simp) ?_
                      refine AllReadyH.cons (o := ?_) ?_ (fun K hK => ?_) AllReadyH.nil
                      rotate_left
                      · (simp only [List.getElem?_toArray, List.getElem?_cons_succ, List.getElem?_cons_zero]; rfl)
                      · go_simp
                        have hnew := ClBox.new u3 zC none 0
                        have hbk := (Below.refl u3.heap.size u3).alloc (Nat.le_refl _) (.cells #[.int .i64 0, .int .i64 0, .int .i64 0, .slice none 0 0, .int .i64 0, .int .i64 0, .int .i64 0] 47)
                        have g1 := hb3.size
                        have hb4 := hb3.trans (hbk.mono hb3.size)
                        refine hK.out _ (u3.alloc (.cells #[.int .i64 0, .int .i64 0, .int .i64 0, .slice none 0 0, .int .i64 0, .int .i64 0, .int .i64 0] 47)) (HtSt.of h0 hb4) (fun hHeld => ?_)
                        clear hK K hHeld
                        try simp only [Act.put, List.setIfInBounds_toArray, List.set_cons_zero, List.set_cons_succ]
                        have ne31 := Nat.ne_of_lt z3.lt
                        have ne21 := Nat.ne_of_lt z2.lt
                        have ne01 := Nat.ne_of_lt z0.lt
                        replace z3 := z3.kept hbk
                        replace z2 := z2.kept hbk
                        replace z0 := z0.kept hbk
                        have z1 : ClBox (u3.alloc (.cells #[.int .i64 0, .int .i64 0, .int .i64 0, .slice none 0 0, .int .i64 0, .int .i64 0, .int .i64 0] 47)) u3.heap.size zC none 0 := hnew
                        clear hnew hbk
                        generalize u3.alloc (.cells #[.int .i64 0, .int .i64 0, .int .i64 0, .slice none 0 0, .int .i64 0, .int .i64 0, .int .i64 0] 47) = u4 at z3 z2 z0 z1 hb4 ⊢
                        generalize u3.heap.size = p4 at g1 z1 ne31 ne21 ne01 ⊢
                        refine held_at (L' := #[true, true, true, true, true, true, true, true, true, true, true, true, false, false, false, false]) (by kernel_rfl) ?_
                        exact htail _ _ ⟨p3, p4, p5, p6, rfl, hb4, g0, g1, g2, g3, ne01, ne20.symm, ne30.symm, ne21.symm, ne31.symm, ne32.symm, z0, z1, z2, z3⟩
                    · skip
                      refine AllReadyH.cons (o := ?_) ?_ (fun K hK => ?_) AllReadyH.nil
                      rotate_left
                      · (simp only [List.getElem?_toArray, List.getElem?_cons_succ, List.getElem?_cons_zero]; rfl)
                      · go_simp
                        have hnew := ClBox.new u2 zC none 0
                        have hbk := (Below.refl u2.heap.size u2).alloc (Nat.le_refl _) (.cells #[.int .i64 0, .int .i64 0, .int .i64 0, .slice none 0 0, .int .i64 0, .int .i64 0, .int .i64 0] 47)
                        have g1 := hb2.size
                        have hb3 := hb2.trans (hbk.mono hb2.size)
                        refine hK.out _ (u2.alloc (.cells #[.int .i64 0, .int .i64 0, .int .i64 0, .slice none 0 0, .int .i64 0, .int .i64 0, .int .i64 0] 47)) (HtSt.of h0 hb3) (fun hHeld => ?_)
                        clear hK K hHeld
                        try simp only [Act.put, List.setIfInBounds_toArray, List.set_cons_zero, List.set_cons_succ]
                        have ne31 := Nat.ne_of_lt z3.lt
                        have ne21 := Nat.ne_of_lt z2.lt
                        replace z3 := z3.kept hbk
                        replace z2 := z2.kept hbk
                        have z1 : ClBox (u2.alloc (.cells #[.int .i64 0, .int .i64 0, .int .i64 0, .slice none 0 0, .int .i64 0, .int .i64 0, .int .i64 0] 47)) u2.heap.size zC none 0 := hnew
                        clear hnew hbk
                        generalize u2.alloc (.cells #[.int .i64 0, .int .i64 0, .int .i64 0, .slice none 0 0, .int .i64 0, .int .i64 0, .int .i64 0] 47) = u3 at z3 z2 z1 hb3 ⊢
                        generalize u2.heap.size = p4 at g1 z1 ne31 ne21 ⊢
                        refine wpAnyH_ready (rs := [8]) (by kernel_rfl) (by simp) ?_
                        refine AllReadyH.cons (o := ?_) ?_ (fun K hK => ?_) AllReadyH.nil
                        rotate_left
                        · (simp only [List.getElem?_toArray, List.getElem?_cons_succ, List.getElem?_cons_zero]; rfl)
                        · go_simp
                          have hnew := ClBox.new u3 zC none 0
                          have hbk := (Below.refl u3.heap.size u3).alloc (Nat.le_refl _) (.cells #[.int .i64 0, .int .i64 0, .int .i64 0, .slice none 0 0, .int .i64 0, .int .i64 0, .int .i64 0] 47)
                          have g0 := hb3.size
                          have hb4 := hb3.trans (hbk.mono hb3.size)
                          refine hK.out _ (u3.alloc (.cells #[.int .i64 0, .int .i64 0, .int .i64 0, .slice none 0 0, .int .i64 0, .int .i64 0, .int .i64 0] 47)) (HtSt.of h0 hb4) (fun hHeld => ?_)
                          clear hK K hHeld
                          try simp only [Act.put, List.setIfInBounds_toArray, List.set_cons_zero, List.set_cons_succ]
                          have ne30 := Nat.ne_of_lt z3.lt
                          have ne20 := Nat.ne_of_lt z2.lt
                          have ne10 := Nat.ne_of_lt z1.lt
                          replace z3 := z3.kept hbk
                          replace z2 := z2.kept hbk
                          replace z1 := z1.kept hbk
                          have z0 : ClBox (u3.alloc (.cells #[.int .i64 0, .int .i64 0, .int .i64 0, .slice none 0 0, .int .i64 0, .int .i64 0, .int .i64 0] 47)) u3.heap.size zC none 0 := hnew
                          clear hnew hbk
                          generalize u3.alloc (.cells #[.int .i64 0, .int .i64 0, .int .i64 0, .slice none 0 0, .int .i64 0, .int .i64 0, .int .i64 0] 47) = u4 at z3 z2 z1 z0 hb4 ⊢
                          generalize u3.heap.size = p3 at g0 z0 ne30 ne20 ne10 ⊢
                          refine held_at (L' := #[true, true, true, true, true, true, true, true, true, true, true, true, false, false, false, false]) (by kernel_rfl) ?_
                          exact htail _ _ ⟨p3, p4, p5, p6, rfl, hb4, g0, g1, g2, g3, ne10.symm, ne20.symm, ne30.symm, ne21.symm, ne31.symm, ne32.symm, z0, z1, z2, z3⟩
  rintro p3 p4 p5 p6 w4 ⟨hbx4, hb4⟩
  dsimp only
  have hB4 := hB0.trans (hb4.mono hB0.size)
  clear hb4 h0 hB0
  rcases h1 : befB xa xb with _ | _
  · obtain ⟨a0, a1, a2, a3, a4, a5, a6⟩ := ClBox.cells (hbx4.1)
    obtain ⟨b0, b1, b2, b3, b4, b5, b6⟩ := ClBox.cells (hbx4.2.1)
    have hc := hbefore_any xa xb Aa Ab ca cb w4
    rw [h1] at hc
    have hc' := Lib.hid hc
    clear hc
    go_wp2_with fail
    refine hc'.out.mono ?_
    rintro e w5 ⟨rfl, hb⟩
    have hbx5 := hbx4.kept hb
    have hB5 := hB4.trans (hb.mono hB4.size)
    clear hb hc' hbx4 hB4 a0 a1 a2 a3 a4 a5 a6 b0 b1 b2 b3 b4 b5 b6
    obtain ⟨a0, a1, a2, a3, a4, a5, a6⟩ := ClBox.cells (hbx5.1)
    have hcl := one_cl w5 xa Aa ca (hWa.below hB5 hB5.size) hca hca2
    have hrt := histRight_any (some ⟨w5.heap.size, 0, none⟩) 1 [xa] _ (by simp) (by simp) hcl
    have hbk := (Below.refl w5.heap.size w5).alloc (Nat.le_refl _) (.cells #[.int .i64 xa.p, .int .i64 xa.o, .int .i64 xa.q, .slice Aa xa.r.length ca, .int .i64 xa.c, .int .i64 xa.b, .int .i64 xa.e] 47)
    have hbx6 := hbx5.kept hbk
    have hB6 := hB5.trans (hbk.mono hB5.size)
    clear hcl hbk hbx5 hB5
    rcases hr : rightH [xa] with _ | _
    · rw [hr] at hrt
      have hrt' := Lib.hid hrt
      clear hrt
      have hr' := Lib.hid hr
      clear hr
      go_wp2_with fail
      refine hrt'.out.mono ?_
      rintro e w7 ⟨rfl, hb⟩
      have hbx7 := hbx6.kept hb
      have hB7 := hB6.trans (hb.mono hB6.size)
      clear hb hrt' hbx6 hB6 a0 a1 a2 a3 a4 a5 a6
      have haw := Lib.hid (hawake_any w7 (hT.below hB7))
      go_wp2_with fail
      refine haw.out.mono ?_
      rintro e we ⟨rfl, hbe⟩
      go_wp2_with fail
      go_ret
      exact ⟨rfl, by first | exact hB7.trans (hbe.mono hB7.size) | (rw [← hHS.out]; exact hB7.trans (hbe.mono hB7.size))⟩
    · rw [hr] at hrt
      have hrt' := Lib.hid hrt
      clear hrt
      have hr' := Lib.hid hr
      clear hr
      go_wp2_with fail
      refine hrt'.out.mono ?_
      rintro e w7 ⟨rfl, hb⟩
      have hbx7 := hbx6.kept hb
      have hB7 := hB6.trans (hb.mono hB6.size)
      clear hb hrt' hbx6 hB6 a0 a1 a2 a3 a4 a5 a6
      have hself := bef_self xa hr'.out
      obtain ⟨a0, a1, a2, a3, a4, a5, a6⟩ := ClBox.cells (hbx7.1)
      have hc := hbefore_any xa xa Aa Aa ca ca w7
      rw [hself] at hc
      have hc' := Lib.hid hc
      clear hc
      go_wp2_with fail
      refine hc'.out.mono ?_
      rintro e w8 ⟨rfl, hb⟩
      have hbx8 := hbx7.kept hb
      have hB8 := hB7.trans (hb.mono hB7.size)
      clear hb hc' hbx7 hB7 a0 a1 a2 a3 a4 a5 a6
      clear hself
      have haw := Lib.hid (hawake_any w8 (hT.below hB8))
      go_wp2_with fail
      refine haw.out.mono ?_
      rintro e we ⟨rfl, hbe⟩
      go_wp2_with fail
      go_ret
      exact ⟨rfl, by first | exact hB8.trans (hbe.mono hB8.size) | (rw [← hHS.out]; exact hB8.trans (hbe.mono hB8.size))⟩
  · rcases h2 : befB xc xd with _ | _
    · obtain ⟨a0, a1, a2, a3, a4, a5, a6⟩ := ClBox.cells (hbx4.1)
      obtain ⟨b0, b1, b2, b3, b4, b5, b6⟩ := ClBox.cells (hbx4.2.1)
      have hc := hbefore_any xa xb Aa Ab ca cb w4
      rw [h1] at hc
      have hc' := Lib.hid hc
      clear hc
      go_wp2_with fail
      refine hc'.out.mono ?_
      rintro e w5 ⟨rfl, hb⟩
      have hbx5 := hbx4.kept hb
      have hB5 := hB4.trans (hb.mono hB4.size)
      clear hb hc' hbx4 hB4 a0 a1 a2 a3 a4 a5 a6 b0 b1 b2 b3 b4 b5 b6
      obtain ⟨a0, a1, a2, a3, a4, a5, a6⟩ := ClBox.cells (hbx5.2.2.1)
      obtain ⟨b0, b1, b2, b3, b4, b5, b6⟩ := ClBox.cells (hbx5.2.2.2)
      have hc := hbefore_any xc xd Ac Ad cc cd w5
      rw [h2] at hc
      have hc' := Lib.hid hc
      clear hc
      go_wp2_with fail
      refine hc'.out.mono ?_
      rintro e w6 ⟨rfl, hb⟩
      have hbx6 := hbx5.kept hb
      have hB6 := hB5.trans (hb.mono hB5.size)
      clear hb hc' hbx5 hB5 a0 a1 a2 a3 a4 a5 a6 b0 b1 b2 b3 b4 b5 b6
      obtain ⟨a0, a1, a2, a3, a4, a5, a6⟩ := ClBox.cells (hbx6.1)
      have hcl := one_cl w6 xa Aa ca (hWa.below hB6 hB6.size) hca hca2
      have hrt := histRight_any (some ⟨w6.heap.size, 0, none⟩) 1 [xa] _ (by simp) (by simp) hcl
      have hbk := (Below.refl w6.heap.size w6).alloc (Nat.le_refl _) (.cells #[.int .i64 xa.p, .int .i64 xa.o, .int .i64 xa.q, .slice Aa xa.r.length ca, .int .i64 xa.c, .int .i64 xa.b, .int .i64 xa.e] 47)
      have hbx7 := hbx6.kept hbk
      have hB7 := hB6.trans (hbk.mono hB6.size)
      clear hcl hbk hbx6 hB6
      rcases hr : rightH [xa] with _ | _
      · rw [hr] at hrt
        have hrt' := Lib.hid hrt
        clear hrt
        have hr' := Lib.hid hr
        clear hr
        go_wp2_with fail
        refine hrt'.out.mono ?_
        rintro e w8 ⟨rfl, hb⟩
        have hbx8 := hbx7.kept hb
        have hB8 := hB7.trans (hb.mono hB7.size)
        clear hb hrt' hbx7 hB7 a0 a1 a2 a3 a4 a5 a6
        have haw := Lib.hid (hawake_any w8 (hT.below hB8))
        go_wp2_with fail
        refine haw.out.mono ?_
        rintro e we ⟨rfl, hbe⟩
        go_wp2_with fail
        go_ret
        exact ⟨rfl, by first | exact hB8.trans (hbe.mono hB8.size) | (rw [← hHS.out]; exact hB8.trans (hbe.mono hB8.size))⟩
      · rw [hr] at hrt
        have hrt' := Lib.hid hrt
        clear hrt
        have hr' := Lib.hid hr
        clear hr
        go_wp2_with fail
        refine hrt'.out.mono ?_
        rintro e w8 ⟨rfl, hb⟩
        have hbx8 := hbx7.kept hb
        have hB8 := hB7.trans (hb.mono hB7.size)
        clear hb hrt' hbx7 hB7 a0 a1 a2 a3 a4 a5 a6
        have hself := bef_self xa hr'.out
        obtain ⟨a0, a1, a2, a3, a4, a5, a6⟩ := ClBox.cells (hbx8.1)
        have hc := hbefore_any xa xa Aa Aa ca ca w8
        rw [hself] at hc
        have hc' := Lib.hid hc
        clear hc
        go_wp2_with fail
        refine hc'.out.mono ?_
        rintro e w9 ⟨rfl, hb⟩
        have hbx9 := hbx8.kept hb
        have hB9 := hB8.trans (hb.mono hB8.size)
        clear hb hc' hbx8 hB8 a0 a1 a2 a3 a4 a5 a6
        clear hself
        have haw := Lib.hid (hawake_any w9 (hT.below hB9))
        go_wp2_with fail
        refine haw.out.mono ?_
        rintro e we ⟨rfl, hbe⟩
        go_wp2_with fail
        go_ret
        exact ⟨rfl, by first | exact hB9.trans (hbe.mono hB9.size) | (rw [← hHS.out]; exact hB9.trans (hbe.mono hB9.size))⟩
    · rcases h3 : befB xa xd with _ | _
      · have h4 := bef_times xa xb xc xd h1 h2 h3
        obtain ⟨a0, a1, a2, a3, a4, a5, a6⟩ := ClBox.cells (hbx4.1)
        obtain ⟨b0, b1, b2, b3, b4, b5, b6⟩ := ClBox.cells (hbx4.2.1)
        have hc := hbefore_any xa xb Aa Ab ca cb w4
        rw [h1] at hc
        have hc' := Lib.hid hc
        clear hc
        go_wp2_with fail
        refine hc'.out.mono ?_
        rintro e w5 ⟨rfl, hb⟩
        have hbx5 := hbx4.kept hb
        have hB5 := hB4.trans (hb.mono hB4.size)
        clear hb hc' hbx4 hB4 a0 a1 a2 a3 a4 a5 a6 b0 b1 b2 b3 b4 b5 b6
        obtain ⟨a0, a1, a2, a3, a4, a5, a6⟩ := ClBox.cells (hbx5.2.2.1)
        obtain ⟨b0, b1, b2, b3, b4, b5, b6⟩ := ClBox.cells (hbx5.2.2.2)
        have hc := hbefore_any xc xd Ac Ad cc cd w5
        rw [h2] at hc
        have hc' := Lib.hid hc
        clear hc
        go_wp2_with fail
        refine hc'.out.mono ?_
        rintro e w6 ⟨rfl, hb⟩
        have hbx6 := hbx5.kept hb
        have hB6 := hB5.trans (hb.mono hB5.size)
        clear hb hc' hbx5 hB5 a0 a1 a2 a3 a4 a5 a6 b0 b1 b2 b3 b4 b5 b6
        obtain ⟨a0, a1, a2, a3, a4, a5, a6⟩ := ClBox.cells (hbx6.1)
        obtain ⟨b0, b1, b2, b3, b4, b5, b6⟩ := ClBox.cells (hbx6.2.2.2)
        have hc := hbefore_any xa xd Aa Ad ca cd w6
        rw [h3] at hc
        have hc' := Lib.hid hc
        clear hc
        go_wp2_with fail
        refine hc'.out.mono ?_
        rintro e w7 ⟨rfl, hb⟩
        have hbx7 := hbx6.kept hb
        have hB7 := hB6.trans (hb.mono hB6.size)
        clear hb hc' hbx6 hB6 a0 a1 a2 a3 a4 a5 a6 b0 b1 b2 b3 b4 b5 b6
        obtain ⟨a0, a1, a2, a3, a4, a5, a6⟩ := ClBox.cells (hbx7.2.2.1)
        obtain ⟨b0, b1, b2, b3, b4, b5, b6⟩ := ClBox.cells (hbx7.2.1)
        have hc := hbefore_any xc xb Ac Ab cc cb w7
        rw [h4] at hc
        have hc' := Lib.hid hc
        clear hc
        go_wp2_with fail
        refine hc'.out.mono ?_
        rintro e w8 ⟨rfl, hb⟩
        have hbx8 := hbx7.kept hb
        have hB8 := hB7.trans (hb.mono hB7.size)
        clear hb hc' hbx7 hB7 a0 a1 a2 a3 a4 a5 a6 b0 b1 b2 b3 b4 b5 b6
        obtain ⟨a0, a1, a2, a3, a4, a5, a6⟩ := ClBox.cells (hbx8.1)
        have hcl := one_cl w8 xa Aa ca (hWa.below hB8 hB8.size) hca hca2
        have hrt := histRight_any (some ⟨w8.heap.size, 0, none⟩) 1 [xa] _ (by simp) (by simp) hcl
        have hbk := (Below.refl w8.heap.size w8).alloc (Nat.le_refl _) (.cells #[.int .i64 xa.p, .int .i64 xa.o, .int .i64 xa.q, .slice Aa xa.r.length ca, .int .i64 xa.c, .int .i64 xa.b, .int .i64 xa.e] 47)
        have hbx9 := hbx8.kept hbk
        have hB9 := hB8.trans (hbk.mono hB8.size)
        clear hcl hbk hbx8 hB8
        rcases hr : rightH [xa] with _ | _
        · rw [hr] at hrt
          have hrt' := Lib.hid hrt
          clear hrt
          have hr' := Lib.hid hr
          clear hr
          go_wp2_with fail
          refine hrt'.out.mono ?_
          rintro e w10 ⟨rfl, hb⟩
          have hbx10 := hbx9.kept hb
          have hB10 := hB9.trans (hb.mono hB9.size)
          clear hb hrt' hbx9 hB9 a0 a1 a2 a3 a4 a5 a6
          have haw := Lib.hid (hawake_any w10 (hT.below hB10))
          go_wp2_with fail
          refine haw.out.mono ?_
          rintro e we ⟨rfl, hbe⟩
          go_wp2_with fail
          go_ret
          exact ⟨rfl, by first | exact hB10.trans (hbe.mono hB10.size) | (rw [← hHS.out]; exact hB10.trans (hbe.mono hB10.size))⟩
        · rw [hr] at hrt
          have hrt' := Lib.hid hrt
          clear hrt
          have hr' := Lib.hid hr
          clear hr
          go_wp2_with fail
          refine hrt'.out.mono ?_
          rintro e w10 ⟨rfl, hb⟩
          have hbx10 := hbx9.kept hb
          have hB10 := hB9.trans (hb.mono hB9.size)
          clear hb hrt' hbx9 hB9 a0 a1 a2 a3 a4 a5 a6
          have hself := bef_self xa hr'.out
          obtain ⟨a0, a1, a2, a3, a4, a5, a6⟩ := ClBox.cells (hbx10.1)
          have hc := hbefore_any xa xa Aa Aa ca ca w10
          rw [hself] at hc
          have hc' := Lib.hid hc
          clear hc
          go_wp2_with fail
          refine hc'.out.mono ?_
          rintro e w11 ⟨rfl, hb⟩
          have hbx11 := hbx10.kept hb
          have hB11 := hB10.trans (hb.mono hB10.size)
          clear hb hc' hbx10 hB10 a0 a1 a2 a3 a4 a5 a6
          clear hself
          have haw := Lib.hid (hawake_any w11 (hT.below hB11))
          go_wp2_with fail
          refine haw.out.mono ?_
          rintro e we ⟨rfl, hbe⟩
          go_wp2_with fail
          go_ret
          exact ⟨rfl, by first | exact hB11.trans (hbe.mono hB11.size) | (rw [← hHS.out]; exact hB11.trans (hbe.mono hB11.size))⟩
      · obtain ⟨a0, a1, a2, a3, a4, a5, a6⟩ := ClBox.cells (hbx4.1)
        obtain ⟨b0, b1, b2, b3, b4, b5, b6⟩ := ClBox.cells (hbx4.2.1)
        have hc := hbefore_any xa xb Aa Ab ca cb w4
        rw [h1] at hc
        have hc' := Lib.hid hc
        clear hc
        go_wp2_with fail
        refine hc'.out.mono ?_
        rintro e w5 ⟨rfl, hb⟩
        have hbx5 := hbx4.kept hb
        have hB5 := hB4.trans (hb.mono hB4.size)
        clear hb hc' hbx4 hB4 a0 a1 a2 a3 a4 a5 a6 b0 b1 b2 b3 b4 b5 b6
        obtain ⟨a0, a1, a2, a3, a4, a5, a6⟩ := ClBox.cells (hbx5.2.2.1)
        obtain ⟨b0, b1, b2, b3, b4, b5, b6⟩ := ClBox.cells (hbx5.2.2.2)
        have hc := hbefore_any xc xd Ac Ad cc cd w5
        rw [h2] at hc
        have hc' := Lib.hid hc
        clear hc
        go_wp2_with fail
        refine hc'.out.mono ?_
        rintro e w6 ⟨rfl, hb⟩
        have hbx6 := hbx5.kept hb
        have hB6 := hB5.trans (hb.mono hB5.size)
        clear hb hc' hbx5 hB5 a0 a1 a2 a3 a4 a5 a6 b0 b1 b2 b3 b4 b5 b6
        obtain ⟨a0, a1, a2, a3, a4, a5, a6⟩ := ClBox.cells (hbx6.1)
        obtain ⟨b0, b1, b2, b3, b4, b5, b6⟩ := ClBox.cells (hbx6.2.2.2)
        have hc := hbefore_any xa xd Aa Ad ca cd w6
        rw [h3] at hc
        have hc' := Lib.hid hc
        clear hc
        go_wp2_with fail
        refine hc'.out.mono ?_
        rintro e w7 ⟨rfl, hb⟩
        have hbx7 := hbx6.kept hb
        have hB7 := hB6.trans (hb.mono hB6.size)
        clear hb hc' hbx6 hB6 a0 a1 a2 a3 a4 a5 a6 b0 b1 b2 b3 b4 b5 b6
        obtain ⟨a0, a1, a2, a3, a4, a5, a6⟩ := ClBox.cells (hbx7.1)
        have hcl := one_cl w7 xa Aa ca (hWa.below hB7 hB7.size) hca hca2
        have hrt := histRight_any (some ⟨w7.heap.size, 0, none⟩) 1 [xa] _ (by simp) (by simp) hcl
        have hbk := (Below.refl w7.heap.size w7).alloc (Nat.le_refl _) (.cells #[.int .i64 xa.p, .int .i64 xa.o, .int .i64 xa.q, .slice Aa xa.r.length ca, .int .i64 xa.c, .int .i64 xa.b, .int .i64 xa.e] 47)
        have hbx8 := hbx7.kept hbk
        have hB8 := hB7.trans (hbk.mono hB7.size)
        clear hcl hbk hbx7 hB7
        rcases hr : rightH [xa] with _ | _
        · rw [hr] at hrt
          have hrt' := Lib.hid hrt
          clear hrt
          have hr' := Lib.hid hr
          clear hr
          go_wp2_with fail
          refine hrt'.out.mono ?_
          rintro e w9 ⟨rfl, hb⟩
          have hbx9 := hbx8.kept hb
          have hB9 := hB8.trans (hb.mono hB8.size)
          clear hb hrt' hbx8 hB8 a0 a1 a2 a3 a4 a5 a6
          have haw := Lib.hid (hawake_any w9 (hT.below hB9))
          go_wp2_with fail
          refine haw.out.mono ?_
          rintro e we ⟨rfl, hbe⟩
          go_wp2_with fail
          go_ret
          exact ⟨rfl, by first | exact hB9.trans (hbe.mono hB9.size) | (rw [← hHS.out]; exact hB9.trans (hbe.mono hB9.size))⟩
        · rw [hr] at hrt
          have hrt' := Lib.hid hrt
          clear hrt
          have hr' := Lib.hid hr
          clear hr
          go_wp2_with fail
          refine hrt'.out.mono ?_
          rintro e w9 ⟨rfl, hb⟩
          have hbx9 := hbx8.kept hb
          have hB9 := hB8.trans (hb.mono hB8.size)
          clear hb hrt' hbx8 hB8 a0 a1 a2 a3 a4 a5 a6
          have hself := bef_self xa hr'.out
          obtain ⟨a0, a1, a2, a3, a4, a5, a6⟩ := ClBox.cells (hbx9.1)
          have hc := hbefore_any xa xa Aa Aa ca ca w9
          rw [hself] at hc
          have hc' := Lib.hid hc
          clear hc
          go_wp2_with fail
          refine hc'.out.mono ?_
          rintro e w10 ⟨rfl, hb⟩
          have hbx10 := hbx9.kept hb
          have hB10 := hB9.trans (hb.mono hB9.size)
          clear hb hc' hbx9 hB9 a0 a1 a2 a3 a4 a5 a6
          clear hself
          have haw := Lib.hid (hawake_any w10 (hT.below hB10))
          go_wp2_with fail
          refine haw.out.mono ?_
          rintro e we ⟨rfl, hbe⟩
          go_wp2_with fail
          go_ret
          exact ⟨rfl, by first | exact hB10.trans (hbe.mono hB10.size) | (rw [← hHS.out]; exact hB10.trans (hbe.mono hB10.size))⟩

end Go.Proofs.YtopclkkkchhgiaaDoor
