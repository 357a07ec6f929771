/- A call in a block of its own: stores into it, and what lies apart from it. -/
import Derived.Test.YtkcdmonmgnmojaaDoorHis3
import Derived.Test.YtkcdmonmgnmojaaDoorHLnP
import Derived.Test.YtkcdmonmgnmojaaDoorRead
import Derived.Laws.CopyRow
import Derived.Below
namespace Go.Proofs.YtkcdmonmgnmojaaDoor
open Go.RowKit

def cl0 : Cl := ⟨0, 0, 0, [], 0, 0, 0⟩
section
variable {W W' : World} {B N : Nat} {x : Cl} {A : Option Addr} {c : Nat}
theorem ClBox.frozen (h : ClBox W B x A c) (j : Nat) : W.frozen? ⟨B, j, none⟩ = false := by simp [World.frozen?, show W.heap[B]? = _ from h]
theorem ClBox.below (h : ClBox W B x A c) (hb : Below N W W') (hB : B < N) : ClBox W' B x A c := (hb.block B hB).trans h
def set7 (W : World) (B : Nat) (v0 v1 v2 v3 v4 v5 v6 : Value) : World := ((((((W.setCell ⟨B, 0, none⟩ v0).setCell ⟨B, 1, none⟩ v1).setCell ⟨B, 2, none⟩ v2).setCell ⟨B, 3, none⟩ v3).setCell ⟨B, 4, none⟩ v4).setCell ⟨B, 5, none⟩ v5).setCell ⟨B, 6, none⟩ v6
theorem row_set (W : World) (B : Nat) (vs : Array Value) (T : TypeId) (j : Nat) (v : Value) (h : W.heap[B]? = some (.cells vs T (0, 0))) : (W.setCell ⟨B, j, none⟩ v).heap[B]? = some (.cells (vs.setIfInBounds j v) T (0, 0)) := by
  rw [setCell_eq_setRow W B j _ _ _ _ h]
  exact setRow_heap _ B _ _ _ _ h
theorem ClBox.set7 (h : ClBox W B x A c) (y : Cl) (A' : Option Addr) (c' : Nat) : ClBox (set7 W B (.int .i64 y.p) (.int .i64 y.o) (.int .i64 y.q) (.slice A' y.r.length c') (.int .i64 y.c) (.int .i64 y.b) (.int .i64 y.e)) B y A' c' := by
  have h0 : W.heap[B]? = some (.cells #[.int .i64 x.p, .int .i64 x.o, .int .i64 x.q, .slice A x.r.length c, .int .i64 x.c, .int .i64 x.b, .int .i64 x.e] 45 (0, 0)) := h
  have h1 := row_set W B _ _ 0 (.int .i64 y.p) h0
  have h2 := row_set _ B _ _ 1 (.int .i64 y.o) h1
  have h3 := row_set _ B _ _ 2 (.int .i64 y.q) h2
  have h4 := row_set _ B _ _ 3 (.slice A' y.r.length c') h3
  have h5 := row_set _ B _ _ 4 (.int .i64 y.c) h4
  have h6 := row_set _ B _ _ 5 (.int .i64 y.b) h5
  have h7 := row_set _ B _ _ 6 (.int .i64 y.e) h6
  simpa [ClBox, Proofs.YtkcdmonmgnmojaaDoor.set7] using h7
theorem ClBox.setE (h : ClBox W B x A c) (v : Int) : ClBox (W.setCell ⟨B, 6, none⟩ (.int .i64 v)) B { x with e := v } A c := row_set _ _ _ _ 6 _ h
theorem ClBox.setQ (h : ClBox W B x A c) (v : Int) : ClBox (W.setCell ⟨B, 2, none⟩ (.int .i64 v)) B { x with q := v } A c := row_set _ _ _ _ 2 _ h
theorem ClBox.setC (h : ClBox W B x A c) (v : Int) : ClBox (W.setCell ⟨B, 4, none⟩ (.int .i64 v)) B { x with c := v } A c := row_set _ _ _ _ 4 _ h
theorem ClBox.setR (h : ClBox W B x A c) (r : List Int) (A' : Option Addr) (c' : Nat) : ClBox (W.setCell ⟨B, 3, none⟩ (.slice A' r.length c')) B { x with r := r } A' c' := row_set _ _ _ _ 3 _ h
theorem heap_set (W : World) (b j : Nat) (v : Value) (n : Nat) (h : n ≠ b) : (W.setCell ⟨b, j, none⟩ v).heap[n]? = W.heap[n]? := by
  show (W.heap.modify b _)[n]? = _
  rw [Array.getElem?_modify, if_neg (fun e => h e.symm)]
theorem heap_set7 (W : World) (b : Nat) (v0 v1 v2 v3 v4 v5 v6 : Value) (n : Nat) (h : n ≠ b) : (Proofs.YtkcdmonmgnmojaaDoor.set7 W b v0 v1 v2 v3 v4 v5 v6).heap[n]? = W.heap[n]? := by
  unfold Proofs.YtkcdmonmgnmojaaDoor.set7
  rw [heap_set _ _ _ _ _ h, heap_set _ _ _ _ _ h, heap_set _ _ _ _ _ h, heap_set _ _ _ _ _ h, heap_set _ _ _ _ _ h, heap_set _ _ _ _ _ h, heap_set _ _ _ _ _ h]
theorem size_set (W : World) (b j : Nat) (v : Value) : (W.setCell ⟨b, j, none⟩ v).heap.size = W.heap.size := by
  show (W.heap.modify b _).size = _
  rw [Array.size_modify]
theorem size_set7 (W : World) (b : Nat) (v0 v1 v2 v3 v4 v5 v6 : Value) : (Proofs.YtkcdmonmgnmojaaDoor.set7 W b v0 v1 v2 v3 v4 v5 v6).heap.size = W.heap.size := by
  unfold Proofs.YtkcdmonmgnmojaaDoor.set7
  simp only [size_set]
theorem ClBox.other (h : ClBox W B x A c) (b j : Nat) (v : Value) (hn : B ≠ b) : ClBox (W.setCell ⟨b, j, none⟩ v) B x A c := (heap_set W b j v B hn).trans h
theorem ClBox.other7 (h : ClBox W B x A c) (b : Nat) (v0 v1 v2 v3 v4 v5 v6 : Value) (hn : B ≠ b) : ClBox (Proofs.YtkcdmonmgnmojaaDoor.set7 W b v0 v1 v2 v3 v4 v5 v6) B x A c := (heap_set7 W b v0 v1 v2 v3 v4 v5 v6 B hn).trans h
theorem below_set1 (h : Below N W W') (B j : Nat) (hB : N ≤ B) (v : Value) : Below N W (W'.setCell ⟨B, j, none⟩ v) := h.setCell (p := ⟨B, j, none⟩) hB v
theorem below_set7 (h : Below N W W') (B : Nat) (hB : N ≤ B) (v0 v1 v2 v3 v4 v5 v6 : Value) : Below N W (Proofs.YtkcdmonmgnmojaaDoor.set7 W' B v0 v1 v2 v3 v4 v5 v6) :=
  below_set1 (below_set1 (below_set1 (below_set1 (below_set1 (below_set1 (below_set1 h B 0 hB v0) B 1 hB v1) B 2 hB v2) B 3 hB v3) B 4 hB v4) B 5 hB v5) B 6 hB v6
end

/-- Words in blocks from a number on. -/
def WsF (w : World) (M : Nat) (A : Option Addr) (l : List Int) : Prop := Ws w w.heap.size A l ∧ ∀ b o, A = some ⟨b, o, none⟩ → M ≤ b
theorem WsF.nil (w : World) (M : Nat) (A : Option Addr) (hA : ∀ b o, A = some ⟨b, o, none⟩ → M ≤ b) : WsF w M A [] := ⟨⟨fun k x h => by simp at h, fun z h => by cases h⟩, hA⟩
theorem WsF.below {w w' : World} {M : Nat} {A : Option Addr} {l : List Int} (h : WsF w M A l) (hb : Below w.heap.size w w') : WsF w' M A l := ⟨h.1.below hb hb.size, h.2⟩
theorem WsF.mono {w : World} {M M' : Nat} {A : Option Addr} {l : List Int} (h : WsF w M A l) (hM : M' ≤ M) : WsF w M' A l := ⟨h.1, fun b o e => Nat.le_trans hM (h.2 b o e)⟩
theorem WsF.heap {w w' : World} {M : Nat} {A : Option Addr} {l : List Int} (h : WsF w M A l) (hh : ∀ b, M ≤ b → w'.heap[b]? = w.heap[b]?) (hs : w'.heap.size = w.heap.size) : WsF w' M A l := by
  refine ⟨⟨fun k z hk => ?_, h.1.2⟩, h.2⟩
  obtain ⟨b, off, hA, hlt, hc⟩ := h.1.1 k z hk
  refine ⟨b, off, hA, by rw [hs]; exact hlt, fun j v hj => ?_⟩
  rw [← hc j v hj]
  have := hh b (h.2 b off hA)
  unfold World.cell?
  rw [this]
theorem WsF.set {w : World} {M : Nat} {A : Option Addr} {l : List Int} (h : WsF w M A l) (b j : Nat) (v : Value) (hb : b < M) : WsF (w.setCell ⟨b, j, none⟩ v) M A l :=
  h.heap (fun n hn => heap_set w b j v n (by omega)) (size_set w b j v)
theorem WsF.set7 {w : World} {M : Nat} {A : Option Addr} {l : List Int} (h : WsF w M A l) (b : Nat) (v0 v1 v2 v3 v4 v5 v6 : Value) (hb : b < M) : WsF (Proofs.YtkcdmonmgnmojaaDoor.set7 w b v0 v1 v2 v3 v4 v5 v6) M A l :=
  h.heap (fun n hn => heap_set7 w b v0 v1 v2 v3 v4 v5 v6 n (by omega)) (size_set7 w b v0 v1 v2 v3 v4 v5 v6)
theorem OwnW.far {base : Nat} {w : World} {v : Value} {l : List Int} (h : OwnW base w v l) : ∃ A c, v = .slice A l.length c ∧ WsF w base A l := by
  obtain ⟨A, c, hv, hc, hs⟩ := h.ws
  refine ⟨A, c, hv, hs, fun b o hA => ?_⟩
  rcases h.1.2 with ⟨e, _⟩ | ⟨g, cap, cur, e, hg, _⟩
  · rw [hv, hA] at e; cases e
  · rw [hv, hA] at e
    injection e with e1 e2 e3
    injection e1 with e1
    injection e1 with e1 e2
    omega

theorem rdB_eq (most : Int) (l : List UInt8) : readB most l = rdB most l := rfl
theorem rdL_eq (l : List UInt8) : readL l = rdL l := rfl
/-- record.Read of what stands behind, however it ends. -/
theorem readO_any (s : ByteArray) (w : World) (hs : s.size ≤ 1000000) :
    Calls Tryd.prog 68 #[.string s, .int .i64 8] w fun e w' => ∃ A c ok, e = .returned (.tuple #[.slice A (readO 8 s.data.toList).length c, .bool ok]) ∧ WsF w' w.heap.size A (readO 8 s.data.toList) ∧ Below w.heap.size w w' :=
  (read_any s 8 w hs (by omega) (by omega)).mono fun e w' ⟨v, he, h1, h2, hb⟩ => by
    rw [rdB_eq] at he h1 h2
    rw [rdL_eq] at h1
    rcases hok : rdB 8 s.data.toList with _ | _
    · have hr : readO 8 s.data.toList = [] := by unfold readO; rw [hok]; rfl
      rw [hr]
      rw [h2 hok] at he
      exact ⟨none, 0, _, he, WsF.nil _ _ _ (fun b o e => by cases e), hb⟩
    · have hr : readO 8 s.data.toList = rdL s.data.toList := by unfold readO; rw [hok]; rfl
      rw [hr]
      obtain ⟨A, c, hv, hf⟩ := (h1 hok).far
      rw [hv] at he
      exact ⟨A, c, _, he, hf, hb⟩

end Go.Proofs.YtkcdmonmgnmojaaDoor
