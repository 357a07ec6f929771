/- Records: slices of words. -/
import Derived.Test.YtgjcniokgdicpaaGreatDoorWalk
namespace Go.Proofs.YtgjcniokgdicpaaGreatDoor
open Go.RowKit

def Ws (w : World) (B : Nat) (A : Option Addr) (l : List Int) : Prop := SlOf (ints .u32) w B A l ∧ ∀ z ∈ l, (Lit.int .u32 z).wf = true
theorem Ws.below {w w' : World} {B B' : Nat} {A : Option Addr} {l : List Int} (h : Ws w B A l) (hb : Below B w w') (hB : B ≤ B') : Ws w' B' A l := ⟨h.1.below hb hB, h.2⟩
theorem Ws.get {w : World} {B : Nat} {A : Option Addr} {l : List Int} (h : Ws w B A l) {k : Nat} {z : Int} (hk : l[k]? = some z) : ((Lit.int .u32 z).wf = true ∧ 0 ≤ z ∧ z < 4294967296) ∧ ∃ b off, A = some ⟨b, off, none⟩ ∧ b < B ∧
    w.cell? ⟨b, off + k, none⟩ = some (.int .u32 z) := by
  obtain ⟨b, off, hA, hlt, hc⟩ := h.1 k z hk
  have hw := h.2 z (List.mem_of_getElem? hk)
  have := hc 0 _ rfl
  refine ⟨⟨hw, ?_⟩, b, off, hA, hlt, by simpa [ints, Enc.of1] using this⟩
  simp [Lit.wf, IntKind.min, IntKind.max, IntKind.signed, IntKind.bits] at hw
  omega

theorem u32Ty : ElemTy Tryz.prog 33 32 1 4 := ElemTy.of (z := .int .u32 0) Tryz.underlying33 (by kernel_rfl) rfl (by omega)

def OwnW (base : Nat) (w : World) (v : Value) (l : List Int) : Prop := Own (ints .u32) 32 base w v l ∧ ∀ z ∈ l, (Lit.int .u32 z).wf = true
theorem OwnW.ws {base : Nat} {w : World} {v : Value} {l : List Int} (h : OwnW base w v l) : ∃ A c, v = .slice A l.length c ∧ (l.length ≤ c ∧ c ≤ maxLen) ∧ Ws w w.heap.size A l := by
  obtain ⟨A, c, h1, h2, _, h3⟩ := h.1.sl
  exact ⟨A, c, h1, ⟨h2.1, h2.2⟩, h3, h.2⟩
theorem OwnW.below {base B : Nat} {w w' : World} {v : Value} {l : List Int} (h : OwnW base w v l) (hb : Below B w w') (hB : w.heap.size ≤ B) : OwnW base w' v l := ⟨h.1.below hb hB, h.2⟩


end Go.Proofs.YtgjcniokgdicpaaGreatDoor
