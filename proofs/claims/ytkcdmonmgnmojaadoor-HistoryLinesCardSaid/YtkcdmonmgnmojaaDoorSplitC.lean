/- strings.Split at a separator of one byte. -/
import Derived.Test.YtkcdmonmgnmojaaDoorSplitP
import Derived.Test.YtkcdmonmgnmojaaDoorShelf
import Derived.Below
namespace Go.Proofs.YtkcdmonmgnmojaaDoor
open Go.RowKit Go.Lib

def Mx (w : World) : Prop := ∃ m, w.cell? ⟨1, 0, none⟩ = some (.int .i64 m)
theorem Mx.below {w w' : World} (h : Mx w) (hb : Below w.heap.size w w') : Mx w' := by
  obtain ⟨m, hm⟩ := h
  exact ⟨m, (hb.cell (p := ⟨1, 0, none⟩) (cell_lt hm)).trans hm⟩
theorem split_any (s : ByteArray) (c : UInt8) (w : World) (hM : Mx w) (hs : s.size ≤ 1000000) :
    Calls Tryd.prog 82 #[.string s, .string ⟨#[c]⟩] w fun e w' => e = .returned (.slice (some ⟨w.heap.size, 0, none⟩) (pcs c s.data.toList).length (pcs c s.data.toList).length) ∧
      (∀ (j : Nat) x, (pcs c s.data.toList)[j]? = some x → w'.cell? ⟨w.heap.size, j, none⟩ = some (.string ⟨x.toArray⟩)) ∧ Below w.heap.size w w' := by
  obtain ⟨m, hm⟩ := hM
  have hc : (pcs c s.data.toList).length = Lib.countB s ⟨#[c]⟩ + 1 := by
    have := Lib.splitB_all ⟨#[c]⟩ (Nat.le_refl 1) 0 _ s rfl
    rw [split_cells, List.length_map] at this
    exact this
  refine (Tryd.strings_Split s ⟨#[c]⟩ m w (by omega) hm (Nat.le_refl 1)).mono ?_
  rintro e w' ⟨rfl, rfl⟩
  refine ⟨by rw [hc], fun j x hx => ?_, (Below.refl _ w).alloc (Nat.le_refl _) _⟩
  have h1 := cells_new w ((Lib.splitB ⟨#[c]⟩ 0 (Lib.countB s ⟨#[c]⟩) s).map Value.string).toArray 9 j
  rw [Addr.add_lit, Nat.zero_add] at h1
  rw [h1, split_cells, List.getElem?_toArray, List.getElem?_map, List.getElem?_map, hx]
  rfl
theorem index_any (b n : Nat) (zs : List ByteArray) (x : ByteArray) (w : World) (hn : n = zs.length) (hbig : zs.length ≤ 1000000) (hc : ∀ (j : Nat) z, zs[j]? = some z → w.cell? ⟨b, j, none⟩ = some (.string z)) :
    Calls Tryd.prog 67 #[.slice (some ⟨b, 0, none⟩) n n, .string x] w fun e w' => e = .returned (.int .i64 (Lib.idxOfS zs x)) ∧ w' = w := by
  subst hn
  have h := Tryd.slices_Index_string b 0 zs.length zs.length zs x w (Nat.le_refl _) (by omega) (fun j hj => by
    rw [Nat.zero_add]
    exact hc j _ (by rw [List.getD_eq_getElem?_getD, List.getElem?_eq_getElem hj]; rfl))
  rw [List.take_length] at h
  exact h

end Go.Proofs.YtkcdmonmgnmojaaDoor
