/- The reference's part of a line. -/
import Derived.Test.YtkcdmonmgnmojaaDoorAsmQ
import Derived.Test.YtkcdmonmgnmojaaDoorAsmR
import Derived.Test.YtkcdmonmgnmojaaDoorRDig4
import Derived.Test.YtkcdmonmgnmojaaDoorInBox
import Derived.Test.YtkcdmonmgnmojaaDoorHeld
import Derived.Deep.RegionHeld3
import Derived.Deep.RegionWith
namespace Go.Proofs.YtkcdmonmgnmojaaDoor
open Go.RowKit

def partR (l : List UInt8) (z : Int) : ByteArray := ⟨(32 :: partL (l, z)).toArray⟩
theorem partR_eq (l : List UInt8) (z : Int) : (⟨#[32]⟩ : ByteArray) ++ ⟨l.toArray⟩ ++ numS z.toNat = partR l z := by
  refine ByteArray.ext ?_
  simp [partR, partL, numS]
theorem partR_size {l : List UInt8} {z : Int} (hl : l.length ≤ 1) (h : 0 ≤ z ∧ z < 4294967296) : (partR l z).size ≤ 12 := by
  have h1 := dd_len 9 z.toNat (by omega)
  have : (partR l z).size = l.length + (Lib.decDigits z.toNat).length + 1 := by simp [partR, partL, ByteArray.size]
  omega
theorem rpart_any (l : List UInt8) (z : Int) (w : World) (hl : l.length ≤ 1) (h : 0 ≤ z ∧ z < 4294967296) :
    Calls Tryd.prog 36 #[.string ⟨l.toArray⟩, .int .i64 z] w fun e w' => e = .returned (.string (partR l z)) ∧ Below w.heap.size w w' := by
  rw [← partR_eq]
  have hz : IntKind.u32.wrap z = z := wrap_u32 h.1 h.2
  have hd := fun W => digits_any (z.toNat + 1) z.toNat z W (by omega) (by omega) (by omega)
  have hsz : (numS z.toNat).size ≤ 20 := numS_size (by omega)
  obtain ⟨D, hD⟩ : ∃ D, numS z.toNat = D := ⟨_, rfl⟩
  rw [hD] at hd hsz ⊢
  have hL : (⟨l.toArray⟩ : ByteArray).size ≤ 1 := by simp [ByteArray.size]; exact hl
  obtain ⟨L, hLe⟩ : ∃ L, (⟨l.toArray⟩ : ByteArray) = L := ⟨_, rfl⟩
  rw [hLe] at hL ⊢
  have hd' := Lib.hid hd
  have z1 : ¬ 9223372036854775807 < 1 + L.size := by omega
  have z2 : ¬ 9223372036854775807 < 1 + L.size + D.size := by omega
  clear hd hD hLe
  go_enter Tryd.func36, Tryd.ntmps36
  go_wp2_with fail
  refine (hd'.out _).mono ?_
  rintro e w1 ⟨rfl, hb⟩
  go_wp2_with fail
  go_ret
  exact ⟨rfl, hb⟩

def RlSt (w2 : World) (n : Nat) (a b c m : Int) (w' : World) : Prop :=
  Below w2.heap.size w2 w' ∧ w'.cell? ⟨n, 1, none⟩ = some (.int .i64 a) ∧ w'.cell? ⟨n, 2, none⟩ = some (.int .i64 b) ∧ w'.cell? ⟨n, 3, none⟩ = some (.int .i64 c) ∧ w'.cell? ⟨n, 4, none⟩ = some (.int .u32 m)
theorem RlSt.below {w2 w w' : World} {n : Nat} {a b c m : Int} (h : RlSt w2 n a b c m w) (hb : Below w.heap.size w w') : RlSt w2 n a b c m w' := by
  obtain ⟨h1, h2, h3, h4, h5⟩ := h
  refine ⟨h1.trans (hb.mono h1.size), ?_, ?_, ?_, ?_⟩
  · exact (hb.cell (p := ⟨n, 1, none⟩) (cell_lt h2)).trans h2
  · exact (hb.cell (p := ⟨n, 2, none⟩) (cell_lt h3)).trans h3
  · exact (hb.cell (p := ⟨n, 3, none⟩) (cell_lt h4)).trans h4
  · exact (hb.cell (p := ⟨n, 4, none⟩) (cell_lt h5)).trans h5
theorem RlSt.drew {w2 w : World} {n : Nat} {a b c m : Int} (h : RlSt w2 n a b c m w) : RlSt w2 n a b c m w.drew := h.below (Below.refl _ w).drew
def rlineS (i : Ins) : ByteArray := ⟨((shOf i.op).w ++ (opsL i).flatMap fun p => 32 :: partL p).toArray⟩
theorem rline_eq (i : Ins) : rlineS i = lineS i := by
  unfold rlineS lineS lineL partsL
  rw [Lib.join_cons]
  congr 2
  congr 1
  unfold Lib.joinTail
  rw [List.map_map, List.flatMap_def]
  rfl

end Go.Proofs.YtkcdmonmgnmojaaDoor
