/- An object's words at the beginning: what they are, makes and copies. -/
import Derived.Test.YtgjcniokgdicpaaGreatDoorShG
import Derived.Test.YtgjcniokgdicpaaGreatDoorWs
import Derived.Laws.CopyRow
import Derived.Laws.MakeOwn
namespace Go.Proofs.YtgjcniokgdicpaaGreatDoor
open Go.RowKit

def zs (n : Nat) : List Int := List.replicate n 0
def spl (Z : List Int) (b : Nat) (l : List Int) : List Int := Z.take b ++ l ++ Z.drop (b + l.length)
def slotZ (o : Ob) : Int := if o.k = 4 then o.st % o.s else 0
def layB (o : Ob) : List Int := if o.k = 6 then ((zs (sizeZ o).toNat).set 0 o.st).set 1 o.st else (zs (sizeZ o).toNat).set 0 o.st
def offZ (o : Ob) : Int := headZ o + slotZ o * o.wd
/-- An object's words. -/
def layZ (o : Ob) (l : List Int) : List Int := if anyR o then spl (layB o) (offZ o).toNat l else []
def wsA (l : List Int) : Array Value := (l.map (Value.int .u32)).toArray
theorem wsA_list (l : List Int) : (wsA l).toList = l.map (Value.int .u32) := rfl
theorem wsA_size (l : List Int) : (wsA l).size = l.length := by simp [wsA]
theorem wsA_get (l : List Int) (j : Nat) : (wsA l)[j]? = (l[j]?).map (Value.int .u32) := by simp [wsA]
theorem wsA_set (l : List Int) (j : Nat) (x : Int) : (wsA l).setIfInBounds j (.int .u32 x) = wsA (l.set j x) := by
  apply Array.ext'
  simp [wsA, List.map_set]
theorem spl_len {Z : List Int} {b : Nat} {l : List Int} (h : b + l.length ≤ Z.length) : (spl Z b l).length = Z.length := by
  simp [spl]
  omega
theorem spl_snoc {Z : List Int} {b : Nat} {l : List Int} {x : Int} (h : b + l.length < Z.length) : (spl Z b l).set (b + l.length) x = spl Z b (l ++ [x]) := by
  apply List.ext_getElem?
  intro j
  unfold spl
  simp only [List.getElem?_set, List.getElem?_append, List.length_append, List.length_take, List.getElem?_take, List.getElem?_drop, List.length_cons, List.length_nil]
  rw [show min b Z.length = b by omega]
  by_cases h1 : j < b
  · have a1 : j < b + l.length := by omega
    have a2 : j < b + (l.length + (0 + 1)) := by omega
    have a3 : ¬ b + l.length = j := by omega
    simp [h1, a1, a2, a3]
  · by_cases h2 : j < b + l.length
    · have a3 : ¬ b + l.length = j := by omega
      have a4 : j < b + (l.length + (0 + 1)) := by omega
      have a5 : j - b < l.length := by omega
      simp [h1, h2, a3, a4, a5]
    · by_cases h3 : j = b + l.length
      · subst h3
        have a2 : b + l.length < b + (l.length + (0 + 1)) := by omega
        simp
        rw [if_pos (by omega), if_neg h1]
      · have a3 : ¬ b + l.length = j := by omega
        have a4 : ¬ j < b + (l.length + (0 + 1)) := by omega
        simp [h1, h2, a3, a4]
        congr 1
        omega
theorem spl_nil (Z : List Int) (b : Nat) : spl Z b [] = Z := by simp [spl]
theorem rows_copy {Z : List Int} {b : Nat} {l : List Int} : ((wsA Z).toList.take b ++ l.map (Value.int .u32) ++ (wsA Z).toList.drop (b + (l.map (Value.int .u32)).length)).toArray = wsA (spl Z b l) := by
  simp [wsA, spl, List.map_take, List.map_drop]
theorem mkW (N : Nat) (h : N ≤ 300) (w : World) : (Instr.makeSlice 33 (.int .i64 (N : Int)) (.int .i64 (N : Int))).run Tryz.prog w = .ok (.slice (some ⟨w.heap.size, 0, none⟩) N N) (w.alloc (.cells (wsA (zs N)) 32)) := by
  obtain ⟨i, hi, h1, h2, h3⟩ := info_parts (P := Tryz.prog) (e := 32) (z := .int .u32 0) (size := 1) (bytes := 4) (by kernel_rfl)
  have hr := run_make (P := Tryz.prog) w 33 32 i (.int .u32 0) Tryz.underlying33 hi h1 .i64 .i64 (N : Int) (N : Int) (by omega) (by omega) (by rw [h3]; omega) (by omega)
  rw [hr, h2]
  have e : madeCells (Value.int .u32 0).cells ((N : Int).toNat * 1) = wsA (zs N) := by
    apply Array.ext'
    rw [show (Value.int .u32 0).cells = #[.int .u32 0] from rfl, toList_madeCells_one]
    simp [wsA, zs]
  rw [e]
  rfl
theorem mkW0 (w : World) : (Instr.makeSlice 33 (.int .i64 0) (.int .i64 0)).run Tryz.prog w = .ok (.slice (some ⟨w.heap.size, 0, none⟩) 0 0) (w.alloc (.cells (wsA (zs 0)) 32)) := mkW 0 (by omega) w
theorem copyW {w : World} {b N off dL dC : Nat} {Z l : List Int} {B : Nat} {I : Option Addr} {ci ni : Nat} (hni : ni = l.length) (hr : RowB w b (wsA Z) 32) (hI : Ws w B I l) (h0 : l ≠ []) (hZ : Z.length = N) (hf : off + l.length ≤ N) (hd : l.length ≤ dL) :
    (Builtin.copy_ #[33, 33] 3 #[.slice (some ⟨b, off, none⟩) dL dC, .slice I ni ci]).run Tryz.prog w = .ok (.int .i64 ni) (w.setRow b (wsA (spl Z off l))) := by
  subst hni
  obtain ⟨x, hx⟩ : ∃ x, l[0]? = some x := by
    cases l with
    | nil => exact absurd rfl h0
    | cons x t => exact ⟨x, rfl⟩
  obtain ⟨_, sb, so, rfl, _, _⟩ := hI.get hx
  rw [← rows_copy]
  have := run_copy_row (P := Tryz.prog) w 33 33 3 32 b off dL dC ⟨sb, so, none⟩ l.length ci (wsA Z) 32 (l.map (Value.int .u32)) Tryz.underlying33 (by kernel_rfl) hr (by rw [List.length_map]; exact (Nat.min_eq_left hd).symm) (fun j v hv => by
    rw [List.getElem?_map] at hv
    cases hq : l[j]? with
    | none => rw [hq] at hv; cases hv
    | some z =>
      rw [hq] at hv
      injection hv with hv
      subst hv
      obtain ⟨_, b2, o2, he, _, hc⟩ := hI.get hq
      injection he with he
      injection he with e1 e2 e3
      subst e1 e2
      show w.cell? ((⟨sb, so, none⟩ : Addr).add j) = _
      rw [show (⟨sb, so, none⟩ : Addr).add j = ⟨sb, so + j, none⟩ by unfold Addr.add; split <;> simp_all]
      exact hc) (by rw [List.length_map, wsA_size]; omega) (fun v hv => by
    rw [List.mem_map] at hv
    obtain ⟨z, _, rfl⟩ := hv
    rfl)
  rw [this, List.length_map]
  rfl
def LayR (w : World) (L : List Int) (e : Ending) (w' : World) : Prop := ∃ A c, e = .returned (.slice A L.length c) ∧ (L.length ≤ c ∧ c ≤ maxLen) ∧ Ws w' w'.heap.size A L ∧ Below w.heap.size w w'
theorem ws_row {w : World} {b : Nat} {L : List Int} (hr : RowB w b (wsA L) 32) (hw : ∀ z ∈ L, (Lit.int .u32 z).wf = true) : Ws w w.heap.size (some ⟨b, 0, none⟩) L := by
  refine ⟨fun k x hk => ⟨b, 0, rfl, hr.lt, fun j u hu => ?_⟩, hw⟩
  have : j = 0 ∧ u = .int .u32 x := by
    match j, hu with
    | 0, hu => exact ⟨rfl, by simpa [ints, Enc.of1] using hu.symm⟩
    | j + 1, hu => simp [ints, Enc.of1] at hu
  obtain ⟨rfl, rfl⟩ := this
  have := hr.cell (0 + (k * 1 + 0))
  rw [wsA_get] at this
  simp [hk] at this
  simpa [ints, Enc.of1] using this
theorem LayR.row {w w' : World} {b N : Nat} {L : List Int} (hr : RowB w' b (wsA L) 32) (hN : L.length = N) (h3 : N ≤ 300) (hw : ∀ z ∈ L, (Lit.int .u32 z).wf = true) (hb : Below w.heap.size w w') : LayR w L (.returned (.slice (some ⟨b, 0, none⟩) N N)) w' :=
  ⟨_, N, by rw [hN], ⟨by omega, by unfold maxLen; omega⟩, ws_row hr hw, hb⟩
theorem wf_zs (n : Nat) : ∀ z ∈ zs n, (Lit.int .u32 z).wf = true := fun z hz => by
  rw [zs, List.mem_replicate] at hz
  rw [hz.2]
  rfl
theorem wf_set {l : List Int} {x : Int} (j : Nat) (h : ∀ z ∈ l, (Lit.int .u32 z).wf = true) (hx : (Lit.int .u32 x).wf = true) : ∀ z ∈ l.set j x, (Lit.int .u32 z).wf = true := fun z hz => by
  rcases List.mem_or_eq_of_mem_set hz with q | q
  · exact h z q
  · rw [q]
    exact hx
theorem wf_spl {Z l : List Int} (b : Nat) (h : ∀ z ∈ Z, (Lit.int .u32 z).wf = true) (hl : ∀ z ∈ l, (Lit.int .u32 z).wf = true) : ∀ z ∈ spl Z b l, (Lit.int .u32 z).wf = true := fun z hz => by
  unfold spl at hz
  simp only [List.mem_append] at hz
  rcases hz with (q | q) | q
  · exact h z (List.mem_of_mem_take q)
  · exact hl z q
  · exact h z (List.mem_of_mem_drop q)
theorem wf_st {o : Ob} (ho : o.Ok) : (Lit.int .u32 o.st).wf = true := by
  have h0 := ho.st0
  have h1 := ho.st1
  simp [Lit.wf, IntKind.min, IntKind.max, IntKind.signed, IntKind.bits]
  omega
theorem wf_layB {o : Ob} (ho : o.Ok) : ∀ z ∈ layB o, (Lit.int .u32 z).wf = true := by
  unfold layB
  split
  · exact wf_set 1 (wf_set 0 (wf_zs _) (wf_st ho)) (wf_st ho)
  · exact wf_set 0 (wf_zs _) (wf_st ho)
theorem layB_len (o : Ob) : (layB o).length = (sizeZ o).toNat := by
  unfold layB
  split <;> simp [zs]

end Go.Proofs.YtgjcniokgdicpaaGreatDoor
