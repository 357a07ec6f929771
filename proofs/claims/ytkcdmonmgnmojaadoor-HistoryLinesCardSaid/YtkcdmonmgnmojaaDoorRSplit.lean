/- The reference's Split: a text's pieces. -/
import Derived.Test.YtkcdmonmgnmojaaDoorDig
import Derived.Test.YtkcdmonmgnmojaaDoorStrTy
import Derived.Lib.Hide
import Derived.Deep.QuietTactic
import Derived.BigQuiet
import Derived.Below
import Derived.IntWalk
namespace Go.Proofs.YtkcdmonmgnmojaaDoor
open Go.RowKit

def toB (l : List (List UInt8)) : List ByteArray := l.map fun p => ⟨p.toArray⟩
theorem toB_snoc (l : List (List UInt8)) (x : List UInt8) (b : ByteArray) (h : b.data.toList = x) : toB l ++ [b] = toB (l ++ [x]) := by
  unfold toB
  rw [List.map_append, ← h]
  rfl
theorem toB_len (l : List (List UInt8)) : (toB l).length = l.length := by simp [toB]
theorem ext_data (s : ByteArray) (a b : Nat) (_h : a ≤ b) : (s.extract a b).data.toList = (s.data.toList.drop a).take (b - a) := by
  rw [ByteArray.data_extract, Array.toList_extract, List.extract_eq_take_drop]

set_option maxRecDepth 100000 in
set_option maxHeartbeats 1000000 in
theorem rsplit_any (s : ByteArray) (c : UInt8) (z : Int) (w : World) (hz : z = (c.toNat : Int)) (hs : s.size ≤ 1000000) :
    Calls Tryd.prog 43 #[.string s, .int .u8 z] w fun e w' => ∃ v, e = .returned v ∧ Own strs 9 w.heap.size w' v (toB (pcs c s.data.toList)) ∧ Below w.heap.size w w' := by
  subst hz
  obtain ⟨l, hl⟩ : ∃ l, s.data.toList = l := ⟨_, rfl⟩
  have hlen : l.length = s.size := by rw [← hl]; exact Array.length_toList
  have hext := fun a b h => ext_data s a b h
  rw [hl] at hext ⊢
  have hl' := Lib.hid hl
  have hlen' := Lib.hid hlen
  have hext' := Lib.hid hext
  clear hl hlen hext
  go_enter Tryd.func43, Tryd.ntmps43
  go_wp2_with fail
  go_loopw [5, 6, 7] (fun v f j wr => ∃ (k fr : Nat) (out : List (List UInt8)), k ≤ s.size ∧ fr ≤ k ∧ out.length ≤ k ∧ pcs c l = out ++ pcs c (l.drop fr) ∧ (∀ i : Nat, fr ≤ i → i < k → l[i]? ≠ some c) ∧ j = .int .i64 k ∧ f = .int .i64 fr ∧ Own strs 9 w.heap.size wr v (toB out) ∧ Below w.heap.size w wr)
    (fun _ _ j _ => s.size - (intOf j).toNat)
  case atStart => exact ⟨0, 0, [], Nat.zero_le _, Nat.le_refl _, Nat.le_refl _, rfl, fun i h1 h2 => by omega, rfl, rfl, Own.nil _ _, Below.refl _ _⟩
  case round =>
    obtain ⟨k, fr, out, hk, hf, ho, hpc, hno, rfl, rfl, hown, hbr⟩ := hrel
    have hsz := hbr.size
    have hol := Lib.hid (toB_len out)
    have hpc' := Lib.hid hpc
    have hno' := Lib.hid hno
    have hown' := Lib.hid hown
    clear hpc hno hown
    by_cases hlt : k < s.size
    · obtain ⟨x, hx⟩ : ∃ x, s[k]'hlt = x := ⟨_, rfl⟩
      have hxl : l[k]? = some x := by
        rw [← hl'.out, ← hx, List.getElem?_eq_getElem (by rw [hl'.out, hlen'.out]; exact hlt)]
        rfl
      have hxl' := Lib.hid hxl
      clear hxl
      by_cases hxc : x = c
      · have t1 : ((x.toNat : Int) == (c.toNat : Int)) = true := by simp [hxc]
        have hxc' := Lib.hid hxc
        clear hxc
        go_wp2_with (first
          | (at_builtin; refine wpList_app1 rfl _ _ 60 rfl strTy w.heap.size hown'.out rfl rfl rfl rfl (by rw [hol.out]; unfold maxLen; omega) (by rw [hol.out]; omega) (by omega) ?_; intro v' w1 hown2 hbel2 _)
          | fail)
        go_roundw
        case rel =>
          have e1 : l[fr + (k - fr)]? = some c := by rw [show fr + (k - fr) = k by omega, hxl'.out, hxc'.out]
          have e2 := pcs_some c (l.drop fr) (k - fr) (by rw [List.getElem?_drop]; exact e1) (fun i hi => by rw [List.getElem?_drop]; exact hno'.out (fr + i) (by omega) (by omega))
          refine ⟨k + 1, k + 1, out ++ [(l.drop fr).take (k - fr)], by omega, Nat.le_refl _, by rw [List.length_append, List.length_singleton]; omega, ?_, fun i h1 h2 => by omega, by go_num, by go_num, ?_, hbr.trans hbel2⟩
          · rw [hpc'.out, e2, List.drop_drop, show fr + (k - fr + 1) = k + 1 by omega]
            simp
          · rw [← toB_snoc _ _ _ (hext'.out fr k hf)]
            exact Own.app hown2 rfl
        case measure => simp [intOf]; omega
      · have t1 : ((x.toNat : Int) == (c.toNat : Int)) = false := by
          rw [beq_eq_false_iff_ne]
          exact fun e => hxc (UInt8.toNat_inj.1 (by omega))
        have hxc' := Lib.hid hxc
        clear hxc
        go_wp2_with fail
        go_roundw
        case rel =>
          exact ⟨k + 1, fr, out, by omega, by omega, by omega, hpc'.out, fun i h1 h2 => by
            by_cases hi : i = k
            · subst hi; rw [hxl'.out]; exact fun e => hxc'.out (Option.some.inj e)
            · exact hno'.out i h1 (by omega), by go_num, rfl, hown'.out, hbr⟩
        case measure => simp [intOf]; omega
    · have hks : k = s.size := by omega
      subst hks
      go_wp2_with (first
        | (at_builtin; refine wpList_app1 rfl _ _ 60 rfl strTy w.heap.size hown'.out rfl rfl rfl rfl (by rw [hol.out]; unfold maxLen; omega) (by rw [hol.out]; omega) (by omega) ?_; intro v' w1 hown2 hbel2 _)
        | fail)
      go_ret
      have e2 := pcs_none c (l.drop fr) (fun i => by
        rw [List.getElem?_drop]
        rcases Nat.lt_or_ge (fr + i) s.size with h | h
        · exact hno'.out (fr + i) (by omega) h
        · rw [List.getElem?_eq_none (by rw [hlen'.out]; omega)]
          exact fun e => by cases e)
      refine ⟨_, rfl, ?_, hbr.trans hbel2⟩
      rw [hpc'.out, e2, ← toB_snoc out (l.drop fr) (s.extract fr s.size) (by
        rw [hext'.out fr s.size hf, List.take_of_length_le (by rw [List.length_drop, hlen'.out]; omega)])]
      exact Own.app hown2 rfl

theorem rsplit_cells (s : ByteArray) (c : UInt8) (z : Int) (w : World) (hz : z = (c.toNat : Int)) (hs : s.size ≤ 1000000) :
    Calls Tryd.prog 43 #[.string s, .int .u8 z] w fun e w' => ∃ b cp, e = .returned (.slice (some ⟨b, 0, none⟩) (pcs c s.data.toList).length cp) ∧
      (∀ (j : Nat) x, (pcs c s.data.toList)[j]? = some x → w'.cell? ⟨b, j, none⟩ = some (.string ⟨x.toArray⟩)) ∧ ((pcs c s.data.toList).length ≤ cp ∧ cp ≤ maxLen) ∧ Below w.heap.size w w' :=
  (rsplit_any s c z w hz hs).mono fun e w' ⟨v, he, hown, hb⟩ => by
    subst he
    rcases hown.2 with ⟨rfl, h0⟩ | ⟨g, cap, cur, rfl, hg, hh, hcap, hmax, r⟩
    · rw [toB_len] at h0
      exact (pcs_ne _ _ (List.eq_nil_of_length_eq_zero h0)).elim
    · rw [toB_len] at hcap ⊢
      refine ⟨g, cap, rfl, fun j x hx => ?_, ⟨hcap, hmax⟩, hb⟩
      obtain ⟨A, c2, e1, _, _, hsl⟩ := hown.sl
      have hx2 : (toB (pcs c s.data.toList))[j]? = some ⟨x.toArray⟩ := by unfold toB; rw [List.getElem?_map, hx]; rfl
      obtain ⟨b, off, hA, _, hc⟩ := hsl j _ hx2
      injection e1 with e1 e2 e3
      rw [← e1] at hA
      injection hA with hA
      injection hA with h1 h2
      subst h1 h2
      have := hc 0 _ rfl
      simpa [strs, Enc.of1] using this

end Go.Proofs.YtkcdmonmgnmojaaDoor
