/- Histories: numbers alike; all processes. -/
import Derived.Test.YtkcdmonmgnmojaaDoorHis3
import Derived.Lib.OwnBridge
import Derived.Sort.OwnSortedInts
import Derived.Test.YtkcdmonmgnmojaaDoorShelf
namespace Go.Proofs.YtkcdmonmgnmojaaDoor
open Go.RowKit

theorem int_get {w : World} {B : Nat} {A : Option Addr} {l : List Int} (h : SlOf (ints .i64) w B A l) {k : Nat} {z : Int} (hk : l[k]? = some z) : ∃ b off, A = some ⟨b, off, none⟩ ∧ b < B ∧
    w.cell? ⟨b, off + k, none⟩ = some (.int .i64 z) := by
  obtain ⟨b, off, hA, hlt, hc⟩ := h k z hk
  have := hc 0 _ rfl
  exact ⟨b, off, hA, hlt, by simpa [ints, Enc.of1] using this⟩
theorem intTy : ElemTy Tryd.prog 46 3 1 8 := ElemTy.of (z := .int .i64 0) Tryd.underlying46 (by kernel_rfl) rfl (by omega)

set_option maxHeartbeats 400000 in
theorem ints_any (A A' : Option Addr) (c c' : Nat) (l m : List Int) (w : World) (hn : l.length ≤ 9223372036854775807) (_hm : m.length ≤ 9223372036854775807) (hl : SlOf (ints .i64) w w.heap.size A l) (hm' : SlOf (ints .i64) w w.heap.size A' m) :
    Calls Tryd.prog 50 #[.slice A l.length c, .slice A' m.length c'] w fun e w' => e = .returned (.bool (decide (l = m))) ∧ Below w.heap.size w w' := by
  by_cases hlen : l.length = m.length
  · have x0 : ((l.length : Int) != (m.length : Int)) = false := by simp [hlen]
    have hlen' := Lib.hid hlen
    clear hlen
    go_enter Tryd.func50, Tryd.ntmps50
    go_wp2
    go_loopw [5, 13] (fun i j wr => ∃ k : Nat, k ≤ l.length ∧ j = .int .i64 k ∧ l.take k = m.take k ∧ Below w.heap.size w wr) (fun _ j _ => l.length - (intOf j).toNat)
    case atStart => exact ⟨0, Nat.zero_le _, rfl, rfl, Below.refl _ _⟩
    case round =>
      obtain ⟨k, hk, rfl, heq, hb⟩ := hrel
      by_cases hlt : k < l.length
      · obtain ⟨x, hx⟩ := get_some hlt
        obtain ⟨y, hy⟩ := get_some (show k < m.length by have := hlen'.out; omega)
        obtain ⟨b, off, rfl, hlb, h0⟩ := int_get (hl.below hb (Nat.le_refl _)) hx
        obtain ⟨b2, off2, rfl, hlb2, h1⟩ := int_get (hm'.below hb (Nat.le_refl _)) hy
        have hmk : (k : Int) < m.length := by have := hlen'.out; omega
        have heq' := Lib.hid heq
        have hx' := Lib.hid hx
        have hy' := Lib.hid hy
        clear heq hx hy
        by_cases hxy : x = y
        · have x1 : (x != y) = false := by simp [hxy]
          have hxy' := Lib.hid hxy
          clear hxy
          go_wp2
          go_quiet (fail)
          go_wp2
          go_roundw
          case rel => exact ⟨k + 1, by omega, by go_num, by rw [take_snoc hx'.out, take_snoc hy'.out, heq'.out, hxy'.out], drewN_below hb _⟩
          case measure => simp [intOf]; omega
        · have x1 : (x != y) = true := by simp [hxy]
          go_wp2
          go_quiet (fail)
          go_wp2
          go_ret
          refine ⟨ret_bool ?_, drewN_below hb _⟩
          symm
          rw [decide_eq_false_iff_not]
          intro e
          have := hx'.out
          rw [e, hy'.out] at this
          exact hxy (by injection this with h; exact h.symm)
      · have h1 := take_all hlt
        have h2 : m.take k = m := take_all (by have := hlen'.out; omega)
        have h3 := Lib.hid (show l = m by rw [← h1, heq, h2])
        clear h1 h2 heq
        go_wp2
        go_ret
        exact ⟨ret_bool (by simpa using h3.out), hb⟩
  · have x0 : ((l.length : Int) != (m.length : Int)) = true := by simp; omega
    go_enter Tryd.func50, Tryd.ntmps50
    go_wp2
    go_ret
    exact ⟨ret_bool (by symm; rw [decide_eq_false_iff_not]; intro e; exact hlen (by rw [e])), Below.refl _ _⟩

def sorted (l : List Int) : List Int := Lib.compact (l.mergeSort fun x y => decide (x ≤ y))

theorem sorted_nil : sorted [] = [] := by
  unfold sorted
  rw [List.mergeSort_nil]
  rfl

set_option maxRecDepth 100000 in
set_option maxHeartbeats 1000000 in
theorem procs_any (A : Option Addr) (c : Nat) (l : List Cl) (w : World) (hn : l.length ≤ 1000) (hl : ClSl w w.heap.size A l) :
    Calls Tryd.prog 22 #[.slice A l.length c] w fun e w' => ∃ v, e = .returned v ∧ Own (ints .i64) 3 w.heap.size w' v (sorted (l.map (·.p))) ∧ Below w.heap.size w w' := by
  go_enter Tryd.func22, Tryd.ntmps22
  go_wp2_with fail
  go_loopw [3, 8] (fun v j wr => ∃ k : Nat, k ≤ l.length ∧ j = .int .i64 k ∧ Own (ints .i64) 3 w.heap.size wr v ((l.take k).map (·.p)) ∧ Below w.heap.size w wr) (fun _ j _ => l.length - (intOf j).toNat)
  case atStart => exact ⟨0, Nat.zero_le _, rfl, Own.nil _ _, Below.refl _ _⟩
  case round =>
    obtain ⟨k, hk, rfl, hown, hb⟩ := hrel
    by_cases hlt : k < l.length
    · obtain ⟨x, hx⟩ := get_some hlt
      obtain ⟨b, off, Ax, cx, rfl, hlb, ⟨h0, h1, h2, h3, h4, h5, h6⟩, _, hc1, hc2⟩ := (hl.below hb (Nat.le_refl _)) k x hx
      have hts := Lib.hid (show (l.take (k + 1)).map (·.p) = (l.take k).map (·.p) ++ [x.p] by rw [take_snoc hx, List.map_append]; rfl)
      have hlen := Lib.hid (show ((l.take k).map (·.p)).length = k by simp; omega)
      have hB1 := hb.alloc hb.size (.cells #[.int .i64 x.p, .int .i64 x.o, .int .i64 x.q, .slice Ax x.r.length cx, .int .i64 x.c, .int .i64 x.b, .int .i64 x.e] 45)
      have hown1 := Lib.hid (hown.alloc (.cells #[.int .i64 x.p, .int .i64 x.o, .int .i64 x.q, .slice Ax x.r.length cx, .int .i64 x.c, .int .i64 x.b, .int .i64 x.e] 45))
      have hbs := hb.size
      clear hx
      go_wp2_with (first
        | (at_builtin; refine wpList_app1 rfl _ _ 46 rfl intTy w.heap.size hown1.out rfl (by rw [World.size_alloc]; rfl) rfl rfl (by rw [hlen.out]; unfold maxLen; omega) (by rw [hlen.out]; omega) (by simp; omega) ?_; intro v' w2 hown2 hbel2 _)
        | go_in)
      go_roundw
      case rel => exact ⟨k + 1, by omega, by go_num, by rw [hts.out]; exact Own.app hown2 (by rfl), hB1.trans hbel2⟩
      case measure => simp [intOf]; omega
    · have ht := take_all hlt
      rw [ht] at hown
      have hps := Lib.hid (rfl : sorted (l.map (·.p)) = sorted (l.map (·.p)))
      rcases Nat.eq_zero_or_pos l.length with h0 | h0
      · have e0 := List.eq_nil_of_length_eq_zero h0
        obtain ⟨A', c', rfl, hcl, hne, hsl⟩ := hown.sl
        subst e0
        clear ht hlt hk h0
        go_wp2_with fail
        refine (Tryd.slices_Sort_int_none _ _ _).mono ?_
        rintro e w1 ⟨rfl, rfl⟩
        go_wp2_with fail
        refine (Tryd.slices_Compact_int_empty _ _ _).mono ?_
        rintro e w1 ⟨rfl, rfl⟩
        go_wp2_with fail
        go_ret
        refine ⟨_, rfl, ?_, hb⟩
        rw [show sorted (List.map (fun x : Cl => x.p) []) = [] from sorted_nil]
        exact hown
      · obtain ⟨A', c', rfl, _, _, _⟩ := hown.sl
        have hv : Value.slice A' (l.map (·.p)).length c' ≠ .slice none 0 0 := fun e => by
          injection e with _ h2 _
          simp at h2
          rw [h2] at h0
          exact absurd h0 (by simp)
        have hown' : wr.ownsRow w.heap.size 3 1 (.slice A' (l.map (·.p)).length c') l.length ((l.map (·.p)).map (Value.int .i64)) := by
          have := hown
          unfold Own at this
          rw [show (ints .i64).all (l.map (·.p)) = (l.map (·.p)).map (Value.int .i64) from of1_all _ _ _, show (ints .i64).size = 1 from rfl] at this
          rw [List.length_map] at this ⊢
          exact this
        obtain ⟨g, cap, hve, hg, hgl, hlc, hcm, hzl, hH⟩ := Lib.holds_of_ownsRow hown' hv
        injection hve with e1 _ e3
        subst e1 e3
        have hS := Tryd.slices_Sort_int g 0 c' (l.map (·.p)) wr hH hgl (by simp; omega)
        rw [List.length_map] at hS
        obtain ⟨cur, hcur, hcs⟩ : ∃ cur, wr.heap[g]? = some (.cells cur 3 (0, 0)) ∧ cur.size = c' * 1 := by
          rcases hown'.2 with ⟨h, _⟩ | ⟨g', cap', cur, h, _, h3, _, _, h6, _⟩
          · exact absurd h hv
          · injection h with h1 _ h3'
            injection h1 with h1
            injection h1 with h1
            subst h1 h3'
            exact ⟨cur, h3, h6⟩
        have hst : ∀ n os, (Sort.grow (Sort.putRow (Value.int .i64) (Sort.ahead wr n) g 0 ((l.map (·.p)).mergeSort fun x y => decide (x ≤ y)).toArray) os).ownsRow w.heap.size 3 1 (.slice (some ⟨g, 0, none⟩) l.length c') l.length (((l.map (·.p)).mergeSort fun x y => decide (x ≤ y)).map (Value.int .i64)) := fun n os => by
          have := ownsRow_sortedI (w := wr) (base := w.heap.size) (g := g) (cap := c') (n := n) (e := 3) (os := os) (cur := cur) (ss := l.map (·.p)) (ts := (l.map (·.p)).mergeSort fun x y => decide (x ≤ y)) (List.length_mergeSort _) hg hcur (by simpa using hlc) hcm hcs
          rw [List.length_map] at this
          exact this
        have hgr : ∀ n os, Below w.heap.size w (Sort.grow (Sort.putRow (Value.int .i64) (Sort.ahead wr n) g 0 ((l.map (·.p)).mergeSort fun x y => decide (x ≤ y)).toArray) os) := fun n os =>
          hb.grown (grownBy_sortedI (w := wr) (g := g) (n := n) (os := os) _) hb.size (fun k hk => by injection hk with hk; omega)
        have hS' := Lib.hid hS
        have hst' := Lib.hid hst
        have hgr' := Lib.hid hgr
        clear hS hst hgr hH hcur hcs hown hown' ht hv
        go_wp2_with fail
        refine hS'.out.mono ?_
        rintro e w1 ⟨rfl, n, os, rfl⟩
        have hs1 := hst'.out n os
        have hb1 := hgr'.out n os
        clear hst' hgr'
        generalize Sort.grow (Sort.putRow (Value.int .i64) (Sort.ahead wr n) g 0 ((l.map (·.p)).mergeSort fun x y => decide (x ≤ y)).toArray) os = w1 at hs1 hb1 ⊢
        obtain ⟨g', cap', hv', _, hg1, _, _, _, hH⟩ := Lib.holds_of_ownsRow hs1 (by simp)
        injection hv' with hv1 _ hv3
        injection hv1 with hv1
        injection hv1 with hv1
        subst hv1 hv3
        have hlm : ((l.map (·.p)).mergeSort fun x y => decide (x ≤ y)).length = l.length := by rw [List.length_mergeSort, List.length_map]
        have hC := Tryd.slices_Compact_int g 0 c' ((l.map (·.p)).mergeSort fun x y => decide (x ≤ y)) w1 hH (by omega) (by omega)
        rw [hlm] at hC
        have hcl := Lib.compact_length_le ((l.map (·.p)).mergeSort fun x y => decide (x ≤ y))
        rw [hlm] at hcl
        have hC' := Lib.hid hC
        have hcl' := Lib.hid hcl
        have hlm' := Lib.hid hlm
        have hs1' := Lib.hid hs1
        clear hC hcl hlm hs1 hH
        go_wp2_with fail
        refine hC'.out.mono ?_
        rintro e w2 ⟨rfl, q, rfl⟩
        go_wp2_with fail
        go_ret
        refine ⟨_, rfl, ?_, Lib.below_putRow hb1 (by omega)⟩
        have := Lib.ownsRow_putRow (q := q) (k := (Lib.compact ((l.map (·.p)).mergeSort fun x y => decide (x ≤ y))).length) (ys := Lib.compact ((l.map (·.p)).mergeSort fun x y => decide (x ≤ y)) ++ List.replicate (l.length - (Lib.compact ((l.map (·.p)).mergeSort fun x y => decide (x ≤ y))).length) 0) hs1'.out (by have := hcl'.out; simp; omega) hcl'.out
        rw [List.take_left' rfl] at this
        unfold Own
        rw [show (ints .i64).all (sorted (l.map (·.p))) = (sorted (l.map (·.p))).map (Value.int .i64) from of1_all _ _ _]
        exact this

end Go.Proofs.YtkcdmonmgnmojaaDoor
