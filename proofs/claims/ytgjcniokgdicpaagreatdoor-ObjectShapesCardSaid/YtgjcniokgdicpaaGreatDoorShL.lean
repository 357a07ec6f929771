/- Readers; small objects; words alike. -/
import Derived.Test.YtgjcniokgdicpaaGreatDoorShK
import Derived.Deep.QuietTactic
import Derived.BigQuiet
namespace Go.Proofs.YtgjcniokgdicpaaGreatDoor
open Go.RowKit

set_option maxHeartbeats 400000 in
theorem pwords_any (A A' : Option Addr) (c c' : Nat) (l m : List Int) (w : World) (hn : l.length ≤ 9223372036854775807) (_hm : m.length ≤ 9223372036854775807) (hl : Ws w w.heap.size A l) (hm' : Ws w w.heap.size A' m) :
    Calls Tryz.prog 27 #[.slice A l.length c, .slice A' m.length c'] w fun e w' => e = .returned (.bool (decide (l = m))) ∧ Below w.heap.size w w' := by
  by_cases hlen : l.length = m.length
  · have x0 : ((l.length : Int) != (m.length : Int)) = false := by simp [hlen]
    have hlen' := Lib.hid hlen
    clear hlen
    go_enter Tryz.func27, Tryz.ntmps27
    go_wp2
    go_loopw [5, 13] (fun i j wr => ∃ k : Nat, k ≤ l.length ∧ j = .int .i64 k ∧ l.take k = m.take k ∧ Below w.heap.size w wr) (fun _ j _ => l.length - (intOf j).toNat)
    case atStart => exact ⟨0, Nat.zero_le _, rfl, rfl, Below.refl _ _⟩
    case round =>
      obtain ⟨k, hk, rfl, heq, hb⟩ := hrel
      by_cases hlt : k < l.length
      · obtain ⟨x, hx⟩ := get_some hlt
        obtain ⟨y, hy⟩ := get_some (show k < m.length by have := hlen'.out; omega)
        obtain ⟨⟨_, _, _⟩, b, off, rfl, hlb, h0⟩ := (hl.below hb (Nat.le_refl _)).get hx
        obtain ⟨⟨_, _, _⟩, b2, off2, rfl, hlb2, h1⟩ := (hm'.below hb (Nat.le_refl _)).get hy
        have hmk : (k : Int) < m.length := by have := hlen'.out; omega
        have heq' := Lib.hid heq
        have hx' := Lib.hid hx
        have hy' := Lib.hid hy
        clear heq hx hy
        by_cases hxy : x = y
        · have x1 : (x != y) = false := by simp [hxy]
          have hxy' := Lib.hid hxy
          clear hxy
          go_wp2
          go_quiet (fail)
          go_wp2
          go_roundw
          case rel => exact ⟨k + 1, by omega, by go_num, by rw [take_snoc hx'.out, take_snoc hy'.out, heq'.out, hxy'.out], drewN_below hb _⟩
          case measure => simp [intOf]; omega
        · have x1 : (x != y) = true := by simp [hxy]
          go_wp2
          go_quiet (fail)
          go_wp2
          go_ret
          refine ⟨ret_bool ?_, drewN_below hb _⟩
          symm
          rw [decide_eq_false_iff_not]
          intro e
          have := hx'.out
          rw [e, hy'.out] at this
          exact hxy (by injection this with h; exact h.symm)
      · have h1 := take_all hlt
        have h2 : m.take k = m := take_all (by have := hlen'.out; omega)
        have h3 := Lib.hid (show l = m by rw [← h1, heq, h2])
        clear h1 h2 heq
        go_wp2
        go_ret
        exact ⟨ret_bool (by simpa using h3.out), hb⟩
  · have x0 : ((l.length : Int) != (m.length : Int)) = true := by simp; omega
    go_enter Tryz.func27, Tryz.ntmps27
    go_wp2
    go_ret
    exact ⟨ret_bool (by symm; rw [decide_eq_false_iff_not]; intro e; exact hlen (by rw [e])), Below.refl _ _⟩

/-- Numbers in a slice. -/
def Is (w : World) (B : Nat) (A : Option Addr) (l : List Int) : Prop := SlOf (ints .i64) w B A l
theorem Is.below {w w' : World} {B B' : Nat} {A : Option Addr} {l : List Int} (h : Is w B A l) (hb : Below B w w') (hB : B ≤ B') : Is w' B' A l := SlOf.below h hb hB
theorem Is.get {w : World} {B : Nat} {A : Option Addr} {l : List Int} (h : Is w B A l) {k : Nat} {z : Int} (hk : l[k]? = some z) : ∃ b off, A = some ⟨b, off, none⟩ ∧ b < B ∧ w.cell? ⟨b, off + k, none⟩ = some (.int .i64 z) := by
  obtain ⟨b, off, hA, hlt, hc⟩ := h k z hk
  have := hc 0 _ rfl
  exact ⟨b, off, hA, hlt, by simpa [ints, Enc.of1] using this⟩
/-- The place of a number. -/
def ridx (l : List Int) (t : Int) : Int := match l.findIdx? fun z => z == t with
  | some k => k
  | none => -1
theorem ridx_hit {l : List Int} {t : Int} {k : Nat} (h : ∀ i, i < k → l[i]? ≠ some t) {y : Int} (hk : l[k]? = some y) (hy : y = t) : ridx l t = k := by
  have : l.findIdx? (fun z => z == t) = some k := by
    rw [List.findIdx?_eq_some_iff_getElem]
    obtain ⟨h1, h2⟩ := List.getElem?_eq_some_iff.1 hk
    refine ⟨h1, by rw [h2, hy]; exact beq_self_eq_true _, fun j hj => ?_⟩
    have := h j hj
    rw [List.getElem?_eq_getElem (by omega)] at this
    simpa using this
  unfold ridx
  rw [this]
theorem ridx_miss {l : List Int} {t : Int} (h : ∀ i, i < l.length → l[i]? ≠ some t) : ridx l t = -1 := by
  have : l.findIdx? (fun z => z == t) = none := by
    rw [List.findIdx?_eq_none_iff]
    intro x hx
    obtain ⟨i, hi⟩ := List.mem_iff_getElem?.1 hx
    have := h i (get_lt hi)
    rw [hi] at this
    simpa using this
  unfold ridx
  rw [this]
theorem ridx_bd (l : List Int) (t : Int) : -1 ≤ ridx l t ∧ ridx l t < l.length + 1 := by
  unfold ridx
  cases h : l.findIdx? fun z => z == t with
  | none => simp only; omega
  | some k =>
    obtain ⟨hk, _⟩ := List.findIdx?_eq_some_iff_getElem.1 h
    simp only
    omega
set_option maxRecDepth 100000 in
set_option maxHeartbeats 1000000 in
theorem iindex_any (A : Option Addr) (c : Nat) (l : List Int) (t : Int) (B : Nat) (w : World) (hn : l.length ≤ 1000000) (hl : Is w B A l) :
    Calls Tryz.prog 105 #[.slice A l.length c, .int .i64 t] w fun e w' => e = .returned (.int .i64 (ridx l t)) ∧ w' = w := by
  have HL := Lib.hid hl
  clear hl
  go_enter Tryz.func105, Tryz.ntmps105
  go_wp2_with fail
  go_loopw [5, 8] (fun _ j wr => ∃ k : Nat, k ≤ l.length ∧ j = .int .i64 k ∧ (∀ i, i < k → l[i]? ≠ some t) ∧ wr = w) (fun _ j _ => l.length - (intOf j).toNat)
  case atStart => exact ⟨0, Nat.zero_le _, rfl, fun i h => absurd h (Nat.not_lt_zero _), rfl⟩
  case round =>
    obtain ⟨k, hk, rfl, hall, rfl⟩ := hrel
    by_cases hlt : k < l.length
    · obtain ⟨z, hz⟩ := get_some hlt
      obtain ⟨b, off, rfl, hlb, hcz⟩ := HL.out.get hz
      have HA := Lib.hid hall
      have HZ := Lib.hid hz
      clear hall hz
      by_cases hzx : z = t
      · have t1 : (t == z) = true := by rw [hzx]; exact beq_self_eq_true _
        have hf := Lib.hid (ridx_hit HA.out HZ.out hzx)
        clear hzx
        go_wp2_with fail
        go_ret
        exact ⟨by rw [hf.out]; rfl, rfl⟩
      · have t1 : (t == z) = false := by rw [beq_eq_false_iff_ne]; exact fun e => hzx e.symm
        have hzx' := Lib.hid hzx
        clear hzx
        go_wp2_with fail
        go_roundw
        case rel => exact ⟨k + 1, by omega, by go_num, fun i hi => by
          by_cases hik : i = k
          · subst hik
            rw [HZ.out]
            intro h
            exact hzx'.out (by injection h)
          · exact HA.out i (by omega), by first | trivial | rfl⟩
        case measure => simp [intOf]; omega
    · have h6 : k = l.length := by omega
      subst h6
      have hf := Lib.hid (ridx_miss hall)
      clear hall
      go_wp2_with fail
      go_ret
      exact ⟨by rw [hf.out]; rfl, rfl⟩
set_option maxRecDepth 100000 in
set_option maxHeartbeats 1000000 in
theorem reader_o (o : Ob) (r : List Int) (t : Int) (B : Nat) (w : World) (hr : o.nr = r.length) (hn : r.length ≤ 1000000) (hR : Is w B o.R r) (hB : B ≤ w.heap.size) :
    Calls Tryz.prog 30 #[.agg (obA o), .int .i64 t] w fun e w' => e = .returned (.tuple #[.int .i64 (if 0 ≤ ridx r t then ridx r t else 0), .bool (decide (0 ≤ ridx r t))]) ∧ Below w.heap.size w w' := by
  have hbd := ridx_bd r t
  have hi := fun W (hb : Below w.heap.size w W) => iindex_any o.R o.cr r t B W hn (hR.below (hb.mono hB) (Nat.le_refl _))
  rw [← hr] at hi
  obtain ⟨q, hq⟩ : ∃ q, ridx r t = q := ⟨_, rfl⟩
  rw [hq] at hi hbd ⊢
  have hi0 := hi _ ((Below.refl w.heap.size w).alloc (Nat.le_refl _) (.cells (obA o) 36))
  have hn0 := ObX.new w o
  have hB0 := Lib.hid ((Below.refl w.heap.size w).alloc (Nat.le_refl _) (.cells (obA o) 36))
  have HI := Lib.hid hi0
  obtain ⟨d0, d1, d2, d3, d4, d5, d6, d7⟩ := hn0.cells
  clear hi hi0 hq hR hr hn0
  unfold obA at *
  go_enter Tryz.func30, Tryz.ntmps30
  by_cases h : 0 ≤ q
  · have t1 : decide (0 ≤ q) = true := decide_eq_true h
    have t2 : max q 0 = q := by omega
    rw [if_pos h, t1]
    go_wp2_with fail
    refine HI.out.mono ?_
    rintro e w1 ⟨rfl, rfl⟩
    go_wp2_with fail
    go_ret2
    exact ⟨rfl, hB0.out⟩
  · have t1 : decide (0 ≤ q) = false := decide_eq_false h
    have t2 : max q 0 = 0 := by omega
    rw [if_neg h, t1]
    go_wp2_with fail
    refine HI.out.mono ?_
    rintro e w1 ⟨rfl, rfl⟩
    go_wp2_with fail
    go_ret2
    exact ⟨rfl, hB0.out⟩
set_option maxRecDepth 100000 in
set_option maxHeartbeats 1000000 in
theorem rreader_o (o : Ob) (r : List Int) (t : Int) (B : Nat) (w : World) (hr : o.nr = r.length) (hn : r.length ≤ 1000000) (hR : Is w B o.R r) (hB : B ≤ w.heap.size) :
    Calls Tryz.prog 31 #[.agg (obA o), .int .i64 t] w fun e w' => e = .returned (.int .i64 (ridx r t)) ∧ Below w.heap.size w w' := by
  have hn0 := ObX.new w o
  have hb0 := (Below.refl w.heap.size w).alloc (Nat.le_refl _) (.cells (obA o) 36)
  have HL := Lib.hid (hR.below (hb0.mono hB) (Nat.le_refl _))
  have hB0 := Lib.hid hb0
  obtain ⟨d0, d1, d2, d3, d4, d5, d6, d7⟩ := hn0.cells
  have HR := Lib.hid hr
  clear hR hr hn0 hb0
  unfold obA at *
  go_enter Tryz.func31, Tryz.ntmps31
  go_wp2_with fail
  clear d0 d1 d2 d3 d4 d5 d6 d7
  obtain ⟨W0, hW0⟩ : ∃ W0, w.alloc (.cells #[.int .i64 o.k, .int .i64 o.wd, .int .i64 o.s, .int .i64 o.c, .int .u32 o.st, .slice o.I o.ni o.ci, .int .i64 o.wr, .slice o.R o.nr o.cr] 36) = W0 := ⟨_, rfl⟩
  rw [hW0] at HL hB0 ⊢
  clear hW0
  go_loopw [5, 10] (fun _ j wr => ∃ k : Nat, k ≤ r.length ∧ j = .int .i64 k ∧ (∀ i, i < k → r[i]? ≠ some t) ∧ wr = W0) (fun _ j _ => r.length - (intOf j).toNat)
  case atStart => exact ⟨0, Nat.zero_le _, rfl, fun i h => absurd h (Nat.not_lt_zero _), rfl⟩
  case round =>
    obtain ⟨k, hk, rfl, hall, rfl⟩ := hrel
    by_cases hlt : k < r.length
    · obtain ⟨z, hz⟩ := get_some hlt
      obtain ⟨b, off, hA, hlb, hcz⟩ := HL.out.get hz
      have hlt2 : k < o.nr := by have := HR.out; omega
      have hlt3 : decide (k < o.nr) = true := decide_eq_true hlt2
      have hix : ∀ W, (Instr.indexAt 34 (.slice o.R o.nr o.cr) (.int .i64 (k : Int))).run Tryz.prog W = .ok (.pointer (some ⟨b, off + k, none⟩)) W := fun W => by
        have h3 : (k : Int) < (o.nr : Int) := by omega
        rw [hA]
        go_simp
      have HA := Lib.hid hall
      have HZ := Lib.hid hz
      clear hall hz hA
      by_cases hzx : z = t
      · have t1 : (z == t) = true := by rw [hzx]; exact beq_self_eq_true _
        have hf := Lib.hid (ridx_hit HA.out HZ.out hzx)
        clear hzx
        go_wp2_with fail
        go_ret
        exact ⟨by rw [hf.out]; rfl, hB0.out⟩
      · have t1 : (z == t) = false := by rw [beq_eq_false_iff_ne]; exact hzx
        have hzx' := Lib.hid hzx
        clear hzx
        go_wp2_with fail
        go_roundw
        case rel => exact ⟨k + 1, by omega, by go_num, fun i hi => by
          by_cases hik : i = k
          · subst hik
            rw [HZ.out]
            intro h
            exact hzx'.out (by injection h)
          · exact HA.out i (by omega), by first | trivial | rfl⟩
        case measure => simp [intOf]; omega
    · have h6 : k = r.length := by omega
      subst h6
      have hlt3 : decide (r.length < o.nr) = false := by have := HR.out; rw [decide_eq_false_iff_not]; omega
      have hlt4 : ¬ r.length < o.nr := by have := HR.out; omega
      have hf := Lib.hid (ridx_miss hall)
      clear hall
      go_wp2_with fail
      go_ret
      exact ⟨by rw [hf.out]; rfl, hB0.out⟩
set_option maxRecDepth 100000 in
theorem small_o (o : Ob) (w : World) : Calls Tryz.prog 29 #[.agg (obA o)] w fun e w' => e = .returned (.bool (decide (o.ni ≤ 100 ∧ o.nr ≤ 100))) ∧ Below w.heap.size w w' := by
  have hn0 := ObX.new w o
  have hb0 := Lib.hid ((Below.refl w.heap.size w).alloc (Nat.le_refl _) (.cells (obA o) 36))
  obtain ⟨d0, d1, d2, d3, d4, d5, d6, d7⟩ := hn0.cells
  clear hn0
  unfold obA at *
  by_cases h1 : o.ni ≤ 100
  · have t1 : decide ((o.ni : Int) ≤ 100) = true := by rw [decide_eq_true_iff]; omega
    by_cases h2 : o.nr ≤ 100
    · have t2 : decide ((o.nr : Int) ≤ 100) = true := by rw [decide_eq_true_iff]; omega
      rw [decide_eq_true (And.intro h1 h2)]
      clear h1 h2
      go_enter Tryz.func29, Tryz.ntmps29
      go_wp2_with fail
      go_ret
      exact ⟨rfl, hb0.out⟩
    · have t2 : decide ((o.nr : Int) ≤ 100) = false := by rw [decide_eq_false_iff_not]; omega
      rw [decide_eq_false (fun h => h2 h.2)]
      clear h1 h2
      go_enter Tryz.func29, Tryz.ntmps29
      go_wp2_with fail
      go_ret
      exact ⟨rfl, hb0.out⟩
  · have t1 : decide ((o.ni : Int) ≤ 100) = false := by rw [decide_eq_false_iff_not]; omega
    rw [decide_eq_false (fun h => h1 h.1)]
    clear h1
    go_enter Tryz.func29, Tryz.ntmps29
    go_wp2_with fail
    go_ret
    exact ⟨rfl, hb0.out⟩

end Go.Proofs.YtgjcniokgdicpaaGreatDoor
