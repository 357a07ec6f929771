/- PROVED: the Go function coxswainlaw34.SourceBack returns true, whatever its arguments (a system, a string), and leaves what they hold as it was. Conditions: none beyond those of the given row; the listed tables are tied by the given card. -/
import Derived.Test.YtfgmebjbibbpdaaGreatDoorZs9
import Derived.Test.YtfgmebjbibbpdaaGreatDoorZs6
import Derived.Test.YtfgmebjbibbpdaaGreatDoorZs7
import Derived.Test.YtfgmebjbibbpdaaGreatDoorZs4
import Derived.Test.YtfgmebjbibbpdaaGreatDoorZo
import Derived.Test.YtfgmebjbibbpdaaGreatDoorCards
import Derived.Test.YtfgmebjbibbpdaaGreatDoorTie
import Derived.Deep.DeepHandedRow
import Derived.Lib.LaidTab
namespace Go.Proofs.YtfgmebjbibbpdaaGreatDoor
open Go.RowKit

theorem lns_mem (l : List UInt8) : ∀ x ∈ lns l, x.length ≤ l.length := by
  induction l with
  | nil => intro x hx; cases hx
  | cons a l ih =>
    intro x hx
    have hh : ((lns l).headD []).length ≤ l.length := by
      cases h : lns l with
      | nil => simp
      | cons y r => exact ih y (by rw [h]; simp)
    unfold lns at hx
    split at hx
    · rcases List.mem_cons.1 hx with rfl | hx
      · simp
      · have := ih x hx
        rw [List.length_cons]; omega
    · rcases List.mem_cons.1 hx with rfl | hx
      · simp only [List.length_cons]; omega
      · have := ih x (List.mem_of_mem_tail hx)
        rw [List.length_cons]; omega
theorem flat_mem {α : Type} {f : α → List UInt8} {l : List α} {x : α} (h : x ∈ l) : (f x).length ≤ (l.flatMap f).length := by
  induction l with
  | nil => cases h
  | cons a l ih =>
    rw [List.flatMap_cons, List.length_append]
    rcases List.mem_cons.1 h with rfl | h
    · omega
    · have := ih h; omega
theorem flat_ge {α : Type} {f : α → List UInt8} (hf : ∀ x, 1 ≤ (f x).length) (l : List α) : l.length ≤ (l.flatMap f).length := by
  induction l with
  | nil => simp
  | cons a l ih =>
    rw [List.flatMap_cons, List.length_append, List.length_cons]
    have := hf a
    omega
theorem join_ge : ∀ (l : List (List UInt8)) (p : List UInt8), l.length ≤ (Lib.join (p :: l) [32]).length
  | [], p => Nat.zero_le _
  | a :: l, p => by
    have := join_ge l a
    rw [Lib.join_cons, List.length_append]
    have e : Lib.joinTail [32] (a :: l) = [32] ++ Lib.join (a :: l) [32] := by rw [Lib.join_cons]; simp [Lib.joinTail]
    rw [e, List.length_append]
    simp only [List.length_cons, List.length_nil]
    omega
theorem parse_sz (l : List UInt8) : (parseS l).sy.ts.length ≤ l.length ∧ (parseS l).sy.os.length ≤ l.length ∧ (∀ t ∈ (parseS l).sy.ts, t.code.length ≤ l.length) ∧ ∀ o ∈ (parseS l).sy.os, o.ini.length ≤ l.length ∧ o.rd.length ≤ l.length := by
  rcases parseS_back l with ⟨_, _, _, _, h⟩ | ⟨_, h⟩
  · obtain ⟨s, hs⟩ : ∃ x, (parseS l).sy = x := ⟨_, rfl⟩
    rw [hs] at h ⊢
    have hl : l.length = (tasksT s.ts).length + (objsT s.os).length := by rw [← h]; unfold sysT; rw [List.length_append]
    have h1 : s.ts.length ≤ (tasksT s.ts).length := flat_ge (fun t => by unfold taskT; simp only [List.length_append, List.length_cons, List.length_nil]; omega) _
    have h2 : s.os.length ≤ (objsT s.os).length := flat_ge (fun o => by simp only [List.length_append, List.length_cons, List.length_nil]; omega) _
    refine ⟨by omega, by omega, fun t ht => ?_, fun o ho => ?_⟩
    · have h3 : (taskT t).length ≤ (tasksT s.ts).length := flat_mem ht
      have h4 : t.code.length ≤ (textOf t.code).length := flat_ge (fun e => by simp only [List.length_append, List.length_cons, List.length_nil]; omega) _
      unfold taskT at h3
      simp only [List.length_append] at h3
      omega
    · have h3 : (objL o ++ [10]).length ≤ (objsT s.os).length := flat_mem (f := fun o => objL o ++ [10]) ho
      rw [List.length_append] at h3
      have h4 := join_ge (obWs.getD o.kd.toNat [] :: (o.five.map dd ++ rdrW :: (o.rd.map dd ++ iniW :: o.ini.map dd))) objW
      have h5 : (Lib.join (objW :: obWs.getD o.kd.toNat [] :: (o.five.map dd ++ rdrW :: (o.rd.map dd ++ iniW :: o.ini.map dd))) [32]).length = (objL o).length := rfl
      simp only [List.length_append, List.length_cons, List.length_map] at h4
      simp only [List.length_cons, List.length_nil] at h3
      omega
  · rw [h]
    exact ⟨Nat.zero_le _, Nat.zero_le _, (fun t h => by cases h), (fun t h => by cases h)⟩
theorem headL_bd {t : Tk} (h : headB1 t = true) : (headL t).length ≤ 100 := by
  rw [headL_two t _ rfl]
  have hk : (tkWs.getD t.kd.toNat []).length ≤ 8 := by rcases head_kd h with h | h <;> rw [h] <;> decide
  unfold headB1 at h
  rw [Bool.and_eq_true] at h
  have := numsT_len t.five h.2
  have h5 : t.five.length = 5 := rfl
  have ht : taskW.length = 4 := rfl
  simp only [List.length_append, List.length_cons, List.length_nil]
  omega
theorem objL_bd {o : Oj} (h : objB o = true) (hk : o.ok) (h1 : o.ini.length ≤ 100 ∧ o.rd.length ≤ 100) : (objL o).length ≤ 2990 := by
  rw [objL_parts o _ rfl]
  obtain ⟨hb, h5, hrd⟩ := objB_iff h
  have hkk : (obWs.getD o.kd.toNat []).length ≤ 4 := by
    have : o.kd = 1 ∨ o.kd = 2 ∨ o.kd = 3 ∨ o.kd = 4 ∨ o.kd = 5 ∨ o.kd = 6 := by omega
    rcases this with h | h | h | h | h | h <;> rw [h] <;> decide
  have a1 := numsT_len o.five (List.all_eq_true.2 fun z hz => topB_iff.2 (h5 z hz))
  have a2 := numsT_len o.rd (List.all_eq_true.2 fun z hz => topB_iff.2 (hrd z hz))
  have a3 := numsT_u32 o.ini hk.2
  have l1 : o.five.length = 5 := rfl
  have l2 : objW.length = 6 := rfl
  have l3 : rdrW.length = 7 := rfl
  have l4 : iniW.length = 4 := rfl
  simp only [List.length_append, List.length_cons, List.length_nil]
  omega
theorem code_bd (l : List Ins) (h : okAll l = true) (hk : ∀ e ∈ l, e.ok) (rest : List UInt8) (hr : ∀ x ∈ lns rest, x.length ≤ 3000) : ∀ x ∈ lns (textOf l ++ rest), x.length ≤ 3000 := by
  induction l with
  | nil => exact hr
  | cons e l ih =>
    unfold okAll at h
    rw [List.all_cons, Bool.and_eq_true] at h
    have ht : textOf (e :: l) ++ rest = lineL e ++ [10] ++ (textOf l ++ rest) := by simp [textOf]
    rw [ht, lns_line _ _ (lineL_no e)]
    intro x hx
    rcases List.mem_cons.1 hx with rfl | hx
    · have := lineL_len h.1 (hk e (by simp))
      simp only [List.length_append, List.length_cons, List.length_nil]
      omega
    · exact ih h.2 (fun y hy => hk y (by simp [hy])) x hx
theorem tasks_bd (l : List Tk) (h : l.all taskOk = true) (hk : ∀ t ∈ l, t.ok) (rest : List UInt8) (hr : ∀ x ∈ lns rest, x.length ≤ 3000) : ∀ x ∈ lns (tasksT l ++ rest), x.length ≤ 3000 := by
  induction l with
  | nil => exact hr
  | cons t l ih =>
    rw [List.all_cons, Bool.and_eq_true] at h
    have h0 := h.1
    unfold taskOk at h0
    rw [Bool.and_eq_true] at h0
    have ht : tasksT (t :: l) ++ rest = headL t ++ [10] ++ (textOf t.code ++ (endW3 ++ [10] ++ (tasksT l ++ rest))) := by simp [tasksT, taskT]
    rw [ht, lns_line _ _ (headL_no t)]
    intro x hx
    rcases List.mem_cons.1 hx with rfl | hx
    · have := headL_bd h0.1
      simp only [List.length_append, List.length_cons, List.length_nil]
      omega
    · refine code_bd t.code h0.2 (hk t (by simp)) _ ?_ x hx
      rw [lns_line _ _ endW3_no]
      intro y hy
      rcases List.mem_cons.1 hy with rfl | hy
      · decide
      · exact ih h.2 (fun z hz => hk z (by simp [hz])) y hy
theorem objs_bd (l : List Oj) (h : l.all objB = true) (hk : ∀ o ∈ l, o.ok) (hl : ∀ o ∈ l, o.ini.length ≤ 100 ∧ o.rd.length ≤ 100) : ∀ x ∈ lns (objsT l), x.length ≤ 3000 := by
  induction l with
  | nil => intro x hx; cases hx
  | cons o l ih =>
    rw [List.all_cons, Bool.and_eq_true] at h
    have ht : objsT (o :: l) = objL o ++ [10] ++ objsT l := by simp [objsT]
    rw [ht, lns_line _ _ (objL_no o)]
    intro x hx
    rcases List.mem_cons.1 hx with rfl | hx
    · have := objL_bd h.1 (hk o (by simp)) (hl o (by simp))
      simp only [List.length_append, List.length_cons, List.length_nil]
      omega
    · exact ih h.2 (fun z hz => hk z (by simp [hz])) (fun z hz => hl z (by simp [hz])) x hx
/-- The lines of what is printed of a small system. -/
theorem print_bd {s : Sy} (h : printOk s = true) (hk : s.ok) (hl : ∀ o ∈ s.os, o.ini.length ≤ 100 ∧ o.rd.length ≤ 100) : ∀ x ∈ lns (sysT s), x.length ≤ 3000 := by
  unfold printOk sysOk at h
  simp only [Bool.and_eq_true] at h
  exact tasks_bd s.ts h.1.1 hk.1 _ (objs_bd s.os h.1.2 hk.2 hl)
/-- What is held in memory is as it must be. -/
theorem ok_of {s : Sy} {w : World} {B : Nat} {At Ao : Option Addr} (ht : TkSl w B At s.ts) (ho : OjSl w B Ao s.os) : s.ok := by
  refine ⟨fun t h => ?_, fun o h => ?_⟩
  · obtain ⟨k, hk⟩ := List.getElem?_of_mem h
    obtain ⟨b, off, A', c', _, _, _, hI, _⟩ := ht k t hk
    exact hI.2
  · obtain ⟨k, hk⟩ := List.getElem?_of_mem h
    obtain ⟨b, off, I, ci, R, cr, _, _, _, ⟨hI, _⟩, _, hst, _⟩ := ho k o hk
    exact ⟨hst, fun z hz => u32_of (hI.2 z hz)⟩
/-- What is parsed is printed so. -/
theorem parsed_prints (l : List UInt8) (hl : l.length ≤ 65536) : ((parseS l).err = 0 ∧ printOk (parseS l).sy = true ∧ printT (parseS l).sy = ⟨l.toArray⟩) ∨ ((parseS l).err ≠ 0 ∧ (parseS l).sy = Sy.none) := by
  rcases parseS_back l with ⟨h1, _, h3, _, h⟩ | h
  · have hp : printOk (parseS l).sy = true := by
      unfold printOk
      rw [h3, h, Bool.true_and, decide_eq_true_iff]
      exact hl
    exact .inl ⟨h1, hp, by rw [printT_ok hp, h]⟩
  · exact .inr h

end Go.Proofs.YtfgmebjbibbpdaaGreatDoor

namespace Go.Proofs.YtfgmebjbibbpdaaGreatDoor
open Go.RowKit
attribute [local go_sem] Oper.semAt_some

set_option maxHeartbeats 400000 in
theorem pwords_any (A A' : Option Addr) (c c' : Nat) (l m : List Int) (w : World) (hn : l.length ≤ 9223372036854775807) (_hm : m.length ≤ 9223372036854775807) (hl : Ws w w.heap.size A l) (hm' : Ws w w.heap.size A' m) :
    Calls Tryz.prog 51 #[.slice A l.length c, .slice A' m.length c'] w fun e w' => e = .returned (.bool (decide (l = m))) ∧ Below w.heap.size w w' := by
  by_cases hlen : l.length = m.length
  · have x0 : ((l.length : Int) != (m.length : Int)) = false := by simp [hlen]
    have hlen' := Lib.hid hlen
    clear hlen
    go_enter Tryz.func51, Tryz.ntmps51
    go_wp2
    go_loopw [5, 13] (fun i j wr => ∃ k : Nat, k ≤ l.length ∧ j = .int .i64 k ∧ l.take k = m.take k ∧ Below w.heap.size w wr) (fun _ j _ => l.length - (intOf j).toNat)
    case atStart => exact ⟨0, Nat.zero_le _, rfl, rfl, Below.refl _ _⟩
    case round =>
      obtain ⟨k, hk, rfl, heq, hb⟩ := hrel
      by_cases hlt : k < l.length
      · obtain ⟨x, hx⟩ := get_some hlt
        obtain ⟨y, hy⟩ := get_some (show k < m.length by have := hlen'.out; omega)
        obtain ⟨⟨_, _, _⟩, b, off, rfl, hlb, h0⟩ := (hl.below hb (Nat.le_refl _)).get hx
        obtain ⟨⟨_, _, _⟩, b2, off2, rfl, hlb2, h1⟩ := (hm'.below hb (Nat.le_refl _)).get hy
        have hmk : (k : Int) < m.length := by have := hlen'.out; omega
        have heq' := Lib.hid heq
        have hx' := Lib.hid hx
        have hy' := Lib.hid hy
        clear heq hx hy
        by_cases hxy : x = y
        · have x1 : (x != y) = false := by simp [hxy]
          have hxy' := Lib.hid hxy
          clear hxy
          go_wp2
          go_quiet (fail)
          go_wp2
          go_roundw
          case rel => exact ⟨k + 1, by omega, by go_num, by rw [take_snoc hx'.out, take_snoc hy'.out, heq'.out, hxy'.out], drewN_below hb _⟩
          case measure => simp [intOf]; omega
        · have x1 : (x != y) = true := by simp [hxy]
          go_wp2
          go_quiet (fail)
          go_wp2
          go_ret
          refine ⟨ret_bool ?_, drewN_below hb _⟩
          symm
          rw [decide_eq_false_iff_not]
          intro e
          have := hx'.out
          rw [e, hy'.out] at this
          exact hxy (by injection this with h; exact h.symm)
      · have h1 := take_all hlt
        have h2 : m.take k = m := take_all (by have := hlen'.out; omega)
        have h3 := Lib.hid (show l = m by rw [← h1, heq, h2])
        clear h1 h2 heq
        go_wp2
        go_ret
        exact ⟨ret_bool (by simpa using h3.out), hb⟩
  · have x0 : ((l.length : Int) != (m.length : Int)) = true := by simp; omega
    go_enter Tryz.func51, Tryz.ntmps51
    go_wp2
    go_ret
    exact ⟨ret_bool (by symm; rw [decide_eq_false_iff_not]; intro e; exact hlen (by rw [e])), Below.refl _ _⟩

theorem int_get {w : World} {B : Nat} {A : Option Addr} {l : List Int} (h : SlOf (ints .i64) w B A l) {k : Nat} {z : Int} (hk : l[k]? = some z) : ∃ b off, A = some ⟨b, off, none⟩ ∧ b < B ∧
    w.cell? ⟨b, off + k, none⟩ = some (.int .i64 z) := by
  obtain ⟨b, off, hA, hlt, hc⟩ := h k z hk
  have := hc 0 _ rfl
  exact ⟨b, off, hA, hlt, by simpa [ints, Enc.of1] using this⟩
set_option maxHeartbeats 400000 in
theorem ints_any (A A' : Option Addr) (c c' : Nat) (l m : List Int) (w : World) (hn : l.length ≤ 9223372036854775807) (_hm : m.length ≤ 9223372036854775807) (hl : SlOf (ints .i64) w w.heap.size A l) (hm' : SlOf (ints .i64) w w.heap.size A' m) :
    Calls Tryz.prog 52 #[.slice A l.length c, .slice A' m.length c'] w fun e w' => e = .returned (.bool (decide (l = m))) ∧ Below w.heap.size w w' := by
  by_cases hlen : l.length = m.length
  · have x0 : ((l.length : Int) != (m.length : Int)) = false := by simp [hlen]
    have hlen' := Lib.hid hlen
    clear hlen
    go_enter Tryz.func52, Tryz.ntmps52
    go_wp2
    go_loopw [5, 13] (fun i j wr => ∃ k : Nat, k ≤ l.length ∧ j = .int .i64 k ∧ l.take k = m.take k ∧ Below w.heap.size w wr) (fun _ j _ => l.length - (intOf j).toNat)
    case atStart => exact ⟨0, Nat.zero_le _, rfl, rfl, Below.refl _ _⟩
    case round =>
      obtain ⟨k, hk, rfl, heq, hb⟩ := hrel
      by_cases hlt : k < l.length
      · obtain ⟨x, hx⟩ := get_some hlt
        obtain ⟨y, hy⟩ := get_some (show k < m.length by have := hlen'.out; omega)
        obtain ⟨b, off, rfl, hlb, h0⟩ := int_get (hl.below hb (Nat.le_refl _)) hx
        obtain ⟨b2, off2, rfl, hlb2, h1⟩ := int_get (hm'.below hb (Nat.le_refl _)) hy
        have hmk : (k : Int) < m.length := by have := hlen'.out; omega
        have heq' := Lib.hid heq
        have hx' := Lib.hid hx
        have hy' := Lib.hid hy
        clear heq hx hy
        by_cases hxy : x = y
        · have x1 : (x != y) = false := by simp [hxy]
          have hxy' := Lib.hid hxy
          clear hxy
          go_wp2
          go_quiet (fail)
          go_wp2
          go_roundw
          case rel => exact ⟨k + 1, by omega, by go_num, by rw [take_snoc hx'.out, take_snoc hy'.out, heq'.out, hxy'.out], drewN_below hb _⟩
          case measure => simp [intOf]; omega
        · have x1 : (x != y) = true := by simp [hxy]
          go_wp2
          go_quiet (fail)
          go_wp2
          go_ret
          refine ⟨ret_bool ?_, drewN_below hb _⟩
          symm
          rw [decide_eq_false_iff_not]
          intro e
          have := hx'.out
          rw [e, hy'.out] at this
          exact hxy (by injection this with h; exact h.symm)
      · have h1 := take_all hlt
        have h2 : m.take k = m := take_all (by have := hlen'.out; omega)
        have h3 := Lib.hid (show l = m by rw [← h1, heq, h2])
        clear h1 h2 heq
        go_wp2
        go_ret
        exact ⟨ret_bool (by simpa using h3.out), hb⟩
  · have x0 : ((l.length : Int) != (m.length : Int)) = true := by simp; omega
    go_enter Tryz.func52, Tryz.ntmps52
    go_wp2
    go_ret
    exact ⟨ret_bool (by symm; rw [decide_eq_false_iff_not]; intro e; exact hlen (by rw [e])), Below.refl _ _⟩

set_option maxRecDepth 100000 in
set_option maxHeartbeats 4000000 in
theorem ptask_same (t : Tk) (A A' : Option Addr) (c c' : Nat) (w : World) (hn : t.code.length ≤ 100000) (hI : InSl w w.heap.size A t.code) (hI' : InSl w w.heap.size A' t.code) :
    Calls Tryz.prog 29 #[.agg #[.int .i64 t.kd, .int .i64 t.pr, .int .i64 t.pe, .int .i64 t.off, .int .i64 t.dl, .int .i64 t.ow, .slice A t.code.length c], .agg #[.int .i64 t.kd, .int .i64 t.pr, .int .i64 t.pe, .int .i64 t.off, .int .i64 t.dl, .int .i64 t.ow, .slice A' t.code.length c']] w fun e w' => e = .returned (.bool true) ∧ Below w.heap.size w w' := by
  have r1 := RowB.new w #[.int .i64 t.kd, .int .i64 t.pr, .int .i64 t.pe, .int .i64 t.off, .int .i64 t.dl, .int .i64 t.ow, .slice A t.code.length c] 46
  obtain ⟨w1, hw1⟩ : ∃ x, w.alloc (.cells #[.int .i64 t.kd, .int .i64 t.pr, .int .i64 t.pe, .int .i64 t.off, .int .i64 t.dl, .int .i64 t.ow, .slice A t.code.length c] 46) = x := ⟨_, rfl⟩
  rw [hw1] at r1
  have s1 : w1.heap.size = w.heap.size + 1 := by rw [← hw1, World.size_alloc]
  have r2 := RowB.new w1 #[.int .i64 t.kd, .int .i64 t.pr, .int .i64 t.pe, .int .i64 t.off, .int .i64 t.dl, .int .i64 t.ow, .slice A' t.code.length c'] 46
  obtain ⟨w2, hw2⟩ : ∃ x, w1.alloc (.cells #[.int .i64 t.kd, .int .i64 t.pr, .int .i64 t.pe, .int .i64 t.off, .int .i64 t.dl, .int .i64 t.ow, .slice A' t.code.length c'] 46) = x := ⟨_, rfl⟩
  rw [hw2] at r2
  have s2 : w2.heap.size = w.heap.size + 1 + 1 := by rw [← hw2, World.size_alloc, s1]
  have r3 := r1.kept (w' := w2) (by rw [← hw2]; exact (Below.refl _ w1).alloc (Nat.le_refl _) _)
  have hb2 : Below w.heap.size w w2 := below_al (below_al (Below.refl _ w) (Nat.le_refl _) hw1) (by omega) hw2
  rw [s1] at r2
  obtain ⟨n, hn⟩ : ∃ n, w.heap.size = n := ⟨_, rfl⟩
  rw [hn] at r2 r3 hb2 s1
  have a0 : w2.cell? ⟨n, 0, none⟩ = some (.int .i64 t.kd) := (r3.cell 0).trans rfl
  have a1 : w2.cell? ⟨n, 1, none⟩ = some (.int .i64 t.pr) := (r3.cell 1).trans rfl
  have a2 : w2.cell? ⟨n, 2, none⟩ = some (.int .i64 t.pe) := (r3.cell 2).trans rfl
  have a3 : w2.cell? ⟨n, 3, none⟩ = some (.int .i64 t.off) := (r3.cell 3).trans rfl
  have a4 : w2.cell? ⟨n, 4, none⟩ = some (.int .i64 t.dl) := (r3.cell 4).trans rfl
  have a5 : w2.cell? ⟨n, 5, none⟩ = some (.int .i64 t.ow) := (r3.cell 5).trans rfl
  have a6 : w2.cell? ⟨n, 6, none⟩ = some (.slice A t.code.length c) := (r3.cell 6).trans rfl
  have b0 : w2.cell? ⟨n + 1, 0, none⟩ = some (.int .i64 t.kd) := (r2.cell 0).trans rfl
  have b1 : w2.cell? ⟨n + 1, 1, none⟩ = some (.int .i64 t.pr) := (r2.cell 1).trans rfl
  have b2 : w2.cell? ⟨n + 1, 2, none⟩ = some (.int .i64 t.pe) := (r2.cell 2).trans rfl
  have b3 : w2.cell? ⟨n + 1, 3, none⟩ = some (.int .i64 t.off) := (r2.cell 3).trans rfl
  have b4 : w2.cell? ⟨n + 1, 4, none⟩ = some (.int .i64 t.dl) := (r2.cell 4).trans rfl
  have b5 : w2.cell? ⟨n + 1, 5, none⟩ = some (.int .i64 t.ow) := (r2.cell 5).trans rfl
  have b6 : w2.cell? ⟨n + 1, 6, none⟩ = some (.slice A' t.code.length c') := (r2.cell 6).trans rfl
  have hcd := code_any A A' c c' t.code t.code w2 ‹_› ‹_› (hI.below (by rw [hn]; exact hb2) (by omega)) (hI'.below (by rw [hn]; exact hb2) (by omega))
  rw [decide_eq_true rfl] at hcd
  have HCD := Lib.hid hcd
  have HB := Lib.hid hb2
  have HS := Lib.hid s2
  have HN := Lib.hid hn
  clear r1 r2 r3 s2 hb2 hcd hI hI'
  go_enter Tryz.func29, Tryz.ntmps29
  go_wp2_with fail
  refine HCD.out.mono ?_
  rintro e w3 ⟨rfl, hb3⟩
  have HB3 := Lib.hid (HB.out.trans (hb3.mono (by have := HB.out.size; omega)))
  go_wp2_with fail
  go_ret
  exact ⟨rfl, by rw [HN.out]; exact HB3.out⟩
set_option maxRecDepth 100000 in
set_option maxHeartbeats 4000000 in
theorem pobject_same (o : Oj) (I I' R R' : Option Addr) (ci ci' cr cr' : Nat) (w : World) (hni : o.ini.length ≤ 100000) (hnr : o.rd.length ≤ 100000) (hI : Ws w w.heap.size I o.ini) (hI' : Ws w w.heap.size I' o.ini) (hR : SlOf (ints .i64) w w.heap.size R o.rd) (hR' : SlOf (ints .i64) w w.heap.size R' o.rd) :
    Calls Tryz.prog 30 #[.agg #[.int .i64 o.kd, .int .i64 o.wd, .int .i64 o.sl, .int .i64 o.cp, .int .u32 o.st, .slice I o.ini.length ci, .int .i64 o.wr, .slice R o.rd.length cr], .agg #[.int .i64 o.kd, .int .i64 o.wd, .int .i64 o.sl, .int .i64 o.cp, .int .u32 o.st, .slice I' o.ini.length ci', .int .i64 o.wr, .slice R' o.rd.length cr']] w fun e w' => e = .returned (.bool true) ∧ Below w.heap.size w w' := by
  have r1 := RowB.new w #[.int .i64 o.kd, .int .i64 o.wd, .int .i64 o.sl, .int .i64 o.cp, .int .u32 o.st, .slice I o.ini.length ci, .int .i64 o.wr, .slice R o.rd.length cr] 42
  obtain ⟨w1, hw1⟩ : ∃ x, w.alloc (.cells #[.int .i64 o.kd, .int .i64 o.wd, .int .i64 o.sl, .int .i64 o.cp, .int .u32 o.st, .slice I o.ini.length ci, .int .i64 o.wr, .slice R o.rd.length cr] 42) = x := ⟨_, rfl⟩
  rw [hw1] at r1
  have s1 : w1.heap.size = w.heap.size + 1 := by rw [← hw1, World.size_alloc]
  have r2 := RowB.new w1 #[.int .i64 o.kd, .int .i64 o.wd, .int .i64 o.sl, .int .i64 o.cp, .int .u32 o.st, .slice I' o.ini.length ci', .int .i64 o.wr, .slice R' o.rd.length cr'] 42
  obtain ⟨w2, hw2⟩ : ∃ x, w1.alloc (.cells #[.int .i64 o.kd, .int .i64 o.wd, .int .i64 o.sl, .int .i64 o.cp, .int .u32 o.st, .slice I' o.ini.length ci', .int .i64 o.wr, .slice R' o.rd.length cr'] 42) = x := ⟨_, rfl⟩
  rw [hw2] at r2
  have s2 : w2.heap.size = w.heap.size + 1 + 1 := by rw [← hw2, World.size_alloc, s1]
  have r3 := r1.kept (w' := w2) (by rw [← hw2]; exact (Below.refl _ w1).alloc (Nat.le_refl _) _)
  have hb2 : Below w.heap.size w w2 := below_al (below_al (Below.refl _ w) (Nat.le_refl _) hw1) (by omega) hw2
  rw [s1] at r2
  obtain ⟨n, hn⟩ : ∃ n, w.heap.size = n := ⟨_, rfl⟩
  rw [hn] at r2 r3 hb2 s1
  have a0 : w2.cell? ⟨n, 0, none⟩ = some (.int .i64 o.kd) := (r3.cell 0).trans rfl
  have a1 : w2.cell? ⟨n, 1, none⟩ = some (.int .i64 o.wd) := (r3.cell 1).trans rfl
  have a2 : w2.cell? ⟨n, 2, none⟩ = some (.int .i64 o.sl) := (r3.cell 2).trans rfl
  have a3 : w2.cell? ⟨n, 3, none⟩ = some (.int .i64 o.cp) := (r3.cell 3).trans rfl
  have a4 : w2.cell? ⟨n, 4, none⟩ = some (.int .u32 o.st) := (r3.cell 4).trans rfl
  have a5 : w2.cell? ⟨n, 5, none⟩ = some (.slice I o.ini.length ci) := (r3.cell 5).trans rfl
  have a6 : w2.cell? ⟨n, 6, none⟩ = some (.int .i64 o.wr) := (r3.cell 6).trans rfl
  have a7 : w2.cell? ⟨n, 7, none⟩ = some (.slice R o.rd.length cr) := (r3.cell 7).trans rfl
  have b0 : w2.cell? ⟨n + 1, 0, none⟩ = some (.int .i64 o.kd) := (r2.cell 0).trans rfl
  have b1 : w2.cell? ⟨n + 1, 1, none⟩ = some (.int .i64 o.wd) := (r2.cell 1).trans rfl
  have b2 : w2.cell? ⟨n + 1, 2, none⟩ = some (.int .i64 o.sl) := (r2.cell 2).trans rfl
  have b3 : w2.cell? ⟨n + 1, 3, none⟩ = some (.int .i64 o.cp) := (r2.cell 3).trans rfl
  have b4 : w2.cell? ⟨n + 1, 4, none⟩ = some (.int .u32 o.st) := (r2.cell 4).trans rfl
  have b5 : w2.cell? ⟨n + 1, 5, none⟩ = some (.slice I' o.ini.length ci') := (r2.cell 5).trans rfl
  have b6 : w2.cell? ⟨n + 1, 6, none⟩ = some (.int .i64 o.wr) := (r2.cell 6).trans rfl
  have b7 : w2.cell? ⟨n + 1, 7, none⟩ = some (.slice R' o.rd.length cr') := (r2.cell 7).trans rfl
  have hwd := pwords_any I I' ci ci' o.ini o.ini w2 (by omega) (by omega) (hI.below (by rw [hn]; exact hb2) (by omega)) (hI'.below (by rw [hn]; exact hb2) (by omega))
  rw [decide_eq_true rfl] at hwd
  have hin := fun w3 (hb : Below w2.heap.size w2 w3) => ints_any R R' cr cr' o.rd o.rd w3 (by omega) (by omega) ((hR.below (by rw [hn]; exact hb2) (by omega)).below hb hb.size) ((hR'.below (by rw [hn]; exact hb2) (by omega)).below hb hb.size)
  rw [decide_eq_true rfl] at hin
  have HWD := Lib.hid hwd
  have HIN := Lib.hid hin
  have HB := Lib.hid hb2
  have HS := Lib.hid s2
  have HN := Lib.hid hn
  have HR3 := Lib.hid r3
  have HR2 := Lib.hid r2
  clear r1 r2 r3 s2 hb2 hwd hin hI hI' hR hR'
  go_enter Tryz.func30, Tryz.ntmps30
  go_wp2_with fail
  refine HWD.out.mono ?_
  rintro e w3 ⟨rfl, hb3⟩
  have HB3 := Lib.hid (HB.out.trans (hb3.mono (by have := HB.out.size; omega)))
  have e6 : w3.cell? ⟨n, 6, none⟩ = some (.int .i64 o.wr) := ((HR3.out.kept hb3).cell 6).trans rfl
  have e7 : w3.cell? ⟨n, 7, none⟩ = some (.slice R o.rd.length cr) := ((HR3.out.kept hb3).cell 7).trans rfl
  have f6 : w3.cell? ⟨n + 1, 6, none⟩ = some (.int .i64 o.wr) := ((HR2.out.kept hb3).cell 6).trans rfl
  have f7 : w3.cell? ⟨n + 1, 7, none⟩ = some (.slice R' o.rd.length cr') := ((HR2.out.kept hb3).cell 7).trans rfl
  have HIN3 := Lib.hid (HIN.out w3 hb3)
  clear hb3
  go_wp2_with fail
  refine HIN3.out.mono ?_
  rintro e w4 ⟨rfl, hb4⟩
  have HB4 := Lib.hid (HB3.out.trans (hb4.mono (by have := HB3.out.size; omega)))
  go_wp2_with fail
  go_ret
  exact ⟨rfl, by rw [HN.out]; exact HB4.out⟩

end Go.Proofs.YtfgmebjbibbpdaaGreatDoor

namespace Go.Proofs.YtfgmebjbibbpdaaGreatDoor
open Go.RowKit
attribute [local go_sem] Oper.semAt_some

set_option maxRecDepth 100000 in
set_option maxHeartbeats 4000000 in
theorem psystem_same (s : Sy) (At Ao At' Ao' : Option Addr) (ct co ct' co' : Nat) (w : World) (hnt : s.ts.length ≤ 100000) (hno : s.os.length ≤ 100000) (hcode : ∀ t ∈ s.ts, t.code.length ≤ 100000) (hobj : ∀ o ∈ s.os, o.ini.length ≤ 100000 ∧ o.rd.length ≤ 100000)
    (ht : TkSl w w.heap.size At s.ts) (ho : OjSl w w.heap.size Ao s.os) (ht' : TkSl w w.heap.size At' s.ts) (ho' : OjSl w w.heap.size Ao' s.os) :
    Calls Tryz.prog 12 #[.agg #[.slice At s.ts.length ct, .slice Ao s.os.length co], .agg #[.slice At' s.ts.length ct', .slice Ao' s.os.length co']] w fun e w' => e = .returned (.bool true) ∧ Below w.heap.size w w' := by
  have r1 := RowB.new w #[.slice At s.ts.length ct, .slice Ao s.os.length co] 25
  obtain ⟨w1, hw1⟩ : ∃ x, w.alloc (.cells #[.slice At s.ts.length ct, .slice Ao s.os.length co] 25) = x := ⟨_, rfl⟩
  rw [hw1] at r1
  have s1 : w1.heap.size = w.heap.size + 1 := by rw [← hw1, World.size_alloc]
  have r2 := RowB.new w1 #[.slice At' s.ts.length ct', .slice Ao' s.os.length co'] 25
  obtain ⟨w2, hw2⟩ : ∃ x, w1.alloc (.cells #[.slice At' s.ts.length ct', .slice Ao' s.os.length co'] 25) = x := ⟨_, rfl⟩
  rw [hw2] at r2
  have s2 : w2.heap.size = w.heap.size + 1 + 1 := by rw [← hw2, World.size_alloc, s1]
  have r3 := r1.kept (w' := w2) (by rw [← hw2]; exact (Below.refl _ w1).alloc (Nat.le_refl _) _)
  have hb2 : Below w.heap.size w w2 := below_al (below_al (Below.refl _ w) (Nat.le_refl _) hw1) (by omega) hw2
  rw [s1] at r2
  obtain ⟨n, hn⟩ : ∃ n, w.heap.size = n := ⟨_, rfl⟩
  rw [hn] at r2 r3 hb2 s1
  have a0 : w2.cell? ⟨n, 0, none⟩ = some (.slice At s.ts.length ct) := (r3.cell 0).trans rfl
  have a1 : w2.cell? ⟨n, 1, none⟩ = some (.slice Ao s.os.length co) := (r3.cell 1).trans rfl
  have b0 : w2.cell? ⟨n + 1, 0, none⟩ = some (.slice At' s.ts.length ct') := (r2.cell 0).trans rfl
  have b1 : w2.cell? ⟨n + 1, 1, none⟩ = some (.slice Ao' s.os.length co') := (r2.cell 1).trans rfl
  have HT := Lib.hid (ht.below (by rw [hn]; exact hb2) (B' := w2.heap.size) (by omega))
  have HO := Lib.hid (ho.below (by rw [hn]; exact hb2) (B' := w2.heap.size) (by omega))
  have HT' := Lib.hid (ht'.below (by rw [hn]; exact hb2) (B' := w2.heap.size) (by omega))
  have HO' := Lib.hid (ho'.below (by rw [hn]; exact hb2) (B' := w2.heap.size) (by omega))
  have HC := Lib.hid hcode
  have HJ := Lib.hid hobj
  have HB := Lib.hid hb2
  have HS := Lib.hid s2
  have HN := Lib.hid hn
  have HA0 := Lib.hid a0
  have HA1 := Lib.hid a1
  have HB0 := Lib.hid b0
  have HB1 := Lib.hid b1
  clear r1 r2 r3 s2 hb2 ht ho ht' ho' hcode hobj
  go_enter Tryz.func12, Tryz.ntmps12
  go_wp2_with fail
  clear a0 a1 b0 b1
  go_loopw [26] (fun j wr => ∃ k : Nat, k ≤ s.ts.length ∧ j = .int .i64 k ∧ Below w2.heap.size w2 wr) (fun j _ => s.ts.length - (intOf j).toNat)
  case atStart => exact ⟨0, Nat.zero_le _, rfl, Below.refl _ _⟩
  case round =>
    obtain ⟨k, hk, rfl, hbw⟩ := hrel
    by_cases hlt : k < s.ts.length
    · obtain ⟨t, hx⟩ := get_some hlt
      obtain ⟨b, off, E, c, hA, hlb, ⟨z0, z1, z2, z3, z4, z5, z6⟩, hI, hcc, hzz⟩ := HT.out k t hx
      subst hA
      have g0 := (hbw.cell (p := ⟨b, off + k * 7, none⟩) hlb).trans z0
      have g1 := (hbw.cell (p := ⟨b, off + k * 7 + 1, none⟩) hlb).trans z1
      have g2 := (hbw.cell (p := ⟨b, off + k * 7 + 2, none⟩) hlb).trans z2
      have g3 := (hbw.cell (p := ⟨b, off + k * 7 + 3, none⟩) hlb).trans z3
      have g4 := (hbw.cell (p := ⟨b, off + k * 7 + 4, none⟩) hlb).trans z4
      have g5 := (hbw.cell (p := ⟨b, off + k * 7 + 5, none⟩) hlb).trans z5
      have g6 := (hbw.cell (p := ⟨b, off + k * 7 + 6, none⟩) hlb).trans z6
      clear z0 z1 z2 z3 z4 z5 z6
      obtain ⟨b', off', E', c', hA', hlb', ⟨z0, z1, z2, z3, z4, z5, z6⟩, hI', hcc', hzz'⟩ := HT'.out k t hx
      subst hA'
      have h0 := (hbw.cell (p := ⟨b', off' + k * 7, none⟩) hlb').trans z0
      have h1 := (hbw.cell (p := ⟨b', off' + k * 7 + 1, none⟩) hlb').trans z1
      have h2 := (hbw.cell (p := ⟨b', off' + k * 7 + 2, none⟩) hlb').trans z2
      have h3 := (hbw.cell (p := ⟨b', off' + k * 7 + 3, none⟩) hlb').trans z3
      have h4 := (hbw.cell (p := ⟨b', off' + k * 7 + 4, none⟩) hlb').trans z4
      have h5 := (hbw.cell (p := ⟨b', off' + k * 7 + 5, none⟩) hlb').trans z5
      have h6 := (hbw.cell (p := ⟨b', off' + k * 7 + 6, none⟩) hlb').trans z6
      clear z0 z1 z2 z3 z4 z5 z6
      have hnl : n + 1 < w2.heap.size := by have := HS.out; have := HN.out; omega
      have j0 := (hbw.cell (p := ⟨n, 0, none⟩) (show n < w2.heap.size by omega)).trans HA0.out
      have j1 := (hbw.cell (p := ⟨n + 1, 0, none⟩) hnl).trans HB0.out
      have key : ∀ {p : Addr} {u : Value}, wr.cell? p = some u → wr.drew.cell? p = some u := fun {p u} hc => ((Below.refl wr.heap.size wr).drew.cell (p := p) (cell_lt hc)).trans hc
      have hSd : (fun w' : World => Below w2.heap.size w2 w' ∧ w'.cell? ⟨n, 0, none⟩ = some (.slice (some ⟨b, off, none⟩) s.ts.length ct) ∧ w'.cell? ⟨n + 1, 0, none⟩ = some (.slice (some ⟨b', off', none⟩) s.ts.length ct') ∧ w'.cell? ⟨b, off + k * 7, none⟩ = some (.int .i64 t.kd) ∧ w'.cell? ⟨b, off + k * 7 + 1, none⟩ = some (.int .i64 t.pr) ∧ w'.cell? ⟨b, off + k * 7 + 2, none⟩ = some (.int .i64 t.pe) ∧ w'.cell? ⟨b, off + k * 7 + 3, none⟩ = some (.int .i64 t.off) ∧ w'.cell? ⟨b, off + k * 7 + 4, none⟩ = some (.int .i64 t.dl) ∧ w'.cell? ⟨b, off + k * 7 + 5, none⟩ = some (.int .i64 t.ow) ∧ w'.cell? ⟨b, off + k * 7 + 6, none⟩ = some (.slice E t.code.length c) ∧ w'.cell? ⟨b', off' + k * 7, none⟩ = some (.int .i64 t.kd) ∧ w'.cell? ⟨b', off' + k * 7 + 1, none⟩ = some (.int .i64 t.pr) ∧ w'.cell? ⟨b', off' + k * 7 + 2, none⟩ = some (.int .i64 t.pe) ∧ w'.cell? ⟨b', off' + k * 7 + 3, none⟩ = some (.int .i64 t.off) ∧ w'.cell? ⟨b', off' + k * 7 + 4, none⟩ = some (.int .i64 t.dl) ∧ w'.cell? ⟨b', off' + k * 7 + 5, none⟩ = some (.int .i64 t.ow) ∧ w'.cell? ⟨b', off' + k * 7 + 6, none⟩ = some (.slice E' t.code.length c')) wr.drew := ⟨hbw.drew, key j0, key j1, key g0, key g1, key g2, key g3, key g4, key g5, key g6, key h0, key h1, key h2, key h3, key h4, key h5, key h6⟩
      have hkl : (k : Int) < (s.ts.length : Int) := by omega
      clear key g0 g1 g2 g3 g4 g5 g6 h0 h1 h2 h3 h4 h5 h6 j0 j1
      have hcl := HC.out t (List.mem_of_getElem? hx)
      have HCL := Lib.hid (fun W (hb : Below w2.heap.size w2 W) => ptask_same t E E' c c' W hcl (hI.below hb hb.size) (hI'.below hb hb.size))
      clear hx hI hI' hcc hcc' hzz hzz' hcl
      go_wp2_with fail
      refine wp_region_held_drew (S := (fun w' : World => Below w2.heap.size w2 w' ∧ w'.cell? ⟨n, 0, none⟩ = some (.slice (some ⟨b, off, none⟩) s.ts.length ct) ∧ w'.cell? ⟨n + 1, 0, none⟩ = some (.slice (some ⟨b', off', none⟩) s.ts.length ct') ∧ w'.cell? ⟨b, off + k * 7, none⟩ = some (.int .i64 t.kd) ∧ w'.cell? ⟨b, off + k * 7 + 1, none⟩ = some (.int .i64 t.pr) ∧ w'.cell? ⟨b, off + k * 7 + 2, none⟩ = some (.int .i64 t.pe) ∧ w'.cell? ⟨b, off + k * 7 + 3, none⟩ = some (.int .i64 t.off) ∧ w'.cell? ⟨b, off + k * 7 + 4, none⟩ = some (.int .i64 t.dl) ∧ w'.cell? ⟨b, off + k * 7 + 5, none⟩ = some (.int .i64 t.ow) ∧ w'.cell? ⟨b, off + k * 7 + 6, none⟩ = some (.slice E t.code.length c) ∧ w'.cell? ⟨b', off' + k * 7, none⟩ = some (.int .i64 t.kd) ∧ w'.cell? ⟨b', off' + k * 7 + 1, none⟩ = some (.int .i64 t.pr) ∧ w'.cell? ⟨b', off' + k * 7 + 2, none⟩ = some (.int .i64 t.pe) ∧ w'.cell? ⟨b', off' + k * 7 + 3, none⟩ = some (.int .i64 t.off) ∧ w'.cell? ⟨b', off' + k * 7 + 4, none⟩ = some (.int .i64 t.dl) ∧ w'.cell? ⟨b', off' + k * 7 + 5, none⟩ = some (.int .i64 t.ow) ∧ w'.cell? ⟨b', off' + k * 7 + 6, none⟩ = some (.slice E' t.code.length c'))) (by kernel_rfl) hSd (fun hHeld => ?_)
      generalize wr.drew = wz at hSd hHeld ⊢
      have hHeld : (fun w' : World => Below w2.heap.size w2 w' ∧ w'.cell? ⟨n, 0, none⟩ = some (.slice (some ⟨b, off, none⟩) s.ts.length ct) ∧ w'.cell? ⟨n + 1, 0, none⟩ = some (.slice (some ⟨b', off', none⟩) s.ts.length ct') ∧ w'.cell? ⟨b, off + k * 7, none⟩ = some (.int .i64 t.kd) ∧ w'.cell? ⟨b, off + k * 7 + 1, none⟩ = some (.int .i64 t.pr) ∧ w'.cell? ⟨b, off + k * 7 + 2, none⟩ = some (.int .i64 t.pe) ∧ w'.cell? ⟨b, off + k * 7 + 3, none⟩ = some (.int .i64 t.off) ∧ w'.cell? ⟨b, off + k * 7 + 4, none⟩ = some (.int .i64 t.dl) ∧ w'.cell? ⟨b, off + k * 7 + 5, none⟩ = some (.int .i64 t.ow) ∧ w'.cell? ⟨b, off + k * 7 + 6, none⟩ = some (.slice E t.code.length c) ∧ w'.cell? ⟨b', off' + k * 7, none⟩ = some (.int .i64 t.kd) ∧ w'.cell? ⟨b', off' + k * 7 + 1, none⟩ = some (.int .i64 t.pr) ∧ w'.cell? ⟨b', off' + k * 7 + 2, none⟩ = some (.int .i64 t.pe) ∧ w'.cell? ⟨b', off' + k * 7 + 3, none⟩ = some (.int .i64 t.off) ∧ w'.cell? ⟨b', off' + k * 7 + 4, none⟩ = some (.int .i64 t.dl) ∧ w'.cell? ⟨b', off' + k * 7 + 5, none⟩ = some (.int .i64 t.ow) ∧ w'.cell? ⟨b', off' + k * 7 + 6, none⟩ = some (.slice E' t.code.length c')) wz := hHeld
      refine wpAnyH_take (i := 0) (oi := ?_) (v := ?_) ?_ (by kernel_rfl) (by kernel_rfl) (by kernel_rfl) ?_ (Or.inl ⟨?_, ?_⟩) (by assumption) ?_
      rotate_left 2
      · (simp only [List.getElem?_toArray, List.getElem?_cons_zero]; rfl)
      · first | exact fun _ _ _ h => h | exact fun _ _ _ h => by cases h.1
      · rfl
      · ((intro wq hSq; (try dsimp only at hSq); go_simp); (try with_reducible rfl))
      try simp only [Act.put, List.setIfInBounds_toArray, List.set_cons_zero, List.set_cons_succ]
      refine wpAnyH_take (i := 1) (oi := ?_) (v := ?_) ?_ (by kernel_rfl) (by kernel_rfl) (by kernel_rfl) ?_ (Or.inl ⟨?_, ?_⟩) (by assumption) ?_
      rotate_left 2
      · (simp only [List.getElem?_toArray, List.getElem?_cons_succ, List.getElem?_cons_zero]; rfl)
      · first | exact fun _ _ _ h => h | exact fun _ _ _ h => by cases h.1
      · rfl
      · ((intro wq hSq; (try dsimp only at hSq); go_simp); (try with_reducible rfl))
      try simp only [Act.put, List.setIfInBounds_toArray, List.set_cons_zero, List.set_cons_succ]
      refine wpAnyH_take (i := 2) (oi := ?_) (v := ?_) ?_ (by kernel_rfl) (by kernel_rfl) (by kernel_rfl) ?_ (Or.inl ⟨?_, ?_⟩) (by assumption) ?_
      rotate_left 2
      · (simp only [List.getElem?_toArray, List.getElem?_cons_succ, List.getElem?_cons_zero]; rfl)
      · first | exact fun _ _ _ h => h | exact fun _ _ _ h => by cases h.1
      · rfl
      · ((intro wq hSq; (try dsimp only at hSq); go_simp); (try with_reducible rfl))
      try simp only [Act.put, List.setIfInBounds_toArray, List.set_cons_zero, List.set_cons_succ]
      refine wpAnyH_take (i := 3) (oi := ?_) (v := ?_) ?_ (by kernel_rfl) (by kernel_rfl) (by kernel_rfl) ?_ (Or.inl ⟨?_, ?_⟩) (by assumption) ?_
      rotate_left 2
      · (simp only [List.getElem?_toArray, List.getElem?_cons_succ, List.getElem?_cons_zero]; rfl)
      · first | exact fun _ _ _ h => h | exact fun _ _ _ h => by cases h.1
      · rfl
      · ((intro wq hSq; (try dsimp only at hSq); go_simp); (try with_reducible rfl))
      try simp only [Act.put, List.setIfInBounds_toArray, List.set_cons_zero, List.set_cons_succ]
      refine wpAnyH_take (i := 4) (oi := ?_) (v := ?_) ?_ (by kernel_rfl) (by kernel_rfl) (by kernel_rfl) ?_ (Or.inl ⟨?_, ?_⟩) (by assumption) ?_
      rotate_left 2
      · (simp only [List.getElem?_toArray, List.getElem?_cons_succ, List.getElem?_cons_zero]; rfl)
      · first | exact fun _ _ _ h => h | exact fun _ _ _ h => by cases h.1
      · rfl
      · ((intro wq hSq; (try dsimp only at hSq); go_simp); (try with_reducible rfl))
      try simp only [Act.put, List.setIfInBounds_toArray, List.set_cons_zero, List.set_cons_succ]
      refine wpAnyH_take (i := 5) (oi := ?_) (v := ?_) ?_ (by kernel_rfl) (by kernel_rfl) (by kernel_rfl) ?_ (Or.inl ⟨?_, ?_⟩) (by assumption) ?_
      rotate_left 2
      · (simp only [List.getElem?_toArray, List.getElem?_cons_succ, List.getElem?_cons_zero]; rfl)
      · first | exact fun _ _ _ h => h | exact fun _ _ _ h => by cases h.1
      · rfl
      · ((intro wq hSq; (try dsimp only at hSq); go_simp); (try with_reducible rfl))
      try simp only [Act.put, List.setIfInBounds_toArray, List.set_cons_zero, List.set_cons_succ]
      refine wpAnyH_take (i := 6) (oi := ?_) (v := ?_) ?_ (by kernel_rfl) (by kernel_rfl) (by kernel_rfl) ?_ (Or.inl ⟨?_, ?_⟩) (by assumption) ?_
      rotate_left 2
      · (simp only [List.getElem?_toArray, List.getElem?_cons_succ, List.getElem?_cons_zero]; rfl)
      · first | exact fun _ _ _ h => h | exact fun _ _ _ h => by cases h.1
      · rfl
      · ((intro wq hSq; (try dsimp only at hSq); go_simp); (try with_reducible rfl))
      try simp only [Act.put, List.setIfInBounds_toArray, List.set_cons_zero, List.set_cons_succ]
      refine wpAnyH_take (i := 7) (oi := ?_) (v := ?_) ?_ (by kernel_rfl) (by kernel_rfl) (by kernel_rfl) ?_ (Or.inl ⟨?_, ?_⟩) (by assumption) ?_
      rotate_left 2
      · (simp only [List.getElem?_toArray, List.getElem?_cons_succ, List.getElem?_cons_zero]; rfl)
      · first | exact fun _ _ _ h => h | exact fun _ _ _ h => by cases h.1
      · rfl
      · ((intro wq hSq; (try dsimp only at hSq); go_simp); (try with_reducible rfl))
      try simp only [Act.put, List.setIfInBounds_toArray, List.set_cons_zero, List.set_cons_succ]
      refine wpAnyH_take (i := 8) (oi := ?_) (v := ?_) ?_ (by kernel_rfl) (by kernel_rfl) (by kernel_rfl) ?_ (Or.inl ⟨?_, ?_⟩) (by assumption) ?_
      rotate_left 2
      · (simp only [List.getElem?_toArray, List.getElem?_cons_succ, List.getElem?_cons_zero]; rfl)
      · first | exact fun _ _ _ h => h | exact fun _ _ _ h => by cases h.1
      · rfl
      · ((intro wq hSq; (try dsimp only at hSq); go_simp); (try with_reducible rfl))
      try simp only [Act.put, List.setIfInBounds_toArray, List.set_cons_zero, List.set_cons_succ]
      refine wpAnyH_take (i := 9) (oi := ?_) (v := ?_) ?_ (by kernel_rfl) (by kernel_rfl) (by kernel_rfl) ?_ (Or.inl ⟨?_, ?_⟩) (by assumption) ?_
      rotate_left 2
      · (simp only [List.getElem?_toArray, List.getElem?_cons_succ, List.getElem?_cons_zero]; rfl)
      · first | exact fun _ _ _ h => h | exact fun _ _ _ h => by cases h.1
      · rfl
      · ((intro wq hSq; (try dsimp only at hSq); go_simp); (try with_reducible rfl))
      try simp only [Act.put, List.setIfInBounds_toArray, List.set_cons_zero, List.set_cons_succ]
      refine wpAnyH_ready (rs := [10]) (by kernel_rfl) (by simp) ?_
      refine AllReadyH.cons (o := ?_) ?_ (fun K hK => ?_) AllReadyH.nil
      rotate_left
      · (simp only [List.getElem?_toArray, List.getElem?_cons_succ, List.getElem?_cons_zero]; rfl)
      · go_simp
        go_at_call 29
        refine (HCL.out wz hHeld.1).mono ?_
        rintro ex wx ⟨rfl, hbx⟩
        obtain ⟨qb, q0, q1, q2, q3, q4, q5, q6, q7, q8, q9, q10, q11, q12, q13, q14, q15⟩ := hHeld
        have key : ∀ {p : Addr} {u : Value}, wz.cell? p = some u → wx.cell? p = some u := fun {p u} hc => (hbx.cell (p := p) (cell_lt hc)).trans hc
        have hSx : (fun w' : World => Below w2.heap.size w2 w' ∧ w'.cell? ⟨n, 0, none⟩ = some (.slice (some ⟨b, off, none⟩) s.ts.length ct) ∧ w'.cell? ⟨n + 1, 0, none⟩ = some (.slice (some ⟨b', off', none⟩) s.ts.length ct') ∧ w'.cell? ⟨b, off + k * 7, none⟩ = some (.int .i64 t.kd) ∧ w'.cell? ⟨b, off + k * 7 + 1, none⟩ = some (.int .i64 t.pr) ∧ w'.cell? ⟨b, off + k * 7 + 2, none⟩ = some (.int .i64 t.pe) ∧ w'.cell? ⟨b, off + k * 7 + 3, none⟩ = some (.int .i64 t.off) ∧ w'.cell? ⟨b, off + k * 7 + 4, none⟩ = some (.int .i64 t.dl) ∧ w'.cell? ⟨b, off + k * 7 + 5, none⟩ = some (.int .i64 t.ow) ∧ w'.cell? ⟨b, off + k * 7 + 6, none⟩ = some (.slice E t.code.length c) ∧ w'.cell? ⟨b', off' + k * 7, none⟩ = some (.int .i64 t.kd) ∧ w'.cell? ⟨b', off' + k * 7 + 1, none⟩ = some (.int .i64 t.pr) ∧ w'.cell? ⟨b', off' + k * 7 + 2, none⟩ = some (.int .i64 t.pe) ∧ w'.cell? ⟨b', off' + k * 7 + 3, none⟩ = some (.int .i64 t.off) ∧ w'.cell? ⟨b', off' + k * 7 + 4, none⟩ = some (.int .i64 t.dl) ∧ w'.cell? ⟨b', off' + k * 7 + 5, none⟩ = some (.int .i64 t.ow) ∧ w'.cell? ⟨b', off' + k * 7 + 6, none⟩ = some (.slice E' t.code.length c')) wx := ⟨qb.trans (hbx.mono qb.size), key q0, key q1, key q2, key q3, key q4, key q5, key q6, key q7, key q8, key q9, key q10, key q11, key q12, key q13, key q14, key q15⟩
        clear key hbx qb q0 q1 q2 q3 q4 q5 q6 q7 q8 q9 q10 q11 q12 q13 q14 q15
        refine hK.out _ _ hSx (fun hHeld => ?_)
        clear hK K
        try simp only [Act.put, List.setIfInBounds_toArray, List.set_cons_zero, List.set_cons_succ]
        refine wpAnyH_take (i := 11) (oi := ?_) (v := ?_) ?_ (by kernel_rfl) (by kernel_rfl) (by kernel_rfl) ?_ (Or.inl ⟨?_, ?_⟩) (by assumption) ?_
        rotate_left 2
        · (simp only [List.getElem?_toArray, List.getElem?_cons_succ, List.getElem?_cons_zero]; rfl)
        · first | exact fun _ _ _ h => h | exact fun _ _ _ h => by cases h.1
        · rfl
        · ((intro wq hSq; (try dsimp only at hSq); go_simp); (try with_reducible rfl))
        try simp only [Act.put, List.setIfInBounds_toArray, List.set_cons_zero, List.set_cons_succ]
        refine wpAnyH_done (by kernel_rfl) ?_ _
        have HBX := Lib.hid hSx.1
        clear hSd hSx hHeld
        go_wp2_with fail
        go_roundw
        case rel => exact ⟨k + 1, by omega, by go_num, HBX.out⟩
        case measure => simp [intOf]; omega
    · have HBW := Lib.hid hbw
      have j0 := (hbw.cell (p := ⟨n, 1, none⟩) (show n < w2.heap.size by have := HS.out; have := HN.out; omega)).trans HA1.out
      clear hbw hk
      go_wp2_with fail
      clear j0 hlt
      go_loopw [45] (fun j wr => ∃ k : Nat, k ≤ s.os.length ∧ j = .int .i64 k ∧ Below w2.heap.size w2 wr) (fun j _ => s.os.length - (intOf j).toNat)
      case atStart => exact ⟨0, Nat.zero_le _, rfl, HBW.out⟩
      case round =>
        obtain ⟨k, hk, rfl, hbw⟩ := hrel
        by_cases hlt : k < s.os.length
        · obtain ⟨o, hx⟩ := get_some hlt
          obtain ⟨b, off, I, ci, R, cr, hA, hlb, ⟨z0, z1, z2, z3, z4, z5, z6, z7⟩, ⟨hI, _⟩, ⟨hR, _⟩, _, _⟩ := HO.out k o hx
          subst hA
          have g0 := (hbw.cell (p := ⟨b, off + k * 8, none⟩) hlb).trans z0
          have g1 := (hbw.cell (p := ⟨b, off + k * 8 + 1, none⟩) hlb).trans z1
          have g2 := (hbw.cell (p := ⟨b, off + k * 8 + 2, none⟩) hlb).trans z2
          have g3 := (hbw.cell (p := ⟨b, off + k * 8 + 3, none⟩) hlb).trans z3
          have g4 := (hbw.cell (p := ⟨b, off + k * 8 + 4, none⟩) hlb).trans z4
          have g5 := (hbw.cell (p := ⟨b, off + k * 8 + 5, none⟩) hlb).trans z5
          have g6 := (hbw.cell (p := ⟨b, off + k * 8 + 6, none⟩) hlb).trans z6
          have g7 := (hbw.cell (p := ⟨b, off + k * 8 + 7, none⟩) hlb).trans z7
          clear z0 z1 z2 z3 z4 z5 z6 z7
          obtain ⟨b', off', I', ci', R', cr', hA', hlb', ⟨z0, z1, z2, z3, z4, z5, z6, z7⟩, ⟨hI', _⟩, ⟨hR', _⟩, _, _⟩ := HO'.out k o hx
          subst hA'
          have h0 := (hbw.cell (p := ⟨b', off' + k * 8, none⟩) hlb').trans z0
          have h1 := (hbw.cell (p := ⟨b', off' + k * 8 + 1, none⟩) hlb').trans z1
          have h2 := (hbw.cell (p := ⟨b', off' + k * 8 + 2, none⟩) hlb').trans z2
          have h3 := (hbw.cell (p := ⟨b', off' + k * 8 + 3, none⟩) hlb').trans z3
          have h4 := (hbw.cell (p := ⟨b', off' + k * 8 + 4, none⟩) hlb').trans z4
          have h5 := (hbw.cell (p := ⟨b', off' + k * 8 + 5, none⟩) hlb').trans z5
          have h6 := (hbw.cell (p := ⟨b', off' + k * 8 + 6, none⟩) hlb').trans z6
          have h7 := (hbw.cell (p := ⟨b', off' + k * 8 + 7, none⟩) hlb').trans z7
          clear z0 z1 z2 z3 z4 z5 z6 z7
          have hnl : n + 1 < w2.heap.size := by have := HS.out; have := HN.out; omega
          have j0 := (hbw.cell (p := ⟨n, 1, none⟩) (show n < w2.heap.size by omega)).trans HA1.out
          have j1 := (hbw.cell (p := ⟨n + 1, 1, none⟩) hnl).trans HB1.out
          have key : ∀ {p : Addr} {u : Value}, wr.cell? p = some u → wr.drew.cell? p = some u := fun {p u} hc => ((Below.refl wr.heap.size wr).drew.cell (p := p) (cell_lt hc)).trans hc
          have hSd : (fun w' : World => Below w2.heap.size w2 w' ∧ w'.cell? ⟨n, 1, none⟩ = some (.slice (some ⟨b, off, none⟩) s.os.length co) ∧ w'.cell? ⟨n + 1, 1, none⟩ = some (.slice (some ⟨b', off', none⟩) s.os.length co') ∧ w'.cell? ⟨b, off + k * 8, none⟩ = some (.int .i64 o.kd) ∧ w'.cell? ⟨b, off + k * 8 + 1, none⟩ = some (.int .i64 o.wd) ∧ w'.cell? ⟨b, off + k * 8 + 2, none⟩ = some (.int .i64 o.sl) ∧ w'.cell? ⟨b, off + k * 8 + 3, none⟩ = some (.int .i64 o.cp) ∧ w'.cell? ⟨b, off + k * 8 + 4, none⟩ = some (.int .u32 o.st) ∧ w'.cell? ⟨b, off + k * 8 + 5, none⟩ = some (.slice I o.ini.length ci) ∧ w'.cell? ⟨b, off + k * 8 + 6, none⟩ = some (.int .i64 o.wr) ∧ w'.cell? ⟨b, off + k * 8 + 7, none⟩ = some (.slice R o.rd.length cr) ∧ w'.cell? ⟨b', off' + k * 8, none⟩ = some (.int .i64 o.kd) ∧ w'.cell? ⟨b', off' + k * 8 + 1, none⟩ = some (.int .i64 o.wd) ∧ w'.cell? ⟨b', off' + k * 8 + 2, none⟩ = some (.int .i64 o.sl) ∧ w'.cell? ⟨b', off' + k * 8 + 3, none⟩ = some (.int .i64 o.cp) ∧ w'.cell? ⟨b', off' + k * 8 + 4, none⟩ = some (.int .u32 o.st) ∧ w'.cell? ⟨b', off' + k * 8 + 5, none⟩ = some (.slice I' o.ini.length ci') ∧ w'.cell? ⟨b', off' + k * 8 + 6, none⟩ = some (.int .i64 o.wr) ∧ w'.cell? ⟨b', off' + k * 8 + 7, none⟩ = some (.slice R' o.rd.length cr')) wr.drew := ⟨hbw.drew, key j0, key j1, key g0, key g1, key g2, key g3, key g4, key g5, key g6, key g7, key h0, key h1, key h2, key h3, key h4, key h5, key h6, key h7⟩
          have hkl : (k : Int) < (s.os.length : Int) := by omega
          clear key g0 g1 g2 g3 g4 g5 g6 g7 h0 h1 h2 h3 h4 h5 h6 h7 j0 j1
          have hcl := HJ.out o (List.mem_of_getElem? hx)
          have HCL := Lib.hid (fun W (hb : Below w2.heap.size w2 W) => pobject_same o I I' R R' ci ci' cr cr' W hcl.1 hcl.2 (hI.below hb hb.size) (hI'.below hb hb.size) (hR.below hb hb.size) (hR'.below hb hb.size))
          clear hx hI hI' hR hR' hcl
          go_wp2_with fail
          refine wp_region_held_drew (S := (fun w' : World => Below w2.heap.size w2 w' ∧ w'.cell? ⟨n, 1, none⟩ = some (.slice (some ⟨b, off, none⟩) s.os.length co) ∧ w'.cell? ⟨n + 1, 1, none⟩ = some (.slice (some ⟨b', off', none⟩) s.os.length co') ∧ w'.cell? ⟨b, off + k * 8, none⟩ = some (.int .i64 o.kd) ∧ w'.cell? ⟨b, off + k * 8 + 1, none⟩ = some (.int .i64 o.wd) ∧ w'.cell? ⟨b, off + k * 8 + 2, none⟩ = some (.int .i64 o.sl) ∧ w'.cell? ⟨b, off + k * 8 + 3, none⟩ = some (.int .i64 o.cp) ∧ w'.cell? ⟨b, off + k * 8 + 4, none⟩ = some (.int .u32 o.st) ∧ w'.cell? ⟨b, off + k * 8 + 5, none⟩ = some (.slice I o.ini.length ci) ∧ w'.cell? ⟨b, off + k * 8 + 6, none⟩ = some (.int .i64 o.wr) ∧ w'.cell? ⟨b, off + k * 8 + 7, none⟩ = some (.slice R o.rd.length cr) ∧ w'.cell? ⟨b', off' + k * 8, none⟩ = some (.int .i64 o.kd) ∧ w'.cell? ⟨b', off' + k * 8 + 1, none⟩ = some (.int .i64 o.wd) ∧ w'.cell? ⟨b', off' + k * 8 + 2, none⟩ = some (.int .i64 o.sl) ∧ w'.cell? ⟨b', off' + k * 8 + 3, none⟩ = some (.int .i64 o.cp) ∧ w'.cell? ⟨b', off' + k * 8 + 4, none⟩ = some (.int .u32 o.st) ∧ w'.cell? ⟨b', off' + k * 8 + 5, none⟩ = some (.slice I' o.ini.length ci') ∧ w'.cell? ⟨b', off' + k * 8 + 6, none⟩ = some (.int .i64 o.wr) ∧ w'.cell? ⟨b', off' + k * 8 + 7, none⟩ = some (.slice R' o.rd.length cr'))) (by kernel_rfl) hSd (fun hHeld => ?_)
          generalize wr.drew = wz at hSd hHeld ⊢
          have hHeld : (fun w' : World => Below w2.heap.size w2 w' ∧ w'.cell? ⟨n, 1, none⟩ = some (.slice (some ⟨b, off, none⟩) s.os.length co) ∧ w'.cell? ⟨n + 1, 1, none⟩ = some (.slice (some ⟨b', off', none⟩) s.os.length co') ∧ w'.cell? ⟨b, off + k * 8, none⟩ = some (.int .i64 o.kd) ∧ w'.cell? ⟨b, off + k * 8 + 1, none⟩ = some (.int .i64 o.wd) ∧ w'.cell? ⟨b, off + k * 8 + 2, none⟩ = some (.int .i64 o.sl) ∧ w'.cell? ⟨b, off + k * 8 + 3, none⟩ = some (.int .i64 o.cp) ∧ w'.cell? ⟨b, off + k * 8 + 4, none⟩ = some (.int .u32 o.st) ∧ w'.cell? ⟨b, off + k * 8 + 5, none⟩ = some (.slice I o.ini.length ci) ∧ w'.cell? ⟨b, off + k * 8 + 6, none⟩ = some (.int .i64 o.wr) ∧ w'.cell? ⟨b, off + k * 8 + 7, none⟩ = some (.slice R o.rd.length cr) ∧ w'.cell? ⟨b', off' + k * 8, none⟩ = some (.int .i64 o.kd) ∧ w'.cell? ⟨b', off' + k * 8 + 1, none⟩ = some (.int .i64 o.wd) ∧ w'.cell? ⟨b', off' + k * 8 + 2, none⟩ = some (.int .i64 o.sl) ∧ w'.cell? ⟨b', off' + k * 8 + 3, none⟩ = some (.int .i64 o.cp) ∧ w'.cell? ⟨b', off' + k * 8 + 4, none⟩ = some (.int .u32 o.st) ∧ w'.cell? ⟨b', off' + k * 8 + 5, none⟩ = some (.slice I' o.ini.length ci') ∧ w'.cell? ⟨b', off' + k * 8 + 6, none⟩ = some (.int .i64 o.wr) ∧ w'.cell? ⟨b', off' + k * 8 + 7, none⟩ = some (.slice R' o.rd.length cr')) wz := hHeld
          refine wpAnyH_take (i := 0) (oi := ?_) (v := ?_) ?_ (by kernel_rfl) (by kernel_rfl) (by kernel_rfl) ?_ (Or.inl ⟨?_, ?_⟩) (by assumption) ?_
          rotate_left 2
          · (simp only [List.getElem?_toArray, List.getElem?_cons_zero]; rfl)
          · first | exact fun _ _ _ h => h | exact fun _ _ _ h => by cases h.1
          · rfl
          · ((intro wq hSq; (try dsimp only at hSq); go_simp); (try with_reducible rfl))
          try simp only [Act.put, List.setIfInBounds_toArray, List.set_cons_zero, List.set_cons_succ]
          refine wpAnyH_take (i := 1) (oi := ?_) (v := ?_) ?_ (by kernel_rfl) (by kernel_rfl) (by kernel_rfl) ?_ (Or.inl ⟨?_, ?_⟩) (by assumption) ?_
          rotate_left 2
          · (simp only [List.getElem?_toArray, List.getElem?_cons_succ, List.getElem?_cons_zero]; rfl)
          · first | exact fun _ _ _ h => h | exact fun _ _ _ h => by cases h.1
          · rfl
          · ((intro wq hSq; (try dsimp only at hSq); go_simp); (try with_reducible rfl))
          try simp only [Act.put, List.setIfInBounds_toArray, List.set_cons_zero, List.set_cons_succ]
          refine wpAnyH_take (i := 2) (oi := ?_) (v := ?_) ?_ (by kernel_rfl) (by kernel_rfl) (by kernel_rfl) ?_ (Or.inl ⟨?_, ?_⟩) (by assumption) ?_
          rotate_left 2
          · (simp only [List.getElem?_toArray, List.getElem?_cons_succ, List.getElem?_cons_zero]; rfl)
          · first | exact fun _ _ _ h => h | exact fun _ _ _ h => by cases h.1
          · rfl
          · ((intro wq hSq; (try dsimp only at hSq); go_simp); (try with_reducible rfl))
          try simp only [Act.put, List.setIfInBounds_toArray, List.set_cons_zero, List.set_cons_succ]
          refine wpAnyH_take (i := 3) (oi := ?_) (v := ?_) ?_ (by kernel_rfl) (by kernel_rfl) (by kernel_rfl) ?_ (Or.inl ⟨?_, ?_⟩) (by assumption) ?_
          rotate_left 2
          · (simp only [List.getElem?_toArray, List.getElem?_cons_succ, List.getElem?_cons_zero]; rfl)
          · first | exact fun _ _ _ h => h | exact fun _ _ _ h => by cases h.1
          · rfl
          · ((intro wq hSq; (try dsimp only at hSq); go_simp); (try with_reducible rfl))
          try simp only [Act.put, List.setIfInBounds_toArray, List.set_cons_zero, List.set_cons_succ]
          refine wpAnyH_take (i := 4) (oi := ?_) (v := ?_) ?_ (by kernel_rfl) (by kernel_rfl) (by kernel_rfl) ?_ (Or.inl ⟨?_, ?_⟩) (by assumption) ?_
          rotate_left 2
          · (simp only [List.getElem?_toArray, List.getElem?_cons_succ, List.getElem?_cons_zero]; rfl)
          · first | exact fun _ _ _ h => h | exact fun _ _ _ h => by cases h.1
          · rfl
          · ((intro wq hSq; (try dsimp only at hSq); go_simp); (try with_reducible rfl))
          try simp only [Act.put, List.setIfInBounds_toArray, List.set_cons_zero, List.set_cons_succ]
          refine wpAnyH_take (i := 5) (oi := ?_) (v := ?_) ?_ (by kernel_rfl) (by kernel_rfl) (by kernel_rfl) ?_ (Or.inl ⟨?_, ?_⟩) (by assumption) ?_
          rotate_left 2
          · (simp only [List.getElem?_toArray, List.getElem?_cons_succ, List.getElem?_cons_zero]; rfl)
          · first | exact fun _ _ _ h => h | exact fun _ _ _ h => by cases h.1
          · rfl
          · ((intro wq hSq; (try dsimp only at hSq); go_simp); (try with_reducible rfl))
          try simp only [Act.put, List.setIfInBounds_toArray, List.set_cons_zero, List.set_cons_succ]
          refine wpAnyH_take (i := 6) (oi := ?_) (v := ?_) ?_ (by kernel_rfl) (by kernel_rfl) (by kernel_rfl) ?_ (Or.inl ⟨?_, ?_⟩) (by assumption) ?_
          rotate_left 2
          · (simp only [List.getElem?_toArray, List.getElem?_cons_succ, List.getElem?_cons_zero]; rfl)
          · first | exact fun _ _ _ h => h | exact fun _ _ _ h => by cases h.1
          · rfl
          · ((intro wq hSq; (try dsimp only at hSq); go_simp); (try with_reducible rfl))
          try simp only [Act.put, List.setIfInBounds_toArray, List.set_cons_zero, List.set_cons_succ]
          refine wpAnyH_take (i := 7) (oi := ?_) (v := ?_) ?_ (by kernel_rfl) (by kernel_rfl) (by kernel_rfl) ?_ (Or.inl ⟨?_, ?_⟩) (by assumption) ?_
          rotate_left 2
          · (simp only [List.getElem?_toArray, List.getElem?_cons_succ, List.getElem?_cons_zero]; rfl)
          · first | exact fun _ _ _ h => h | exact fun _ _ _ h => by cases h.1
          · rfl
          · ((intro wq hSq; (try dsimp only at hSq); go_simp); (try with_reducible rfl))
          try simp only [Act.put, List.setIfInBounds_toArray, List.set_cons_zero, List.set_cons_succ]
          refine wpAnyH_take (i := 8) (oi := ?_) (v := ?_) ?_ (by kernel_rfl) (by kernel_rfl) (by kernel_rfl) ?_ (Or.inl ⟨?_, ?_⟩) (by assumption) ?_
          rotate_left 2
          · (simp only [List.getElem?_toArray, List.getElem?_cons_succ, List.getElem?_cons_zero]; rfl)
          · first | exact fun _ _ _ h => h | exact fun _ _ _ h => by cases h.1
          · rfl
          · ((intro wq hSq; (try dsimp only at hSq); go_simp); (try with_reducible rfl))
          try simp only [Act.put, List.setIfInBounds_toArray, List.set_cons_zero, List.set_cons_succ]
          refine wpAnyH_take (i := 9) (oi := ?_) (v := ?_) ?_ (by kernel_rfl) (by kernel_rfl) (by kernel_rfl) ?_ (Or.inl ⟨?_, ?_⟩) (by assumption) ?_
          rotate_left 2
          · (simp only [List.getElem?_toArray, List.getElem?_cons_succ, List.getElem?_cons_zero]; rfl)
          · first | exact fun _ _ _ h => h | exact fun _ _ _ h => by cases h.1
          · rfl
          · ((intro wq hSq; (try dsimp only at hSq); go_simp); (try with_reducible rfl))
          try simp only [Act.put, List.setIfInBounds_toArray, List.set_cons_zero, List.set_cons_succ]
          refine wpAnyH_ready (rs := [10]) (by kernel_rfl) (by simp) ?_
          refine AllReadyH.cons (o := ?_) ?_ (fun K hK => ?_) AllReadyH.nil
          rotate_left
          · (simp only [List.getElem?_toArray, List.getElem?_cons_succ, List.getElem?_cons_zero]; rfl)
          · go_simp
            go_at_call 30
            refine (HCL.out wz hHeld.1).mono ?_
            rintro ex wx ⟨rfl, hbx⟩
            obtain ⟨qb, q0, q1, q2, q3, q4, q5, q6, q7, q8, q9, q10, q11, q12, q13, q14, q15, q16, q17⟩ := hHeld
            have key : ∀ {p : Addr} {u : Value}, wz.cell? p = some u → wx.cell? p = some u := fun {p u} hc => (hbx.cell (p := p) (cell_lt hc)).trans hc
            have hSx : (fun w' : World => Below w2.heap.size w2 w' ∧ w'.cell? ⟨n, 1, none⟩ = some (.slice (some ⟨b, off, none⟩) s.os.length co) ∧ w'.cell? ⟨n + 1, 1, none⟩ = some (.slice (some ⟨b', off', none⟩) s.os.length co') ∧ w'.cell? ⟨b, off + k * 8, none⟩ = some (.int .i64 o.kd) ∧ w'.cell? ⟨b, off + k * 8 + 1, none⟩ = some (.int .i64 o.wd) ∧ w'.cell? ⟨b, off + k * 8 + 2, none⟩ = some (.int .i64 o.sl) ∧ w'.cell? ⟨b, off + k * 8 + 3, none⟩ = some (.int .i64 o.cp) ∧ w'.cell? ⟨b, off + k * 8 + 4, none⟩ = some (.int .u32 o.st) ∧ w'.cell? ⟨b, off + k * 8 + 5, none⟩ = some (.slice I o.ini.length ci) ∧ w'.cell? ⟨b, off + k * 8 + 6, none⟩ = some (.int .i64 o.wr) ∧ w'.cell? ⟨b, off + k * 8 + 7, none⟩ = some (.slice R o.rd.length cr) ∧ w'.cell? ⟨b', off' + k * 8, none⟩ = some (.int .i64 o.kd) ∧ w'.cell? ⟨b', off' + k * 8 + 1, none⟩ = some (.int .i64 o.wd) ∧ w'.cell? ⟨b', off' + k * 8 + 2, none⟩ = some (.int .i64 o.sl) ∧ w'.cell? ⟨b', off' + k * 8 + 3, none⟩ = some (.int .i64 o.cp) ∧ w'.cell? ⟨b', off' + k * 8 + 4, none⟩ = some (.int .u32 o.st) ∧ w'.cell? ⟨b', off' + k * 8 + 5, none⟩ = some (.slice I' o.ini.length ci') ∧ w'.cell? ⟨b', off' + k * 8 + 6, none⟩ = some (.int .i64 o.wr) ∧ w'.cell? ⟨b', off' + k * 8 + 7, none⟩ = some (.slice R' o.rd.length cr')) wx := ⟨qb.trans (hbx.mono qb.size), key q0, key q1, key q2, key q3, key q4, key q5, key q6, key q7, key q8, key q9, key q10, key q11, key q12, key q13, key q14, key q15, key q16, key q17⟩
            clear key hbx qb q0 q1 q2 q3 q4 q5 q6 q7 q8 q9 q10 q11 q12 q13 q14 q15 q16 q17
            refine hK.out _ _ hSx (fun hHeld => ?_)
            clear hK K
            try simp only [Act.put, List.setIfInBounds_toArray, List.set_cons_zero, List.set_cons_succ]
            refine wpAnyH_take (i := 11) (oi := ?_) (v := ?_) ?_ (by kernel_rfl) (by kernel_rfl) (by kernel_rfl) ?_ (Or.inl ⟨?_, ?_⟩) (by assumption) ?_
            rotate_left 2
            · (simp only [List.getElem?_toArray, List.getElem?_cons_succ, List.getElem?_cons_zero]; rfl)
            · first | exact fun _ _ _ h => h | exact fun _ _ _ h => by cases h.1
            · rfl
            · ((intro wq hSq; (try dsimp only at hSq); go_simp); (try with_reducible rfl))
            try simp only [Act.put, List.setIfInBounds_toArray, List.set_cons_zero, List.set_cons_succ]
            refine wpAnyH_done (by kernel_rfl) ?_ _
            have HBX := Lib.hid hSx.1
            clear hSd hSx hHeld
            go_wp2_with fail
            go_roundw
            case rel => exact ⟨k + 1, by omega, by go_num, HBX.out⟩
            case measure => simp [intOf]; omega
        · have HBW := Lib.hid hbw
          clear hbw hk
          go_wp2_with fail
          go_ret
          exact ⟨rfl, HB.out.trans (HBW.out.mono (by have := HB.out.size; omega)) |> fun h => by rw [HN.out]; exact h⟩

end Go.Proofs.YtfgmebjbibbpdaaGreatDoor

namespace Go.Proofs.YtfgmebjbibbpdaaGreatDoor
open Go.RowKit
attribute [local go_sem] Oper.semAt_some

theorem empT_parse : parseS [] = ⟨Sy.none, 0, 0⟩ := rfl
/-- Reading what was printed. -/
theorem back_read {s : Sy} {w : World} {B : Nat} {At Ao : Option Addr} (ht : TkSl w B At s.ts) (ho : OjSl w B Ao s.os) (hf : fewS s = true) : (printT s).size ≤ 65536 ∧ (∀ x ∈ lns (printT s).data.toList, x.length ≤ 3000) ∧ (printOk s = true → parseS (printT s).data.toList = ⟨s, 0, 0⟩) ∧ (printOk s = false → printT s = ⟨#[]⟩) := by
  have hk := ok_of ht ho
  cases hp : printOk s with
  | true =>
    have h2 := hp
    unfold printOk at h2
    rw [Bool.and_eq_true, decide_eq_true_iff] at h2
    rw [printT_ok hp]
    exact ⟨by show (sysT s).toArray.size ≤ _; rw [List.size_toArray]; exact h2.2, print_bd hp hk (fewS_bd hf).2.2.2, fun _ => sys_back hp hk, fun e => by cases e⟩
  | false =>
    rw [printT_bad hp]
    exact ⟨by decide, (fun x hx => by cases hx), (fun e => by cases e), fun _ => rfl⟩
theorem sback_big (s : Sy) (t : ByteArray) (At Ao : Option Addr) (ct co : Nat) (w : World) (hnt : s.ts.length ≤ maxLen) (hno : s.os.length ≤ maxLen) (ht : TkSl w w.heap.size At s.ts) (ho : OjSl w w.heap.size Ao s.os) (hT : Tab w) (hM : Mx w) (hbig : fewS s = false ∨ 3000 < t.size) :
    Calls Tryz.prog 5 #[.agg #[.slice At s.ts.length ct, .slice Ao s.os.length co], .string t] w fun e w' => e = .returned (.bool true) ∧ Below w.heap.size w w' := by
  unfold maxLen at hnt hno
  have h1 := fun W ht ho => few_any s At Ao ct co W (by omega) (by omega) ht ho
  have hb1 := (Below.refl w.heap.size w).alloc (Nat.le_refl _) (.cells #[.slice At s.ts.length ct, .slice Ao s.os.length co] 25)
  have hT1 := hT.below hb1
  have hM1 := hM.below hb1
  have ht1 := ht.below hb1 hb1.size
  have ho1 := ho.below hb1 hb1.size
  cases hf : fewS s with
  | false =>
    rw [hf] at h1
    have H1 := Lib.hid h1
    clear h1 hf ht ho hT hM hbig
    go_enter Tryz.func5, Tryz.ntmps5
    go_wp2_with fail
    obtain ⟨w1, hw1⟩ : ∃ x, w.alloc (.cells #[.slice At s.ts.length ct, .slice Ao s.os.length co] 25) = x := ⟨_, rfl⟩
    rw [hw1] at hb1 hT1 hM1 ht1 ho1 ⊢
    refine (H1.out w1 ht1 ho1).mono ?_
    rintro e w2 ⟨rfl, hb2⟩
    go_wp2_with fail
    refine (awake_any _ (hT1.below hb2) (hM1.below hb2)).mono ?_
    rintro e w3 ⟨rfl, hb3⟩
    go_wp2_with fail
    go_ret
    exact ⟨rfl, hb1.trans ((hb2.trans (hb3.mono hb2.size)).mono hb1.size)⟩
  | true =>
    have hbt : 3000 < t.size := by
      rcases hbig with h | h
      · rw [hf] at h; cases h
      · exact h
    have t2 : decide ((3000 : Int) < (t.size : Int)) = true := by rw [decide_eq_true_iff]; omega
    rw [hf] at h1
    have H1 := Lib.hid h1
    clear h1 hf ht ho hT hM hbig
    go_enter Tryz.func5, Tryz.ntmps5
    go_wp2_with fail
    obtain ⟨w1, hw1⟩ : ∃ x, w.alloc (.cells #[.slice At s.ts.length ct, .slice Ao s.os.length co] 25) = x := ⟨_, rfl⟩
    rw [hw1] at hb1 hT1 hM1 ht1 ho1 ⊢
    refine (H1.out w1 ht1 ho1).mono ?_
    rintro e w2 ⟨rfl, hb2⟩
    go_wp2_with fail
    refine (awake_any _ (hT1.below hb2) (hM1.below hb2)).mono ?_
    rintro e w3 ⟨rfl, hb3⟩
    go_wp2_with fail
    go_ret
    exact ⟨rfl, hb1.trans ((hb2.trans (hb3.mono hb2.size)).mono hb1.size)⟩
set_option maxRecDepth 100000 in
set_option maxHeartbeats 4000000 in
theorem sback_small (s : Sy) (t : ByteArray) (At Ao : Option Addr) (ct co : Nat) (w : World) (hf : fewS s = true) (hts : t.size ≤ 3000) (ht : TkSl w w.heap.size At s.ts) (ho : OjSl w w.heap.size Ao s.os) (hT : Tab w) (hM : Mx w) :
    Calls Tryz.prog 5 #[.agg #[.slice At s.ts.length ct, .slice Ao s.os.length co], .string t] w fun e w' => e = .returned (.bool true) ∧ Below w.heap.size w w' := by
  obtain ⟨f1, f2, f3, f4⟩ := fewS_bd hf
  obtain ⟨b1, b2, b3, b4⟩ := back_read ht ho hf
  have h1 := fun W ht ho => few_any s At Ao ct co W (by omega) (by omega) ht ho
  rw [hf] at h1
  have h2 := fun W ht ho hT => sprint_any s At Ao ct co W ht ho (fun t h => by have := f2 t h; omega) (fun o h => by have := f4 o h; omega) (by omega) (by omega) hT
  have h3 := fun W hT hM => sparse_any (printT s) W b1 b2 hT hM
  have hlen : t.data.toList.length = t.size := Array.length_toList
  have h4 := fun W hT hM => sparse_any t W (by omega) (fun x hx => by have := lns_mem t.data.toList x hx; omega) hT hM
  obtain ⟨z1, z2, z3, z4⟩ := parse_sz t.data.toList
  have hpp := parsed_prints t.data.toList (by omega)
  have t2 : decide ((3000 : Int) < (t.size : Int)) = false := by rw [decide_eq_false_iff_not]; omega
  obtain ⟨P, hP⟩ : ∃ x, printT s = x := ⟨_, rfl⟩
  obtain ⟨pk, hpk⟩ : ∃ x, printOk s = x := ⟨_, rfl⟩
  rw [hP] at b3 b4
  rw [hP, hpk] at h2
  rw [hP] at h3
  rw [hpk] at b3 b4
  unfold ParR at h3 h4
  obtain ⟨G, hG⟩ : ∃ x, parseS t.data.toList = x := ⟨_, rfl⟩
  rw [hG] at h4 z1 z2 z3 z4 hpp
  obtain ⟨z, at_, er⟩ := G
  simp only at h4 z1 z2 z3 z4 hpp
  have h5 := fun (W : World) (A B : Option Addr) (c d : Nat) (h1 : TkSl W W.heap.size A z.ts) (h2 : OjSl W W.heap.size B z.os) (h3 : Tab W) => sprint_any z A B c d W h1 h2 (fun t h => by have := z3 t h; omega) (fun o h => by have := z4 o h; omega) (by omega) (by omega) h3
  have h6 := fun (W : World) (A B A' B' : Option Addr) (c d c' d' : Nat) => psystem_same s A B A' B' c d c' d' W (by omega) (by omega) (fun t h => by have := f2 t h; omega) (fun o h => by have := f4 o h; omega)
  have r1 := RowB.new w #[.slice At s.ts.length ct, .slice Ao s.os.length co] 25
  have hb1 := (Below.refl w.heap.size w).alloc (Nat.le_refl _) (.cells #[.slice At s.ts.length ct, .slice Ao s.os.length co] 25)
  have hT1 := hT.below hb1
  have hM1 := hM.below hb1
  have ht1 := ht.below hb1 hb1.size
  have ho1 := ho.below hb1 hb1.size
  have H1 := Lib.hid h1
  have H2 := Lib.hid h2
  have H4 := Lib.hid h4
  have H5 := Lib.hid h5
  have H6 := Lib.hid h6
  have HPP := Lib.hid hpp
  have HP := Lib.hid hP
  clear h1 h2 h4 h5 h6 hpp hf ht ho hT hM f1 f2 f3 f4 b1 b2 z1 z2 z3 z4 hG hlen hP
  cases pk with
  | true =>
    have hb := b3 rfl
    rw [hb] at h3
    simp only at h3
    have H3 := Lib.hid h3
    clear h3 hb b3 b4 hpk
    go_enter Tryz.func5, Tryz.ntmps5
    go_wp2_with fail
    obtain ⟨w1, hw1⟩ : ∃ x, w.alloc (.cells #[.slice At s.ts.length ct, .slice Ao s.os.length co] 25) = x := ⟨_, rfl⟩
    obtain ⟨n, hn⟩ : ∃ n, w.heap.size = n := ⟨_, rfl⟩
    rw [hn] at r1 hb1
    rw [hw1] at r1 hb1 hT1 hM1 ht1 ho1 ⊢
    rw [hn] at ⊢
    refine (H1.out w1 ht1 ho1).mono ?_
    rintro e w2 ⟨rfl, hb2⟩
    have r2 := r1.kept hb2
    have c0 := r2.cell 0
    have c1 := r2.cell 1
    simp only [List.getElem?_toArray, List.getElem?_cons_zero, List.getElem?_cons_succ] at c0 c1
    go_wp2_with fail
    refine (H2.out w2 (ht1.below hb2 hb2.size) (ho1.below hb2 hb2.size) (hT1.below hb2)).mono ?_
    rintro e w3 ⟨rfl, hb3⟩
    have hb13 := hb2.trans (hb3.mono hb2.size)
    go_wp2_with fail
    refine (H3.out w3 (hT1.below hb13) (hM1.below hb13)).mono ?_
    rintro e w4 ⟨At2, ct2, Ao2, co2, rfl, ht4, ho4, hb4⟩
    have hb14 := hb13.trans (hb4.mono hb13.size)
    clear c0 c1
    have r5 := RowB.new w4 #[.slice At2 s.ts.length ct2, .slice Ao2 s.os.length co2] 25
    have hb5 := (Below.refl w4.heap.size w4).alloc (Nat.le_refl _) (.cells #[.slice At2 s.ts.length ct2, .slice Ao2 s.os.length co2] 25)
    have hb15 := hb14.trans (hb5.mono hb14.size)
    have r25 := (r1.kept hb15)
    have ht5 := ht1.below hb15 hb15.size
    have ho5 := ho1.below hb15 hb15.size
    have ht45 := ht4.below hb5 hb5.size
    have ho45 := ho4.below hb5 hb5.size
    have HS := Lib.hid (H6.out _ At2 Ao2 At Ao ct2 co2 ct co ht45 ho45 ht5 ho5)
    have c0 := r25.cell 0
    have c1 := r25.cell 1
    simp only [List.getElem?_toArray, List.getElem?_cons_zero, List.getElem?_cons_succ] at c0 c1
    go_wp2_with fail
    obtain ⟨w5, hw5⟩ : ∃ x, w4.alloc (.cells #[.slice At2 s.ts.length ct2, .slice Ao2 s.os.length co2] 25) = x := ⟨_, rfl⟩
    rw [hw5] at HS hb15 r5 r25 ht5 ho5 ht45 ho45 hb5 ⊢
    clear hw5
    refine HS.out.mono ?_
    rintro e w6 ⟨rfl, hb6⟩
    have hb16 := hb15.trans (hb6.mono hb15.size)
    clear HS c0 c1
    have HB16 := Lib.hid hb16
    clear hb2 hb3 hb4 hb5 hb13 hb14 hb15 ht4 ho4 ht5 ho5 ht45 ho45 r5 r25 r2
    clear hb6
    go_wp2_with fail
    refine (H4.out w6 (hT1.below HB16.out) (hM1.below HB16.out)).mono ?_
    rintro e w7 ⟨Az, cz, Bz, dz, rfl, ht7, ho7, hb7⟩
    have r8 := RowB.new w7 #[.slice Az z.ts.length cz, .slice Bz z.os.length dz] 25
    have hb8 := (Below.refl w7.heap.size w7).alloc (Nat.le_refl _) (.cells #[.slice Az z.ts.length cz, .slice Bz z.os.length dz] 25)
    have ht8 := ht7.below hb8 hb8.size
    have ho8 := ho7.below hb8 hb8.size
    have hb18 := HB16.out.trans ((hb7.trans (hb8.mono hb7.size)).mono HB16.out.size)
    go_wp2_with fail
    obtain ⟨w8, hw8⟩ : ∃ x, w7.alloc (.cells #[.slice Az z.ts.length cz, .slice Bz z.os.length dz] 25) = x := ⟨_, rfl⟩
    obtain ⟨m, hm⟩ : ∃ m, w7.heap.size = m := ⟨_, rfl⟩
    rw [hm] at r8
    rw [hw8] at r8 hb8 ht8 ho8 hb18 ⊢
    rw [hm] at ⊢
    clear hw8
    refine (H5.out w8 Az Bz cz dz ht8 ho8 (hT1.below hb18)).mono ?_
    rintro e w9 ⟨rfl, hb9⟩
    have r9 := r8.kept hb9
    have ht9 := ht8.below hb9 hb9.size
    have ho9 := ho8.below hb9 hb9.size
    have hb19 := Lib.hid (hb18.trans (hb9.mono hb18.size))
    clear hb7 hb8 hb9 hb18 ht7 ho7 ht8 ho8 r8
    rcases HPP.out with ⟨h1, h2, h3⟩ | ⟨h1, h2⟩
    · subst h1
      rw [h2, h3]
      have q1 : ((⟨t.data.toList.toArray⟩ : ByteArray).toList == t.toList) = true := by rw [Array.toArray_toList]; simp
      have hAw := Lib.hid (awake_any w9 (hT1.below hb19.out) (hM1.below hb19.out))
      clear h2 h3 ht9 ho9 r9
      go_wp2_with fail
      refine hAw.out.mono ?_
      rintro e w10 ⟨rfl, hb10⟩
      go_wp2_with fail
      go_ret
      exact ⟨rfl, by rw [hn]; exact hb1.trans ((hb19.out.trans (hb10.mono hb19.out.size)).mono (by have := hb1.size; omega))⟩
    · subst h2
      have q1 : (er != 0) = true := by simpa using h1
      have q2 : (er == 0) = false := by simpa using h1
      have HS := Lib.hid (psystem_same Sy.none Az Bz none none cz dz 0 0 w9 (Nat.zero_le _) (Nat.zero_le _) (fun t h => by cases h) (fun o h => by cases h) ht9 ho9 (fun k t h => by cases h) (fun k t h => by cases h))
      have c0 := r9.cell 0
      have c1 := r9.cell 1
      simp only [List.getElem?_toArray, List.getElem?_cons_zero, List.getElem?_cons_succ] at c0 c1
      clear h1 ht9 ho9 r9
      go_wp2_with fail
      refine HS.out.mono ?_
      rintro e w10 ⟨rfl, hb10⟩
      have hb20 := hb19.out.trans (hb10.mono hb19.out.size)
      have hAw := Lib.hid (awake_any w10 (hT1.below hb20) (hM1.below hb20))
      go_wp2_with fail
      refine hAw.out.mono ?_
      rintro e w11 ⟨rfl, hb11⟩
      go_wp2_with fail
      go_ret
      exact ⟨rfl, by rw [hn]; exact hb1.trans ((hb20.trans (hb11.mono hb20.size)).mono (by have := hb1.size; omega))⟩
  | false =>
    have hb := b4 rfl
    subst hb
    rw [show (⟨#[]⟩ : ByteArray).data.toList = [] from rfl, empT_parse] at h3
    simp only at h3
    have H3 := Lib.hid h3
    clear h3 b3 b4 hpk
    go_enter Tryz.func5, Tryz.ntmps5
    go_wp2_with fail
    obtain ⟨w1, hw1⟩ : ∃ x, w.alloc (.cells #[.slice At s.ts.length ct, .slice Ao s.os.length co] 25) = x := ⟨_, rfl⟩
    obtain ⟨n, hn⟩ : ∃ n, w.heap.size = n := ⟨_, rfl⟩
    rw [hn] at r1 hb1
    rw [hw1] at r1 hb1 hT1 hM1 ht1 ho1 ⊢
    rw [hn] at ⊢
    refine (H1.out w1 ht1 ho1).mono ?_
    rintro e w2 ⟨rfl, hb2⟩
    have r2 := r1.kept hb2
    have c0 := r2.cell 0
    have c1 := r2.cell 1
    simp only [List.getElem?_toArray, List.getElem?_cons_zero, List.getElem?_cons_succ] at c0 c1
    go_wp2_with fail
    refine (H2.out w2 (ht1.below hb2 hb2.size) (ho1.below hb2 hb2.size) (hT1.below hb2)).mono ?_
    rintro e w3 ⟨rfl, hb3⟩
    have hb13 := hb2.trans (hb3.mono hb2.size)
    go_wp2_with fail
    refine (H3.out w3 (hT1.below hb13) (hM1.below hb13)).mono ?_
    rintro e w4 ⟨At2, ct2, Ao2, co2, rfl, ht4, ho4, hb4⟩
    have hb14 := hb13.trans (hb4.mono hb13.size)
    clear c0 c1
    have r5 := RowB.new w4 #[.slice At2 (Sy.none).ts.length ct2, .slice Ao2 (Sy.none).os.length co2] 25
    have hb5 := (Below.refl w4.heap.size w4).alloc (Nat.le_refl _) (.cells #[.slice At2 (Sy.none).ts.length ct2, .slice Ao2 (Sy.none).os.length co2] 25)
    have hb15 := hb14.trans (hb5.mono hb14.size)
    have r25 := (r1.kept hb15)
    have ht5 := ht1.below hb15 hb15.size
    have ho5 := ho1.below hb15 hb15.size
    have ht45 := ht4.below hb5 hb5.size
    have ho45 := ho4.below hb5 hb5.size
    have hb16 := hb15
    go_wp2_with fail
    obtain ⟨w6, hw6⟩ : ∃ x, w4.alloc (.cells #[.slice At2 (Sy.none).ts.length ct2, .slice Ao2 (Sy.none).os.length co2] 25) = x := ⟨_, rfl⟩
    have hb16 : Below w1.heap.size w1 w6 := by rw [← hw6]; exact hb15
    rw [hw6]
    clear hw6
    have HB16 := Lib.hid hb16
    clear hb2 hb3 hb4 hb5 hb13 hb14 hb15 ht4 ho4 ht5 ho5 ht45 ho45 r5 r25 r2
    go_wp2_with fail
    refine (H4.out w6 (hT1.below HB16.out) (hM1.below HB16.out)).mono ?_
    rintro e w7 ⟨Az, cz, Bz, dz, rfl, ht7, ho7, hb7⟩
    have r8 := RowB.new w7 #[.slice Az z.ts.length cz, .slice Bz z.os.length dz] 25
    have hb8 := (Below.refl w7.heap.size w7).alloc (Nat.le_refl _) (.cells #[.slice Az z.ts.length cz, .slice Bz z.os.length dz] 25)
    have ht8 := ht7.below hb8 hb8.size
    have ho8 := ho7.below hb8 hb8.size
    have hb18 := HB16.out.trans ((hb7.trans (hb8.mono hb7.size)).mono HB16.out.size)
    go_wp2_with fail
    obtain ⟨w8, hw8⟩ : ∃ x, w7.alloc (.cells #[.slice Az z.ts.length cz, .slice Bz z.os.length dz] 25) = x := ⟨_, rfl⟩
    obtain ⟨m, hm⟩ : ∃ m, w7.heap.size = m := ⟨_, rfl⟩
    rw [hm] at r8
    rw [hw8] at r8 hb8 ht8 ho8 hb18 ⊢
    rw [hm] at ⊢
    clear hw8
    refine (H5.out w8 Az Bz cz dz ht8 ho8 (hT1.below hb18)).mono ?_
    rintro e w9 ⟨rfl, hb9⟩
    have r9 := r8.kept hb9
    have ht9 := ht8.below hb9 hb9.size
    have ho9 := ho8.below hb9 hb9.size
    have hb19 := Lib.hid (hb18.trans (hb9.mono hb18.size))
    clear hb7 hb8 hb9 hb18 ht7 ho7 ht8 ho8 r8
    rcases HPP.out with ⟨h1, h2, h3⟩ | ⟨h1, h2⟩
    · subst h1
      rw [h2, h3]
      have q1 : ((⟨t.data.toList.toArray⟩ : ByteArray).toList == t.toList) = true := by rw [Array.toArray_toList]; simp
      have hAw := Lib.hid (awake_any w9 (hT1.below hb19.out) (hM1.below hb19.out))
      clear h2 h3 ht9 ho9 r9
      go_wp2_with fail
      refine hAw.out.mono ?_
      rintro e w10 ⟨rfl, hb10⟩
      go_wp2_with fail
      go_ret
      exact ⟨rfl, by rw [hn]; exact hb1.trans ((hb19.out.trans (hb10.mono hb19.out.size)).mono (by have := hb1.size; omega))⟩
    · subst h2
      have q1 : (er != 0) = true := by simpa using h1
      have q2 : (er == 0) = false := by simpa using h1
      have HS := Lib.hid (psystem_same Sy.none Az Bz none none cz dz 0 0 w9 (Nat.zero_le _) (Nat.zero_le _) (fun t h => by cases h) (fun o h => by cases h) ht9 ho9 (fun k t h => by cases h) (fun k t h => by cases h))
      have c0 := r9.cell 0
      have c1 := r9.cell 1
      simp only [List.getElem?_toArray, List.getElem?_cons_zero, List.getElem?_cons_succ] at c0 c1
      clear h1 ht9 ho9 r9
      go_wp2_with fail
      refine HS.out.mono ?_
      rintro e w10 ⟨rfl, hb10⟩
      have hb20 := hb19.out.trans (hb10.mono hb19.out.size)
      have hAw := Lib.hid (awake_any w10 (hT1.below hb20) (hM1.below hb20))
      go_wp2_with fail
      refine hAw.out.mono ?_
      rintro e w11 ⟨rfl, hb11⟩
      go_wp2_with fail
      go_ret
      exact ⟨rfl, by rw [hn]; exact hb1.trans ((hb20.trans (hb11.mono hb20.size)).mono (by have := hb1.size; omega))⟩

end Go.Proofs.YtfgmebjbibbpdaaGreatDoor

namespace Go.Proofs.YtfgmebjbibbpdaaGreatDoor.sourceBack
open Go.ChangeShapes Go.WideShapes Go.ChangeAt Go.RowKit
open Go.ChangeMaps (open_string shut_string)

theorem ownK : ownKnob Tryz.prog.godebug = none := by kernel_rfl
theorem laidOut : laidOutB Tryz.prog = true := by kernel_rfl

set_option maxRecDepth 100000 in
theorem contract (H : Type) (enc : TypeId × Value → H) (W : World) (base : Nat) (args : Array Value) (ds gs : List (DataW H)) (before : List MemPlace)
    (hval0 : ∀ (j : Nat) t v, Tryz.f5.params[j]? = some t → args[j]? = some v → Value.okWide Tryz.prog W .any base t v)
    (hW : DataW.Whole enc Tryz.prog Tryz.f5.params.toList Rows.sourceBackSpec.vars false W args.toList ds gs before) (hL : laidMetH Tryz.prog Rows.sourceBackRow.laid W) (hSh : W.ShapedOpen Tryz.prog) :
    Calls Tryz.prog 5 args W fun e W' => ∃ v, e = .returned v ∧ Rows.sourceBackSpec.post enc Tryz.prog Tryz.f5 false true false false W args v W' := by
  have hval : ∀ (j : Nat) t v, Tryz.f5.params[j]? = some t → args[j]? = some v → Value.okWide Tryz.prog W .any base t v := hval0
  have hW' := hW
  obtain ⟨p, q, hA0, hV, rfl, hfz, hnd⟩ := hW
  have hA : DataW.TrodAll enc Tryz.prog W 0 (fun _ => true) true Tryz.f5.params.toList args.toList ds p := hA0
  rw [Tryz.params5] at hA hval
  obtain ⟨v0, vs0, d0, ds0, p0, q0, hargs, rfl, rfl, h0, r0⟩ := trodAll_cons hA
  obtain ⟨v1, vs1, d1, ds1, p1, q1, rfl, rfl, rfl, h1, r1⟩ := trodAll_cons r0
  obtain ⟨rfl, rfl, rfl⟩ := trodAll_nil r1
  obtain rfl : args = #[v0, v1] := by cases args; simp_all
  obtain ⟨rfl, rfl⟩ := trodVars_none hV
  have k0 := h0
  have lt0 : ∀ x ∈ p0, x.block < W.heap.size := by obtain ⟨m, hm⟩ := k0; exact DataW.trod_lt m _ _ _ hm
  have k1 := h1
  have lt1 : ∀ x ∈ p1, x.block < W.heap.size := by obtain ⟨m, hm⟩ := k1; exact DataW.trod_lt m _ _ _ hm
  obtain ⟨s, At, Ao, ct, co, rfl, ⟨hnt, hno⟩, hts, hos⟩ := open_system (hval 0 25 v0 rfl rfl) h0
  obtain ⟨a1, rfl, rfl, rfl, w1⟩ := open_string Tryz.underlying9 (hval 1 9 v1 rfl rfl) h1
  clear hA0 hval0
  have hT : Tab W := tab_of ⟨by simp [Rows.sourceBackRow], hL⟩
  have hM : Mx W := mx_of hSh
  have walk : Calls Tryz.prog 5 #[.agg #[.slice At s.ts.length ct, .slice Ao s.os.length co], .string a1] W fun e w' => e = .returned (.bool true) ∧ Below W.heap.size W w' := by
    by_cases hn : fewS s = true ∧ a1.size ≤ 3000
    · exact sback_small s a1 At Ao ct co W hn.1 hn.2 hts hos hT hM
    · refine sback_big s a1 At Ao ct co W hnt hno hts hos hT hM ?_
      by_cases hf : fewS s = true
      · exact .inr (by have : ¬ a1.size ≤ 3000 := fun h => hn ⟨hf, h⟩; omega)
      · exact .inl (by simpa using hf)
  refine walk.mono fun e W' ⟨he, bel⟩ => ?_
  subst he
  exact ⟨_, rfl, _, _, _, [], _, [], hW', trodAll_mk1 (shut_bool Tryz.underlying4 _), (trodAll_cons_mk (Below.trod laidOut (by kernel_rfl) (of_decide_eq_true (by kernel_rfl)) k0 bel lt0) (trodAll_cons_mk (Below.trod laidOut (by kernel_rfl) (of_decide_eq_true (by kernel_rfl)) k1 bel lt1) trodAll_mk0)), rfl, bel.frame _, fun h => by cases h⟩

/-- A world for the witness: each listed table in its block. -/
noncomputable def laidWorld (os : Os) : World :=
  { World.holding Tryz.prog os ⟨#[], #[], []⟩ with heap := ((((((World.holding Tryz.prog os ⟨#[], #[], []⟩).heap.modify 4 fun | .cells _ t frozen => .cells #[.int .u8 0, .int .u8 1, .int .u8 28, .int .u8 2, .int .u8 29, .int .u8 14, .int .u8 24, .int .u8 3, .int .u8 30, .int .u8 22, .int .u8 20, .int .u8 15, .int .u8 25, .int .u8 17, .int .u8 4, .int .u8 8, .int .u8 31, .int .u8 27, .int .u8 13, .int .u8 23, .int .u8 21, .int .u8 19, .int .u8 16, .int .u8 7, .int .u8 26, .int .u8 12, .int .u8 18, .int .u8 6, .int .u8 11, .int .u8 5, .int .u8 10, .int .u8 9] t frozen | o => o).modify 5 fun | .cells _ t frozen => .cells #[.int .u8 0, .int .u8 1, .int .u8 56, .int .u8 2, .int .u8 57, .int .u8 49, .int .u8 28, .int .u8 3, .int .u8 61, .int .u8 58, .int .u8 42, .int .u8 50, .int .u8 38, .int .u8 29, .int .u8 17, .int .u8 4, .int .u8 62, .int .u8 47, .int .u8 59, .int .u8 36, .int .u8 45, .int .u8 43, .int .u8 51, .int .u8 22, .int .u8 53, .int .u8 39, .int .u8 33, .int .u8 30, .int .u8 24, .int .u8 18, .int .u8 12, .int .u8 5, .int .u8 63, .int .u8 55, .int .u8 48, .int .u8 27, .int .u8 60, .int .u8 41, .int .u8 37, .int .u8 16, .int .u8 46, .int .u8 35, .int .u8 44, .int .u8 21, .int .u8 52, .int .u8 32, .int .u8 23, .int .u8 11, .int .u8 54, .int .u8 26, .int .u8 40, .int .u8 15, .int .u8 34, .int .u8 20, .int .u8 31, .int .u8 10, .int .u8 25, .int .u8 14, .int .u8 19, .int .u8 9, .int .u8 13, .int .u8 8, .int .u8 7, .int .u8 6] t frozen | o => o).modify 1 fun | .cells _ t frozen => .cells #[.int .u64 1, .int .u64 10, .int .u64 100, .int .u64 1000, .int .u64 10000, .int .u64 100000, .int .u64 1000000, .int .u64 10000000, .int .u64 100000000, .int .u64 1000000000, .int .u64 10000000000, .int .u64 100000000000, .int .u64 1000000000000, .int .u64 10000000000000, .int .u64 100000000000000, .int .u64 1000000000000000, .int .u64 10000000000000000, .int .u64 100000000000000000, .int .u64 1000000000000000000, .int .u64 10000000000000000000] t frozen | o => o).modify 3 fun | .cells _ t frozen => .cells #[.int .u8 128, .int .u8 191, .int .u8 160, .int .u8 191, .int .u8 128, .int .u8 159, .int .u8 144, .int .u8 191, .int .u8 128, .int .u8 143, .int .u8 0, .int .u8 0, .int .u8 0, .int .u8 0, .int .u8 0, .int .u8 0, .int .u8 0, .int .u8 0, .int .u8 0, .int .u8 0, .int .u8 0, .int .u8 0, .int .u8 0, .int .u8 0, .int .u8 0, .int .u8 0, .int .u8 0, .int .u8 0, .int .u8 0, .int .u8 0, .int .u8 0, .int .u8 0] t frozen | o => o).modify 2 fun | .cells _ t frozen => .cells ((match (Go.Pinned.utf8First : DataW Unit) with | DataW.agg ds => (ds.map fun (x : DataW Unit) => match x with | DataW.lit l => l.value | _ => Value.bool false) | _ => []).toArray) t frozen | o => o) }
set_option maxRecDepth 100000 in
theorem laid_met (os : Os) : laidMet Tryz.prog Rows.sourceBackRow.laid ((laidWorld os).forCall (fun _ _ => 0) ⟨#[], #[.agg #[.slice none 0 0, .slice none 0 0], .string ByteArray.empty], []⟩).memory :=
  laidMet_of_run' 8 (by kernel_rfl) (by kernel_rfl)

theorem reads (os : Os) {H : Type} (enc : TypeId × Value → H) : ∃ places, DataW.whole enc Tryz.prog ((laidWorld os).forCall (fun _ _ => 0) ⟨#[], #[.agg #[.slice none 0 0, .slice none 0 0], .string ByteArray.empty], []⟩).memory Tryz.f5.params.toList Rows.sourceBackSpec.vars false (#[.agg #[.slice none 0 0, .slice none 0 0], .string ByteArray.empty] : Array Value).toList 8 = some ([.agg [.nil, .nil], .lit (.string [])], [], places) :=
  ⟨[], by kernel_rfl⟩

set_option maxRecDepth 100000 in
theorem lifted (os : Os) (started : os.Started) (H : Type) (enc : TypeId × Value → H) (F : Stop.Interp) :
    ReturnsInHanded {} Tryz.checked os 5 .any ((OpenSpec.ofChange Rows.sourceBackSpec).preRow enc Tryz.prog Tryz.f5 Rows.sourceBackRow.domain false Rows.sourceBackRow.laid) (((OpenSpec.ofChange Rows.sourceBackSpec).at F).post enc Tryz.prog Tryz.f5 false true false false) := by
  obtain ⟨places, hx⟩ := reads os enc
  refine returnsInHanded_of_row (C := Tryz.checked) (s := OpenSpec.ofChange Rows.sourceBackSpec) ownK started (by kernel_rfl) Tryz.func5
    (witness_row_at (enc := enc) (C := Tryz.checked) false (laidWorld os) #[.agg #[.slice none 0 0, .slice none 0 0], .string ByteArray.empty] rfl (by kernel_rfl) (by kernel_rfl) (by kernel_rfl)
      (OpenSpec.preRow_of_cond 8 hx (by kernel_rfl) (fun k hk => by cases hk) (by kernel_rfl) (laid_met os))) ?_
  intro W base args ds gs before hval hW _ _ _ hL hSh _
  exact contract H enc W base args ds gs before hval hW hL hSh

theorem said : Rows.SourceBackSaid :=
  OpenClaim.holds_of_cond 5 Tryz.f5 rfl rfl rfl rfl rfl rfl rfl ⟨rfl, rfl, rfl, rfl, rfl⟩ rfl rfl rfl rfl rfl (by kernel_rfl) Tryz.func5 (by kernel_rfl)
    (of_decide_eq_true (by kernel_rfl)) (by unfold Func.isWrapper; first | (rw [if_pos (by decide +kernel)]; kernel_rfl) | (rw [if_neg (by decide +kernel)]; exact ⟨rfl, rfl⟩))
    (fun os started H enc _ F => by rw [OpenClaim.pre_eq_preRow]; exact lifted os started H enc F)

theorem plain (f : FuncId) (fn : Func) (hf : Tryz.pinned.checked.prog.funcNamed "coxswain/coxswainlaw34.SourceBack" = some f) (hfn : Tryz.pinned.checked.prog.funcs[f]? = some fn) :
    false = Tryz.pinned.checked.prog.looks [] ∧ ∀ (j : Nat) t, fn.params[j]? = some t → Tryz.pinned.checked.prog.wantsStandIn t = false := by
  obtain rfl : f = 5 := Option.some.inj ((show Tryz.prog.funcNamed "coxswain/coxswainlaw34.SourceBack" = some 5 by kernel_rfl).symm.trans hf) |>.symm
  obtain rfl : fn = Tryz.f5 := (Option.some.inj (Tryz.func5.symm.trans hfn)).symm
  refine ⟨by kernel_rfl, fun j t ht => ?_⟩
  rw [Tryz.params5] at ht
  have hm := Array.mem_of_getElem? ht
  have hm : t ∈ [25, 9] := by simpa using hm
  simp only [List.mem_cons, List.not_mem_nil, or_false] at hm
  rcases hm with rfl | rfl
  · exact (show Tryz.prog.wantsStandIn 25 = false by kernel_rfl)
  · exact (show Tryz.prog.wantsStandIn 9 = false by kernel_rfl)

theorem card : Rows.SourceBackCardSaid :=
  Claim7.holds_tied_plain_at .later [] _ _ _ _ said (fun _ h => by cases h) (by kernel_rfl) (fun _ h => by cases h) sourceBack_row_tie rfl ⟨rfl, rfl⟩ (by kernel_rfl) rfl plain (by kernel_rfl)
#print axioms card

end Go.Proofs.YtfgmebjbibbpdaaGreatDoor.sourceBack
