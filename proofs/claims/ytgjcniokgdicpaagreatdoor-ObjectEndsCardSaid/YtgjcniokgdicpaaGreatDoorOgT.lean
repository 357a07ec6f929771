/- A memory of these words; what others do to it. -/
import Derived.Test.YtgjcniokgdicpaaGreatDoorOgS
import Derived.Laws.CopyRow
import Derived.Laws.IdiomCopy
import Derived.Laws.MakeOwn
namespace Go.Proofs.YtgjcniokgdicpaaGreatDoor
open Go.RowKit
attribute [local go_sem] Oper.semAt_some

def us (l : List Int) : Array Value := (l.map fun z => Value.int .u32 z).toArray
theorem own_us {w : World} {g : Nat} {l : List Int} (h : RowB w g (us l) 32) (hl : l.length ≤ maxLen) : Own (ints .u32) 32 0 w (.slice (some ⟨g, 0, none⟩) l.length l.length) l := by
  have hall : (ints .u32).all l = l.map (Value.int .u32) := of1_all _ _ l
  unfold Own
  rw [hall]
  have hs : (ints .u32).size = 1 := rfl
  rw [hs]
  refine ⟨by simp, .inr ⟨g, l.length, us l, rfl, Nat.zero_le _, h, Nat.le_refl _, hl, by simp [us], ?_⟩⟩
  simp only [us, Nat.mul_one]
  exact List.take_of_length_le (by simp)
theorem mkU (N : Nat) (h : N ≤ 100000) (w : World) : (Instr.makeSlice 33 (.int .i64 (N : Int)) (.int .i64 (N : Int))).run Tryz.prog w = .ok (.slice (some ⟨w.heap.size, 0, none⟩) N N) (w.alloc (.cells (us (List.replicate N 0)) 32)) := by
  obtain ⟨i, hi, h1, h2, h3⟩ := info_parts (P := Tryz.prog) (e := 32) (z := .int .u32 0) (size := 1) (bytes := 4) (by kernel_rfl)
  have hr := run_make (P := Tryz.prog) w 33 32 i (.int .u32 0) Tryz.underlying33 hi h1 .i64 .i64 (N : Int) (N : Int) (by omega) (by omega) (by rw [h3]; omega) (by omega)
  rw [hr, h2]
  have e : madeCells (Value.int .u32 0).cells ((N : Int).toNat * 1) = us (List.replicate N 0) := by
    apply Array.ext'
    rw [show (Value.int .u32 0).cells = #[.int .u32 0] from rfl, toList_madeCells_one]
    simp [us]
  rw [e]
  rfl
set_option maxRecDepth 100000 in
set_option maxHeartbeats 1000000 in
theorem mnew_g (N : Nat) (h : N ≤ 4096) (w : World) : Calls Tryz.prog 60 #[.int .i64 (N : Int)] w fun e w' => e = .returned (.tuple #[.pointer (some ⟨w.heap.size + 1, 0, none⟩), .int .i64 0]) ∧ w' = (w.alloc (.cells (us (List.replicate N 0)) 32)).alloc (.cells #[.slice (some ⟨w.heap.size, 0, none⟩) N N, .int .i64 0] 125) := by
  have d0 : decide ((N : Int) < 0) = false := decide_eq_false (by omega)
  have d1 : decide ((4096 : Int) < (N : Int)) = false := decide_eq_false (by omega)
  have hmk := mkU N (by omega)
  obtain ⟨U, hU⟩ : ∃ x, us (List.replicate N 0) = x := ⟨_, rfl⟩
  rw [hU] at hmk ⊢
  clear hU h
  go_enter Tryz.func60, Tryz.ntmps60
  go_wp2_with fail
  go_ret2
  exact ⟨rfl, rfl⟩
theorem mem_new (w : World) {N : Nat} (h : N ≤ 4096) : MemG ((w.alloc (.cells (us (List.replicate N 0)) 32)).alloc (.cells #[.slice (some ⟨w.heap.size, 0, none⟩) N N, .int .i64 0] 125)) (w.heap.size + 1) w.heap.size (List.replicate N 0) := by
  have hr := RowB.new w (us (List.replicate N 0)) 32
  have hb := (Below.refl _ (w.alloc (.cells (us (List.replicate N 0)) 32))).alloc (Nat.le_refl _) (.cells #[.slice (some ⟨w.heap.size, 0, none⟩) N N, .int .i64 0] 125)
  have hm := RowB.new (w.alloc (.cells (us (List.replicate N 0)) 32)) #[.slice (some ⟨w.heap.size, 0, none⟩) N N, .int .i64 0] 125
  rw [World.size_alloc] at hm
  have ho := own_us (hr.kept hb) (by simp [maxLen]; omega)
  refine ⟨0, N, ?_, ?_, by omega, by simp; omega, fun z hz => ?_⟩
  · rw [List.length_replicate]; exact hm
  · rw [List.length_replicate] at ho ⊢; exact ho
  · rw [List.mem_replicate] at hz
    rw [hz.2]
    omega
/-- A row of words is laid into the memory from its head on. -/
theorem mem_lay {w : World} {mb lb : Nat} {l l' : List Int} (h : MemG w mb lb l) (hl : l'.length = l.length) (hw : W32 l') {cur : Array Value} (hr : RowB w lb cur 32) : MemG (w.setRow lb ((cur.toList.take 0 ++ l'.map (Value.int .u32) ++ cur.toList.drop (0 + (l'.map (Value.int .u32)).length)).toArray)) mb lb l' := by
  obtain ⟨k, c, hm, ho, hn, hb, _⟩ := h
  have hall : ∀ l : List Int, (ints .u32).all l = l.map (Value.int .u32) := fun l => of1_all _ _ l
  refine ⟨k, c, by rw [hl]; exact hm.far (fun e => hn e.symm), ?_, hn, by omega, hw⟩
  have h1 := ho.1
  unfold Own at ho ⊢
  rw [hall] at ho ⊢
  have hs1 : (ints .u32).size = 1 := rfl
  rw [hs1] at ho ⊢
  refine ⟨by simp, ?_⟩
  rcases ho.2 with ⟨h2, _⟩ | ⟨g', cap, cur', hv, hg, hh, hcap, hmax, hsz, htk⟩
  · cases h2
  · injection hv with hA hn' hc
    injection hA with hA
    injection hA with hA
    subst hA hc
    have hcc : cur' = cur := by
      have h3 : w.heap[lb]? = some (.cells cur 32 (0, 0)) := hr
      rw [hh] at h3
      injection h3 with h3
      injection h3
    subst hcc
    refine .inr ⟨lb, c, _, by rw [hl], hg, RowB.row (w := w) (n := lb) hh, by omega, hmax, ?_, ?_⟩
    · simp
      omega
    · simp
set_option maxRecDepth 100000 in
set_option maxHeartbeats 1000000 in
theorem mfill_g (mb lb : Nat) (l l' : List Int) (A : Option Addr) (cap : Nat) (w : World) (hm : MemG w mb lb l) (hl : l'.length = l.length) (hr : Ws w w.heap.size A l') :
    Calls Tryz.prog 61 #[.pointer (some ⟨mb, 0, none⟩), .int .i64 0, .slice A l'.length cap] w fun e w' => e = .returned (.int .i64 0) ∧ MemG w' mb lb l' ∧ Tch (fun b => b = lb) w w' := by
  have hlen := hm.len
  have HI := Lib.hid fun W => inside_g (l.length : Int) 0 (l'.length : Int) W (by omega) (by omega) (by omega) (by omega) (by omega)
  have hin : decide ((0 : Int) ≤ (l.length : Int) ∧ (l'.length : Int) ≤ (l.length : Int) - 0) = true := decide_eq_true (by omega)
  rw [hin] at HI
  have HM := Lib.hid hm
  have HR := Lib.hid hr
  have HL := Lib.hid hl
  obtain ⟨k, c, hmr, ho, hne, _, hw⟩ := hm
  have c0 : w.cell? ⟨mb, 0, none⟩ = some (.slice (some ⟨lb, 0, none⟩) l.length c) := (hmr.cell 0).trans rfl
  obtain ⟨hcc1, hcc2⟩ : l.length ≤ c ∧ c ≤ maxLen := by
    obtain ⟨_, _, hv, h2, _⟩ := ho.sl
    injection hv with h3 h4 h5
    rw [h5]; exact h2
  unfold maxLen at hcc2
  clear hr hmr ho hw hin hl
  go_enter Tryz.func61, Tryz.ntmps61
  go_wp2_with fail
  refine (HI.out _).mono ?_
  rintro e w1 ⟨rfl, hb⟩
  have hm1 := HM.out.belo hb
  have hr1 := HR.out.below hb hb.size
  have hm1' := hm1
  obtain ⟨k1, c1, hmr1, ho1, _, _, _⟩ := hm1'
  have d0 : w1.cell? ⟨mb, 0, none⟩ = some (.slice (some ⟨lb, 0, none⟩) l.length c) := (hb.cell (p := ⟨mb, 0, none⟩) (cell_lt c0)).trans c0
  have hmz : Nat.min l'.length l.length = l'.length := Nat.min_eq_left (by have := HL.out; omega)
  by_cases h0 : l' = []
  · subst h0
    have hl0 : l = [] := List.eq_nil_of_length_eq_zero (by have := HL.out; simpa using this.symm)
    subst hl0
    have hcp : (Builtin.copy_ #[33, 33] 3 #[.slice (some ⟨lb, 0, none⟩) 0 c, .slice A 0 cap]).run Tryz.prog w1 = .ok (.int .i64 0) w1 :=
      run_copy_none (P := Tryz.prog) w1 33 33 3 32 (some ⟨lb, 0, none⟩) A 0 c 0 cap Tryz.underlying33 (by kernel_rfl) rfl
    have HM1 := Lib.hid hm1
    have HB := Lib.hid hb
    clear hb hm1 hr1 hmr1 ho1
    simp only [List.length_nil] at *
    go_wp2_with fail
    go_ret
    exact ⟨rfl, HM1.out, Tch.of_below _ HB.out⟩
  · obtain ⟨x, hx⟩ : ∃ x, l'[0]? = some x := by
      cases l' with
      | nil => exact absurd rfl h0
      | cons x t => exact ⟨x, rfl⟩
    obtain ⟨_, sb, so, hA, _, _⟩ := hr1.get hx
    subst hA
    obtain ⟨cur, hcur⟩ := own_row ho1
    have hcs : cur.size = c1 := by
      rcases ho1.2 with ⟨h2, _⟩ | ⟨g', cap', cur', hv, hg, hh, hcap, hmax, hsz, htk⟩
      · cases h2
      · injection hv with hA hn' hc
        injection hA with hA
        injection hA with hA
        subst hA hc
        have h3 : w1.heap[lb]? = some (.cells cur 32 (0, 0)) := hcur
        rw [hh] at h3
        injection h3 with h3
        injection h3 with h3
        rw [← h3, hsz]
        exact Nat.mul_one _
    have hc1 : l.length ≤ c1 := by
      obtain ⟨_, _, hv, h2, _⟩ := ho1.sl
      injection hv with h3 h4 h5
      rw [h5]; exact h2.1
    have hcp : (Builtin.copy_ #[33, 33] 3 #[.slice (some ⟨lb, 0, none⟩) l.length c, .slice (some ⟨sb, so, none⟩) l'.length cap]).run Tryz.prog w1 = .ok (.int .i64 (l'.length : Int)) (w1.setRow lb ((cur.toList.take 0 ++ l'.map (Value.int .u32) ++ cur.toList.drop (0 + (l'.map (Value.int .u32)).length)).toArray)) := by
      have := run_copy_row (P := Tryz.prog) w1 33 33 3 32 lb 0 l.length c ⟨sb, so, none⟩ l'.length cap cur 32 (l'.map (Value.int .u32)) Tryz.underlying33 (by kernel_rfl) hcur (by rw [List.length_map]; exact hmz.symm) (fun j v hv => by
        rw [List.getElem?_map] at hv
        cases hq : l'[j]? with
        | none => rw [hq] at hv; cases hv
        | some z =>
          rw [hq] at hv
          injection hv with hv
          subst hv
          obtain ⟨_, b2, o2, he, _, hc⟩ := hr1.get hq
          injection he with he
          injection he with e1 e2 e3
          subst e1 e2
          rw [Addr.add_lit]
          exact hc) (by rw [List.length_map]; have := HL.out; omega) (fun v hv => by
        rw [List.mem_map] at hv
        obtain ⟨z, _, rfl⟩ := hv
        rfl)
      rw [this, List.length_map]
      rfl
    have hfin := mem_lay hm1 HL.out (ws_w32 hr1) hcur
    have ht := (Tch.of_below (fun b => b = lb) hb).row (b := lb) rfl ((cur.toList.take 0 ++ l'.map (Value.int .u32) ++ cur.toList.drop (0 + (l'.map (Value.int .u32)).length)).toArray)
    obtain ⟨CU, hCU⟩ : ∃ x, (cur.toList.take 0 ++ l'.map (Value.int .u32) ++ cur.toList.drop (0 + (l'.map (Value.int .u32)).length)).toArray = x := ⟨_, rfl⟩
    rw [hCU] at hcp hfin ht
    have HF := Lib.hid hfin
    have HT := Lib.hid ht
    clear hb hm1 hr1 hmr1 ho1 hcur hcs hc1 hfin ht hCU hx h0 hmz
    go_wp2_with fail
    go_ret
    exact ⟨rfl, HF.out, HT.out⟩
set_option maxRecDepth 100000 in
set_option maxHeartbeats 1000000 in
theorem memory_g (A : Option Addr) (cap : Nat) (l : List Int) (hl : l.length ≤ 4096) (w : World) (hr : Ws w w.heap.size A l) :
    Calls Tryz.prog 18 #[.slice A l.length cap] w fun e w' => ∃ mb lb, e = .returned (.pointer (some ⟨mb, 0, none⟩)) ∧ w.heap.size ≤ lb ∧ w.heap.size ≤ mb ∧ MemG w' mb lb l ∧ Below w.heap.size w w' := by
  have HN := Lib.hid (mnew_g l.length hl w)
  have hm := mem_new w hl
  have hb := ((Below.refl w.heap.size w).alloc (Nat.le_refl _) (.cells (us (List.replicate l.length 0)) 32)).alloc (by simp) (.cells #[.slice (some ⟨w.heap.size, 0, none⟩) l.length l.length, .int .i64 0] 125)
  have hr2 := hr.below hb hb.size
  obtain ⟨W2, hW2⟩ : ∃ x, (w.alloc (.cells (us (List.replicate l.length 0)) 32)).alloc (.cells #[.slice (some ⟨w.heap.size, 0, none⟩) l.length l.length, .int .i64 0] 125) = x := ⟨_, rfl⟩
  rw [hW2] at HN hm hb hr2
  have HF := Lib.hid (mfill_g (w.heap.size + 1) w.heap.size (List.replicate l.length 0) l A cap W2 hm (by simp) hr2)
  have HB := Lib.hid hb
  clear hm hb hr2 hr hW2 hl
  obtain ⟨n, hn⟩ : ∃ n, w.heap.size = n := ⟨_, rfl⟩
  rw [hn] at HN HF HB ⊢
  go_enter Tryz.func18, Tryz.ntmps18
  go_wp2_with fail
  refine HN.out.mono ?_
  rintro e w1 ⟨rfl, rfl⟩
  go_wp2_with fail
  refine HF.out.mono ?_
  rintro e w2 ⟨rfl, hm2, ht⟩
  have HM2 := Lib.hid hm2
  have HB2 := Lib.hid (HB.out.trans (ht.below (by have := HB.out.size; omega) (fun k _ e => by omega)))
  clear hm2 ht
  go_wp2_with fail
  go_ret
  exact ⟨_, _, rfl, Nat.le_refl _, by omega, HM2.out, HB2.out⟩

end Go.Proofs.YtgjcniokgdicpaaGreatDoor
