/- The statement HistoryPicks. -/
import Derived.Test.YtkcdmonmgnmojaaDoorPk4
namespace Go.Proofs.YtkcdmonmgnmojaaDoor
open Go.RowKit

theorem own_block_ne {base bx : Nat} {w : World} {v : Value} {M : List El} (h : Own elE 45 base w v M) (hb : w.heap.size = bx) : v.ownBlock ≠ some bx := fun e => by
  rcases h.2 with ⟨rfl, _⟩ | ⟨g, cap, cur, rfl, _, hh, _⟩
  · cases e
  · have hlt := (Array.getElem?_eq_some_iff.1 hh).1
    injection e with e
    have e : g = bx := e
    omega
theorem box_other {W1 W4 : World} {bx : Nat} {x : Cl} {A : Option Addr} {c : Nat} {v : Value} {o : Obj} (h : ClBox W1 bx x A c) (hne : v.ownBlock ≠ some bx) (hg : (W1.alloc o).grownBy W4 v.ownBlock) : ClBox W4 bx x A c := by
  have hlt := h.lt
  exact (hg.block bx (by rw [World.size_alloc]; omega) (fun e => hne e.symm)).trans ((((Below.refl W1.heap.size W1).alloc (Nat.le_refl _) o).block bx hlt).trans h)
def selO (z : Int) (e : El) : Bool := e.x.o == z
def selP (z : Int) (e : El) : Bool := e.x.p == z

set_option maxRecDepth 100000 in
set_option maxHeartbeats 16000000 in
theorem historyPicks_any (A : Option Addr) (c : Nat) (l : List Cl) (z pr : Int) (w : World) (hl : ClSl w w.heap.size A l) (hT : Tab w) :
    Calls Tryd.prog 7 #[.slice A l.length c, .int .i64 z, .int .i64 pr] w fun e w' => e = .returned (.bool true) ∧ Below w.heap.size w w' := by
  have hsh := short_any A c l 60 w hl (by omega)
  rcases hq : shortB l 60 with _ | _
  · rw [hq] at hsh
    have hsh' := Lib.hid hsh
    clear hsh hq hl
    go_enter Tryd.func7, Tryd.ntmps7
    go_wp2_with fail
    refine hsh'.out.mono ?_
    rintro e w1 ⟨rfl, hb1⟩
    have haw := Lib.hid (hawake_any w1 (hT.below hb1))
    go_wp2_with fail
    refine haw.out.mono ?_
    rintro e w2 ⟨rfl, hb2⟩
    go_wp2_with fail
    go_ret
    exact ⟨rfl, hb1.trans (hb2.mono hb1.size)⟩
  · rw [hq] at hsh
    have hnr : l.length ≤ 60 ∧ ∀ x ∈ l, x.r.length ≤ 100 := by
      unfold shortB at hq
      simp only [Bool.and_eq_true, decide_eq_true_eq, List.all_eq_true] at hq
      exact ⟨by omega, hq.2⟩
    clear hq
    obtain ⟨hn, hrr⟩ := hnr
    obtain ⟨L0, hL0, hE0⟩ := hl.els
    have hlen : L0.length = l.length := by rw [← hL0, List.length_map]
    have HSH := Lib.hid hsh
    have HCL := Lib.hid hl
    have HL0 := Lib.hid hL0
    have HRR := Lib.hid hrr
    have HT := Lib.hid hT
    clear hsh hl hL0 hrr hT
    go_enter Tryd.func7, Tryd.ntmps7
    go_wp2_with fail
    refine HSH.out.mono ?_
    rintro e w1 ⟨rfl, hb1⟩
    have HCL1 := Lib.hid (HCL.out.below hb1 hb1.size)
    have HE1 : Hid (ElSl w1 w1.heap.size A L0) := Lib.hid (fun k e h => (hE0 k e h).below hb1 hb1.size)
    have HT1 := Lib.hid (HT.out.below hb1)
    have HB1 := Lib.hid hb1
    clear hb1 HSH HCL HT hE0
    go_wp2_with fail
    go_loopw [7, 8, 23] (fun u v j wr => ∃ k : Nat, k ≤ l.length ∧ j = .int .i64 k ∧ Own elE 45 w1.heap.size wr u ((L0.take k).filter (selO z)) ∧ Own elE 45 w1.heap.size wr v ((L0.take k).filter (selP pr)) ∧ Apart u v ∧ Below w1.heap.size w1 wr) (fun _ _ j _ => l.length - (intOf j).toNat)
    case atStart => exact ⟨0, Nat.zero_le _, rfl, Own.nil _ _, Own.nil _ _, (fun g h => by cases h), Below.refl _ _⟩
    case round =>
      obtain ⟨k, hk, rfl, hu, hv, hap, hb⟩ := hrel
      by_cases hlt : k < l.length
      · obtain ⟨e, he⟩ := get_some (show k < L0.length by omega)
        obtain ⟨het, b', off, rfl, hlb, ⟨h0, h1, h2, h3, h4, h5, h6⟩, _⟩ := (HE1.out k e he).below hb (Nat.le_refl _)
        obtain ⟨W1, hW1⟩ : ∃ W1, wr.alloc (.cells #[.int .i64 e.x.p, .int .i64 e.x.o, .int .i64 e.x.q, .slice e.A e.x.r.length e.c, .int .i64 e.x.c, .int .i64 e.x.b, .int .i64 e.x.e] 45) = W1 := ⟨_, rfl⟩
        have hbx := ClBox.new wr e.x e.A e.c
        have hbw := (Below.refl _ wr).alloc (Nat.le_refl _) (.cells #[.int .i64 e.x.p, .int .i64 e.x.o, .int .i64 e.x.q, .slice e.A e.x.r.length e.c, .int .i64 e.x.c, .int .i64 e.x.b, .int .i64 e.x.e] 45)
        rw [hW1] at hbx hbw
        have hsz := hb.size
        have hbW := hb.trans (hbw.mono hsz)
        have hu1 := hu.below hbw (Nat.le_refl _)
        have hv1 := hv.below hbw (Nat.le_refl _)
        obtain ⟨bx, hbxe⟩ : ∃ bx, wr.heap.size = bx := ⟨_, rfl⟩
        rw [hbxe] at hbx
        have hub := Lib.hid (own_block_ne hu hbxe)
        have hul : ((L0.take k).filter (selO z)).length ≤ 60 := by
          refine Nat.le_trans (List.length_filter_le _ _) ?_
          rw [List.length_take]; omega
        have hvl : ((L0.take k).filter (selP pr)).length ≤ 60 := by
          refine Nat.le_trans (List.length_filter_le _ _) ?_
          rw [List.length_take]; omega
        have HW1 := Lib.hid hW1
        have HBX := Lib.hid hbx
        have HBW := Lib.hid hbW
        have HU := Lib.hid hu1
        have HV := Lib.hid hv1
        have HAP := Lib.hid hap
        have hbase := hbW.size
        obtain ⟨M1, hM1⟩ : ∃ M1, (L0.take k).filter (selO z) = M1 := ⟨_, rfl⟩
        obtain ⟨M2, hM2⟩ : ∃ M2, (L0.take k).filter (selP pr) = M2 := ⟨_, rfl⟩
        rw [hM1] at HU hul
        rw [hM2] at HV hvl
        clear hu hv hb hbw hbW hu1 hv1 hap hbx hsz
        rcases ho : (e.x.o == z) with _ | _ <;> rcases hp : (e.x.p == pr) with _ | _
        · have HF1 := Lib.hid (filterE_no (selO z) he ho)
          have HF2 := Lib.hid (filterE_no (selP pr) he hp)
          clear he
          obtain ⟨c0, c1, c2, c3, c4, c5, c6⟩ := HBX.out.cells
          rw [hM1] at HF1
          rw [hM2] at HF2
          clear hM1 hM2
          go_wp2_with fail
          go_roundw
          case rel => exact ⟨k + 1, by omega, by go_num, by rw [HF1.out]; exact HU.out, by rw [HF2.out]; exact HV.out, HAP.out, HBW.out⟩
          case measure => simp [intOf]; omega
        · have HF1 := Lib.hid (filterE_no (selO z) he ho)
          have HF2 := Lib.hid (filterE_yes (selP pr) he hp)
          clear he
          obtain ⟨c0, c1, c2, c3, c4, c5, c6⟩ := HBX.out.cells
          rw [hM1] at HF1
          rw [hM2] at HF2
          clear hM1 hM2
          go_wp2_with (first
            | (at_builtin; refine wpList_app1h rfl _ _ 41 rfl clTy w1.heap.size HV.out rfl rfl rfl rfl (by unfold maxLen; omega) (by omega) hbase ?_; intro v5 W5 ho5 hb5 hg5 ha5)
            | fail)
          go_roundw
          case rel => exact ⟨k + 1, by omega, by go_num, by rw [HF1.out]; exact (own_other HU.out HAP.out hg5 ha5).1, by rw [HF2.out]; exact Own.app ho5 rfl, (own_other HU.out HAP.out hg5 ha5).2, HBW.out.trans hb5⟩
          case measure => simp [intOf]; omega
        · have HF1 := Lib.hid (filterE_yes (selO z) he ho)
          have HF2 := Lib.hid (filterE_no (selP pr) he hp)
          clear he
          obtain ⟨c0, c1, c2, c3, c4, c5, c6⟩ := HBX.out.cells
          rw [hM1] at HF1
          rw [hM2] at HF2
          clear hM1 hM2
          go_wp2_with (first
            | (at_builtin; refine wpList_app1h rfl _ _ 41 rfl clTy w1.heap.size HU.out rfl rfl rfl rfl (by unfold maxLen; omega) (by omega) hbase ?_; intro v4 W4 ho4 hb4 hg4 ha4; have hbx4 := box_other HBX.out hub.out hg4; obtain ⟨d0, d1, d2, d3, d4, d5, d6⟩ := hbx4.cells; have hv4 := own_other HV.out HAP.out.symm hg4 ha4; have hbase4 := Nat.le_trans hbase hb4.size; have hB4 := HBW.out.trans hb4; have hu4 : Own elE 45 w1.heap.size W4 v4 (M1 ++ [e]) := Own.app ho4 rfl)
            | fail)
          go_roundw
          case rel => exact ⟨k + 1, by omega, by go_num, by rw [HF1.out]; exact hu4, by rw [HF2.out]; exact hv4.1, hv4.2.symm, hB4⟩
          case measure => simp [intOf]; omega
        · have HF1 := Lib.hid (filterE_yes (selO z) he ho)
          have HF2 := Lib.hid (filterE_yes (selP pr) he hp)
          clear he
          obtain ⟨c0, c1, c2, c3, c4, c5, c6⟩ := HBX.out.cells
          rw [hM1] at HF1
          rw [hM2] at HF2
          clear hM1 hM2
          go_wp2_with (first
            | (at_builtin; refine wpList_app1h rfl _ _ 41 rfl clTy w1.heap.size HU.out rfl rfl rfl rfl (by unfold maxLen; omega) (by omega) hbase ?_; intro v4 W4 ho4 hb4 hg4 ha4; have hbx4 := box_other HBX.out hub.out hg4; obtain ⟨d0, d1, d2, d3, d4, d5, d6⟩ := hbx4.cells; have hv4 := own_other HV.out HAP.out.symm hg4 ha4; have hbase4 := Nat.le_trans hbase hb4.size; have hB4 := HBW.out.trans hb4; have hu4 : Own elE 45 w1.heap.size W4 v4 (M1 ++ [e]) := Own.app ho4 rfl)
            | (at_builtin; refine wpList_app1h rfl _ _ 41 rfl clTy w1.heap.size hv4.1 rfl rfl rfl rfl (by unfold maxLen; omega) (by omega) hbase4 ?_; intro v5 W5 ho5 hb5 hg5 ha5)
            | fail)
          go_roundw
          case rel => exact ⟨k + 1, by omega, by go_num, by rw [HF1.out]; exact (own_other hu4 hv4.2.symm hg5 ha5).1, by rw [HF2.out]; exact Own.app ho5 rfl, (own_other hu4 hv4.2.symm hg5 ha5).2, hB4.trans hb5⟩
          case measure => simp [intOf]; omega
      · have ht : L0.take k = L0 := take_all (by omega)
        rw [ht] at hu hv
        have HU := Lib.hid hu
        have HV := Lib.hid hv
        have hpc := procs_any A c l wr (by omega) (HCL1.out.below (hb.mono (Nat.le_refl _)) hb.size)
        have HPC := Lib.hid hpc
        have HB := Lib.hid hb
        clear hpc hu hv hap hk hb ht
        go_wp2_with fail
        refine HPC.out.mono ?_
        rintro e w2 ⟨vp, rfl, hps, hb2⟩
        have HB2 := Lib.hid (HB.out.trans (hb2.mono HB.out.size))
        have HU2 := Lib.hid (HU.out.below hb2 (Nat.le_refl _))
        have HV2 := Lib.hid (HV.out.below hb2 (Nat.le_refl _))
        clear HPC HU HV HB
        obtain ⟨ps, hpse⟩ : ∃ ps, sorted (l.map (·.p)) = ps := ⟨_, rfl⟩
        rw [hpse] at hps
        have hpl : ps.length ≤ 60 := by
          have := sorted_len (l.map (·.p))
          rw [hpse, List.length_map] at this
          omega
        have HPU : Hid (ps.Pairwise (· < ·)) := Lib.hid (by rw [← hpse]; exact sorted_lt _)
        have HSUM : Hid ((ps.map (cnt l)).sum = l.length) := Lib.hid (by
          rw [← hpse]
          exact sum_cnt _ (sorted_lt _) l (fun x hx => sorted_mem _ (List.mem_map_of_mem hx)))
        obtain ⟨Ap, cp, rfl, _, _, hsp⟩ := hps.sl
        have HSP := Lib.hid hsp
        have HB2S := Lib.hid hb2.size
        clear hps hsp hpse hb2
        go_wp2_with fail
        go_loopw [12, 48] (fun mt j wq => ∃ i : Nat, i ≤ ps.length ∧ j = .int .i64 i ∧ (∃ m : Nat, mt = .int .i64 (m : Int) ∧ m = ((ps.take i).map (cnt l)).sum ∧ m ≤ 60 * i) ∧ Below w2.heap.size w2 wq) (fun _ j _ => ps.length - (intOf j).toNat)
        case atStart => exact ⟨0, Nat.zero_le _, rfl, ⟨0, rfl, rfl, by omega⟩, Below.refl _ _⟩
        case round =>
          obtain ⟨i, hi, rfl, ⟨m, rfl, hm, hm60⟩, hb⟩ := hrel
          by_cases hlt : i < ps.length
          · obtain ⟨n, hnn⟩ := get_some hlt
            obtain ⟨bp, offp, rfl, hlp, hcp⟩ := int_get (HSP.out.below hb hb.size) hnn
            have HSUMI := Lib.hid (show ((ps.take (i + 1)).map (cnt l)).sum = m + cnt l n by rw [take_snoc hnn, List.map_append, List.sum_append, ← hm]; simp)
            have HB3 := Lib.hid hb
            have HCL3 := Lib.hid (HCL1.out.below ((HB2.out.trans (hb.mono HB2.out.size)).mono (Nat.le_refl _)) (Nat.le_trans HB2.out.size hb.size))
            rcases Nat.eq_zero_or_pos i with rfl | hi0
            · clear hm hb hnn
              have hcp' : wr.cell? ⟨bp, offp, none⟩ = some (.int .i64 n) := hcp
              have k1 : (0 : Int) < (ps.length : Int) := by omega
              go_wp2_with fail
              go_loopw [12, 66] (fun mt j wq => ∃ q : Nat, q ≤ l.length ∧ j = .int .i64 q ∧ mt = .int .i64 ((m + cnt (l.take q) n : Nat) : Int) ∧ Below wr.heap.size wr wq) (fun _ j _ => l.length - (intOf j).toNat)
              case atStart => exact ⟨0, Nat.zero_le _, rfl, by simp [cnt], Below.refl _ _⟩
              case round =>
                obtain ⟨q, hq, rfl, rfl, hbq⟩ := hrel
                by_cases hql : q < l.length
                · obtain ⟨x, hx⟩ := get_some hql
                  obtain ⟨bl, offl, Ax, cx, rfl, hlb, ⟨h0, h1, h2, h3, h4, h5, h6⟩, _⟩ := (HCL3.out.below hbq hbq.size) q x hx
                  have hcs := cnt_snoc hx n
                  have hcl := cnt_le (l.take q) n
                  rw [List.length_take] at hcl
                  obtain ⟨t, ht⟩ : ∃ t, m + cnt (l.take q) n = t := ⟨_, rfl⟩
                  have hbq2 := hbq.alloc hbq.size (.cells #[.int .i64 x.p, .int .i64 x.o, .int .i64 x.q, .slice Ax x.r.length cx, .int .i64 x.c, .int .i64 x.b, .int .i64 x.e] 45)
                  have jt : IntKind.i64.wrap ((t : Int) + 1) = (t : Int) + 1 := so_wrap (by omega) (by omega)
                  rw [ht]
                  rcases hp : (x.p == n) with _ | _
                  · rw [hp] at hcs
                    have HCS := Lib.hid hcs
                    have HTT := Lib.hid ht
                    have HBQ := Lib.hid hbq2
                    clear hcs hx ht hcl hbq hbq2
                    go_wp2_with fail
                    go_roundw
                    case rel => exact ⟨q + 1, by omega, by go_num, val_int (by rw [HCS.out]; have := HTT.out; simp; omega), HBQ.out⟩
                    case measure => simp [intOf]; omega
                  · rw [hp] at hcs
                    have HCS := Lib.hid hcs
                    have HTT := Lib.hid ht
                    have HBQ := Lib.hid hbq2
                    clear hcs hx ht hcl hbq hbq2
                    go_wp2_with fail
                    go_roundw
                    case rel => exact ⟨q + 1, by omega, by go_num, val_int (by rw [HCS.out]; have := HTT.out; simp; omega), HBQ.out⟩
                    case measure => simp [intOf]; omega
                · have ht : l.take q = l := take_all hql
                  have hcl := cnt_le l n
                  have HBQ := Lib.hid (HB3.out.trans (hbq.mono HB3.out.size))
                  rw [ht]
                  clear hbq ht
                  go_wp2_with fail
                  go_roundw
                  case rel => exact ⟨0 + 1, by omega, by go_num, ⟨m + cnt l n, rfl, HSUMI.out.symm, by omega⟩, HBQ.out⟩
                  case measure => simp [intOf]; omega
            · obtain ⟨i, rfl⟩ : ∃ i', i = i' + 1 := ⟨i - 1, by omega⟩
              obtain ⟨n0, hn0⟩ := get_some (show i < ps.length by omega)
              obtain ⟨_, _, hee, _, hcp0⟩ := int_get (HSP.out.below hb hb.size) hn0
              injection hee with hee
              injection hee with he1 he2
              subst he1 he2
              have hlt2 : n0 < n := by
                have h1 := HPU.out
                rw [List.pairwise_iff_getElem] at h1
                have := h1 i (i + 1) (by omega) (by omega) (by omega)
                rw [List.getElem?_eq_getElem (by omega)] at hn0 hnn
                rw [Option.some.inj hn0, Option.some.inj hnn] at this
                exact this
              have g1 : decide (n ≤ n0) = false := by rw [decide_eq_false_iff_not]; omega
              have g2 : decide (n0 ≥ n) = false := by rw [decide_eq_false_iff_not]; omega
              have g3 : ¬ n ≤ n0 := by omega
              have jw : IntKind.i64.wrap (i : Int) = (i : Int) := so_wrap (by omega) (by omega)
              have k1 : (i : Int) < (ps.length : Int) := by omega
              have k2 : decide (0 < i + 1) = true := by simp
              clear hm hb hnn hn0
              go_wp2_with fail
              go_loopw [12, 66] (fun mt j wq => ∃ q : Nat, q ≤ l.length ∧ j = .int .i64 q ∧ mt = .int .i64 ((m + cnt (l.take q) n : Nat) : Int) ∧ Below wr.heap.size wr wq) (fun _ j _ => l.length - (intOf j).toNat)
              case atStart => exact ⟨0, Nat.zero_le _, rfl, by simp [cnt], Below.refl _ _⟩
              case round =>
                obtain ⟨q, hq, rfl, rfl, hbq⟩ := hrel
                by_cases hql : q < l.length
                · obtain ⟨x, hx⟩ := get_some hql
                  obtain ⟨bl, offl, Ax, cx, rfl, hlb, ⟨h0, h1, h2, h3, h4, h5, h6⟩, _⟩ := (HCL3.out.below hbq hbq.size) q x hx
                  have hcs := cnt_snoc hx n
                  have hcl := cnt_le (l.take q) n
                  rw [List.length_take] at hcl
                  obtain ⟨t, ht⟩ : ∃ t, m + cnt (l.take q) n = t := ⟨_, rfl⟩
                  have hbq2 := hbq.alloc hbq.size (.cells #[.int .i64 x.p, .int .i64 x.o, .int .i64 x.q, .slice Ax x.r.length cx, .int .i64 x.c, .int .i64 x.b, .int .i64 x.e] 45)
                  have jt : IntKind.i64.wrap ((t : Int) + 1) = (t : Int) + 1 := so_wrap (by omega) (by omega)
                  rw [ht]
                  rcases hp : (x.p == n) with _ | _
                  · rw [hp] at hcs
                    have HCS := Lib.hid hcs
                    have HTT := Lib.hid ht
                    have HBQ := Lib.hid hbq2
                    clear hcs hx ht hcl hbq hbq2
                    go_wp2_with fail
                    go_roundw
                    case rel => exact ⟨q + 1, by omega, by go_num, val_int (by rw [HCS.out]; have := HTT.out; simp; omega), HBQ.out⟩
                    case measure => simp [intOf]; omega
                  · rw [hp] at hcs
                    have HCS := Lib.hid hcs
                    have HTT := Lib.hid ht
                    have HBQ := Lib.hid hbq2
                    clear hcs hx ht hcl hbq hbq2
                    go_wp2_with fail
                    go_roundw
                    case rel => exact ⟨q + 1, by omega, by go_num, val_int (by rw [HCS.out]; have := HTT.out; simp; omega), HBQ.out⟩
                    case measure => simp [intOf]; omega
                · have ht : l.take q = l := take_all hql
                  have hcl := cnt_le l n
                  have HBQ := Lib.hid (HB3.out.trans (hbq.mono HB3.out.size))
                  rw [ht]
                  clear hbq ht
                  go_wp2_with fail
                  go_roundw
                  case rel => exact ⟨(i + 1) + 1, by omega, by go_num, ⟨m + cnt l n, rfl, HSUMI.out.symm, by omega⟩, HBQ.out⟩
                  case measure => simp [intOf]; omega
          · have ht : ps.take i = ps := take_all hlt
            rw [ht, HSUM.out] at hm
            subst hm
            have HB3 := Lib.hid (HB2.out.trans (hb.mono HB2.out.size))
            have HU3 := Lib.hid (HU2.out.below hb (Nat.le_refl _))
            have HV3 := Lib.hid (HV2.out.below hb (Nat.le_refl _))
            have x0 : ((l.length : Int) == (l.length : Int)) = true := by simp
            have hso := hsort_any A c l wr hn HRR.out (HCL1.out.below HB3.out HB3.out.size)
            have HSO := Lib.hid hso
            clear hso hb HB2 HU2 HV2 HSUM HSP HPU hm60 ht hi
            go_wp2_with fail
            refine HSO.out.mono ?_
            rintro e w4 ⟨A4, c4, L4, M4, rfl, hs4, hL4, ht4, hp4, ho4, hb4⟩
            have HB4 := Lib.hid (HB3.out.trans (hb4.mono HB3.out.size))
            have HU4 := Lib.hid (HU3.out.below hb4 (Nat.le_refl _))
            have HV4 := Lib.hid (HV3.out.below hb4 (Nat.le_refl _))
            have HE4 : Hid (ElSl w4 w4.heap.size A L0) := Lib.hid (fun k e h => (HE1.out k e h).below HB4.out HB4.out.size)
            have HX4 := Lib.hid (And.intro hs4 (And.intro hL4 (And.intro ht4 (And.intro hp4 ho4))))
            have hrs := rsort_any A c L0 w4 (by omega) HE4.out
            rw [hlen] at hrs
            have HRS := Lib.hid hrs
            clear hs4 hL4 ht4 hp4 ho4 hb4 hrs HSO HB3 HU3 HV3
            go_wp2_with fail
            refine HRS.out.mono ?_
            rintro e w5 ⟨v5, M5, rfl, hw5, hp5, ho5, hb5⟩
            have HB5 := Lib.hid (HB4.out.trans (hb5.mono HB4.out.size))
            have HU5 := Lib.hid (HU4.out.below hb5 (Nat.le_refl _))
            have HV5 := Lib.hid (HV4.out.below hb5 (Nat.le_refl _))
            obtain ⟨A5, c5, rfl, hs5⟩ := own_sl hw5 (fun e he => (HE4.out.rec e (hp5.subset he)).below hb5 hb5.size)
            have hsame : M4.map (·.x) = M5.map (·.x) := sort_same HX4.out.2.2.1 (fun k e h => HE4.out.tag h) (by rw [HX4.out.2.1, HL0.out]) HX4.out.2.2.2.1 hp5 HX4.out.2.2.2.2 ho5
            have hl5 : M5.length = l.length := by rw [hp5.length_eq, hlen]
            rw [hl5]
            have hcs := calls_same A4 A5 c4 c5 (M5.map (·.x)) w5 (by rw [List.length_map]; omega) (fun x hx => by
              obtain ⟨e, he, rfl⟩ := List.mem_map.1 hx
              have h1 : e.x ∈ l := by
                rw [← HL0.out]
                exact List.mem_map_of_mem (hp5.subset he)
              have := HRR.out _ h1
              omega) (by rw [← hsame]; exact HX4.out.1.below hb5 hb5.size) hs5
            rw [List.length_map, hl5] at hcs
            have HCS := Lib.hid hcs
            clear hw5 hp5 ho5 hb5 hs5 hsame hcs HRS HX4 HE4 HB4 HU4 HV4
            go_wp2_with fail
            refine HCS.out.mono ?_
            rintro e w6 ⟨rfl, hb6⟩
            have HB6 := Lib.hid (HB5.out.trans (hb6.mono HB5.out.size))
            have HU6 := Lib.hid (HU5.out.below hb6 (Nat.le_refl _))
            have HV6 := Lib.hid (HV5.out.below hb6 (Nat.le_refl _))
            have HOF := Lib.hid (of_any A c l z w6 hn HRR.out (HCL1.out.below HB6.out HB6.out.size))
            clear hb6 HCS HB5 HU5 HV5
            go_wp2_with fail
            refine HOF.out.mono ?_
            rintro e w7 ⟨A7, c7, rfl, hs7, hb7⟩
            have HB7 := Lib.hid (HB6.out.trans (hb7.mono HB6.out.size))
            have HU7 := Lib.hid (HU6.out.below hb7 (Nat.le_refl _))
            have HV7 := Lib.hid (HV6.out.below hb7 (Nat.le_refl _))
            have HR7 : Hid (∀ e ∈ L0, RecE w7 w7.heap.size e) := Lib.hid fun e he => (HE1.out.rec e he).below HB7.out HB7.out.size
            obtain ⟨Au, cu, rfl, hsu⟩ := own_sl HU7.out (fun e he => HR7.out e (List.mem_filter.1 he).1)
            have hfx : (L0.filter (selO z)).map (·.x) = l.filter (fun x => x.o == z) := by rw [← HL0.out]; exact filter_x (fun x => x.o == z) L0
            have hfl : (L0.filter (selO z)).length = (l.filter (fun x => x.o == z)).length := by rw [← hfx, List.length_map]
            rw [hfx] at hsu
            rw [hfl]
            have HCS7 := Lib.hid (calls_same A7 Au c7 cu (l.filter (fun x => x.o == z)) w7 (by have := List.length_filter_le (fun x : Cl => x.o == z) l; omega) (fun x hx => by have := HRR.out x (List.mem_filter.1 hx).1; omega) hs7 hsu)
            clear hs7 hsu hb7 HOF hfx hfl HB6 HU6 HV6 HR7 HU7
            go_wp2_with fail
            refine HCS7.out.mono ?_
            rintro e w8 ⟨rfl, hb8⟩
            have HB8 := Lib.hid (HB7.out.trans (hb8.mono HB7.out.size))
            have HV8 := Lib.hid (HV7.out.below hb8 (Nat.le_refl _))
            have HBY := Lib.hid (by_any A c l pr w8 hn HRR.out (HCL1.out.below HB8.out HB8.out.size))
            clear hb8 HCS7 HB7 HV7
            go_wp2_with fail
            refine HBY.out.mono ?_
            rintro e w9 ⟨A9, c9, rfl, hs9, hb9⟩
            have HB9 := Lib.hid (HB8.out.trans (hb9.mono HB8.out.size))
            have HV9 := Lib.hid (HV8.out.below hb9 (Nat.le_refl _))
            have HR9 : Hid (∀ e ∈ L0, RecE w9 w9.heap.size e) := Lib.hid fun e he => (HE1.out.rec e he).below HB9.out HB9.out.size
            obtain ⟨Av, cv, rfl, hsv⟩ := own_sl HV9.out (fun e he => HR9.out e (List.mem_filter.1 he).1)
            have hfx : (L0.filter (selP pr)).map (·.x) = l.filter (fun x => x.p == pr) := by rw [← HL0.out]; exact filter_x (fun x => x.p == pr) L0
            have hfl : (L0.filter (selP pr)).length = (l.filter (fun x => x.p == pr)).length := by rw [← hfx, List.length_map]
            rw [hfx] at hsv
            rw [hfl]
            have HCS9 := Lib.hid (calls_same A9 Av c9 cv (l.filter (fun x => x.p == pr)) w9 (by have := List.length_filter_le (fun x : Cl => x.p == pr) l; omega) (fun x hx => by have := HRR.out x (List.mem_filter.1 hx).1; omega) hs9 hsv)
            clear hs9 hsv hb9 HBY hfx hfl HB8 HV8 HR9 HV9
            go_wp2_with fail
            refine HCS9.out.mono ?_
            rintro e w10 ⟨rfl, hb10⟩
            have HB10 := Lib.hid (HB9.out.trans (hb10.mono HB9.out.size))
            have HAW := Lib.hid (hawake_any w10 (HT1.out.below HB10.out))
            clear hb10 HCS9 HB9
            go_wp2_with fail
            refine HAW.out.mono ?_
            rintro e w11 ⟨rfl, hb11⟩
            go_wp2_with fail
            go_ret
            exact ⟨rfl, HB1.out.trans ((HB10.out.trans (hb11.mono HB10.out.size)).mono HB1.out.size)⟩

end Go.Proofs.YtkcdmonmgnmojaaDoor
