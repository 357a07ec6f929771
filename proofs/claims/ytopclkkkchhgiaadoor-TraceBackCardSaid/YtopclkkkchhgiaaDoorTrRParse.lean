/- The reference's Parse: a text's events. -/
import Derived.Test.YtopclkkkchhgiaaDoorTrRRead
import Derived.Test.YtopclkkkchhgiaaDoorTrParse
namespace Go.Proofs.YtopclkkkchhgiaaDoor
open Go.RowKit

theorem parseR_some {x : List UInt8} {r : List (List UInt8)} {outs : List Ev} {e : Ev} (hr : r ≠ []) (h : readE x = some e) : parseR (x :: r) outs = parseR r (outs ++ [e]) := by
  rw [parseR, if_neg hr, h]
theorem parseR_none {x : List UInt8} {r : List (List UInt8)} {outs : List Ev} (hr : r ≠ []) (h : readE x = none) : parseR (x :: r) outs = ⟨[], outs.length + 1, 4⟩ := by
  rw [parseR, if_neg hr, h]
theorem drop_cons {α : Type} {q : List α} {k : Nat} {x : α} (h : q[k]? = some x) : q.drop k = x :: q.drop (k + 1) := by
  have hk := get_lt h
  rw [List.drop_eq_getElem_cons hk]
  have : q[k] = x := by rw [List.getElem?_eq_getElem hk] at h; exact Option.some.inj h
  rw [this]

set_option maxRecDepth 100000 in
set_option maxHeartbeats 2000000 in
theorem rparse_any (s : ByteArray) (w : World) (hs : s.size ≤ 100000) (hlines : ∀ x ∈ pcs 10 s.data.toList, x.length ≤ 3000) :
    Calls Tryd.prog 23 #[.string s] w fun e w' => ∃ v, e = .returned (.tuple #[v, .int .i64 (parseE s.data.toList).at_, .int .i64 (parseE s.data.toList).err]) ∧ OwnE w.heap.size w' v (parseE s.data.toList).evs ∧ Below w.heap.size w w' := by
  obtain ⟨l, hl⟩ : ∃ l, s.data.toList = l := ⟨_, rfl⟩
  have hlen : l.length = s.size := by rw [← hl]; exact Array.length_toList
  have hsp := rsplit_cells s 10 10 w rfl (by omega)
  rw [hl] at hlines hsp ⊢
  rw [← parseR_E]
  have hne := pcs_ne 10 l
  have hpl := pcs_len 10 l
  obtain ⟨q, hq⟩ : ∃ q, pcs 10 l = q := ⟨_, rfl⟩
  rw [hq] at hlines hsp hne hpl ⊢
  have hn1 : 1 ≤ q.length := List.length_pos_iff.2 hne
  have hn2 : q.length ≤ 100001 := by omega
  have ew : IntKind.i64.wrap ((q.length : Int) - 1) = (q.length : Int) - 1 := by simp [IntKind.wrap, IntKind.signed, IntKind.bits]; omega
  have hsp' := Lib.hid hsp
  clear hsp hl hlen hpl hne hq
  go_enter Tryd.func23, Tryd.ntmps23
  go_wp2_with fail
  refine hsp'.out.mono ?_
  rintro e w1 ⟨b, cp, rfl, hc, ⟨hcp, _⟩, hb1⟩
  have hc1 : ∀ (W : World), Below w1.heap.size w1 W → ∀ (j : Nat) x, q[j]? = some x → W.cell? ⟨b, j, none⟩ = some (.string ⟨x.toArray⟩) := fun W hW j x hx => (hW.cell (p := ⟨b, j, none⟩) (cell_lt (hc j x hx))).trans (hc j x hx)
  have hc' := Lib.hid hc1
  clear hc hc1
  go_wp2_with fail
  go_loopw [6, 7] (fun v j wr => ∃ (k : Nat) (outs : List Ev), k + 1 ≤ q.length ∧ j = .int .i64 k ∧ OwnE w1.heap.size wr v outs ∧ outs.length = k ∧ parseR q [] = parseR (q.drop k) outs ∧ Below w1.heap.size w1 wr) (fun _ j _ => q.length - (intOf j).toNat)
  case atStart => exact ⟨0, [], hn1, rfl, OwnE.nil _ _, rfl, by rw [List.drop_zero], Below.refl _ _⟩
  case round =>
    obtain ⟨k, outs, hk, rfl, hown, hol, hpr, hb⟩ := hrel
    have hsz := hb.size
    obtain ⟨x, hx⟩ := get_some (show k < q.length by omega)
    have hcx := hc'.out _ hb k x hx
    have hx3 := hlines x (List.mem_of_getElem? hx)
    have hdc := Lib.hid (drop_cons hx)
    have hx' := Lib.hid hx
    have hpr' := Lib.hid hpr
    have hol' := Lib.hid hol
    clear hx hpr
    have k0 : (0 : Int) ≤ (k : Int) := by omega
    have k1 : (k : Int) < (q.length : Int) := by omega
    by_cases hlt : k + 1 < q.length
    · have t1 : decide ((k : Int) < (q.length : Int) - 1) = true := by rw [decide_eq_true_iff]; omega
      have hdn : q.drop (k + 1) ≠ [] := fun e => by
        have := congrArg List.length e
        rw [List.length_drop, List.length_nil] at this
        omega
      have hrr := rread_any ⟨x.toArray⟩ wr (by simp [ByteArray.size]; omega)
      rw [show (⟨x.toArray⟩ : ByteArray).data.toList = x from rfl] at hrr
      rcases read_cases x with ⟨ev, hr1, hr2, hr3, hr4⟩ | ⟨hr1, hr3⟩
      · rw [hr2, hr3] at hrr
        have hst := Lib.hid (parseR_some (outs := outs) hdn hr1)
        have hokE := Lib.hid (evr_ok hr4)
        obtain ⟨t, kk, p, a, bb⟩ := ev
        unfold evV at hrr
        simp only at hrr
        have hrr' := Lib.hid hrr
        have hownE := Lib.hid hown
        clear hr1 hr2 hr3 hr4 hrr hown hdn
        go_wp2_with fail
        refine hrr'.out.mono ?_
        rintro e2 w2 ⟨rfl, hb2⟩
        have hown2 := hownE.out.below hb2 (Nat.le_refl _)
        have hB2 := hb.trans (hb2.mono hsz)
        have hown3 := Lib.hid (hown2.1.alloc (.cells #[.int .i64 t, .int .i64 kk, .int .i64 p, .int .i64 a, .int .i64 bb] 23))
        have hown2' := Lib.hid hown2
        have hsz2 := hB2.size
        have hB3 := Lib.hid (hB2.alloc hsz2 (.cells #[.int .i64 t, .int .i64 kk, .int .i64 p, .int .i64 a, .int .i64 bb] 23))
        clear hown2
        go_wp2_with (first
          | (at_builtin; refine wpList_app1 rfl _ _ 32 rfl evTy w1.heap.size hown3.out rfl (by rw [World.size_alloc]; rfl) rfl rfl (by unfold maxLen; omega) (by omega) (by simp; omega) ?_; intro v' w3 hown4 hbel4 _)
          | fail)
        go_roundw
        case rel => exact ⟨k + 1, outs ++ [⟨t, kk, p, a, bb⟩], by omega, by go_num, OwnE.snoc (e := ⟨t, kk, p, a, bb⟩) hown2'.out hokE.out hown4, by rw [List.length_append, hol'.out]; rfl, by rw [hpr'.out, hdc.out, hst.out], hB3.out.trans hbel4⟩
        case measure => simp [intOf]; omega
      · rw [hr3] at hrr
        have hst := Lib.hid (parseR_none (outs := outs) hdn hr1)
        obtain ⟨rx, hrx⟩ : ∃ r, readX x = r := ⟨_, rfl⟩
        rw [hrx] at hrr
        obtain ⟨t, kk, p, a, bb⟩ := rx
        unfold evV at hrr
        simp only at hrr
        have hrr' := Lib.hid hrr
        have ek : IntKind.i64.wrap ((k : Int) + 1) = (k : Int) + 1 := by simp [IntKind.wrap, IntKind.signed, IntKind.bits]; omega
        clear hr1 hr3 hrr hown hdn hrx
        go_wp2_with fail
        refine hrr'.out.mono ?_
        rintro e2 w2 ⟨rfl, hb2⟩
        have hB2 := hb1.trans ((hb.trans (hb2.mono hsz)).mono hb1.size)
        have hB3 := hB2.alloc hB2.size (.cells #[.int .i64 t, .int .i64 kk, .int .i64 p, .int .i64 a, .int .i64 bb] 23)
        go_wp2_with fail
        refine bodyPost_ret (results_tmp3 rfl _ _ _) rfl ?_
        exact ⟨.slice none 0 0, by rw [hpr'.out, hdc.out, hst.out, hol'.out]; rfl, by rw [hpr'.out, hdc.out, hst.out]; exact OwnE.nil _ _, hB3⟩
    · have hkn : k + 1 = q.length := by omega
      have t1 : decide ((k : Int) < (q.length : Int) - 1) = false := by rw [decide_eq_false_iff_not]; omega
      have ek : (q.length : Int) - 1 = (k : Int) := by omega
      have hd1 : q.drop (k + 1) = [] := List.drop_eq_nil_of_le (by omega)
      by_cases hxe : x = []
      · have hst := Lib.hid (show parseR q [] = ⟨outs, 0, 0⟩ by rw [hpr'.out, hdc.out, hd1, parseR, if_pos rfl, if_pos hxe])
        subst hxe
        have hownE := Lib.hid hown
        clear hown hd1
        rw [ek] at ew t1
        go_wp2_with fail
        obtain ⟨A2, c2, rfl, _, _⟩ := hownE.out.sl
        refine bodyPost_ret (results_tmp3 rfl _ _ _) rfl ?_
        exact ⟨_, by rw [hst.out]; rfl, by rw [hst.out]; exact ⟨hownE.out.1.mono hb1.size, hownE.out.2⟩, hb1.trans (hb.mono hb1.size)⟩
      · have hst := Lib.hid (show parseR q [] = ⟨[], outs.length + 1, 2⟩ by rw [hpr'.out, hdc.out, hd1, parseR, if_pos rfl, if_neg hxe])
        obtain ⟨c0, xt, rfl⟩ : ∃ c t, x = c :: t := by
          cases x with
          | nil => exact (hxe rfl).elim
          | cons c t => exact ⟨c, t, rfl⟩
        clear hown hd1 hxe
        rw [ek] at ew t1
        go_wp2_with fail
        have hql : (q.length : Int) = (outs.length : Int) + 1 := by have := hol'.out; omega
        refine bodyPost_ret (results_tmp3 rfl _ _ _) rfl ?_
        exact ⟨.slice none 0 0, by rw [hst.out, hql]; rfl, by rw [hst.out]; exact OwnE.nil _ _, hb1.trans (hb.mono hb1.size)⟩

end Go.Proofs.YtopclkkkchhgiaaDoor
