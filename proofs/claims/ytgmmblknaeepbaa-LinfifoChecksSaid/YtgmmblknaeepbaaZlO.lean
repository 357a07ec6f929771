/- The reference's Follows of a queue's calls; the law LinfifoFollows. -/
import Derived.Test.YtgmmblknaeepbaaZlR
namespace Go.Proofs.Ytgmmblknaeepbaa
open Go.RowKit
attribute [local go_sem] Oper.semAt_some

theorem putS_snoc {S : List Cl} {k : Nat} {x : Cl} (h : S[k]? = some x) : ((x.q = 3 ∧ (x.e < 0 ∨ x.c = 0)) → putI (putsOf (S.take (k + 1))) = putI (putsOf (S.take k)) ++ [x.r]) ∧ (¬ (x.q = 3 ∧ (x.e < 0 ∨ x.c = 0)) → putI (putsOf (S.take (k + 1))) = putI (putsOf (S.take k))) := by
  rw [take_snoc h]
  unfold putI putsOf
  simp only [List.filter_append, List.map_append, List.filter_cons, List.filter_nil]
  refine ⟨fun e => ?_, fun e => ?_⟩
  · have h2 : (opn x || x.c == 0) = true := by simpa [opn] using e.2
    simp [e.1, h2]
  · by_cases hq : x.q = 3
    · have h2 : (opn x || x.c == 0) = false := by
        cases q : (opn x || x.c == 0) with
        | false => rfl
        | true => exact absurd ⟨hq, by simpa [opn] using q⟩ e
      simp [hq, h2]
    · simp [hq]
theorem takS_snoc {S : List Cl} {k : Nat} {x : Cl} (h : S[k]? = some x) : ((x.q ≠ 3 ∧ ¬ x.e < 0 ∧ x.c = 0) → takenI (takesOf (S.take (k + 1))) = takenI (takesOf (S.take k)) ++ [x.r]) ∧ (¬ (x.q ≠ 3 ∧ ¬ x.e < 0 ∧ x.c = 0) → takenI (takesOf (S.take (k + 1))) = takenI (takesOf (S.take k))) := by
  rw [take_snoc h]
  unfold takenI takesOf
  simp only [List.filter_append, List.map_append, List.filter_cons, List.filter_nil]
  refine ⟨fun e => ?_, fun e => ?_⟩
  · have h2 : gdc x = true := by simp [gdc, opn, e.2.2]; omega
    simp [e.1, h2]
  · by_cases hq : x.q = 3
    · simp [hq]
    · have h2 : gdc x = false := by
        cases q : gdc x with
        | false => rfl
        | true => exact absurd ⟨hq, by simpa [gdc, opn] using q⟩ e
      simp [hq, h2]
theorem len_puts (S : List Cl) (k : Nat) : (putI (putsOf (S.take k))).length ≤ S.length ∧ (takenI (takesOf (S.take k))).length ≤ S.length := by
  unfold putI takenI putsOf takesOf
  rw [List.length_map, List.length_map]
  have h := List.length_take_le' k S
  exact ⟨Nat.le_trans (List.length_filter_le _ _) (Nat.le_trans (List.length_filter_le _ _) h), Nat.le_trans (List.length_filter_le _ _) (Nat.le_trans (List.length_filter_le _ _) h)⟩
theorem HeldI.snoc {n1 : Nat} {w1 : World} {L : List It} (h : HeldI n1 w1 L) {e : It} (he : Ws w1 n1 e.A e.r ∧ e.r.length ≤ e.c ∧ e.c ≤ maxLen) : HeldI n1 w1 (L ++ [e]) := fun f hf => by
  rcases List.mem_append.1 hf with q | q
  · exact h f q
  · rw [List.mem_singleton.1 q]; exact he
/-- A list is the beginning of another. -/
theorem pref_no1 {U V : List (List Int)} (h : V.length < U.length) : U.isPrefixOf V = false := by
  cases e : U.isPrefixOf V with
  | false => rfl
  | true =>
    have := (List.isPrefixOf_iff_prefix.1 e).length_le
    omega
theorem pref_no2 {U V : List (List Int)} {k : Nat} {a b : List Int} (ha : U[k]? = some a) (hb : V[k]? = some b) (h : a ≠ b) : U.isPrefixOf V = false := by
  cases e : U.isPrefixOf V with
  | false => rfl
  | true =>
    obtain ⟨t, rfl⟩ := List.isPrefixOf_iff_prefix.1 e
    rw [List.getElem?_append_left (get_lt ha), ha] at hb
    injection hb with hb
    exact absurd hb h
theorem pref_yes {U V : List (List Int)} (h : U.length ≤ V.length) (hk : ∀ (k : Nat) (a b : List Int), U[k]? = some a → V[k]? = some b → a = b) : U.isPrefixOf V = true := by
  rw [List.isPrefixOf_iff_prefix, List.prefix_iff_eq_take]
  apply List.ext_getElem?
  intro k
  by_cases hlt : k < U.length
  · obtain ⟨a, ha⟩ := get_some hlt
    obtain ⟨b, hb⟩ := get_some (show k < V.length by omega)
    rw [List.getElem?_take_of_lt hlt, ha, hb, hk k a b ha hb]
  · rw [List.getElem?_eq_none (by omega), List.getElem?_eq_none (by rw [List.length_take]; omega)]

theorem box_app {W W' : World} {B : Nat} {x : Cl} {A : Option Addr} {c : Nat} {base : Nat} {v : Value} {L : List It} {o : Obj} (h : ClBox W B x A c) (ho : Own itE 30 base W v L) (hg : (W.alloc o).grownBy W' v.ownBlock) : ClBox W' B x A c := by
  have h1 : W.heap[B]? = some (.cells #[.int .i64 x.p, .int .i64 x.o, .int .i64 x.q, .slice A x.r.length c, .int .i64 x.c, .int .i64 x.b, .int .i64 x.e] 32 (0, 0)) := h
  have h2 := row_kept h1 ((Below.refl _ W).alloc (Nat.le_refl _) o)
  refine (hg.block B (row_lt h2) (fun e => ?_)).trans h2
  rcases ho.2 with ⟨q, _⟩ | ⟨g, cap, cur, hv, hgb, hh, r⟩
  · rw [q] at e; cases e
  · rw [hv] at e
    have e2 : B = g := by simpa [Value.ownBlock] using e
    subst e2
    rw [h1] at hh
    injection hh with hh
    injection hh with _ hh
    exact absurd hh (by decide)

set_option maxRecDepth 100000 in
set_option maxHeartbeats 8000000 in
theorem rfollows_any (A : Option Addr) (c : Nat) (l : List Cl) (w : World) (hn : l.length ≤ 40) (hl : ClSl w w.heap.size A l) :
    Calls Try.prog 15 #[.slice A l.length c] w (FolR l w) := by
  have hfit := rfits_any A c l w (by omega) hl
  cases hf : fitsB l with
  | false =>
    rw [hf] at hfit
    have HF := Lib.hid hfit
    have HFF := Lib.hid hf
    clear hfit hf hl
    go_enter Try.func15, Try.ntmps15
    go_wp2_with fail
    refine HF.out.mono ?_
    rintro e w1 ⟨rfl, hb1⟩
    go_wp2_with fail
    go_ret
    exact ⟨false, rfl, fun _ => rfl, fun h => (by rw [HFF.out] at h; cases h), hb1⟩
  | true =>
    obtain ⟨L0, hL0, hE0⟩ := hl.els
    have hlen : L0.length = l.length := by rw [← hL0, List.length_map]
    have hlf := fits_lf hf
    rw [hf] at hfit
    have HF := Lib.hid hfit
    have HFF := Lib.hid hf
    have HE0 := Lib.hid hE0
    have HL0 := Lib.hid hL0
    have HLF := Lib.hid hlf
    rw [← hlen] at hfit hn ⊢
    have HF := Lib.hid hfit
    clear hfit hf hl hE0 hL0 hlf hlen
    go_enter Try.func15, Try.ntmps15
    go_wp2_with fail
    refine HF.out.mono ?_
    rintro e w1 ⟨rfl, hb1⟩
    have hrs := rsort_any A c L0 w1 (by omega) (fun k e h => (HE0.out k e h).below hb1 hb1.size)
    have HRS := Lib.hid hrs
    have HB1 := Lib.hid hb1
    clear hrs hb1
    go_wp2_with fail
    refine HRS.out.mono ?_
    rintro e w2 ⟨v, M, rfl, hO, hp, hso, hb2⟩
    have hSo : SortOf (M.map (·.x)) l := ⟨L0, M, rfl, HL0.out, fun k e h => (HE0.out k e h).1, hp, hso⟩
    have hheld : Held w1.heap.size w1 M := fun e he => by
      obtain ⟨k, hk⟩ := List.getElem?_of_mem (hp.subset he)
      obtain ⟨_, _, _, _, _, _, h1, h2, h3⟩ := (HE0.out k e hk).below HB1.out HB1.out.size
      exact ⟨h1, h2, h3⟩
    obtain ⟨A1, c1, rfl, hc1, hS⟩ := own_clsl hO hheld hb2 hb2.size
    have hMl : (M.map (·.x)).length = L0.length := by rw [List.length_map]; exact hp.length_eq
    obtain ⟨S, hSe⟩ : ∃ S, M.map (·.x) = S := ⟨_, rfl⟩
    rw [hSe] at hS hSo hMl hc1 ⊢
    have hq4 : ∀ x ∈ S, x.q = 3 ∨ x.q = 4 := fun x hx => by
      have h := HLF.out x (hSo.perm.subset hx)
      unfold lfB at h
      simp only [Bool.or_eq_true, Bool.and_eq_true, beq_iff_eq] at h
      omega
    have HEND := Lib.hid (fun b (w' : World) (h1 : b = (takenI (takesOf S)).isPrefixOf (putI (putsOf S))) (h2 : Below w.heap.size w w') => (⟨b, rfl, fun h => (by rw [HFF.out] at h; cases h), fun _ => ⟨S, hSo, h1⟩, h2⟩ : FolR l w (.returned (.bool b)) w'))
    have HB2 := Lib.hid (HB1.out.trans (hb2.mono HB1.out.size))
    have hS40 : S.length ≤ 40 := by omega
    have HQ4 := Lib.hid hq4
    clear hO hp hso hb2 hSo hheld hMl hSe hq4 HE0 HL0 HLF HRS
    go_wp2_with fail
    go_loopw [3, 4, 14] (fun v1 v2 j wr => ∃ (k : Nat) (L1 L2 : List It), k ≤ S.length ∧ j = .int .i64 k ∧ L1.map (·.r) = putI (putsOf (S.take k)) ∧ L2.map (·.r) = takenI (takesOf (S.take k)) ∧ Own itE 30 w2.heap.size wr v1 L1 ∧ Own itE 30 w2.heap.size wr v2 L2 ∧ HeldI w2.heap.size w2 L1 ∧ HeldI w2.heap.size w2 L2 ∧ Apart v1 v2 ∧ Below w2.heap.size w2 wr) (fun _ _ j _ => S.length - (intOf j).toNat)
    case atStart => exact ⟨0, [], [], Nat.zero_le _, rfl, rfl, rfl, Own.nil _ _, Own.nil _ _, (fun e h => by cases h), (fun e h => by cases h), fun b h => (by cases h), Below.refl _ _⟩
    case round =>
      obtain ⟨k, L1, L2, hk, rfl, e1, e2, ho1, ho2, hh1, hh2, hap, hb⟩ := hrel
      by_cases hlt : k < S.length
      · obtain ⟨x, hx⟩ := get_some hlt
        obtain ⟨b', off, Ax, cx, rfl, hlb, ⟨h0, h1, h2, h3, h4, h5, h6⟩, hws, hcc1, hcc2⟩ := (hS.below hb (Nat.le_refl _)) k x hx
        have hws1 : Ws w2 w2.heap.size Ax x.r := by
          obtain ⟨b2, off2, A2, cx2, hA2, hlt2, ⟨g0, g1, g2, g3, g4, g5, g6⟩, hws2, _, _⟩ := hS k x hx
          injection hA2 with hA2
          injection hA2 with q1 q2 q3
          subst q1 q2
          have := (hb.cell (p := ⟨b', off + k * 7 + 3, none⟩) hlt2).trans g3
          rw [h3] at this
          injection this with this
          injection this with this
          rw [this]
          exact hws2
        obtain ⟨lp, lt⟩ := len_puts S k
        have hl1 : L1.length ≤ 40 := by
          have := congrArg List.length e1
          rw [List.length_map] at this
          omega
        have hl2 : L2.length ≤ 40 := by
          have := congrArg List.length e2
          rw [List.length_map] at this
          omega
        obtain ⟨sp1, sp2⟩ := putS_snoc hx
        obtain ⟨st1, st2⟩ := takS_snoc hx
        have hq34 := HQ4.out x (List.mem_of_getElem? hx)
        obtain ⟨W1, hW1⟩ : ∃ W1, wr.alloc (.cells #[.int .i64 x.p, .int .i64 x.o, .int .i64 x.q, .slice Ax x.r.length cx, .int .i64 x.c, .int .i64 x.b, .int .i64 x.e] 32) = W1 := ⟨_, rfl⟩
        have hbw := (Below.refl wr.heap.size wr).alloc (Nat.le_refl _) (.cells #[.int .i64 x.p, .int .i64 x.o, .int .i64 x.q, .slice Ax x.r.length cx, .int .i64 x.c, .int .i64 x.b, .int .i64 x.e] 32)
        have hbx := ClBox.new wr x Ax cx
        rw [hW1] at hbw hbx
        obtain ⟨nb, hnb⟩ : ∃ y, wr.heap.size = y := ⟨_, rfl⟩
        have hB := hb.trans (hbw.mono hb.size)
        have hO1 := ho1.below hbw (Nat.le_refl _)
        have hO2 := ho2.below hbw (Nat.le_refl _)
        have hbase := hB.size
        rw [hnb] at hbx
        obtain ⟨y0, y1, y2, y3, y4, y5, y6⟩ := hbx.cells
        have HO1 := Lib.hid hO1
        have HO2 := Lib.hid hO2
        have HB := Lib.hid hB
        have HE1 := Lib.hid e1
        have HE2 := Lib.hid e2
        have HH1 := Lib.hid hh1
        have HH2 := Lib.hid hh2
        have HAP := Lib.hid hap
        have HBX := Lib.hid hbx
        have HWS := Lib.hid (show Ws w2 w2.heap.size Ax x.r ∧ x.r.length ≤ cx ∧ cx ≤ maxLen from ⟨hws1, hcc1, hcc2⟩)
        clear hx hws hws1 hbw hbx hb hB hO1 hO2 ho1 ho2 e1 e2 hh1 hh2 hap lp lt
        have hways : (x.q = 3 ∧ x.e < 0) ∨ (x.q = 3 ∧ ¬ x.e < 0 ∧ x.c = 0) ∨ (x.q = 3 ∧ ¬ x.e < 0 ∧ x.c ≠ 0) ∨ (x.q = 4 ∧ x.e < 0) ∨ (x.q = 4 ∧ ¬ x.e < 0 ∧ x.c = 0) ∨ (x.q = 4 ∧ ¬ x.e < 0 ∧ x.c ≠ 0) := by omega
        clear hq34
        rcases hways with ⟨hq, he⟩ | ⟨hq, he, hc⟩ | ⟨hq, he, hc⟩ | ⟨hq, he⟩ | ⟨hq, he, hc⟩ | ⟨hq, he, hc⟩
        · have t1 : (x.q == 3) = true := by rw [hq]; rfl
          have t2 : (x.q == 4) = false := by rw [hq]; rfl
          have SP := Lib.hid (sp1 (by omega))
          have ST := Lib.hid (st2 (by omega))
          clear sp1 sp2 st1 st2 hq
          go_wp2_with (first
            | (at_builtin; refine wpList_app1h rfl _ _ 40 rfl itTy w2.heap.size HO1.out rfl rfl rfl rfl (by unfold maxLen; omega) (by omega) hbase ?_; intro v' W4 hown4 hbel4 hgr4 hob4; (obtain ⟨z0, z1, z2, z3, z4, z5, z6⟩ := (box_app HBX.out HO1.out hgr4).cells))
            | fail)
          go_roundw
          case rel =>
            refine ⟨k + 1, L1 ++ [⟨x.r, Ax, cx⟩], L2, by omega, by go_num, ?_, by rw [ST.out]; exact HE2.out, Own.app hown4 rfl, HO2.out.grownBy hgr4 HAP.out.symm, HH1.out.snoc HWS.out, HH2.out, (Apart.grown HO2.out HAP.out.symm hob4).symm, HB.out.trans hbel4⟩
            rw [SP.out, List.map_append, HE1.out]; rfl
          case measure => simp [intOf]; omega
        · have t1 : (x.q == 3) = true := by rw [hq]; rfl
          have t2 : (x.q == 4) = false := by rw [hq]; rfl
          have t3 : (x.c == 0) = true := by simpa using hc
          have SP := Lib.hid (sp1 (by omega))
          have ST := Lib.hid (st2 (by omega))
          clear sp1 sp2 st1 st2 hq hc
          go_wp2_with (first
            | (at_builtin; refine wpList_app1h rfl _ _ 40 rfl itTy w2.heap.size HO1.out rfl rfl rfl rfl (by unfold maxLen; omega) (by omega) hbase ?_; intro v' W4 hown4 hbel4 hgr4 hob4; (obtain ⟨z0, z1, z2, z3, z4, z5, z6⟩ := (box_app HBX.out HO1.out hgr4).cells))
            | fail)
          go_roundw
          case rel =>
            refine ⟨k + 1, L1 ++ [⟨x.r, Ax, cx⟩], L2, by omega, by go_num, ?_, by rw [ST.out]; exact HE2.out, Own.app hown4 rfl, HO2.out.grownBy hgr4 HAP.out.symm, HH1.out.snoc HWS.out, HH2.out, (Apart.grown HO2.out HAP.out.symm hob4).symm, HB.out.trans hbel4⟩
            rw [SP.out, List.map_append, HE1.out]; rfl
          case measure => simp [intOf]; omega
        · have t1 : (x.q == 3) = true := by rw [hq]; rfl
          have t2 : (x.q == 4) = false := by rw [hq]; rfl
          have t3 : (x.c == 0) = false := by simpa using hc
          have SP := Lib.hid (sp2 (by omega))
          have ST := Lib.hid (st2 (by omega))
          clear sp1 sp2 st1 st2 hq hc
          go_wp2_with fail
          go_roundw
          case rel =>
            exact ⟨k + 1, L1, L2, by omega, by go_num, by rw [SP.out]; exact HE1.out, by rw [ST.out]; exact HE2.out, HO1.out, HO2.out, HH1.out, HH2.out, HAP.out, HB.out⟩
          case measure => simp [intOf]; omega
        · have t1 : (x.q == 3) = false := by rw [hq]; rfl
          have t2 : (x.q == 4) = true := by rw [hq]; rfl
          have SP := Lib.hid (sp2 (by omega))
          have ST := Lib.hid (st2 (by omega))
          clear sp1 sp2 st1 st2 hq
          go_wp2_with fail
          go_roundw
          case rel =>
            exact ⟨k + 1, L1, L2, by omega, by go_num, by rw [SP.out]; exact HE1.out, by rw [ST.out]; exact HE2.out, HO1.out, HO2.out, HH1.out, HH2.out, HAP.out, HB.out⟩
          case measure => simp [intOf]; omega
        · have t1 : (x.q == 3) = false := by rw [hq]; rfl
          have t2 : (x.q == 4) = true := by rw [hq]; rfl
          have t3 : (x.c == 0) = true := by simpa using hc
          have SP := Lib.hid (sp2 (by omega))
          have ST := Lib.hid (st1 (by omega))
          clear sp1 sp2 st1 st2 hq hc
          go_wp2_with (first
            | (at_builtin; refine wpList_app1h rfl _ _ 40 rfl itTy w2.heap.size HO2.out rfl rfl rfl rfl (by unfold maxLen; omega) (by omega) hbase ?_; intro v' W4 hown4 hbel4 hgr4 hob4)
            | fail)
          go_roundw
          case rel =>
            refine ⟨k + 1, L1, L2 ++ [⟨x.r, Ax, cx⟩], by omega, by go_num, by rw [SP.out]; exact HE1.out, ?_, HO1.out.grownBy hgr4 HAP.out, Own.app hown4 rfl, HH1.out, HH2.out.snoc HWS.out, Apart.grown HO1.out HAP.out hob4, HB.out.trans hbel4⟩
            rw [ST.out, List.map_append, HE2.out]; rfl
          case measure => simp [intOf]; omega
        · have t1 : (x.q == 3) = false := by rw [hq]; rfl
          have t2 : (x.q == 4) = true := by rw [hq]; rfl
          have t3 : (x.c == 0) = false := by simpa using hc
          have SP := Lib.hid (sp2 (by omega))
          have ST := Lib.hid (st2 (by omega))
          clear sp1 sp2 st1 st2 hq hc
          go_wp2_with fail
          go_roundw
          case rel =>
            exact ⟨k + 1, L1, L2, by omega, by go_num, by rw [SP.out]; exact HE1.out, by rw [ST.out]; exact HE2.out, HO1.out, HO2.out, HH1.out, HH2.out, HAP.out, HB.out⟩
          case measure => simp [intOf]; omega
      · have ht := take_all hlt
        rw [ht] at e1 e2
        obtain ⟨Ap, cp, rfl, sI, _⟩ := own_itsl ho1 hh1 hb hb.size
        obtain ⟨At, ct, rfl, sU, _⟩ := own_itsl ho2 hh2 hb hb.size
        rw [e1] at sI
        rw [e2] at sU
        rw [e1, e2]
        obtain ⟨lp, lt⟩ := len_puts S S.length
        rw [List.take_length] at lp lt
        obtain ⟨I, hIe⟩ : ∃ x, putI (putsOf S) = x := ⟨_, rfl⟩
        obtain ⟨U, hUe⟩ : ∃ x, takenI (takesOf S) = x := ⟨_, rfl⟩
        rw [hIe] at sI lp HEND ⊢
        rw [hUe] at sU lt HEND ⊢
        have HSI := Lib.hid sI
        have HSU := Lib.hid sU
        have HB := Lib.hid (HB2.out.trans (hb.mono HB2.out.size))
        have lp40 : I.length ≤ 40 := by omega
        have lt40 : U.length ≤ 40 := by omega
        clear e1 e2 ho1 ho2 hh1 hh2 hap hb sI sU ht hS hIe hUe lp lt
        by_cases hlong : I.length < U.length
        · have HNO := Lib.hid (pref_no1 hlong)
          have g0 : decide ((I.length : Int) < (U.length : Int)) = true := by simp; omega
          have g1 : decide (I.length < U.length) = true := by simp; omega
          go_wp2_with fail
          go_ret
          exact HEND.out false _ HNO.out.symm HB.out
        · have g0 : decide ((I.length : Int) < (U.length : Int)) = false := by simp; omega
          have g1 : decide (I.length < U.length) = false := by simp; omega
          go_wp2_with fail
          go_loopw [7, 62] (fun _ j wq => ∃ k : Nat, k ≤ U.length ∧ j = .int .i64 k ∧ (∀ i a b, i < k → U[i]? = some a → I[i]? = some b → a = b) ∧ Below wr.heap.size wr wq) (fun _ j _ => U.length - (intOf j).toNat)
          case atStart => exact ⟨0, Nat.zero_le _, rfl, fun i a b h => by omega, Below.refl _ _⟩
          case round =>
            obtain ⟨k, hk, rfl, hall, hb⟩ := hrel
            by_cases hlt : k < U.length
            · obtain ⟨a, ha⟩ := get_some hlt
              obtain ⟨b, hb0⟩ := get_some (show k < I.length by omega)
              obtain ⟨ub, uo, Au, cu, rfl, hub, huc, huw, hu1, hu2⟩ := (HSU.out.below hb (Nat.le_refl _)) k a ha
              obtain ⟨ib, io, Ai, ci, rfl, hib, hic, hiw, hi1, hi2⟩ := (HSI.out.below hb (Nat.le_refl _)) k b hb0
              have hki : (k : Int) < (U.length : Int) := by omega
              have hkI : (k : Int) < (I.length : Int) := by omega
              have hkI2 : k < I.length := by omega
              have hsame := fun (W' : World) (hbb : Below wr.heap.size wr W') => rsame_any Au Ai cu ci a b W' (by unfold maxLen at hu2; omega) (by unfold maxLen at hi2; omega) (huw.below (hbb.mono hb.size) (Nat.le_trans hb.size hbb.size)) (hiw.below (hbb.mono hb.size) (Nat.le_trans hb.size hbb.size))
              obtain ⟨v, hv⟩ : ∃ v, decide (a = b) = v := ⟨_, rfl⟩
              rw [hv] at hsame
              have HV := Lib.hid hv
              have HSAME := Lib.hid hsame
              have HA := Lib.hid ha
              have HB0 := Lib.hid hb0
              have HALL := Lib.hid hall
              have HBW := Lib.hid hb
              clear hsame huw hiw ha hb0 hall hv hb
              cases v with
              | false =>
                go_wp2_with fail
                have hSd : (fun w' => Below wr.heap.size wr w' ∧ w'.cell? ⟨ub, uo + k, none⟩ = some (.slice Au a.length cu) ∧ w'.cell? ⟨ib, io + k, none⟩ = some (.slice Ai b.length ci)) wr.drew := ⟨(Below.refl _ wr).drew, huc, hic⟩
                refine wp_region_held_drew (S := (fun w' => Below wr.heap.size wr w' ∧ w'.cell? ⟨ub, uo + k, none⟩ = some (.slice Au a.length cu) ∧ w'.cell? ⟨ib, io + k, none⟩ = some (.slice Ai b.length ci))) (by kernel_rfl) hSd (fun hHeld => ?_)
                generalize wr.drew = wd at hHeld ⊢
                have hHeld : (fun w' => Below wr.heap.size wr w' ∧ w'.cell? ⟨ub, uo + k, none⟩ = some (.slice Au a.length cu) ∧ w'.cell? ⟨ib, io + k, none⟩ = some (.slice Ai b.length ci)) wd := hHeld
                refine tkH 0 ?_
                try first | simp only [pS, List.set] | simp only [pN]
                refine tkH 1 ?_
                try first | simp only [pS, List.set] | simp only [pN]
                refine tkH 2 ?_
                try first | simp only [pS, List.set] | simp only [pN]
                refine tkH 3 ?_
                try first | simp only [pS, List.set] | simp only [pN]
                refine tkH 4 ?_
                try first | simp only [pS, List.set] | simp only [pN]
                refine tkH 5 ?_
                try first | simp only [pS, List.set] | simp only [pN]
                refine tkH 6 ?_
                try first | simp only [pS, List.set] | simp only [pN]
                refine tkH 7 ?_
                try first | simp only [pS, List.set] | simp only [pN]
                refine wpAnyH_ready (rs := [8]) (by kernel_rfl) (by simp) ?_
                refine AllReadyH.cons (o := ?_) ?_ (fun K hK => ?_) AllReadyH.nil
                rotate_left
                · (simp only [List.getElem?_toArray, List.getElem?_cons_succ, List.getElem?_cons_zero]; rfl)
                go_simp
                go_at_call 27
                refine (HSAME.out _ hHeld.1).mono ?_
                rintro e wx ⟨rfl, hbx⟩
                have hSx : (fun w' => Below wr.heap.size wr w' ∧ w'.cell? ⟨ub, uo + k, none⟩ = some (.slice Au a.length cu) ∧ w'.cell? ⟨ib, io + k, none⟩ = some (.slice Ai b.length ci)) wx := ⟨hHeld.1.trans (hbx.mono hHeld.1.size), cell_below hHeld.2.1 hbx, cell_below hHeld.2.2 hbx⟩
                refine hK.out _ _ hSx (fun hHeld => ?_)
                clear hK K
                try first | simp only [pS, List.set] | simp only [pN]
                refine tkH 9 ?_
                try first | simp only [pS, List.set] | simp only [pN]
                refine wpAnyH_done (by kernel_rfl) ?_ _
                have hBd := HBW.out.trans (hHeld.1.mono HBW.out.size)
                have HBD := Lib.hid hBd
                clear hSd hHeld hSx hBd
                have HNO := Lib.hid (pref_no2 HA.out HB0.out (of_decide_eq_false HV.out))
                go_wp2_with fail
                go_ret
                exact HEND.out false _ HNO.out.symm (HB.out.trans (HBD.out.mono HB.out.size))
              | true =>
                go_wp2_with fail
                have hSd : (fun w' => Below wr.heap.size wr w' ∧ w'.cell? ⟨ub, uo + k, none⟩ = some (.slice Au a.length cu) ∧ w'.cell? ⟨ib, io + k, none⟩ = some (.slice Ai b.length ci)) wr.drew := ⟨(Below.refl _ wr).drew, huc, hic⟩
                refine wp_region_held_drew (S := (fun w' => Below wr.heap.size wr w' ∧ w'.cell? ⟨ub, uo + k, none⟩ = some (.slice Au a.length cu) ∧ w'.cell? ⟨ib, io + k, none⟩ = some (.slice Ai b.length ci))) (by kernel_rfl) hSd (fun hHeld => ?_)
                generalize wr.drew = wd at hHeld ⊢
                have hHeld : (fun w' => Below wr.heap.size wr w' ∧ w'.cell? ⟨ub, uo + k, none⟩ = some (.slice Au a.length cu) ∧ w'.cell? ⟨ib, io + k, none⟩ = some (.slice Ai b.length ci)) wd := hHeld
                refine tkH 0 ?_
                try first | simp only [pS, List.set] | simp only [pN]
                refine tkH 1 ?_
                try first | simp only [pS, List.set] | simp only [pN]
                refine tkH 2 ?_
                try first | simp only [pS, List.set] | simp only [pN]
                refine tkH 3 ?_
                try first | simp only [pS, List.set] | simp only [pN]
                refine tkH 4 ?_
                try first | simp only [pS, List.set] | simp only [pN]
                refine tkH 5 ?_
                try first | simp only [pS, List.set] | simp only [pN]
                refine tkH 6 ?_
                try first | simp only [pS, List.set] | simp only [pN]
                refine tkH 7 ?_
                try first | simp only [pS, List.set] | simp only [pN]
                refine wpAnyH_ready (rs := [8]) (by kernel_rfl) (by simp) ?_
                refine AllReadyH.cons (o := ?_) ?_ (fun K hK => ?_) AllReadyH.nil
                rotate_left
                · (simp only [List.getElem?_toArray, List.getElem?_cons_succ, List.getElem?_cons_zero]; rfl)
                go_simp
                go_at_call 27
                refine (HSAME.out _ hHeld.1).mono ?_
                rintro e wx ⟨rfl, hbx⟩
                have hSx : (fun w' => Below wr.heap.size wr w' ∧ w'.cell? ⟨ub, uo + k, none⟩ = some (.slice Au a.length cu) ∧ w'.cell? ⟨ib, io + k, none⟩ = some (.slice Ai b.length ci)) wx := ⟨hHeld.1.trans (hbx.mono hHeld.1.size), cell_below hHeld.2.1 hbx, cell_below hHeld.2.2 hbx⟩
                refine hK.out _ _ hSx (fun hHeld => ?_)
                clear hK K
                try first | simp only [pS, List.set] | simp only [pN]
                refine tkH 9 ?_
                try first | simp only [pS, List.set] | simp only [pN]
                refine wpAnyH_done (by kernel_rfl) ?_ _
                have hBd := HBW.out.trans (hHeld.1.mono HBW.out.size)
                have HBD := Lib.hid hBd
                clear hSd hHeld hSx hBd
                go_wp2_with fail
                go_roundw
                case rel =>
                  refine ⟨k + 1, by omega, by go_num, fun i a' b' hi ha hb => ?_, HBD.out⟩
                  by_cases e : i = k
                  · subst e
                    have h1 := HA.out
                    have h2 := HB0.out
                    rw [ha] at h1
                    rw [hb] at h2
                    cases h1
                    cases h2
                    exact of_decide_eq_true HV.out
                  · exact HALL.out i a' b' (by omega) ha hb
                case measure => simp [intOf]; omega
            · have HYES := Lib.hid (pref_yes (U := U) (V := I) (by omega) (fun i a b ha hb => hall i a b (by have := get_lt ha; omega) ha hb))
              have HBW := Lib.hid hb
              clear hall hb
              go_wp2_with fail
              go_ret
              exact HEND.out true _ HYES.out.symm (HB.out.trans (HBW.out.mono HB.out.size))

end Go.Proofs.Ytgmmblknaeepbaa
