/- history.pick with each of its tests. -/
import Derived.Test.YtkcdmonmgnmojaaDoorPk1
namespace Go.Proofs.YtkcdmonmgnmojaaDoor
open Go.RowKit

theorem wpList_app1g {P : Program} {w0 : World} {cs : Array Value} {ops : Array Oper} {rest : List Oper} {o : Oper} {a : Act} {Q : Exit → Act → World → Prop} (hgd : o.guard = none) (s x : Operand) (t : TypeId)
    (ho : o.op = .call { callee := .builtin .append, args := #[s, x], argTypes := #[t, t] }) {e : TypeId} {size bytes : Nat} (hT : ElemTy P t e size bytes) (base : Nat)
    {v : Value} {n : Nat} {xs : List Value} (hown : w0.ownsRow base e size v n xs) (hs : a.eval s = v) (hx : a.eval x = .slice (some ⟨w0.heap.size, 0, none⟩) 1 1) (hl : cs.size = size) (h1 : cs.toList.all (fun u => u.oneCell') = true)
    (h63 : n + 1 ≤ maxLen) (hbytes : (n + 1) * bytes ≤ 140737488355328) (hbase : base ≤ w0.heap.size)
    (h : ∀ v' w', w'.ownsRow base e size v' (n + 1) (xs ++ cs.toList) → Below base w0 w' → (w0.alloc (.cells cs e)).grownBy w' v.ownBlock → wpList P ops Q rest (a.put o.dst v') w') : wpList P ops Q (o :: rest) a (w0.alloc (.cells cs e)) := by
  obtain ⟨ht, i, z, hi, hz, hsize, hby, hzs, hsz⟩ := hT
  refine wpList_append_own_at _ hgd s x t ho base e i z size bytes ht hi hz hsize hby hzs hsz v n xs hs (hown.alloc _) ⟨w0.heap.size, 0, none⟩ 1 1 cs.toList hx (by simpa using hl) (cells_new' _ _ _ _ rfl) (fun u hu => List.all_eq_true.1 h1 u hu) h63 hbytes (by simp; omega) ?_
  intro v' w' h2 h3 h4 _
  exact h v' w' h2 (((Below.refl base w0).alloc hbase _).trans (grown_below (hown.alloc _) h3 (Nat.le_refl _) (by simp; omega))) h3
theorem KeepU.app {base n : Nat} {w0 w' : World} {v : Value} {xs : List Value} {o : Obj} (h : w0.ownsRow base 45 7 v n xs) (hg : (w0.alloc o).grownBy w' v.ownBlock) : KeepU w0 w' := by
  have hs := hg.size
  rw [World.size_alloc] at hs
  refine ⟨by omega, fun b cs fz hb => ?_⟩
  have hlt := (Array.getElem?_eq_some_iff.1 hb).1
  rw [hg.block b (by rw [World.size_alloc]; omega) (fun e => ?_), ((Below.refl w0.heap.size w0).alloc (Nat.le_refl _) o).block b hlt]
  rcases h.2 with ⟨e1, _⟩ | ⟨g, cap, cur, e1, _, hh, _⟩
  · rw [e1] at e; cases e
  · rw [e1] at e
    injection e with e
    have e : b = g := e
    subst e
    rw [hh] at hb
    injection hb with hb
    injection hb with _ hb _
    exact absurd hb (by decide)

/-- What pick has at hand after some calls. -/
structure PickAt (base : Nat) (w : World) (v : Value) (xs : List Cl) (L : List El) : Prop where
  own : OwnC base w v L
  eq : L.map (·.x) = xs
  tags : ∀ (k : Nat) (e : El), L[k]? = some e → e.t = k
theorem PickAt.nil (base : Nat) (w : World) : PickAt base w (.slice none 0 0) [] [] := ⟨OwnC.nil _ _, rfl, fun k e h => by simp at h⟩
theorem PickAt.below {base : Nat} {w w' : World} {v : Value} {xs : List Cl} {L : List El} (h : PickAt base w v xs L) (hb : Below w.heap.size w w') : PickAt base w' v xs L := ⟨h.own.below hb, h.eq, h.tags⟩
theorem PickAt.len {base : Nat} {w : World} {v : Value} {xs : List Cl} {L : List El} (h : PickAt base w v xs L) : L.length = xs.length := by rw [← h.eq, List.length_map]
theorem PickAt.snoc {base : Nat} {w0 w1 : World} {v v' : Value} {xs : List Cl} {L : List El} {x : Cl} {A : Option Addr} {c : Nat} {o : Obj} (h : PickAt base w0 v xs L) (hr : RecT w0 x.r A c)
    (h2 : w1.ownsRow base 45 7 v' (L.length + 1) (elE.all L ++ El.cells ⟨x, A, c, L.length⟩)) (hg : (w0.alloc o).grownBy w1 v.ownBlock) : PickAt base w1 v' (xs ++ [x]) (L ++ [⟨x, A, c, L.length⟩]) := by
  have hk : KeepU w0 w1 := KeepU.app h.own.1 hg
  refine ⟨⟨Own.app (E := elE) (x := ⟨x, A, c, L.length⟩) h2 rfl, fun e he => ?_⟩, by rw [List.map_append, h.eq]; rfl, fun k e he => ?_⟩
  · rcases List.mem_append.1 he with he | he
    · exact (h.own.2 e he).keep hk
    · rw [List.mem_singleton.1 he]; exact hr.keep hk
  · by_cases hk : k < L.length
    · rw [List.getElem?_append_left hk] at he
      exact h.tags k e he
    · have hlt := get_lt he
      rw [List.length_append, List.length_singleton] at hlt
      have : k = L.length := by omega
      subst this
      rw [List.getElem?_append_right (Nat.le_refl _), Nat.sub_self] at he
      injection he with he
      rw [← he]
theorem filter_yes (p : Cl → Bool) {l : List Cl} {k : Nat} {x : Cl} (h : l[k]? = some x) (hp : p x = true) : (l.take (k + 1)).filter p = (l.take k).filter p ++ [x] := by
  rw [take_snoc h, List.filter_append]
  simp [hp]
theorem filter_no (p : Cl → Bool) {l : List Cl} {k : Nat} {x : Cl} (h : l[k]? = some x) (hp : p x = false) : (l.take (k + 1)).filter p = (l.take k).filter p := by
  rw [take_snoc h, List.filter_append]
  simp [hp]

/-! ### the tests -/
theorem all_any (x : Cl) (A : Option Addr) (c : Nat) (w : World) : Calls Tryd.prog 54 #[clV x A c] w fun e w' => e = .returned (.bool true) ∧ Below w.heap.size w w' := by
  unfold clV
  go_enter Tryd.func54, Tryd.ntmps54
  go_wp2_with fail
  go_ret
  exact ⟨rfl, (Below.refl _ w).alloc (Nat.le_refl _) _⟩
theorem of1_any (x : Cl) (A : Option Addr) (c : Nat) (z : Int) (b : Nat) (w : World) (hz : w.cell? ⟨b, 0, none⟩ = some (.int .i64 z)) : Calls Tryd.prog 59 #[clV x A c, .pointer (some ⟨b, 0, none⟩)] w fun e w' => e = .returned (.bool (x.o == z)) ∧ Below w.heap.size w w' := by
  have hlt := cell_lt hz
  have hlt : b < w.heap.size := hlt
  unfold clV
  have hb := (Below.refl _ w).alloc (Nat.le_refl _) (.cells #[.int .i64 x.p, .int .i64 x.o, .int .i64 x.q, .slice A x.r.length c, .int .i64 x.c, .int .i64 x.b, .int .i64 x.e] 45)
  have hz2 := (hb.cell (p := ⟨b, 0, none⟩) hlt).trans hz
  obtain ⟨c0, c1, c2, c3, c4, c5, c6⟩ := (ClBox.new w x A c).cells
  go_enter Tryd.func59, Tryd.ntmps59
  go_wp2_with fail
  go_ret
  exact ⟨by first | rfl | exact ret_bool (by simp), hb⟩
theorem by1_any (x : Cl) (A : Option Addr) (c : Nat) (z : Int) (b : Nat) (w : World) (hz : w.cell? ⟨b, 0, none⟩ = some (.int .i64 z)) : Calls Tryd.prog 60 #[clV x A c, .pointer (some ⟨b, 0, none⟩)] w fun e w' => e = .returned (.bool (x.p == z)) ∧ Below w.heap.size w w' := by
  have hlt := cell_lt hz
  have hlt : b < w.heap.size := hlt
  unfold clV
  have hb := (Below.refl _ w).alloc (Nat.le_refl _) (.cells #[.int .i64 x.p, .int .i64 x.o, .int .i64 x.q, .slice A x.r.length c, .int .i64 x.c, .int .i64 x.b, .int .i64 x.e] 45)
  have hz2 := (hb.cell (p := ⟨b, 0, none⟩) hlt).trans hz
  obtain ⟨c0, c1, c2, c3, c4, c5, c6⟩ := (ClBox.new w x A c).cells
  go_enter Tryd.func60, Tryd.ntmps60
  go_wp2_with fail
  go_ret
  exact ⟨by first | rfl | exact ret_bool (by simp), hb⟩

set_option maxRecDepth 100000 in
set_option maxHeartbeats 4000000 in
theorem pickAll_any (A : Option Addr) (c : Nat) (l : List Cl) (w : World) (hn : l.length ≤ 60) (hr : ∀ x ∈ l, x.r.length ≤ 100) (hl : ClSl w w.heap.size A l) :
    Calls Tryd.prog 53 #[.slice A l.length c, .func (.func 54) #[] #[]] w fun e w' => ∃ v L, e = .returned v ∧ PickAt w.heap.size w' v (l.filter (fun _ => true)) L ∧ Below w.heap.size w w' := by
  go_enter Tryd.func53, Tryd.ntmps53
  go_wp2_with fail
  go_loopw [5, 10] (fun v j wr => ∃ (k : Nat) (L : List El), k ≤ l.length ∧ j = .int .i64 k ∧ PickAt w.heap.size wr v ((l.take k).filter (fun _ => true)) L ∧ Below w.heap.size w wr) (fun _ j _ => l.length - (intOf j).toNat)
  case atStart => exact ⟨0, [], Nat.zero_le _, rfl, PickAt.nil _ _, Below.refl _ _⟩
  case round =>
    obtain ⟨k, L, hk, rfl, hpk, hb⟩ := hrel
    by_cases hlt : k < l.length
    · obtain ⟨x, hx⟩ := get_some hlt
      obtain ⟨b', off, Ax, cx, rfl, hlb, ⟨h0, h1, h2, h3, h4, h5, h6⟩, hws, hc1, hc2⟩ := (hl.below hb (Nat.le_refl _)) k x hx
      have hxr := hr x (List.mem_of_getElem? hx)
      have hLL := hpk.len
      have hL60 : L.length ≤ k := by
        rw [hLL]
        refine Nat.le_trans (List.length_filter_le _ _) ?_
        rw [List.length_take]; omega
      have hsz := hb.size
      obtain ⟨W1, hW1⟩ : ∃ W1, wr.alloc (.cells #[.int .i64 x.p, .int .i64 x.o, .int .i64 x.q, .slice Ax x.r.length cx, .int .i64 x.c, .int .i64 x.b, .int .i64 x.e] 45) = W1 := ⟨_, rfl⟩
      have hbx := ClBox.new wr x Ax cx
      have hbw := (Below.refl _ wr).alloc (Nat.le_refl _) (.cells #[.int .i64 x.p, .int .i64 x.o, .int .i64 x.q, .slice Ax x.r.length cx, .int .i64 x.c, .int .i64 x.b, .int .i64 x.e] 45)
      rw [hW1] at hbx hbw
      have hclo := all_any x Ax cx W1
      unfold clV at hclo
      have hpkW := hpk.below hbw
      have hwsW := hws.below (hbw.mono hsz) (Nat.le_trans hsz hbw.size)
      have hbW := hb.trans (hbw.mono hsz)
      rcases hphi : ((fun _ => true) x) with _ | _
      · cases hphi
      · have hfs := filter_yes (fun _ => true) hx hphi
        skip
        have HCLO := Lib.hid hclo
        have HFS := Lib.hid hfs
        have HPK := Lib.hid hpkW
        have HB := Lib.hid hbW
        have HWS := Lib.hid hwsW
        have HBX := Lib.hid hbx
        obtain ⟨c0, c1, c2, c3, c4, c5, c6⟩ := hbx.cells
        clear hx hfs hpk hclo hLL hws hbw hbx hb hpkW hwsW hbW hphi
        go_wp2_with fail
        refine HCLO.out.mono ?_
        rintro e W2 ⟨rfl, hb2⟩
        have hbx2 := HBX.out.kept hb2
        have HPK2 := Lib.hid (HPK.out.below hb2)
        have HB2 := Lib.hid (HB.out.trans (hb2.mono HB.out.size))
        have hown := own_any x Ax cx W2 (by omega) (HWS.out.below hb2 hb2.size)
        unfold clV at hown
        have HOWN := Lib.hid hown
        clear c0 c1 c2 c3 c4 c5 c6
        obtain ⟨c0, c1, c2, c3, c4, c5, c6⟩ := hbx2.cells
        clear hbx2 hb2 hown HCLO HPK HB HWS HBX
        go_wp2_with fail
        refine HOWN.out.mono ?_
        rintro e W3 ⟨A', c', rfl, hrec, hb3⟩
        have HPK3 := Lib.hid (HPK2.out.below hb3)
        have HB3 := Lib.hid (HB2.out.trans (hb3.mono HB2.out.size))
        have HREC := Lib.hid hrec
        have hbase := HB3.out.size
        clear hrec hb3 HPK2 HB2 HOWN c0 c1 c2 c3 c4 c5 c6
        go_wp2_with (first
          | (at_builtin; refine wpList_app1g rfl _ _ 41 rfl clTy w.heap.size HPK3.out.own.1 rfl rfl rfl rfl (by unfold maxLen; omega) (by omega) hbase ?_; intro v' W4 hown4 hbel4 hgr4)
          | fail)
        go_roundw
        case rel => exact ⟨k + 1, L ++ [⟨x, A', c', L.length⟩], by omega, by go_num, by rw [HFS.out]; exact HPK3.out.snoc HREC.out hown4 hgr4, HB3.out.trans hbel4⟩
        case measure => simp [intOf]; omega
    · have ht := take_all hlt
      rw [ht] at hpk
      go_wp2_with fail
      go_ret
      exact ⟨_, L, rfl, hpk, hb⟩

set_option maxRecDepth 100000 in
set_option maxHeartbeats 4000000 in
theorem pickOf_any (A : Option Addr) (c : Nat) (l : List Cl) (z : Int) (b : Nat) (w : World) (hn : l.length ≤ 60) (hr : ∀ x ∈ l, x.r.length ≤ 100) (hz : w.cell? ⟨b, 0, none⟩ = some (.int .i64 z)) (hl : ClSl w w.heap.size A l) :
    Calls Tryd.prog 53 #[.slice A l.length c, .func (.func 59) #[] #[.pointer (some ⟨b, 0, none⟩)]] w fun e w' => ∃ v L, e = .returned v ∧ PickAt w.heap.size w' v (l.filter (fun x => x.o == z)) L ∧ Below w.heap.size w w' := by
  go_enter Tryd.func53, Tryd.ntmps53
  go_wp2_with fail
  go_loopw [5, 10] (fun v j wr => ∃ (k : Nat) (L : List El), k ≤ l.length ∧ j = .int .i64 k ∧ PickAt w.heap.size wr v ((l.take k).filter (fun x => x.o == z)) L ∧ Below w.heap.size w wr) (fun _ j _ => l.length - (intOf j).toNat)
  case atStart => exact ⟨0, [], Nat.zero_le _, rfl, PickAt.nil _ _, Below.refl _ _⟩
  case round =>
    obtain ⟨k, L, hk, rfl, hpk, hb⟩ := hrel
    by_cases hlt : k < l.length
    · obtain ⟨x, hx⟩ := get_some hlt
      obtain ⟨b', off, Ax, cx, rfl, hlb, ⟨h0, h1, h2, h3, h4, h5, h6⟩, hws, hc1, hc2⟩ := (hl.below hb (Nat.le_refl _)) k x hx
      have hxr := hr x (List.mem_of_getElem? hx)
      have hLL := hpk.len
      have hL60 : L.length ≤ k := by
        rw [hLL]
        refine Nat.le_trans (List.length_filter_le _ _) ?_
        rw [List.length_take]; omega
      have hsz := hb.size
      obtain ⟨W1, hW1⟩ : ∃ W1, wr.alloc (.cells #[.int .i64 x.p, .int .i64 x.o, .int .i64 x.q, .slice Ax x.r.length cx, .int .i64 x.c, .int .i64 x.b, .int .i64 x.e] 45) = W1 := ⟨_, rfl⟩
      have hbx := ClBox.new wr x Ax cx
      have hbw := (Below.refl _ wr).alloc (Nat.le_refl _) (.cells #[.int .i64 x.p, .int .i64 x.o, .int .i64 x.q, .slice Ax x.r.length cx, .int .i64 x.c, .int .i64 x.b, .int .i64 x.e] 45)
      rw [hW1] at hbx hbw
      have hclo := of1_any x Ax cx z b W1 ((hbw.cell (p := ⟨b, 0, none⟩) (Nat.lt_of_lt_of_le (cell_lt hz) hsz)).trans ((hb.cell (p := ⟨b, 0, none⟩) (cell_lt hz)).trans hz))
      unfold clV at hclo
      have hpkW := hpk.below hbw
      have hwsW := hws.below (hbw.mono hsz) (Nat.le_trans hsz hbw.size)
      have hbW := hb.trans (hbw.mono hsz)
      rcases hphi : ((fun x => x.o == z) x) with _ | _
      · have hfs := filter_no (fun x => x.o == z) hx hphi
        have hphi : (x.o == z) = false := hphi
        rw [hphi] at hclo
        have HCLO := Lib.hid hclo
        have HFS := Lib.hid hfs
        have HPK := Lib.hid hpkW
        have HB := Lib.hid hbW
        clear hx hfs hpk hclo hLL hws hbw hb hpkW hwsW hbW hphi
        obtain ⟨c0, c1, c2, c3, c4, c5, c6⟩ := hbx.cells
        clear hbx
        go_wp2_with fail
        refine HCLO.out.mono ?_
        rintro e W2 ⟨rfl, hb2⟩
        have HPK2 := Lib.hid (HPK.out.below hb2)
        have HB2 := Lib.hid (HB.out.trans (hb2.mono HB.out.size))
        clear hb2 HCLO HPK HB c0 c1 c2 c3 c4 c5 c6
        go_wp2_with fail
        go_roundw
        case rel => exact ⟨k + 1, L, by omega, by go_num, by rw [HFS.out]; exact HPK2.out, HB2.out⟩
        case measure => simp [intOf]; omega
      · have hfs := filter_yes (fun x => x.o == z) hx hphi
        have hphi : (x.o == z) = true := hphi
        rw [hphi] at hclo
        have HCLO := Lib.hid hclo
        have HFS := Lib.hid hfs
        have HPK := Lib.hid hpkW
        have HB := Lib.hid hbW
        have HWS := Lib.hid hwsW
        have HBX := Lib.hid hbx
        obtain ⟨c0, c1, c2, c3, c4, c5, c6⟩ := hbx.cells
        clear hx hfs hpk hclo hLL hws hbw hbx hb hpkW hwsW hbW hphi
        go_wp2_with fail
        refine HCLO.out.mono ?_
        rintro e W2 ⟨rfl, hb2⟩
        have hbx2 := HBX.out.kept hb2
        have HPK2 := Lib.hid (HPK.out.below hb2)
        have HB2 := Lib.hid (HB.out.trans (hb2.mono HB.out.size))
        have hown := own_any x Ax cx W2 (by omega) (HWS.out.below hb2 hb2.size)
        unfold clV at hown
        have HOWN := Lib.hid hown
        clear c0 c1 c2 c3 c4 c5 c6
        obtain ⟨c0, c1, c2, c3, c4, c5, c6⟩ := hbx2.cells
        clear hbx2 hb2 hown HCLO HPK HB HWS HBX
        go_wp2_with fail
        refine HOWN.out.mono ?_
        rintro e W3 ⟨A', c', rfl, hrec, hb3⟩
        have HPK3 := Lib.hid (HPK2.out.below hb3)
        have HB3 := Lib.hid (HB2.out.trans (hb3.mono HB2.out.size))
        have HREC := Lib.hid hrec
        have hbase := HB3.out.size
        clear hrec hb3 HPK2 HB2 HOWN c0 c1 c2 c3 c4 c5 c6
        go_wp2_with (first
          | (at_builtin; refine wpList_app1g rfl _ _ 41 rfl clTy w.heap.size HPK3.out.own.1 rfl rfl rfl rfl (by unfold maxLen; omega) (by omega) hbase ?_; intro v' W4 hown4 hbel4 hgr4)
          | fail)
        go_roundw
        case rel => exact ⟨k + 1, L ++ [⟨x, A', c', L.length⟩], by omega, by go_num, by rw [HFS.out]; exact HPK3.out.snoc HREC.out hown4 hgr4, HB3.out.trans hbel4⟩
        case measure => simp [intOf]; omega
    · have ht := take_all hlt
      rw [ht] at hpk
      go_wp2_with fail
      go_ret
      exact ⟨_, L, rfl, hpk, hb⟩

set_option maxRecDepth 100000 in
set_option maxHeartbeats 4000000 in
theorem pickBy_any (A : Option Addr) (c : Nat) (l : List Cl) (z : Int) (b : Nat) (w : World) (hn : l.length ≤ 60) (hr : ∀ x ∈ l, x.r.length ≤ 100) (hz : w.cell? ⟨b, 0, none⟩ = some (.int .i64 z)) (hl : ClSl w w.heap.size A l) :
    Calls Tryd.prog 53 #[.slice A l.length c, .func (.func 60) #[] #[.pointer (some ⟨b, 0, none⟩)]] w fun e w' => ∃ v L, e = .returned v ∧ PickAt w.heap.size w' v (l.filter (fun x => x.p == z)) L ∧ Below w.heap.size w w' := by
  go_enter Tryd.func53, Tryd.ntmps53
  go_wp2_with fail
  go_loopw [5, 10] (fun v j wr => ∃ (k : Nat) (L : List El), k ≤ l.length ∧ j = .int .i64 k ∧ PickAt w.heap.size wr v ((l.take k).filter (fun x => x.p == z)) L ∧ Below w.heap.size w wr) (fun _ j _ => l.length - (intOf j).toNat)
  case atStart => exact ⟨0, [], Nat.zero_le _, rfl, PickAt.nil _ _, Below.refl _ _⟩
  case round =>
    obtain ⟨k, L, hk, rfl, hpk, hb⟩ := hrel
    by_cases hlt : k < l.length
    · obtain ⟨x, hx⟩ := get_some hlt
      obtain ⟨b', off, Ax, cx, rfl, hlb, ⟨h0, h1, h2, h3, h4, h5, h6⟩, hws, hc1, hc2⟩ := (hl.below hb (Nat.le_refl _)) k x hx
      have hxr := hr x (List.mem_of_getElem? hx)
      have hLL := hpk.len
      have hL60 : L.length ≤ k := by
        rw [hLL]
        refine Nat.le_trans (List.length_filter_le _ _) ?_
        rw [List.length_take]; omega
      have hsz := hb.size
      obtain ⟨W1, hW1⟩ : ∃ W1, wr.alloc (.cells #[.int .i64 x.p, .int .i64 x.o, .int .i64 x.q, .slice Ax x.r.length cx, .int .i64 x.c, .int .i64 x.b, .int .i64 x.e] 45) = W1 := ⟨_, rfl⟩
      have hbx := ClBox.new wr x Ax cx
      have hbw := (Below.refl _ wr).alloc (Nat.le_refl _) (.cells #[.int .i64 x.p, .int .i64 x.o, .int .i64 x.q, .slice Ax x.r.length cx, .int .i64 x.c, .int .i64 x.b, .int .i64 x.e] 45)
      rw [hW1] at hbx hbw
      have hclo := by1_any x Ax cx z b W1 ((hbw.cell (p := ⟨b, 0, none⟩) (Nat.lt_of_lt_of_le (cell_lt hz) hsz)).trans ((hb.cell (p := ⟨b, 0, none⟩) (cell_lt hz)).trans hz))
      unfold clV at hclo
      have hpkW := hpk.below hbw
      have hwsW := hws.below (hbw.mono hsz) (Nat.le_trans hsz hbw.size)
      have hbW := hb.trans (hbw.mono hsz)
      rcases hphi : ((fun x => x.p == z) x) with _ | _
      · have hfs := filter_no (fun x => x.p == z) hx hphi
        have hphi : (x.p == z) = false := hphi
        rw [hphi] at hclo
        have HCLO := Lib.hid hclo
        have HFS := Lib.hid hfs
        have HPK := Lib.hid hpkW
        have HB := Lib.hid hbW
        clear hx hfs hpk hclo hLL hws hbw hb hpkW hwsW hbW hphi
        obtain ⟨c0, c1, c2, c3, c4, c5, c6⟩ := hbx.cells
        clear hbx
        go_wp2_with fail
        refine HCLO.out.mono ?_
        rintro e W2 ⟨rfl, hb2⟩
        have HPK2 := Lib.hid (HPK.out.below hb2)
        have HB2 := Lib.hid (HB.out.trans (hb2.mono HB.out.size))
        clear hb2 HCLO HPK HB c0 c1 c2 c3 c4 c5 c6
        go_wp2_with fail
        go_roundw
        case rel => exact ⟨k + 1, L, by omega, by go_num, by rw [HFS.out]; exact HPK2.out, HB2.out⟩
        case measure => simp [intOf]; omega
      · have hfs := filter_yes (fun x => x.p == z) hx hphi
        have hphi : (x.p == z) = true := hphi
        rw [hphi] at hclo
        have HCLO := Lib.hid hclo
        have HFS := Lib.hid hfs
        have HPK := Lib.hid hpkW
        have HB := Lib.hid hbW
        have HWS := Lib.hid hwsW
        have HBX := Lib.hid hbx
        obtain ⟨c0, c1, c2, c3, c4, c5, c6⟩ := hbx.cells
        clear hx hfs hpk hclo hLL hws hbw hbx hb hpkW hwsW hbW hphi
        go_wp2_with fail
        refine HCLO.out.mono ?_
        rintro e W2 ⟨rfl, hb2⟩
        have hbx2 := HBX.out.kept hb2
        have HPK2 := Lib.hid (HPK.out.below hb2)
        have HB2 := Lib.hid (HB.out.trans (hb2.mono HB.out.size))
        have hown := own_any x Ax cx W2 (by omega) (HWS.out.below hb2 hb2.size)
        unfold clV at hown
        have HOWN := Lib.hid hown
        clear c0 c1 c2 c3 c4 c5 c6
        obtain ⟨c0, c1, c2, c3, c4, c5, c6⟩ := hbx2.cells
        clear hbx2 hb2 hown HCLO HPK HB HWS HBX
        go_wp2_with fail
        refine HOWN.out.mono ?_
        rintro e W3 ⟨A', c', rfl, hrec, hb3⟩
        have HPK3 := Lib.hid (HPK2.out.below hb3)
        have HB3 := Lib.hid (HB2.out.trans (hb3.mono HB2.out.size))
        have HREC := Lib.hid hrec
        have hbase := HB3.out.size
        clear hrec hb3 HPK2 HB2 HOWN c0 c1 c2 c3 c4 c5 c6
        go_wp2_with (first
          | (at_builtin; refine wpList_app1g rfl _ _ 41 rfl clTy w.heap.size HPK3.out.own.1 rfl rfl rfl rfl (by unfold maxLen; omega) (by omega) hbase ?_; intro v' W4 hown4 hbel4 hgr4)
          | fail)
        go_roundw
        case rel => exact ⟨k + 1, L ++ [⟨x, A', c', L.length⟩], by omega, by go_num, by rw [HFS.out]; exact HPK3.out.snoc HREC.out hown4 hgr4, HB3.out.trans hbel4⟩
        case measure => simp [intOf]; omega
    · have ht := take_all hlt
      rw [ht] at hpk
      go_wp2_with fail
      go_ret
      exact ⟨_, L, rfl, hpk, hb⟩

end Go.Proofs.YtkcdmonmgnmojaaDoor
