/- A queue's calls: the puts and the takes in order; what the puts may have put. -/
import Derived.Test.YtgmmblknaeepbaaZlT
import Derived.Test.YtgmmblknaeepbaaZh6
namespace Go.Proofs.Ytgmmblknaeepbaa
open Go.RowKit

theorem wpList_app1h {P : Program} {w0 : World} {cs : Array Value} {ops : Array Oper} {rest : List Oper} {o : Oper} {a : Act} {Q : Exit → Act → World → Prop} (hgd : o.guard = none) (s x : Operand) (t : TypeId)
    (ho : o.op = .call { callee := .builtin .append, args := #[s, x], argTypes := #[t, t] }) {e : TypeId} {size bytes : Nat} (hT : ElemTy P t e size bytes) (base : Nat)
    {v : Value} {n : Nat} {xs : List Value} (hown : w0.ownsRow base e size v n xs) (hs : a.eval s = v) (hx : a.eval x = .slice (some ⟨w0.heap.size, 0, none⟩) 1 1) (hl : cs.size = size) (h1 : cs.toList.all (fun u => u.oneCell') = true)
    (h63 : n + 1 ≤ maxLen) (hbytes : (n + 1) * bytes ≤ 140737488355328) (hbase : base ≤ w0.heap.size)
    (h : ∀ v' w', w'.ownsRow base e size v' (n + 1) (xs ++ cs.toList) → Below base w0 w' → (w0.alloc (.cells cs e)).grownBy w' v.ownBlock → (v'.ownBlock = v.ownBlock ∨ v'.ownBlock = some (w0.heap.size + 1)) → wpList P ops Q rest (a.put o.dst v') w') : wpList P ops Q (o :: rest) a (w0.alloc (.cells cs e)) := by
  obtain ⟨ht, i, z, hi, hz, hsize, hby, hzs, hsz⟩ := hT
  refine wpList_append_own_at _ hgd s x t ho base e i z size bytes ht hi hz hsize hby hzs hsz v n xs hs (hown.alloc _) ⟨w0.heap.size, 0, none⟩ 1 1 cs.toList hx (by simpa using hl) (cells_new' _ _ _ _ rfl) (fun u hu => List.all_eq_true.1 h1 u hu) h63 hbytes (by simp; omega) ?_
  intro v' w' h2 h3 h4 h5
  rw [World.size_alloc] at h5
  exact h v' w' h2 (((Below.refl base w0).alloc hbase _).trans (grown_below (hown.alloc _) h3 (Nat.le_refl _) (by simp; omega))) h3 h5

/-- Two slices of one's own that lie apart. -/
def Apart (v v' : Value) : Prop := ∀ b, v.ownBlock = some b → v'.ownBlock ≠ some b
theorem Apart.symm {v v' : Value} (h : Apart v v') : Apart v' v := fun b h1 h2 => h b h2 h1
theorem Own.blk' {α : Type} {E : Enc α} {t : TypeId} {base : Nat} {w : World} {v : Value} {l : List α} (h : Own E t base w v l) {b : Nat} (hb : v.ownBlock = some b) : base ≤ b ∧ b < w.heap.size := World.ownsRow.lt h b hb
theorem Own.grownBy {α : Type} {E : Enc α} {t : TypeId} {base : Nat} {w w' : World} {v v1 : Value} {l : List α} {o : Obj} (h : Own E t base w v l) (hg : (w.alloc o).grownBy w' v1.ownBlock) (ha : Apart v v1) : Own E t base w' v l := by
  have h' := h.alloc o
  refine ⟨h.1, ?_⟩
  rcases h'.2 with h2 | ⟨g, cap, cur, hv, hgb, hh, r⟩
  · exact .inl h2
  · refine .inr ⟨g, cap, cur, hv, hgb, (hg.block g (Array.getElem?_eq_some_iff.1 hh).1 (fun e => ?_)).trans hh, r⟩
    exact ha g (by rw [hv]; rfl) e.symm
theorem Apart.grown {α : Type} {E : Enc α} {t : TypeId} {base : Nat} {w : World} {v v1 v' : Value} {l : List α} (h : Own E t base w v l) (ha : Apart v v1) (hb : v'.ownBlock = v1.ownBlock ∨ v'.ownBlock = some (w.heap.size + 1)) : Apart v v' := fun b h1 h2 => by
  rcases hb with e | e
  · exact ha b h1 (e ▸ h2)
  · have := (h.blk' h1).2
    rw [e] at h2
    injection h2 with h2
    omega

/-- Calls of one's own: their records lie below. -/
def Held (n1 : Nat) (w1 : World) (L : List El) : Prop := ∀ e ∈ L, Ws w1 n1 e.A e.x.r ∧ e.x.r.length ≤ e.c ∧ e.c ≤ maxLen
theorem Held.nil (n1 : Nat) (w1 : World) : Held n1 w1 [] := fun e h => by cases h
theorem Held.snoc {n1 : Nat} {w1 : World} {L : List El} (h : Held n1 w1 L) {e : El} (he : Ws w1 n1 e.A e.x.r ∧ e.x.r.length ≤ e.c ∧ e.c ≤ maxLen) : Held n1 w1 (L ++ [e]) := fun f hf => by
  rcases List.mem_append.1 hf with q | q
  · exact h f q
  · rw [List.mem_singleton.1 q]; exact he
theorem own_clsl {t : TypeId} {base n1 : Nat} {w w1 : World} {v : Value} {L : List El} (h : Own elE t base w v L) (hh : Held n1 w1 L) (hb : Below n1 w1 w) (hn : n1 ≤ w.heap.size) : ∃ A c, v = .slice A (L.map (·.x)).length c ∧ (L.map (·.x)).length ≤ c ∧ ClSl w w.heap.size A (L.map (·.x)) := by
  obtain ⟨A, c, rfl, hc, _, hs⟩ := h.sl
  refine ⟨A, c, by rw [List.length_map], by rw [List.length_map]; exact hc.1, fun k x hx => ?_⟩
  rw [List.getElem?_map, Option.map_eq_some_iff] at hx
  obtain ⟨e, he, rfl⟩ := hx
  obtain ⟨b, off, hA, hlt, hcs⟩ := hs k e he
  obtain ⟨h1, h2, h3⟩ := hh e (List.mem_of_getElem? he)
  exact ⟨b, off, e.A, e.c, hA, hlt, ⟨hcs 0 _ rfl, hcs 1 _ rfl, hcs 2 _ rfl, hcs 3 _ rfl, hcs 4 _ rfl, hcs 5 _ rfl, hcs 6 _ rfl⟩, h1.below hb hn, h2, h3⟩

/-- Calls in the order of their beginnings. -/
def SortOf (S l : List Cl) : Prop := ∃ L M : List El, S = M.map (·.x) ∧ L.map (·.x) = l ∧ Tagged L ∧ M.Perm L ∧ Srt ltE M
theorem SortOf.perm {S l : List Cl} (h : SortOf S l) : S.Perm l := by
  obtain ⟨L, M, rfl, rfl, _, hp, _⟩ := h
  exact hp.map _
theorem SortOf.le {S l : List Cl} (h : SortOf S l) : S.Pairwise fun x y => x.b ≤ y.b := by
  obtain ⟨L, M, rfl, rfl, _, _, hs⟩ := h
  refine List.pairwise_map.2 (List.Pairwise.imp (fun {a b} h => ?_) hs)
  unfold ltE at h
  omega
theorem SortOf.one {S S' l : List Cl} (h : SortOf S l) (h' : SortOf S' l) : S = S' := by
  obtain ⟨L, M, rfl, e1, t1, p1, s1⟩ := h
  obtain ⟨L', M', rfl, e2, t2, p2, s2⟩ := h'
  exact sort_same t1 t2 (e1.trans e2.symm) p1 p2 s1 s2

def SplitR (l : List Cl) (w : World) (e : Ending) (w' : World) : Prop := ∃ S A1 c1 A2 c2, e = .returned (.tuple #[.slice A1 (putsOf S).length c1, .slice A2 (takesOf S).length c2]) ∧ SortOf S l ∧
  (ClSl w' w'.heap.size A1 (putsOf S) ∧ (putsOf S).length ≤ c1) ∧ (ClSl w' w'.heap.size A2 (takesOf S) ∧ (takesOf S).length ≤ c2) ∧ Below w.heap.size w w'
theorem puts_snoc {S : List Cl} {k : Nat} {x : Cl} (h : S[k]? = some x) : (x.q = 3 → putsOf (S.take (k + 1)) = putsOf (S.take k) ++ [x] ∧ takesOf (S.take (k + 1)) = takesOf (S.take k)) ∧ (x.q ≠ 3 → putsOf (S.take (k + 1)) = putsOf (S.take k) ∧ takesOf (S.take (k + 1)) = takesOf (S.take k) ++ [x]) := by
  rw [take_snoc h]
  unfold putsOf takesOf
  simp only [List.filter_append, List.filter_cons, List.filter_nil]
  refine ⟨fun e => ?_, fun e => ?_⟩
  · simp [e]
  · simp [e]

set_option maxRecDepth 100000 in
set_option maxHeartbeats 4000000 in
theorem split_any (A : Option Addr) (c : Nat) (l : List Cl) (w : World) (hn : l.length ≤ 60) (hr : ∀ x ∈ l, x.r.length ≤ 100) (hl : ClSl w w.heap.size A l) :
    Calls Try.prog 20 #[.slice A l.length c] w (SplitR l w) := by
  have hso := Lib.hid (hsort_any A c l w hn hr hl)
  clear hl
  go_enter Try.func20, Try.ntmps20
  go_wp2_with fail
  refine hso.out.mono ?_
  rintro e w1 ⟨A', c', L, M, rfl, hS, hLl, htg, hp, hsr, hb1⟩
  have hSort : SortOf (M.map (·.x)) l := ⟨L, M, rfl, hLl, htg, hp, hsr⟩
  have hlen : l.length = (M.map (·.x)).length := hSort.perm.length_eq.symm
  obtain ⟨S, hSe⟩ : ∃ S, M.map (·.x) = S := ⟨_, rfl⟩
  rw [hSe] at hS hSort hlen
  rw [hlen] at hn ⊢
  have HSORT := Lib.hid hSort
  have HB1 := Lib.hid hb1
  clear hSort hb1 hSe hLl htg hp hsr hlen hso
  go_wp2_with fail
  go_loopw [2, 3, 9] (fun v1 v2 j wr => ∃ (k : Nat) (L1 L2 : List El), k ≤ S.length ∧ j = .int .i64 k ∧ L1.map (·.x) = putsOf (S.take k) ∧ L2.map (·.x) = takesOf (S.take k) ∧ Own elE 32 w1.heap.size wr v1 L1 ∧ Own elE 32 w1.heap.size wr v2 L2 ∧ Held w1.heap.size w1 L1 ∧ Held w1.heap.size w1 L2 ∧ Apart v1 v2 ∧ Below w1.heap.size w1 wr) (fun _ _ j _ => S.length - (intOf j).toNat)
  case atStart => exact ⟨0, [], [], Nat.zero_le _, rfl, rfl, rfl, Own.nil _ _, Own.nil _ _, Held.nil _ _, Held.nil _ _, fun b h => (by cases h), Below.refl _ _⟩
  case round =>
    obtain ⟨k, L1, L2, hk, rfl, e1, e2, ho1, ho2, hh1, hh2, hap, hb⟩ := hrel
    by_cases hlt : k < S.length
    · obtain ⟨x, hx⟩ := get_some hlt
      obtain ⟨b', off, Ax, cx, rfl, hlb, ⟨h0, h1, h2, h3, h4, h5, h6⟩, hws, hc1, hc2⟩ := (hS.below hb (Nat.le_refl _)) k x hx
      have hws1 : Ws w1 w1.heap.size Ax x.r := by
        obtain ⟨b2, off2, A2, cx2, hA2, hlt2, ⟨g0, g1, g2, g3, g4, g5, g6⟩, hws2, _, _⟩ := hS k x hx
        injection hA2 with hA2
        injection hA2 with q1 q2 q3
        subst q1 q2
        have := (hb.cell (p := ⟨b', off + k * 7 + 3, none⟩) hlt2).trans g3
        rw [h3] at this
        injection this with this
        injection this with this
        rw [this]
        exact hws2
      have hl1 : L1.length ≤ k := by
        have := congrArg List.length e1
        rw [List.length_map] at this
        rw [this]
        exact Nat.le_trans (List.length_filter_le _ _) (by rw [List.length_take]; omega)
      have hl2 : L2.length ≤ k := by
        have := congrArg List.length e2
        rw [List.length_map] at this
        rw [this]
        exact Nat.le_trans (List.length_filter_le _ _) (by rw [List.length_take]; omega)
      have hsn := puts_snoc hx
      obtain ⟨W1, hW1⟩ : ∃ W1, wr.alloc (.cells #[.int .i64 x.p, .int .i64 x.o, .int .i64 x.q, .slice Ax x.r.length cx, .int .i64 x.c, .int .i64 x.b, .int .i64 x.e] 32) = W1 := ⟨_, rfl⟩
      have hbw := (Below.refl wr.heap.size wr).alloc (Nat.le_refl _) (.cells #[.int .i64 x.p, .int .i64 x.o, .int .i64 x.q, .slice Ax x.r.length cx, .int .i64 x.c, .int .i64 x.b, .int .i64 x.e] 32)
      have hbx := ClBox.new wr x Ax cx
      rw [hW1] at hbw hbx
      have hB := hb.trans (hbw.mono hb.size)
      have hO1 := ho1.below hbw (Nat.le_refl _)
      have hO2 := ho2.below hbw (Nat.le_refl _)
      have hbase := hB.size
      obtain ⟨c0, c1, c2, c3, c4, c5, c6⟩ := hbx.cells
      have HO1 := Lib.hid hO1
      have HO2 := Lib.hid hO2
      have HB := Lib.hid hB
      have HE1 := Lib.hid e1
      have HE2 := Lib.hid e2
      have HH1 := Lib.hid hh1
      have HH2 := Lib.hid hh2
      have HAP := Lib.hid hap
      have HWS := Lib.hid (show Ws w1 w1.heap.size Ax x.r ∧ x.r.length ≤ cx ∧ cx ≤ maxLen from ⟨hws1, hc1, hc2⟩)
      by_cases hq : x.q = 3
      · have hq1 : (x.q == 3) = true := by simpa using hq
        have HSN := Lib.hid (hsn.1 hq)
        clear hx hws hws1 hsn hbw hbx hb hB hO1 hO2 ho1 ho2 e1 e2 hh1 hh2 hap hq hS
        go_wp2_with (first
          | (at_builtin; refine wpList_app1h rfl _ _ 22 rfl clTy w1.heap.size HO1.out rfl rfl rfl rfl (by unfold maxLen; omega) (by omega) hbase ?_; intro v' W4 hown4 hbel4 hgr4 hob4)
          | fail)
        go_roundw
        case rel =>
          refine ⟨k + 1, L1 ++ [⟨x, Ax, cx, 0⟩], L2, by omega, by go_num, ?_, ?_, Own.app hown4 rfl, HO2.out.grownBy hgr4 HAP.out.symm, HH1.out.snoc HWS.out, HH2.out, (Apart.grown HO2.out HAP.out.symm hob4).symm, HB.out.trans hbel4⟩
          · rw [HSN.out.1, List.map_append, HE1.out]; rfl
          · rw [HSN.out.2, HE2.out]
        case measure => simp [intOf]; omega
      · have hq1 : (x.q == 3) = false := by simpa using hq
        have HSN := Lib.hid (hsn.2 hq)
        clear hx hws hws1 hsn hbw hbx hb hB hO1 hO2 ho1 ho2 e1 e2 hh1 hh2 hap hq hS
        go_wp2_with (first
          | (at_builtin; refine wpList_app1h rfl _ _ 22 rfl clTy w1.heap.size HO2.out rfl rfl rfl rfl (by unfold maxLen; omega) (by omega) hbase ?_; intro v' W4 hown4 hbel4 hgr4 hob4)
          | fail)
        go_roundw
        case rel =>
          refine ⟨k + 1, L1, L2 ++ [⟨x, Ax, cx, 0⟩], by omega, by go_num, ?_, ?_, HO1.out.grownBy hgr4 HAP.out, Own.app hown4 rfl, HH1.out, HH2.out.snoc HWS.out, Apart.grown HO1.out HAP.out hob4, HB.out.trans hbel4⟩
          · rw [HSN.out.1, HE1.out]
          · rw [HSN.out.2, List.map_append, HE2.out]; rfl
        case measure => simp [intOf]; omega
    · have ht := take_all hlt
      rw [ht] at e1 e2
      obtain ⟨A1, d1, rfl, q1, s1⟩ := own_clsl ho1 hh1 hb hb.size
      obtain ⟨A2, d2, rfl, q2, s2⟩ := own_clsl ho2 hh2 hb hb.size
      rw [e1] at q1 s1
      rw [e2] at q2 s2
      rw [e1, e2]
      have HR := Lib.hid (show SplitR l w (.returned (.tuple #[.slice A1 (putsOf S).length d1, .slice A2 (takesOf S).length d2])) wr from ⟨S, A1, d1, A2, d2, rfl, HSORT.out, ⟨s1, q1⟩, ⟨s2, q2⟩, HB1.out.trans (hb.mono HB1.out.size)⟩)
      clear e1 e2 ho1 ho2 hh1 hh2 hap hb s1 s2 ht hS
      go_wp2_with fail
      go_ret2
      exact HR.out

end Go.Proofs.Ytgmmblknaeepbaa
