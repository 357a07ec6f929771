/- A queue's calls: what the puts may have put (linfifo.put). -/
import Derived.Test.YtgmmblknaeepbaaZlQ
namespace Go.Proofs.Ytgmmblknaeepbaa
open Go.RowKit

structure It where
  r : List Int
  A : Option Addr
  c : Nat
def itE : Enc It := Enc.of1 (fun i => .slice i.A i.r.length i.c) fun _ => rfl
theorem itTy : ElemTy Try.prog 40 30 1 24 := ElemTy.of (z := .slice none 0 0) Try.underlying40 (by kernel_rfl) rfl (by omega)
def HeldI (n1 : Nat) (w1 : World) (L : List It) : Prop := ∀ e ∈ L, Ws w1 n1 e.A e.r ∧ e.r.length ≤ e.c ∧ e.c ≤ maxLen
/-- A slice of records. -/
def ItSl (W : World) (N : Nat) (A : Option Addr) (l : List (List Int)) : Prop := ∀ (k : Nat) (r : List Int), l[k]? = some r → ∃ b off Ar c, A = some ⟨b, off, none⟩ ∧ b < N ∧ W.cell? ⟨b, off + k, none⟩ = some (.slice Ar r.length c) ∧ Ws W N Ar r ∧ r.length ≤ c ∧ c ≤ maxLen
theorem ItSl.below {w w' : World} {B B' : Nat} {A : Option Addr} {l : List (List Int)} (h : ItSl w B A l) (hb : Below B w w') (hB : B ≤ B') : ItSl w' B' A l := fun k r hk => by
  obtain ⟨b, off, Ar, c, hA, hlt, hc, hw, h1⟩ := h k r hk
  exact ⟨b, off, Ar, c, hA, by omega, (hb.cell (p := ⟨b, _, none⟩) hlt).trans hc, hw.below hb hB, h1⟩
theorem own_itsl {t : TypeId} {base n1 : Nat} {w w1 : World} {v : Value} {L : List It} (h : Own itE t base w v L) (hh : HeldI n1 w1 L) (hb : Below n1 w1 w) (hn : n1 ≤ w.heap.size) : ∃ A c, v = .slice A (L.map (·.r)).length c ∧ ItSl w w.heap.size A (L.map (·.r)) ∧ ∀ b off, A = some ⟨b, off, none⟩ → base ≤ b := by
  obtain ⟨A, c, rfl, hc, _, hs⟩ := h.sl
  refine ⟨A, c, by rw [List.length_map], fun k x hx => ?_, fun b off e => ?_⟩
  rotate_left
  · subst e
    exact (h.blk' (b := b) (by rfl)).1
  rw [List.getElem?_map, Option.map_eq_some_iff] at hx
  obtain ⟨e, he, rfl⟩ := hx
  obtain ⟨b, off, hA, hlt, hcs⟩ := hs k e he
  obtain ⟨h1, h2, h3⟩ := hh e (List.mem_of_getElem? he)
  have := hcs 0 _ rfl
  refine ⟨b, off, e.A, e.c, hA, hlt, ?_, h1.below hb hn, h2, h3⟩
  simpa [itE, Enc.of1] using this
theorem putI_snoc {P : List Cl} {k : Nat} {x : Cl} (h : P[k]? = some x) : ((x.e < 0 ∨ x.c = 0) → putI (P.take (k + 1)) = putI (P.take k) ++ [x.r]) ∧ (¬ (x.e < 0 ∨ x.c = 0) → putI (P.take (k + 1)) = putI (P.take k)) := by
  rw [take_snoc h]
  unfold putI
  simp only [List.filter_append, List.map_append, List.filter_cons, List.filter_nil]
  refine ⟨fun e => ?_, fun e => ?_⟩
  · have : (opn x || x.c == 0) = true := by simpa [opn] using e
    simp [this]
  · have : (opn x || x.c == 0) = false := by
      cases q : (opn x || x.c == 0) with
      | false => rfl
      | true => exact absurd (by simpa [opn] using q) e
    simp [this]

def PutIR (P : List Cl) (w : World) (e : Ending) (w' : World) : Prop := ∃ A c, e = .returned (.slice A (putI P).length c) ∧ ItSl w' w'.heap.size A (putI P) ∧ (∀ b off, A = some ⟨b, off, none⟩ → w.heap.size ≤ b) ∧ Below w.heap.size w w'
set_option maxRecDepth 100000 in
set_option maxHeartbeats 4000000 in
theorem putI_any (A : Option Addr) (c : Nat) (P : List Cl) (w : World) (hn : P.length ≤ 60) (hS : ClSl w w.heap.size A P) :
    Calls Try.prog 21 #[.slice A P.length c] w (PutIR P w) := by
  go_enter Try.func21, Try.ntmps21
  go_wp2_with fail
  go_loopw [3, 8] (fun v j wr => ∃ (k : Nat) (L : List It), k ≤ P.length ∧ j = .int .i64 k ∧ L.map (·.r) = putI (P.take k) ∧ Own itE 30 w.heap.size wr v L ∧ HeldI w.heap.size w L ∧ Below w.heap.size w wr) (fun _ j _ => P.length - (intOf j).toNat)
  case atStart => exact ⟨0, [], Nat.zero_le _, rfl, rfl, Own.nil _ _, (fun e h => by cases h), Below.refl _ _⟩
  case round =>
    obtain ⟨k, L, hk, rfl, e1, ho, hh, hb⟩ := hrel
    by_cases hlt : k < P.length
    · obtain ⟨x, hx⟩ := get_some hlt
      obtain ⟨b', off, Ax, cx, rfl, hlb, ⟨h0, h1, h2, h3, h4, h5, h6⟩, hws, hc1, hc2⟩ := (hS.below hb (Nat.le_refl _)) k x hx
      have hws1 : Ws w w.heap.size Ax x.r := by
        obtain ⟨b2, off2, A2, cx2, hA2, hlt2, ⟨g0, g1, g2, g3, g4, g5, g6⟩, hws2, _, _⟩ := hS k x hx
        injection hA2 with hA2
        injection hA2 with q1 q2 q3
        subst q1 q2
        have := (hb.cell (p := ⟨b', off + k * 7 + 3, none⟩) hlt2).trans g3
        rw [h3] at this
        injection this with this
        injection this with this
        rw [this]
        exact hws2
      have hl1 : L.length ≤ k := by
        have := congrArg List.length e1
        rw [List.length_map] at this
        rw [this]
        unfold putI
        rw [List.length_map]
        exact Nat.le_trans (List.length_filter_le _ _) (by rw [List.length_take]; omega)
      have hsn := putI_snoc hx
      obtain ⟨W1, hW1⟩ : ∃ W1, wr.alloc (.cells #[.int .i64 x.p, .int .i64 x.o, .int .i64 x.q, .slice Ax x.r.length cx, .int .i64 x.c, .int .i64 x.b, .int .i64 x.e] 32) = W1 := ⟨_, rfl⟩
      have hbw := (Below.refl wr.heap.size wr).alloc (Nat.le_refl _) (.cells #[.int .i64 x.p, .int .i64 x.o, .int .i64 x.q, .slice Ax x.r.length cx, .int .i64 x.c, .int .i64 x.b, .int .i64 x.e] 32)
      have hbx := ClBox.new wr x Ax cx
      rw [hW1] at hbw hbx
      have hB := hb.trans (hbw.mono hb.size)
      have hO := ho.below hbw (Nat.le_refl _)
      have hbase := hB.size
      obtain ⟨c0, c1, c2, c3, c4, c5, c6⟩ := hbx.cells
      have HO := Lib.hid hO
      have HB := Lib.hid hB
      have HE := Lib.hid e1
      have HH := Lib.hid hh
      have HWS := Lib.hid (show Ws w w.heap.size Ax x.r ∧ x.r.length ≤ cx ∧ cx ≤ maxLen from ⟨hws1, hc1, hc2⟩)
      by_cases he : x.e < 0
      · have HSN := Lib.hid (hsn.1 (.inl he))
        clear hx hws hws1 hsn hbw hbx hb hB hO ho e1 hh
        go_wp2_with (first
          | (at_builtin; refine wpList_app1h rfl _ _ 40 rfl itTy w.heap.size HO.out rfl rfl rfl rfl (by unfold maxLen; omega) (by omega) hbase ?_; intro v' W4 hown4 hbel4 hgr4 hob4)
          | fail)
        go_roundw
        case rel => exact ⟨k + 1, L ++ [⟨x.r, Ax, cx⟩], by omega, by go_num, by rw [HSN.out, List.map_append, HE.out]; rfl, Own.app hown4 rfl, fun e h => (by
          rcases List.mem_append.1 h with q | q
          · exact HH.out e q
          · rw [List.mem_singleton.1 q]; exact HWS.out), HB.out.trans hbel4⟩
        case measure => simp [intOf]; omega
      · by_cases hc0 : x.c = 0
        · have HSN := Lib.hid (hsn.1 (.inr hc0))
          have hq1 : (x.c == 0) = true := by simpa using hc0
          clear hx hws hws1 hsn hbw hbx hb hB hO ho e1 hh hc0
          go_wp2_with (first
            | (at_builtin; refine wpList_app1h rfl _ _ 40 rfl itTy w.heap.size HO.out rfl rfl rfl rfl (by unfold maxLen; omega) (by omega) hbase ?_; intro v' W4 hown4 hbel4 hgr4 hob4)
            | fail)
          go_roundw
          case rel => exact ⟨k + 1, L ++ [⟨x.r, Ax, cx⟩], by omega, by go_num, by rw [HSN.out, List.map_append, HE.out]; rfl, Own.app hown4 rfl, fun e h => (by
            rcases List.mem_append.1 h with q | q
            · exact HH.out e q
            · rw [List.mem_singleton.1 q]; exact HWS.out), HB.out.trans hbel4⟩
          case measure => simp [intOf]; omega
        · have HSN := Lib.hid (hsn.2 (by omega))
          have hq1 : (x.c == 0) = false := by simpa using hc0
          clear hx hws hws1 hsn hbw hbx hb hB hO ho e1 hh hc0
          go_wp2_with fail
          go_roundw
          case rel => exact ⟨k + 1, L, by omega, by go_num, by rw [HSN.out, HE.out], HO.out, HH.out, HB.out⟩
          case measure => simp [intOf]; omega
    · have ht := take_all hlt
      rw [ht] at e1
      obtain ⟨A1, d1, rfl, s1, s2⟩ := own_itsl ho hh hb hb.size
      rw [e1] at s1
      rw [e1]
      have HR := Lib.hid (show PutIR P w (.returned (.slice A1 (putI P).length d1)) wr from ⟨A1, d1, rfl, s1, s2, hb⟩)
      clear e1 ho hh hb s1 s2 ht hS
      go_wp2_with fail
      go_ret
      exact HR.out

end Go.Proofs.Ytgmmblknaeepbaa
