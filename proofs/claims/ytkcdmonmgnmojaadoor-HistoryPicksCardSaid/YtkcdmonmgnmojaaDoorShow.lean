/- record.Show: a record's text. -/
import Derived.Test.YtkcdmonmgnmojaaDoorWs
import Derived.Test.YtkcdmonmgnmojaaDoorStrTy
import Derived.Test.YtkcdmonmgnmojaaDoorFmtU
import Derived.Lib.ItoaLen
namespace Go.Proofs.YtkcdmonmgnmojaaDoor
open Go.RowKit

def wordS (z : Int) : ByteArray := numS z.toNat
def showL (l : List Int) : List UInt8 := Lib.join (l.map fun z => Lib.decDigits z.toNat) [32]
def showS (l : List Int) : ByteArray := ⟨(showL l).toArray⟩
theorem digits_le (z : Int) (h : z < 4294967296) : (Lib.decDigits z.toNat).length ≤ 20 := by
  rw [Lib.decDigits_length]
  exact Lib.nDigits_le20 _ (by omega)
theorem lens_le {xs : List (List UInt8)} {m : Nat} (h : ∀ x ∈ xs, x.length ≤ m) : Lib.lens xs ≤ xs.length * m := by
  induction xs with
  | nil => simp [Lib.lens]
  | cons x xs ih =>
    have h1 := h x (by simp)
    have h2 := ih (fun y hy => h y (by simp [hy]))
    have : Lib.lens (x :: xs) = x.length + Lib.lens xs := by simp [Lib.lens]
    rw [this, List.length_cons, Nat.add_mul]; omega
theorem join_le {xs : List (List UInt8)} {m : Nat} (h : ∀ x ∈ xs, x.length ≤ m) : (Lib.join xs [32]).length ≤ xs.length * (m + 1) := by
  cases xs with
  | nil => simp [Lib.join]
  | cons x xs =>
    have h1 := h x (by simp)
    have h2 := lens_le (fun y hy => h y (by simp [hy]) : ∀ y ∈ xs, y.length ≤ m)
    rw [Lib.join_cons, List.length_append, Lib.joinTail_length]
    simp only [List.length_cons, List.length_nil]
    have e1 : (xs.length + 1) * (m + 1) = xs.length * m + xs.length + (m + 1) := by rw [Nat.add_mul, Nat.mul_add]; omega
    rw [e1]
    omega

theorem strs_all (l : List ByteArray) : strs.all l = l.map Value.string := of1_all _ _ l

set_option maxHeartbeats 400000 in
theorem show_any (A : Option Addr) (c : Nat) (l : List Int) (w : World) (hn : l.length ≤ 60) (hl : Ws w w.heap.size A l) (hT : Tab w) :
    Calls Tryd.prog 40 #[.slice A l.length c] w fun e w' => e = .returned (.string (showS l)) ∧ Below w.heap.size w w' := by
  go_enter Tryd.func40, Tryd.ntmps40
  go_wp2_with fail
  go_loopw [3, 5, 8] (fun v _ j wr => ∃ k : Nat, k ≤ l.length ∧ j = .int .i64 k ∧ Own strs 9 w.heap.size wr v ((l.take k).map wordS) ∧ Below w.heap.size w wr) (fun _ _ j _ => l.length - (intOf j).toNat)
  case atStart => exact ⟨0, Nat.zero_le _, rfl, Own.nil _ _, Below.refl _ _⟩
  case round =>
    obtain ⟨k, hk, rfl, hown, hb⟩ := hrel
    by_cases hlt : k < l.length
    · obtain ⟨z, hz⟩ := get_some hlt
      obtain ⟨⟨_, hz0, hz1⟩, b, off, rfl, hlb, hc⟩ := (hl.below hb (Nat.le_refl _)).get hz
      have hts := Lib.hid (show (l.take (k + 1)).map wordS = (l.take k).map wordS ++ [wordS z] by rw [take_snoc hz, List.map_append]; rfl)
      have hTw := Lib.hid (hT.below hb)
      have hlen := Lib.hid (show ((l.take k).map wordS).length = k by simp; omega)
      have hbs := hb.size
      clear hz
      obtain ⟨u, rfl⟩ := Int.eq_ofNat_of_zero_le hz0
      go_wp2_with fail
      refine (fmtU_any u (by omega) _ hTw.out).mono ?_
      rintro e w1 ⟨rfl, hb1⟩
      have hown1 := hown.below hb1 (Nat.le_refl _)
      have hbs1 := hb1.size
      have hk60 : ((l.take k).map wordS).length ≤ 60 := by rw [hlen.out]; omega
      go_wp2_with (first
        | (at_builtin; refine wpList_app1 rfl _ _ 60 rfl strTy w.heap.size hown1 rfl rfl rfl rfl (by unfold maxLen; omega) (by omega) (by omega) ?_; intro v' w2 hown2 hbel2 _)
        | go_in)
      go_roundw
      case rel => exact ⟨k + 1, by omega, by go_num, by rw [hts.out]; exact Own.app hown2 (by rfl), (hb.trans (hb1.mono hbs)).trans hbel2⟩
      case measure => simp [intOf]; omega
    · have ht := take_all hlt
      rw [ht] at hown
      obtain ⟨A', c', rfl, hcl, hne, hsl⟩ := hown.sl
      have hlen := Lib.hid (show (l.map wordS).length = l.length by simp)
      have hbs := hb.size
      by_cases h0 : l.length = 0
      · have e0 := List.eq_nil_of_length_eq_zero h0
        have h0' := Lib.hid h0
        clear h0
        subst e0
        go_wp2_with fail
        refine (Tryd.strings_Join_none _ _ _ _).mono ?_
        rintro e w1 ⟨rfl, rfl⟩
        go_wp2_with fail
        go_ret
        exact ⟨rfl, hb⟩
      · obtain ⟨s0, hs0⟩ := get_some (show 0 < (l.map wordS).length by rw [hlen.out]; omega)
        obtain ⟨bk, o, rfl, hbk, _⟩ := hsl 0 s0 hs0
        have hcells : ∀ (j : Nat) x, (l.map wordS)[j]? = some x → wr.cell? ⟨bk, o + j, none⟩ = some (.string x) := by
          intro j x hx
          obtain ⟨b1, o1, e1, _, hc1⟩ := hsl j x hx
          injection e1 with e1
          injection e1 with e1 e2
          subst e1 e2
          have := hc1 0 _ rfl
          simpa [strs, Enc.of1] using this
        have hj : (l.map wordS).map (·.data.toList) = l.map fun z => Lib.decDigits z.toNat := by
          rw [List.map_map]; apply List.map_congr_left; intro z _; simp [wordS, numS]
        have hjl : (Lib.join ((l.map wordS).map (·.data.toList)) [32]).length ≤ 1260 := by
          rw [hj]
          have := join_le (xs := l.map fun z => Lib.decDigits z.toNat) (m := 20) (fun x hx => by
            obtain ⟨z, hz, rfl⟩ := List.mem_map.1 hx
            obtain ⟨i, hi⟩ := List.getElem?_of_mem hz
            exact digits_le z (hl.get hi).1.2.2)
          rw [List.length_map] at this
          omega
        have hfin := Lib.hid (show (⟨(Lib.join ((l.map wordS).map (·.data.toList)) [32]).toArray⟩ : ByteArray) = showS l by rw [hj]; rfl)
        have hcon := Tryd.strings_Join bk o c' (l.map wordS) ⟨#[32]⟩ wr hcells hbk (by rw [hlen.out]; omega) hcl.1 (Nat.le_trans hjl (by omega))
        rw [List.length_map] at hcon
        rw [show (⟨#[32]⟩ : ByteArray).data.toList = [32] from rfl, hfin.out] at hcon
        have hcon' := Lib.hid hcon
        clear hcon hjl hj hcells hs0
        go_wp2_with fail
        refine hcon'.out.mono ?_
        rintro e w1 ⟨rfl, hb1⟩
        go_wp2_with fail
        go_ret
        exact ⟨rfl, hb.trans (hb1.mono hbs)⟩


end Go.Proofs.YtkcdmonmgnmojaaDoor
