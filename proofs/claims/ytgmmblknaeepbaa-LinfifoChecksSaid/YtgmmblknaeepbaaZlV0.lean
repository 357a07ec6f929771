/- The reference's Lengths of a queue's calls. -/
import Derived.Test.YtgmmblknaeepbaaZlK2
namespace Go.Proofs.Ytgmmblknaeepbaa
open Go.RowKit

theorem tell_succ (m : Nat) (all : List Int) : ((List.range (m + 1)).filter fun i : Nat => all.any fun k : Int => k == (i : Int)).map (fun i : Nat => (i : Int)) = ((List.range m).filter fun i : Nat => all.any fun k : Int => k == (i : Int)).map (fun i : Nat => (i : Int)) ++ if (all.any fun k : Int => k == (m : Int)) then [(m : Int)] else [] := by
  rw [List.range_succ, List.filter_append, List.map_append]
  by_cases h : (all.any fun k : Int => k == (m : Int)) = true <;> simp [h]
def tellK (m : Nat) (all : List Int) : List Int := ((List.range m).filter fun i : Nat => all.any fun k : Int => k == (i : Int)).map fun i : Nat => (i : Int)
theorem tellK_len (m : Nat) (all : List Int) : (tellK m all).length ≤ m := by
  unfold tellK
  rw [List.length_map]
  exact Nat.le_trans (List.length_filter_le _ _) (by simp)
theorem any_snoc {l : List Int} {k : Nat} {y : Int} (h : l[k]? = some y) (i : Int) : ((l.take (k + 1)).any fun z => z == i) = ((l.take k).any (fun z => z == i) || y == i) := by
  rw [take_snoc h, List.any_append]
  simp

set_option maxRecDepth 100000 in
set_option maxHeartbeats 8000000 in
theorem rlengths_any (n : Int) (A : Option Addr) (c : Nat) (l : List Cl) (w : World) (hn : l.length ≤ 7) (hc : l.length ≤ c) (h34 : ∀ x ∈ l, x.q = 3 ∨ x.q = 4) (hl : ClSl w w.heap.size A l) :
    Calls Try.prog 9 #[.int .i64 n, .slice A l.length c] w fun e w' => ∃ v, e = .returned v ∧ Own (ints .i64) 3 w.heap.size w' v (tellR l.length (ordersR n l.length l [])) ∧ Below w.heap.size w w' := by
  have ho := orders_any (n := n) l.length l [] A c none 0 w (Nat.le_refl _) hn hc (fun _ => rfl) (Nat.le_refl _) (by simpa using hn) h34 hl (fun k r h => by simp at h)
  have hol := len_orders (n := n) l.length l [] (Nat.le_refl _)
  have hom := Nat.le_trans (Nat.le_trans hol (cnt_mono hn)) cnt_7
  have HO := Lib.hid (show Calls Try.prog 17 #[.int .i64 n, .slice A l.length c, .slice none 0 0] w _ from ho)
  obtain ⟨all, hall⟩ : ∃ y, ordersR n l.length l [] = y := ⟨_, rfl⟩
  rw [hall] at HO hom ⊢
  clear ho hol hall hl h34
  go_enter Try.func9, Try.ntmps9
  go_wp2_with fail
  refine HO.out.mono ?_
  rintro e w1 ⟨v, rfl, hO, hb1⟩
  obtain ⟨A1, c1, rfl, ⟨hc1, hm1⟩, _, hs⟩ := hO.sl
  have HB1 := Lib.hid hb1
  have HS := Lib.hid hs
  clear hO hb1 hs
  go_wp2_with fail
  go_loopw [6, 7] (fun v j wr => ∃ k : Nat, k ≤ l.length + 1 ∧ j = .int .i64 k ∧ Own (ints .i64) 3 w1.heap.size wr v (tellK k all) ∧ Below w1.heap.size w1 wr) (fun _ j _ => l.length + 1 - (intOf j).toNat)
  case atStart => exact ⟨0, Nat.zero_le _, rfl, Own.nil _ _, Below.refl _ _⟩
  case round =>
    obtain ⟨k, hk, rfl, hown, hb⟩ := hrel
    obtain ⟨wo, rfl⟩ : ∃ y, y = wr := ⟨_, rfl⟩
    by_cases hlt : k ≤ l.length
    · have HSU := Lib.hid (tell_succ k all)
      have hkl := tellK_len k all
      have HOW := Lib.hid hown
      have HB := Lib.hid hb
      clear hown hb
      go_wp2_with fail
      go_loopw [8, 10, 22] (fun hs _ j wq => ∃ m : Nat, m ≤ all.length ∧ j = .int .i64 m ∧ hs = .bool ((all.take m).any fun z => z == (k : Int)) ∧ wq = wo) (fun _ _ j _ => all.length - (intOf j).toNat)
      case atStart => exact ⟨0, Nat.zero_le _, rfl, rfl, rfl⟩
      case round =>
        obtain ⟨m, hm, rfl, rfl, rfl⟩ := hrel
        by_cases hlm : m < all.length
        · obtain ⟨y, hy⟩ := get_some hlm
          obtain ⟨b', off, rfl, hlb, h0⟩ := int_get (HS.out.below HB.out HB.out.size) hy
          have hsn := any_snoc hy (k : Int)
          obtain ⟨hv, hhv⟩ : ∃ z, ((all.take m).any fun z => z == (k : Int)) = z := ⟨_, rfl⟩
          rw [hhv] at hsn ⊢
          have HSN := Lib.hid hsn
          clear hy hsn hhv
          cases hv with
          | true =>
            go_wp2_with fail
            go_roundw
            case rel => exact ⟨m + 1, by omega, by go_num, by rw [HSN.out]; rfl, by first | trivial | rfl⟩
            case measure => simp [intOf]; omega
          | false =>
            go_wp2_with fail
            go_roundw
            case rel => exact ⟨m + 1, by omega, by go_num, by rw [HSN.out]; simp, by first | trivial | rfl⟩
            case measure => simp [intOf]; omega
        · have ht := take_all hlm
          rw [ht]
          obtain ⟨hv, hhv⟩ : ∃ z, (all.any fun z => z == (k : Int)) = z := ⟨_, rfl⟩
          rw [hhv]
          have HV := Lib.hid hhv
          clear ht hhv
          have hbase := HB.out.size
          cases hv with
          | true =>
            go_wp2_with (first
              | (at_builtin; refine wpList_app1h rfl _ _ 26 rfl intTy w1.heap.size HOW.out rfl rfl rfl rfl (by unfold maxLen; omega) (by omega) hbase ?_; intro v' W4 hown4 hbel4 hgr4 hob4)
              | fail)
            go_roundw
            case rel =>
              refine ⟨k + 1, by omega, by go_num, ?_, HB.out.trans hbel4⟩
              have h := HSU.out
              rw [HV.out] at h
              unfold tellK
              rw [h]
              exact Own.app hown4 rfl
            case measure => simp [intOf]; omega
          | false =>
            go_wp2_with fail
            go_roundw
            case rel =>
              refine ⟨k + 1, by omega, by go_num, ?_, HB.out⟩
              have h := HSU.out
              rw [HV.out] at h
              unfold tellK
              rw [h]
              simpa [tellK] using HOW.out
            case measure => simp [intOf]; omega
    · obtain rfl : k = l.length + 1 := by omega
      have HOW := Lib.hid (show Own (ints .i64) 3 w.heap.size wo _ (tellR l.length all) from hown.mono HB1.out.size)
      have HB := Lib.hid (HB1.out.trans (hb.mono HB1.out.size))
      clear hown hb
      go_wp2_with fail
      go_ret
      exact ⟨_, rfl, HOW.out, HB.out⟩

end Go.Proofs.Ytgmmblknaeepbaa
