/- history.Read of any line. -/
import Derived.Test.YtkcdmonmgnmojaaDoorHRd6
import Derived.Test.YtkcdmonmgnmojaaDoorHRd7
namespace Go.Proofs.YtkcdmonmgnmojaaDoor
open Go.RowKit

theorem hread_any (s : ByteArray) (w : World) (hs : s.size ≤ 1000) (hT : Tab w) (hM : Mx w) :
    Calls Tryd.prog 30 #[.string s] w fun e w' => (∃ A c, e = .returned (.tuple #[clV (hreadX s.data.toList) A c, .bool (hreadOk s.data.toList)]) ∧ WsF w' w.heap.size A (hreadX s.data.toList).r) ∧ Below w.heap.size w w' := by
  have hlen : s.data.toList.length = s.size := Array.length_toList
  by_cases h6 : 6 ≤ (pcs 32 s.data.toList).length
  · obtain ⟨x0, x1, x2, x3, x4, x5, ⟨y0, y1, y2, y3, y4, y5⟩, hcp, hr⟩ := cut_six h6
    rcases hr with ⟨hpk, hr⟩ | ⟨x6, hpk, hr, y6⟩
    · rw [hr] at hcp
      exact hread_6 x0 x1 x2 x3 x4 x5 s w hs hT hM hpk (by omega) (by omega) (by omega) (by omega) h6 hcp
    · rw [hr] at hcp
      exact hread_7 x0 x1 x2 x3 x4 x5 x6 s w hs hT hM hpk (by omega) (by omega) (by omega) (by omega) (by omega) h6 hcp
  · have hsp := fun W hM => splitn_any s W hM (by omega)
    obtain ⟨e1, e2⟩ := hread_no (s := s.data.toList) (fun h => h6 h.1)
    rw [e1, e2]
    rw [pk_few (by omega)] at hsp
    obtain ⟨q, hq⟩ : ∃ q, pcs 32 s.data.toList = q := ⟨_, rfl⟩
    rw [hq] at hsp h6
    have t1 : decide ((q.length : Int) < 6) = true := by rw [decide_eq_true_iff]; omega
    have t2 : decide (q.length < 6) = true := by rw [decide_eq_true_iff]; omega
    have t3 : (q.length : Int) < 6 := by omega
    have hsp' := Lib.hid hsp
    clear hsp e1 e2 hq h6
    go_enter Tryd.func30, Tryd.ntmps30
    go_wp2_with fail
    have hb0 := (Below.refl w.heap.size w).alloc (Nat.le_refl _) (.cells #[.int .i64 0, .int .i64 0, .int .i64 0, .slice none 0 0, .int .i64 0, .int .i64 0, .int .i64 0] 45)
    refine (hsp'.out _ (hM.below hb0)).mono ?_
    rintro e w1 ⟨C, rfl, hc1, hb1, hC1, hC2⟩
    have hbox := (ClBox.new w cl0 none 0).kept hb1
    have hB1 := hb0.trans (hb1.mono hb0.size)
    obtain ⟨n, hn⟩ : ∃ n, w.heap.size = n := ⟨_, rfl⟩
    rw [hn] at hbox hB1 ⊢
    obtain ⟨b0, b1, b2, b3, b4, b5, b6⟩ := hbox.cells
    have f0 := hbox.frozen 0
    have f1 := hbox.frozen 1
    have f2 := hbox.frozen 2
    have f3 := hbox.frozen 3
    have f4 := hbox.frozen 4
    have f5 := hbox.frozen 5
    have f6 := hbox.frozen 6
    clear hb1 hb0
    go_wp2_with fail
    refine bodyPost_ret (res_hread _ _ rfl rfl (hbox.set7 cl0 none 0)) rfl ?_
    exact ⟨⟨none, 0, rfl, WsF.nil _ _ _ (fun b o e => by cases e)⟩, by rw [hn]; exact below_set7 hB1 n (Nat.le_refl _) _ _ _ _ _ _ _⟩

end Go.Proofs.YtkcdmonmgnmojaaDoor
