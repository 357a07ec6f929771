/- Histories: the reference's One; calls in a slice; Short, Right, and the reference's Right. -/
import Derived.Test.YtkcdmonmgnmojaaDoorHis1
import Derived.Deep.RegionHeld3
namespace Go.Proofs.YtkcdmonmgnmojaaDoor
open Go.RowKit

set_option maxRecDepth 100000 in
set_option maxHeartbeats 4000000 in
theorem rone_any (x : Cl) (A : Option Addr) (c : Nat) (w : World) : Calls Tryd.prog 29 #[clV x A c] w fun r w' => r = .returned (.bool (clB x)) ∧ Below w.heap.size w w' := by
  obtain ⟨p, o, q, r, cc, b, e⟩ := x
  unfold clV
  simp only
  have hr : clB ⟨p, o, q, r, cc, b, e⟩ = (decide (0 ≤ p) && decide (p ≤ 1099511627776) && decide (0 ≤ o) && decide (o ≤ 1099511627776) && decide (0 ≤ b) && decide (b ≤ 1099511627776) && decide (1 ≤ q) && decide (q ≤ 4) && decide (0 ≤ cc) && decide (cc ≤ 3) && (e == -1 || decide (b ≤ e) && decide (e ≤ 1099511627776)) && decide (r.length ≤ 8)) := by
    unfold clB inT
    simp only
    rw [Bool.eq_iff_iff]
    simp only [Bool.and_eq_true, Bool.or_eq_true, decide_eq_true_eq, beq_iff_eq]
    omega
  rw [hr]
  clear hr
  have hE : (e == -1 || decide (b ≤ e) && decide (e ≤ 1099511627776)) = true ∧ ((e == -1) = true ∨ ((e == -1) = false ∧ decide (b ≤ e) = true ∧ decide (e ≤ 1099511627776) = true)) ∨
      (e == -1 || decide (b ≤ e) && decide (e ≤ 1099511627776)) = false ∧ (e == -1) = false ∧ (decide (b ≤ e) = false ∨ (decide (b ≤ e) = true ∧ decide (e ≤ 1099511627776) = false)) := by
    cases (e == -1) <;> cases decide (b ≤ e) <;> cases decide (e ≤ 1099511627776) <;> simp
  rcases hE with ⟨hE, h | ⟨h1, h2, h3⟩⟩ | ⟨hE, h1, h2 | ⟨h2, h3⟩⟩
  all_goals
    rw [hE]
    have hE' := Lib.hid hE
    clear hE
    go_enter Tryd.func29, Tryd.ntmps29
    go_wp2_with fail
  all_goals
    go_ret
    exact ⟨ret_bool (by simp [*] <;> omega), (Below.refl _ w).alloc (Nat.le_refl _) _⟩

/-! ### calls in a slice -/
def ClSl (w : World) (B : Nat) (A : Option Addr) (l : List Cl) : Prop := ∀ (k : Nat) (x : Cl), l[k]? = some x → ∃ b off Ar c, A = some ⟨b, off, none⟩ ∧ b < B ∧
  (w.cell? ⟨b, off + k * 7, none⟩ = some (.int .i64 x.p) ∧ w.cell? ⟨b, off + k * 7 + 1, none⟩ = some (.int .i64 x.o) ∧ w.cell? ⟨b, off + k * 7 + 2, none⟩ = some (.int .i64 x.q) ∧ w.cell? ⟨b, off + k * 7 + 3, none⟩ = some (.slice Ar x.r.length c) ∧
    w.cell? ⟨b, off + k * 7 + 4, none⟩ = some (.int .i64 x.c) ∧ w.cell? ⟨b, off + k * 7 + 5, none⟩ = some (.int .i64 x.b) ∧ w.cell? ⟨b, off + k * 7 + 6, none⟩ = some (.int .i64 x.e)) ∧ Ws w B Ar x.r ∧ x.r.length ≤ c ∧ c ≤ maxLen
theorem ClSl.below {w w' : World} {B B' : Nat} {A : Option Addr} {l : List Cl} (h : ClSl w B A l) (hb : Below B w w') (hB : B ≤ B') : ClSl w' B' A l := fun k x hx => by
  obtain ⟨b, off, Ar, c, hA, hlt, ⟨h0, h1, h2, h3, h4, h5, h6⟩, hr, hc⟩ := h k x hx
  have hk : ∀ {i : Nat} {u : Value}, w.cell? ⟨b, i, none⟩ = some u → w'.cell? ⟨b, i, none⟩ = some u := fun {i u} hc => (hb.cell (p := ⟨b, i, none⟩) hlt).trans hc
  exact ⟨b, off, Ar, c, hA, by omega, ⟨hk h0, hk h1, hk h2, hk h3, hk h4, hk h5, hk h6⟩, hr.below hb hB, hc⟩

def shortB (l : List Cl) (most : Int) : Bool := decide ((l.length : Int) ≤ most) && l.all fun x => decide (x.r.length ≤ 100)
theorem shortB_no {l : List Cl} {k : Nat} {x : Cl} {most : Int} (h : l[k]? = some x) (hx : 100 < x.r.length) : shortB l most = false := by
  unfold shortB
  have : l.all (fun x => decide (x.r.length ≤ 100)) = false := by
    rw [List.all_eq_false]
    exact ⟨x, List.mem_of_getElem? h, by simp; omega⟩
  rw [this, Bool.and_false]
set_option maxHeartbeats 1000000 in
theorem short_any (A : Option Addr) (c : Nat) (l : List Cl) (most : Int) (w : World) (hl : ClSl w w.heap.size A l) (hm : most ≤ 1000) :
    Calls Tryd.prog 20 #[.slice A l.length c, .int .i64 most] w fun e w' => e = .returned (.bool (shortB l most)) ∧ Below w.heap.size w w' := by
  by_cases hlen : most < (l.length : Int)
  · have t1 : decide (most < (l.length : Int)) = true := decide_eq_true hlen
    have hs : shortB l most = false := by unfold shortB; rw [decide_eq_false (by omega)]; rfl
    rw [hs]
    go_enter Tryd.func20, Tryd.ntmps20
    go_wp2_with fail
    go_ret
    exact ⟨rfl, Below.refl _ _⟩
  · have t1 : decide (most < (l.length : Int)) = false := decide_eq_false hlen
    go_enter Tryd.func20, Tryd.ntmps20
    go_wp2_with fail
    go_loopw [13] (fun j wr => ∃ k : Nat, k ≤ l.length ∧ j = .int .i64 k ∧ (∀ x ∈ l.take k, x.r.length ≤ 100) ∧ Below w.heap.size w wr) (fun j _ => l.length - (intOf j).toNat)
    case atStart => exact ⟨0, Nat.zero_le _, rfl, fun x hx => by simp at hx, Below.refl _ _⟩
    case round =>
      obtain ⟨k, hk, rfl, hall, hb⟩ := hrel
      by_cases hlt : k < l.length
      · obtain ⟨x, hx⟩ := get_some hlt
        obtain ⟨b, off, Ar, cx, rfl, hlb, ⟨h0, h1, h2, h3, h4, h5, h6⟩, _, hc1, hc2⟩ := (hl.below hb (Nat.le_refl _)) k x hx
        have hx' := Lib.hid hx
        have hall' := Lib.hid hall
        clear hx hall
        by_cases hxl : 100 < x.r.length
        · have t2 : decide ((100 : Int) < (x.r.length : Int)) = true := by rw [decide_eq_true_iff]; omega
          have hno := Lib.hid (shortB_no (most := most) hx'.out hxl)
          go_wp2_with fail
          go_ret
          exact ⟨ret_bool (by rw [hno.out]), hb.alloc hb.size _⟩
        · have t2 : decide ((100 : Int) < (x.r.length : Int)) = false := by rw [decide_eq_false_iff_not]; omega
          go_wp2_with fail
          go_roundw
          case rel => exact ⟨k + 1, by omega, by go_num, fun y hy => by
              rw [take_snoc hx'.out] at hy
              rcases List.mem_append.1 hy with hy | hy
              · exact hall'.out y hy
              · rw [List.mem_singleton.1 hy]; omega, hb.alloc hb.size _⟩
          case measure => simp [intOf]; omega
      · have ht := take_all hlt
        rw [ht] at hall
        have hs : shortB l most = true := by
          unfold shortB
          rw [decide_eq_true (by omega), List.all_eq_true.2 (fun x hx => decide_eq_true (hall x hx))]
          rfl
        have hs' := Lib.hid hs
        clear hs hall
        go_wp2_with fail
        go_ret
        exact ⟨ret_bool (by rw [hs'.out]), hb⟩

end Go.Proofs.YtkcdmonmgnmojaaDoor
