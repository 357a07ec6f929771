/- Records: which of them one is; what is mixed of them. -/
import Derived.Test.YtjfgmallhjclgaaDoorRec1
import Derived.Deep.LoopGhost
namespace Go.Proofs.YtjfgmallhjclgaaDoor
open Go.RowKit

/-- A slice of records. -/
def Recs (w : World) (B : Nat) (A : Option Addr) (L : List (List Int)) : Prop :=
  ∀ k r, L[k]? = some r → ∃ b off A' c, A = some ⟨b, off, none⟩ ∧ b < B ∧ w.cell? ⟨b, off + k, none⟩ = some (.slice A' r.length c) ∧ Ws w B A' r ∧ r.length ≤ c ∧ c ≤ maxLen
theorem Recs.below {w w' : World} {B B' : Nat} {A : Option Addr} {L : List (List Int)} (h : Recs w B A L) (hb : Below B w w') (hB : B ≤ B') : Recs w' B' A L := by
  intro k r hk
  obtain ⟨b, off, A', c, hA, hlt, hc, hr, hl⟩ := h k r hk
  exact ⟨b, off, A', c, hA, by omega, (hb.cell (p := ⟨b, _, none⟩) hlt).trans hc, hr.below hb hB, hl⟩

def findN (L : List (List Int)) (r : List Int) : Int := match L.findIdx? (fun x => decide (x = r)) with | some i => i | none => -1
theorem findN_hit {L : List (List Int)} {r : List Int} {k : Nat} (h : L[k]? = some r) (hp : ∀ j x, j < k → L[j]? = some x → x ≠ r) : findN L r = k := by
  have : L.findIdx? (fun x => decide (x = r)) = some k := by
    rw [List.findIdx?_eq_some_iff_getElem]
    obtain ⟨hk, he⟩ := List.getElem?_eq_some_iff.1 h
    refine ⟨hk, by simp [he], fun j hj => ?_⟩
    have := hp j L[j] hj (List.getElem?_eq_getElem (by omega))
    simpa using this
  unfold findN; rw [this]
theorem findN_none {L : List (List Int)} {r : List Int} (hp : ∀ (j : Nat) x, L[j]? = some x → x ≠ r) : findN L r = -1 := by
  have : L.findIdx? (fun x => decide (x = r)) = none := by
    rw [List.findIdx?_eq_none_iff]
    intro x hx
    obtain ⟨j, hj⟩ := List.getElem?_of_mem hx
    have := hp j x hj
    simpa using this
  unfold findN; rw [this]
theorem findN_bd (L : List (List Int)) (r : List Int) : -1 ≤ findN L r ∧ findN L r < L.length + 1 := by
  unfold findN
  split
  · rename_i i hi
    rw [List.findIdx?_eq_some_iff_getElem] at hi
    obtain ⟨h, _⟩ := hi
    omega
  · omega

def fewB (L : List (List Int)) : Bool := decide (L.length ≤ 60) && L.all fun r => decide (r.length ≤ 60)

set_option maxHeartbeats 400000 in
theorem few_any (A : Option Addr) (c : Nat) (L : List (List Int)) (w : World) (hn : L.length ≤ 9223372036854775807) (hl : Recs w w.heap.size A L) :
    Calls Tryd.prog 13 #[.slice A L.length c] w fun e w' => e = .returned (.bool (fewB L)) ∧ w = w' := by
  by_cases hb60 : L.length ≤ 60
  · rcases hf : fewB L with _ | _
    all_goals
      have hf' := Lib.hid hf
      clear hf
      go_enter Tryd.func13, Tryd.ntmps13
      go_wp2
      go_loop [4, 10] (fun _ j => ∃ k : Nat, k ≤ L.length ∧ j = .int .i64 k ∧ (∀ i r, i < k → L[i]? = some r → r.length ≤ 60)) (fun _ j => L.length - (intOf j).toNat)
      case atStart => exact ⟨0, Nat.zero_le _, rfl, fun i r h => by omega⟩
      case round =>
        obtain ⟨k, hk, rfl, hp⟩ := hrel
        by_cases hlt : k < L.length
        · obtain ⟨r, hr⟩ := get_some hlt
          obtain ⟨b, off, A', c', rfl, hbl, hcell, hws, hrc, hrm⟩ := hl k r hr
          unfold maxLen at hrm
          have hp' := Lib.hid hp
          have hr' := Lib.hid hr
          clear hp hr
          by_cases h6 : r.length ≤ 60
          · go_wp2
            go_round
            case rel => exact ⟨k + 1, by omega, by go_num, fun i x hi hx => by
              by_cases e : i = k
              · subst e; have := hr'.out; rw [hx] at this; cases this; exact h6
              · exact hp'.out i x (by omega) hx⟩
            case measure => simp [intOf]; omega
          · go_wp2
            go_ret
            refine ⟨ret_bool ?_, rfl⟩
            have h1 : fewB L = false := by
              unfold fewB
              rw [Bool.and_eq_false_iff]
              right
              rw [List.all_eq_false]
              exact ⟨r, List.mem_of_getElem? hr'.out, by simpa using h6⟩
            exact h1.symm.trans hf'.out
        · have hp' := Lib.hid hp
          clear hp
          go_wp2
          go_ret
          refine ⟨ret_bool ?_, rfl⟩
          have h1 : fewB L = true := by
            unfold fewB
            rw [Bool.and_eq_true, List.all_eq_true]
            refine ⟨by simpa using hb60, fun r hr => ?_⟩
            obtain ⟨i, hi⟩ := List.getElem?_of_mem hr
            have := hp'.out i r (by have := get_lt hi; omega) hi
            simpa using this
          exact h1.symm.trans hf'.out
  · have h1 : fewB L = false := by unfold fewB; simp; omega
    rw [h1]
    go_enter Tryd.func13, Tryd.ntmps13
    go_wp2
    go_ret
    exact ⟨rfl, rfl⟩

set_option maxHeartbeats 400000 in
theorem rfind_any (A A' : Option Addr) (c c' : Nat) (L : List (List Int)) (r : List Int) (w : World) (hn : L.length ≤ 60) (hrn : r.length ≤ 60) (hL : ∀ x ∈ L, x.length ≤ 60) (hl : Recs w w.heap.size A L) (hr : Ws w w.heap.size A' r) :
    Calls Tryd.prog 14 #[.slice A L.length c, .slice A' r.length c'] w fun e w' => e = .returned (.int .i64 (findN L r)) ∧ Below w.heap.size w w' := by
  go_enter Tryd.func14, Tryd.ntmps14
  go_wp2
  go_loopw [5, 8] (fun _ j wr => ∃ k : Nat, k ≤ L.length ∧ j = .int .i64 k ∧ (∀ i x, i < k → L[i]? = some x → x ≠ r) ∧ Below w.heap.size w wr) (fun _ j _ => L.length - (intOf j).toNat)
  case atStart => exact ⟨0, Nat.zero_le _, rfl, fun i x h => by omega, Below.refl _ _⟩
  case round =>
    obtain ⟨k, hk, rfl, hp, hb⟩ := hrel
    have hp' := Lib.hid hp
    clear hp
    by_cases hlt : k < L.length
    · obtain ⟨x, hx⟩ := get_some hlt
      obtain ⟨b, off, Ax, cx, rfl, hbl, hcell, hws, _⟩ := (hl.below hb hb.size) k x hx
      have hxl := hL x (List.mem_of_getElem? hx)
      have hx' := Lib.hid hx
      have hrw := hr.below hb hb.size
      have hbs := hb.size
      clear hx
      go_wp2_with fail
      refine (rsame_any Ax A' cx c' x r wr (by omega) (by omega) hws hrw).mono ?_
      rintro e w1 ⟨rfl, hb1⟩
      have hbw := hb.trans (hb1.mono hbs)
      rcases hd : decide (x = r) with _ | _
      · have hd' := Lib.hid (of_decide_eq_false hd)
        clear hd
        go_wp2
        go_roundw
        case rel => exact ⟨k + 1, by omega, by go_num, fun i y hi hy => by
              by_cases e : i = k
              · subst e; have := hx'.out; rw [hy] at this; cases this; exact hd'.out
              · exact hp'.out i y (by omega) hy, hbw⟩
        case measure => simp [intOf]; omega
      · have hd' := Lib.hid (of_decide_eq_true hd)
        clear hd
        go_wp2
        go_ret
        exact ⟨ret_int (findN_hit (by rw [← hd'.out]; exact hx'.out) hp'.out).symm, hbw⟩
    · go_wp2
      go_ret
      exact ⟨ret_int (findN_none (fun j x hx => hp'.out j x (by have := get_lt hx; omega) hx)).symm, hb⟩

set_option maxHeartbeats 400000 in
theorem finder1_any (x r : List Int) (Ax A : Option Addr) (cx c B : Nat) (w : World) (hx : x.length ≤ 60) (hr : r.length ≤ 60) (hwx : Ws w w.heap.size Ax x) (hwr : Ws w w.heap.size A r)
    (hB : w.cell? ⟨B, 0, none⟩ = some (.slice A r.length c)) :
    Calls Tryd.prog 26 #[.slice Ax x.length cx, .pointer (some ⟨B, 0, none⟩)] w fun e w' => e = .returned (.bool (decide (x = r))) ∧ Below w.heap.size w w' := by
  go_enter Tryd.func26, Tryd.ntmps26
  go_wp2_with fail
  refine (same_any Ax A cx c x r _ (by omega) (by omega) hwx hwr).mono ?_
  rintro e w' ⟨rfl, hb⟩
  go_wp2_with fail
  go_ret
  exact ⟨rfl, hb⟩

set_option maxHeartbeats 400000 in
theorem ifind_any (A A' : Option Addr) (c c' B : Nat) (L : List (List Int)) (r : List Int) (w : World) (hn : L.length ≤ 60) (hrn : r.length ≤ 60) (hL : ∀ x ∈ L, x.length ≤ 60) (hl : Recs w w.heap.size A L) (hr : Ws w w.heap.size A' r)
    (hB : w.cell? ⟨B, 0, none⟩ = some (.slice A' r.length c')) (hBl : B < w.heap.size) :
    Calls Tryd.prog 25 #[.slice A L.length c, .func (.func 26) #[] #[.pointer (some ⟨B, 0, none⟩)]] w fun e w' => e = .returned (.int .i64 (findN L r)) ∧ Below w.heap.size w w' := by
  go_enter Tryd.func25, Tryd.ntmps25
  go_wp2
  go_loopw [5, 8] (fun _ j wr => ∃ k : Nat, k ≤ L.length ∧ j = .int .i64 k ∧ (∀ i x, i < k → L[i]? = some x → x ≠ r) ∧ Below w.heap.size w wr) (fun _ j _ => L.length - (intOf j).toNat)
  case atStart => exact ⟨0, Nat.zero_le _, rfl, fun i x h => by omega, Below.refl _ _⟩
  case round =>
    obtain ⟨k, hk, rfl, hp, hb⟩ := hrel
    have hp' := Lib.hid hp
    clear hp
    by_cases hlt : k < L.length
    · obtain ⟨x, hx⟩ := get_some hlt
      obtain ⟨b, off, Ax, cx, rfl, hbl, hcell, hws, _⟩ := (hl.below hb hb.size) k x hx
      have hxl := hL x (List.mem_of_getElem? hx)
      have hx' := Lib.hid hx
      have hrw := hr.below hb hb.size
      have hbs := hb.size
      have hBw := (hb.cell (p := ⟨B, 0, none⟩) hBl).trans hB
      clear hx
      go_wp2_with fail
      refine (finder1_any x r Ax A' cx c' B wr hxl hrn hws hrw hBw).mono ?_
      rintro e w1 ⟨rfl, hb1⟩
      have hbw := hb.trans (hb1.mono hbs)
      clear hBw hcell
      rcases hd : decide (x = r) with _ | _
      · have hd' := Lib.hid (of_decide_eq_false hd)
        clear hd
        go_wp2
        go_roundw
        case rel => exact ⟨k + 1, by omega, by go_num, fun i y hi hy => by
              by_cases e : i = k
              · subst e; have := hx'.out; rw [hy] at this; cases this; exact hd'.out
              · exact hp'.out i y (by omega) hy, hbw⟩
        case measure => simp [intOf]; omega
      · have hd' := Lib.hid (of_decide_eq_true hd)
        clear hd
        go_wp2
        go_ret
        exact ⟨ret_int (findN_hit (by rw [← hd'.out]; exact hx'.out) hp'.out).symm, hbw⟩
    · go_wp2
      go_ret
      exact ⟨ret_int (findN_none (fun j x hx => hp'.out j x (by have := get_lt hx; omega) hx)).symm, hb⟩

def findI (L : List (List Int)) (r : List Int) : Int := if 0 ≤ findN L r then findN L r else 0
def findB (L : List (List Int)) (r : List Int) : Bool := decide (0 ≤ findN L r)

set_option maxHeartbeats 400000 in
theorem find_any (A A' : Option Addr) (c c' : Nat) (L : List (List Int)) (r : List Int) (w : World) (hn : L.length ≤ 60) (hrn : r.length ≤ 60) (hL : ∀ x ∈ L, x.length ≤ 60) (hl : Recs w w.heap.size A L) (hr : Ws w w.heap.size A' r) :
    Calls Tryd.prog 15 #[.slice A L.length c, .slice A' r.length c'] w fun e w' => e = .returned (.tuple #[.int .i64 (findI L r), .bool (findB L r)]) ∧ Below w.heap.size w w' := by
  have hbd := findN_bd L r
  have hB0 : Below w.heap.size w (w.alloc (.cells #[.slice A' r.length c'] 23)) := (Below.refl _ w).alloc (Nat.le_refl _) _
  have hi := Lib.hid (show findI L r = if 0 ≤ findN L r then findN L r else 0 from rfl)
  have hbb := Lib.hid (show findB L r = decide (0 ≤ findN L r) from rfl)
  have hcell := (World.cell?_alloc_new w #[.slice A' r.length c'] 23 0).trans (show _ = some (.slice A' r.length c') from rfl)
  by_cases h0 : 0 ≤ findN L r
  all_goals
    go_enter Tryd.func15, Tryd.ntmps15
    go_wp2_with fail
    refine (ifind_any A A' c c' w.heap.size L r _ hn hrn hL (hl.below hB0 hB0.size) (hr.below hB0 hB0.size) hcell (by simp)).mono ?_
    rintro e w' ⟨rfl, hb⟩
    have hbw := hB0.trans (hb.mono hB0.size)
    clear hcell hB0 hb
    generalize findN L r = q at *
    go_wp2_with fail
    go_ret2
    refine ⟨?_, hbw⟩
    rw [hi.out, hbb.out]
    first | (simp [h0]; done) | (simp [h0]; omega)

/-- Mixed of records. -/
def mixW (L : List (List Int)) (r : List Int) (i : Nat) : Prop := ∀ x, r[i]? = some x → ∃ y ∈ L, y[i]? = some x
def mixB (L : List (List Int)) (r : List Int) : Bool := decide (r ≠ [] ∧ findN L r < 0) && (List.range r.length).all fun i => L.any fun y => decide (y[i]? = r[i]?)
theorem mixB_no1 {L : List (List Int)} {r : List Int} (h : 0 ≤ findN L r) : mixB L r = false := by
  unfold mixB
  rw [Bool.and_eq_false_iff]
  left
  rw [decide_eq_false_iff_not]; omega
theorem mixB_no2 {L : List (List Int)} : mixB L [] = false := by
  unfold mixB
  rw [Bool.and_eq_false_iff]
  left
  simp
theorem mixB_no3 {L : List (List Int)} {r : List Int} {i : Nat} {x : Int} (hx : r[i]? = some x) (h : ∀ (k : Nat) y, L[k]? = some y → y[i]? ≠ some x) : mixB L r = false := by
  unfold mixB
  rw [Bool.and_eq_false_iff]
  right
  rw [List.all_eq_false]
  refine ⟨i, by simpa using get_lt hx, ?_⟩
  rw [Bool.not_eq_true, List.any_eq_false]
  intro y hy
  obtain ⟨k, hk⟩ := List.getElem?_of_mem hy
  rw [decide_eq_true_eq, hx]
  exact h k y hk
theorem mixB_yes {L : List (List Int)} {r : List Int} (h0 : r ≠ []) (h1 : findN L r < 0) (h : ∀ (i : Nat) x, r[i]? = some x → ∃ y ∈ L, y[i]? = some x) : mixB L r = true := by
  unfold mixB
  rw [Bool.and_eq_true, List.all_eq_true]
  refine ⟨by simpa using ⟨h0, h1⟩, fun i hi => ?_⟩
  obtain ⟨x, hx⟩ := get_some (show i < r.length by simpa using hi)
  obtain ⟨y, hy, hy2⟩ := h i x hx
  rw [List.any_eq_true]
  exact ⟨y, hy, by rw [hx, hy2]; simp⟩

set_option maxHeartbeats 1000000 in
theorem mixed_any (A A' : Option Addr) (c c' : Nat) (L : List (List Int)) (r : List Int) (w : World) (hn : L.length ≤ 60) (hrn : r.length ≤ 60) (hL : ∀ x ∈ L, x.length ≤ 60) (hl : Recs w w.heap.size A L) (hr : Ws w w.heap.size A' r) :
    Calls Tryd.prog 17 #[.slice A L.length c, .slice A' r.length c'] w fun e w' => e = .returned (.bool (mixB L r)) ∧ Below w.heap.size w w' := by
  have hbb := Lib.hid (show findB L r = decide (0 ≤ findN L r) from rfl)
  by_cases h0 : 0 ≤ findN L r
  · have e0 := mixB_no1 h0
    rw [e0]
    have hbt : findB L r = true := by rw [hbb.out]; simpa using h0
    clear e0 h0
    go_enter Tryd.func17, Tryd.ntmps17
    go_wp2_with fail
    go_step3
    go_wp2_with fail
    refine (find_any A A' c c' L r _ hn hrn hL hl hr).mono ?_
    rintro e w' ⟨rfl, hb⟩
    rw [hbt]
    go_wp2_with fail
    try rw [Exit.noGoto_ret]
    go_ret
    exact ⟨rfl, hb⟩
  · have hbt : findB L r = false := by rw [hbb.out]; simpa using h0
    by_cases hr0 : r = []
    · have e0 := mixB_no2 (L := L)
      rw [hr0] at hrn hr ⊢
      rw [hr0] at hbt
      rw [e0]
      clear e0 h0 hbb hr0
      go_enter Tryd.func17, Tryd.ntmps17
      go_wp2_with fail
      go_step3
      go_wp2_with fail
      refine (find_any A A' c c' L [] _ hn hrn hL hl hr).mono ?_
      rintro e w' ⟨rfl, hb⟩
      rw [hbt]
      go_wp2_with fail
      try rw [Exit.noGoto_ret]
      go_ret
      exact ⟨rfl, hb⟩
    · have hlen0 : ((r.length : Int) == 0) = false := by
        rw [beq_eq_false_iff_ne]
        intro h
        exact hr0 (List.eq_nil_of_length_eq_zero (by omega))
      rcases hm : mixB L r with _ | _
      all_goals
        have hm' := Lib.hid hm
        have h0' := Lib.hid h0
        have hr0' := Lib.hid hr0
        clear hm h0 hr0 hbb
        go_enter Tryd.func17, Tryd.ntmps17
        go_wp2_with fail
        go_step3
        go_wp2_with fail
        refine (find_any A A' c c' L r _ hn hrn hL hl hr).mono ?_
        rintro e w' ⟨rfl, hb⟩
        rw [hbt]
        go_wp2_with fail
        obtain ⟨wa, rfl⟩ : ∃ wa : World, wa = w' := ⟨_, rfl⟩
        replace hl := hl.below hb hb.size
        replace hr := hr.below hb hb.size
        go_step3
        go_wp2_with fail
        go_loopg [7, 8, 10, 25, 32] r.length (fun g _ _ _ j _ wr => ∃ k : Nat, k + g = r.length ∧ j = .int .i64 k ∧ (∀ i x, i < k → r[i]? = some x → ∃ y ∈ L, y[i]? = some x) ∧ wa = wr)
        case atStart => exact ⟨0, by omega, rfl, fun i x h => by omega, rfl⟩
        case round =>
          obtain ⟨k, hk, rfl, hp, rfl⟩ := hrel
          have hp' := Lib.hid hp
          clear hp
          cases gk with
          | succ g =>
            have hlt : k < r.length := by omega
            obtain ⟨z, hz⟩ := get_some hlt
            obtain ⟨⟨_, _, _⟩, b, off, rfl, hlb, hc⟩ := hr.get hz
            have hz' := Lib.hid hz
            clear hz
            go_wp2_with fail
            go_loopg [10, 32] L.length (fun g2 _ j wr => ∃ m : Nat, m + g2 = L.length ∧ j = .int .i64 m ∧ (∀ i y, i < m → L[i]? = some y → y[k]? ≠ some z) ∧ wa = wr)
            case atStart => exact ⟨0, by omega, rfl, fun i x h => by omega, rfl⟩
            case round =>
              obtain ⟨m, hm, rfl, hq, rfl⟩ := hrel
              have hq' := Lib.hid hq
              clear hq
              cases gk with
              | succ g2 =>
                have hlm : m < L.length := by omega
                obtain ⟨y, hy⟩ := get_some hlm
                obtain ⟨b2, off2, A2, c2, rfl, hb2, hc2, hws2, _⟩ := hl m y hy
                have hyl := hL y (List.mem_of_getElem? hy)
                have hy' := Lib.hid hy
                clear hy
                by_cases hky : k < y.length
                · obtain ⟨u, hu⟩ := get_some hky
                  obtain ⟨⟨_, _, _⟩, b3, off3, rfl, hb3, hc3⟩ := hws2.get hu
                  have hu' := Lib.hid hu
                  clear hu
                  by_cases huz : u = z
                  · have huz' := Lib.hid huz
                    have hub : (u == z) = true := by simp [huz]
                    clear huz
                    go_wp2
                    go_roundg g
                    case measure => omega
                    case rel => exact ⟨k + 1, by omega, by go_num, fun i x hi hx => by
                      by_cases e : i = k
                      · subst e
                        refine ⟨y, List.mem_of_getElem? hy'.out, ?_⟩
                        have := hz'.out
                        rw [hx] at this
                        rw [hu'.out, this, huz'.out]
                      · exact hp'.out i x (by omega) hx, rfl⟩
                  · have huz' := Lib.hid huz
                    have hub : (u == z) = false := by simp [huz]
                    clear huz
                    go_wp2
                    go_roundg g2
                    case measure => omega
                    case rel => exact ⟨m + 1, by omega, by go_num, fun i y' hi hy2 => by
                      by_cases e : i = m
                      · subst e; have := hy'.out; rw [hy2] at this; cases this; rw [hu'.out]; intro h; exact huz'.out (by injection h)
                      · exact hq'.out i y' (by omega) hy2, rfl⟩
                · go_wp2
                  go_roundg g2
                  case measure => omega
                  case rel => exact ⟨m + 1, by omega, by go_num, fun i y' hi hy2 => by
                      by_cases e : i = m
                      · subst e; have := hy'.out; rw [hy2] at this; cases this; rw [List.getElem?_eq_none (by omega)]; intro h; cases h
                      · exact hq'.out i y' (by omega) hy2, rfl⟩
              | zero =>
                have hlm : ¬ (m : Int) < L.length := by omega
                go_wp2
                try rw [Exit.noGoto_ret]
                go_ret
                refine ⟨ret_bool ?_, hb⟩
                exact (mixB_no3 hz'.out (fun i y hy => hq'.out i y (by have := get_lt hy; omega) hy)).symm.trans hm'.out
          | zero =>
            have hlt : ¬ (k : Int) < r.length := by omega
            go_wp2
            try rw [Exit.noGoto_ret]
            go_ret
            refine ⟨ret_bool ?_, hb⟩
            exact (mixB_yes hr0'.out (by have := h0'.out; omega) (fun i x hx => hp'.out i x (by have := get_lt hx; omega) hx)).symm.trans hm'.out

set_option maxHeartbeats 1000000 in
theorem rmixed_any (A A' : Option Addr) (c c' : Nat) (L : List (List Int)) (r : List Int) (w : World) (hn : L.length ≤ 60) (hrn : r.length ≤ 60) (hL : ∀ x ∈ L, x.length ≤ 60) (hl : Recs w w.heap.size A L) (hr : Ws w w.heap.size A' r) :
    Calls Tryd.prog 18 #[.slice A L.length c, .slice A' r.length c'] w fun e w' => e = .returned (.bool (mixB L r)) ∧ Below w.heap.size w w' := by
  by_cases hr0 : r.length = 0
  · have e0 : mixB L r = false := by rw [List.eq_nil_of_length_eq_zero hr0]; exact mixB_no2
    rw [e0]
    have hlen0 : ((r.length : Int) == 0) = true := by simp [hr0]
    clear e0 hr0
    go_enter Tryd.func18, Tryd.ntmps18
    go_wp2
    go_ret
    exact ⟨rfl, Below.refl _ _⟩
  · have hlen0 : ((r.length : Int) == 0) = false := by rw [beq_eq_false_iff_ne]; omega
    have hr1 := Lib.hid (show r ≠ [] from fun h => hr0 (by rw [h]; rfl))
    clear hr0
    by_cases h0 : 0 ≤ findN L r
    · have e0 := mixB_no1 h0
      rw [e0]
      have h0b : decide (0 ≤ findN L r) = true := by simpa using h0
      clear e0 hr1
      go_enter Tryd.func18, Tryd.ntmps18
      go_wp2_with fail
      refine (rfind_any A A' c c' L r _ hn hrn hL hl hr).mono ?_
      rintro e w' ⟨rfl, hb⟩
      go_wp2_with fail
      go_ret
      exact ⟨rfl, hb⟩
    · have h0b : decide (0 ≤ findN L r) = false := by simpa using h0
      have h0' := Lib.hid h0
      clear h0
      rcases hm : mixB L r with _ | _
      all_goals
        have hm' := Lib.hid hm
        clear hm
        go_enter Tryd.func18, Tryd.ntmps18
        go_wp2_with fail
        refine (rfind_any A A' c c' L r _ hn hrn hL hl hr).mono ?_
        rintro e w' ⟨rfl, hb⟩
        obtain ⟨wa, rfl⟩ : ∃ wa : World, wa = w' := ⟨_, rfl⟩
        have hbs := hb.size
        go_wp2_with fail
        go_loopg [5, 6, 8, 20, 25] r.length (fun g _ _ _ j _ wr => ∃ k : Nat, k + g = r.length ∧ j = .int .i64 k ∧ (∀ i x, i < k → r[i]? = some x → ∃ y ∈ L, y[i]? = some x) ∧ Below w.heap.size w wr)
        case atStart => exact ⟨0, by omega, rfl, fun i x h => by omega, hb⟩
        case round =>
          obtain ⟨k, hk, rfl, hp, hb1⟩ := hrel
          have hp' := Lib.hid hp
          clear hp
          cases gk with
          | succ g =>
            have hlt : (k : Int) < r.length := by omega
            obtain ⟨z, hz⟩ := get_some (show k < r.length by omega)
            have hz' := Lib.hid hz
            clear hz
            go_wp2_with fail
            go_loopg [6, 8, 25] L.length (fun g2 s6 _ j wr => ∃ (m : Nat) (b : Bool), m + g2 = L.length ∧ j = .int .i64 m ∧ s6 = .bool b ∧ (b = true → ∃ y ∈ L, y[k]? = some z) ∧ (b = false → ∀ i y, i < m → L[i]? = some y → y[k]? ≠ some z) ∧ Below w.heap.size w wr)
            case atStart => exact ⟨0, false, by omega, rfl, rfl, (fun h => by cases h), (fun _ i x h => by omega), hb1⟩
            case round =>
              obtain ⟨m, bb, hm, rfl, rfl, hq1, hq2, hb2⟩ := hrel
              have hq1' := Lib.hid hq1
              have hq2' := Lib.hid hq2
              clear hq1 hq2
              cases gk with
              | succ g2 =>
                have hlm : (m : Int) < L.length := by omega
                obtain ⟨y, hy⟩ := get_some (show m < L.length by omega)
                obtain ⟨b2, off2, A2, c2, rfl, hbb, hc2, hws2, _⟩ := (hl.below hb2 (Nat.le_refl _)) m y hy
                obtain ⟨⟨_, _, _⟩, b, off, rfl, hlb, hc⟩ := (hr.below hb2 (Nat.le_refl _)).get hz'.out
                have hyl := hL y (List.mem_of_getElem? hy)
                have hy' := Lib.hid hy
                clear hy
                cases bb with
                | true =>
                  have hq3 := Lib.hid (hq1'.out rfl)
                  go_wp2
                  go_quiet (fail)
                  go_wp2
                  go_roundg g2
                  case measure => omega
                  case rel => exact ⟨m + 1, true, by omega, by go_num, rfl, (fun _ => hq3.out), (fun h => by cases h), drewN_below hb2 _⟩
                | false =>
                  have hq3 := Lib.hid (hq2'.out rfl)
                  by_cases hky : k < y.length
                  · have hkb : decide ((k : Int) < (y.length : Int)) = true := by simpa using hky
                    obtain ⟨u, hu⟩ := get_some hky
                    obtain ⟨⟨_, _, _⟩, b3, off3, rfl, hb3, hc3⟩ := hws2.get hu
                    have hu' := Lib.hid hu
                    clear hu
                    have hkl : (k : Int) < (y.length : Int) := by omega
                    rcases hub : (u == z) with _ | _
                    · go_wp2
                      go_quiet (fail)
                      go_wp2
                      go_roundg g2
                      case measure => omega
                      case rel => exact ⟨m + 1, false, by omega, by go_num, rfl, (fun h => by cases h), (fun _ i y' hi hy2 => by
                        by_cases e : i = m
                        · subst e
                          have := hy'.out
                          rw [hy2] at this
                          cases this
                          rw [hu'.out]
                          intro h
                          injection h with h
                          subst h
                          simp at hub
                        · exact hq3.out i y' (by omega) hy2), drewN_below hb2 _⟩
                    · go_wp2
                      go_quiet (fail)
                      go_wp2
                      go_roundg g2
                      case measure => omega
                      case rel => exact ⟨m + 1, true, by omega, by go_num, rfl, (fun _ => ⟨y, List.mem_of_getElem? hy'.out, by rw [hu'.out, eq_of_beq hub]⟩), (fun h => by cases h), drewN_below hb2 _⟩
                  · have hkb : decide ((k : Int) < (y.length : Int)) = false := by simpa using hky
                    go_wp2
                    go_quiet (fail)
                    go_wp2
                    go_roundg g2
                    case measure => omega
                    case rel => exact ⟨m + 1, false, by omega, by go_num, rfl, (fun h => by cases h), (fun _ i y' hi hy2 => by
                        by_cases e : i = m
                        · subst e; have := hy'.out; rw [hy2] at this; cases this; rw [List.getElem?_eq_none (by omega)]; intro h; cases h
                        · exact hq3.out i y' (by omega) hy2), drewN_below hb2 _⟩
              | zero =>
                have hlm : ¬ (m : Int) < L.length := by omega
                cases bb with
                | true =>
                  have hq3 := Lib.hid (hq1'.out rfl)
                  go_wp2
                  go_roundg g
                  case measure => omega
                  case rel => exact ⟨k + 1, by omega, by go_num, (fun i x hi hx => by
                      by_cases e : i = k
                      · subst e
                        have := hz'.out
                        rw [hx] at this
                        rw [this]
                        exact hq3.out
                      · exact hp'.out i x (by omega) hx), hb2⟩
                | false =>
                  have hq3 := Lib.hid (hq2'.out rfl)
                  go_wp2
                  go_ret
                  refine ⟨ret_bool ?_, hb2⟩
                  exact (mixB_no3 hz'.out (fun i y hy => hq3.out i y (by have := get_lt hy; omega) hy)).symm.trans hm'.out
          | zero =>
            have hlt : ¬ (k : Int) < r.length := by omega
            go_wp2
            go_ret
            refine ⟨ret_bool ?_, hb1⟩
            exact (mixB_yes hr1.out (by have := h0'.out; omega) (fun i x hx => hp'.out i x (by have := get_lt hx; omega) hx)).symm.trans hm'.out

end Go.Proofs.YtjfgmallhjclgaaDoor
