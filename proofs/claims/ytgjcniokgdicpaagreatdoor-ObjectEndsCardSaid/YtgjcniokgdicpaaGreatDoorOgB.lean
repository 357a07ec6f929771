/- The memory's words, and an operation's own: read, written, swapped. -/
import Derived.Test.YtgjcniokgdicpaaGreatDoorOgA
import Derived.Test.YtgjcniokgdicpaaGreatDoorPut
import Derived.Test.YtgjcniokgdicpaaGreatDoorShA
import Derived.Test.YtgjcniokgdicpaaGreatDoorOmDef
namespace Go.Proofs.YtgjcniokgdicpaaGreatDoor
open Go.RowKit
attribute [local go_sem] Oper.semAt_some

theorem mem_put {w : World} {mb lb : Nat} {l : List Int} (h : MemG w mb lb l) {i : Nat} (hi : i < l.length) {z : Int} (hz : 0 ≤ z ∧ z < 4294967296) : MemG (w.setCell ⟨lb, i, none⟩ (.int .u32 z)) mb lb (l.set i z) := by
  obtain ⟨k, c, hr, ho, hn, hl, hw⟩ := h
  exact ⟨k, c, by rw [List.length_set]; exact hr.other lb i _ (fun e => hn e.symm), by rw [List.length_set]; exact own_put ho hi z, hn, by simpa using hl, hw.set i hz⟩
theorem word_m (mb lb : Nat) (l : List Int) (at' : Int) (w : World) (hm : MemG w mb lb l) (h0 : 0 ≤ at') (h1 : at' < l.length) :
    ∃ W1, Calls Tryz.prog 142 #[.pointer (some ⟨mb, 0, none⟩), .int .i64 at'] w (fun e w' => e = .returned (.tuple #[.pointer (some ⟨lb, at'.toNat, none⟩), .int .i64 0]) ∧ w' = W1) ∧ Tch (fun b => b = mb) w W1 ∧ MemG W1 mb lb l := by
  obtain ⟨k, c, hr, ho, hn, hl, hw⟩ := hm
  refine ⟨_, word_g mb l.length c lb k at' w hr hl h0 h1, (Tch.refl (fun b => b = mb) w).set (b := mb) rfl 1 _, ?_⟩
  exact ⟨_, c, hr.set 1 _, own_tch (T := fun b => b = mb) ho ((Tch.refl (fun b => b = mb) w).set (b := mb) rfl 1 _) (fun b hb e => hn ((Option.some.inj hb).trans e)), hn, hl, hw⟩
theorem mem_cell {w : World} {mb lb : Nat} {l : List Int} (h : MemG w mb lb l) {i : Nat} {z : Int} (hz : l[i]? = some z) : w.cell? ⟨lb, i, none⟩ = some (.int .u32 z) := by
  obtain ⟨k, c, hr, ho, hn, hl, hw⟩ := h
  exact own_cell ho hz
theorem mem_frozen {w : World} {mb lb : Nat} {l : List Int} (h : MemG w mb lb l) (i : Nat) : w.frozen? ⟨lb, i, none⟩ = false := by
  obtain ⟨k, c, hr, ho, hn, hl, hw⟩ := h
  exact own_frozen ho i
theorem get_lt' {l : List Int} {at' z : Int} (h0 : 0 ≤ at') (hz : l[at'.toNat]? = some z) : at' < l.length := by
  have := get_lt hz
  omega

set_option maxRecDepth 100000 in
set_option maxHeartbeats 1000000 in
theorem read_g (mb lb : Nat) (l : List Int) (at' z : Int) (w : World) (hm : MemG w mb lb l) (h0 : 0 ≤ at') (hz : l[at'.toNat]? = some z) :
    Calls Tryz.prog 187 #[.pointer (some ⟨mb, 0, none⟩), .int .i64 at'] w fun e w' => e = .returned (.tuple #[.int .u32 z, .int .i64 0]) ∧ Tch (fun b => b = mb) w w' ∧ MemG w' mb lb l := by
  have hlt := get_lt hz
  obtain ⟨W1, hw, ht, hm1⟩ := word_m mb lb l at' w hm h0 (get_lt' h0 hz)
  have l0 := mem_cell hm1 hz
  have f0 := mem_frozen hm1 at'.toNat
  have HW := Lib.hid hw
  have HT := Lib.hid ht
  have HM := Lib.hid hm1
  have HZ := Lib.hid hz
  have HL := Lib.hid hlt
  clear hw ht hm1 hm hz hlt
  go_enter Tryz.func187, Tryz.ntmps187
  go_wp2_with fail
  refine HW.out.mono ?_
  rintro e w1 ⟨rfl, rfl⟩
  go_wp2_with fail
  go_ret2
  exact ⟨rfl, HT.out, HM.out⟩
set_option maxRecDepth 100000 in
set_option maxHeartbeats 1000000 in
theorem write_g (mb lb : Nat) (l : List Int) (at' z v : Int) (w : World) (hm : MemG w mb lb l) (h0 : 0 ≤ at') (hz : l[at'.toNat]? = some z) (hv : 0 ≤ v ∧ v < 4294967296) :
    Calls Tryz.prog 74 #[.pointer (some ⟨mb, 0, none⟩), .int .i64 at', .int .u32 v] w fun e w' => e = .returned (.int .i64 0) ∧ Tch (fun b => b = mb ∨ b = lb) w w' ∧ MemG w' mb lb (l.set at'.toNat v) := by
  have hlt := get_lt hz
  obtain ⟨W1, hw, ht, hm1⟩ := word_m mb lb l at' w hm h0 (get_lt' h0 hz)
  have l0 := mem_cell hm1 hz
  have f0 := mem_frozen hm1 at'.toNat
  have HW := Lib.hid hw
  have HT := Lib.hid ht
  have HM := Lib.hid hm1
  have HZ := Lib.hid hz
  have HL := Lib.hid hlt
  clear hw ht hm1 hm hz hlt
  have HV := Lib.hid hv
  clear hv
  go_enter Tryz.func74, Tryz.ntmps74
  go_wp2_with fail
  refine HW.out.mono ?_
  rintro e w1 ⟨rfl, rfl⟩
  go_wp2_with fail
  go_ret
  exact ⟨rfl, (HT.out.mono fun _ _ => .inl).set (.inr rfl) _ _, mem_put HM.out HL.out HV.out⟩
set_option maxRecDepth 100000 in
set_option maxHeartbeats 1000000 in
theorem cas_g (mb lb : Nat) (l : List Int) (at' z was now : Int) (w : World) (hm : MemG w mb lb l) (h0 : 0 ≤ at') (hz : l[at'.toNat]? = some z) (hv : 0 ≤ now ∧ now < 4294967296) :
    Calls Tryz.prog 190 #[.pointer (some ⟨mb, 0, none⟩), .int .i64 at', .int .u32 was, .int .u32 now] w fun e w' => ∃ b, e = .returned (.tuple #[.bool b, .int .i64 0]) ∧ Tch (fun b => b = mb ∨ b = lb) w w' ∧ MemG w' mb lb (if z = was then l.set at'.toNat now else l) := by
  have hlt := get_lt hz
  obtain ⟨W1, hw, ht, hm1⟩ := word_m mb lb l at' w hm h0 (get_lt' h0 hz)
  have l0 := mem_cell hm1 hz
  have f0 := mem_frozen hm1 at'.toNat
  have HW := Lib.hid hw
  have HT := Lib.hid ht
  have HM := Lib.hid hm1
  have HZ := Lib.hid hz
  have HL := Lib.hid hlt
  clear hw ht hm1 hm hz hlt
  have HV := Lib.hid hv
  clear hv
  by_cases hq : z = was
  · subst hq
    have hne : (z != z) = false := by simp
    rw [if_pos rfl]
    go_enter Tryz.func190, Tryz.ntmps190
    go_wp2_with fail
    refine HW.out.mono ?_
    rintro e w1 ⟨rfl, rfl⟩
    go_wp2_with fail
    go_ret2
    exact ⟨_, rfl, (HT.out.mono fun _ _ => .inl).set (.inr rfl) _ _, mem_put HM.out HL.out HV.out⟩
  · have hne : (z != was) = true := by simpa using hq
    rw [if_neg hq]
    have HQ := Lib.hid hq
    clear hq
    go_enter Tryz.func190, Tryz.ntmps190
    go_wp2_with fail
    refine HW.out.mono ?_
    rintro e w1 ⟨rfl, rfl⟩
    go_wp2_with fail
    go_ret2
    exact ⟨_, rfl, HT.out.mono fun _ _ => .inl, HM.out⟩
set_option maxRecDepth 100000 in
set_option maxHeartbeats 1000000 in
theorem mlen_g (mb lb : Nat) (l : List Int) (w : World) (hm : MemG w mb lb l) : Calls Tryz.prog 104 #[.pointer (some ⟨mb, 0, none⟩)] w fun e w' => e = .returned (.int .i64 l.length) ∧ w' = w := by
  obtain ⟨k, c, hr, -, -, hl, -⟩ := hm
  have c0 := (hr.cell 0).trans rfl
  clear hr
  go_enter Tryz.func104, Tryz.ntmps104
  go_wp2_with fail
  go_ret
  exact ⟨rfl, rfl⟩

/-! ### an operation's own words -/
section
variable (sb mb lb : Nat) (ty : TypeId) (cs : Array Value) (l : List Int) (base : Int)
theorem sum_g {a b : Int} (h0 : 0 ≤ a) (h1 : a ≤ 1000000000) (h2 : 0 ≤ b) (h3 : b ≤ 1000000000) : IntKind.i64.wrap (a + b) = a + b := by
  simp [IntKind.wrap, IntKind.signed, IntKind.bits]
  omega
set_option maxRecDepth 100000 in
set_option maxHeartbeats 1000000 in
theorem cread_g (i z : Int) (w : World) (hc : RowB w sb cs ty) (hp : cs[17]? = some (.pointer (some ⟨mb, 0, none⟩))) (hb : cs[18]? = some (.int .i64 base)) (hm : MemG w mb lb l) (hs : sb ≠ mb) (h0 : 0 ≤ base) (hi : 0 ≤ i) (hi2 : i ≤ 1000000) (hz : l[(base + i).toNat]? = some z) :
    Calls Tryz.prog 163 #[.pointer (some ⟨sb, 0, none⟩), .int .i64 i] w fun e w' => e = .returned (.int .u32 z) ∧ Tch (fun b => b = mb) w w' ∧ MemG w' mb lb l := by
  have hlt := get_lt hz
  have hlen := hm.len
  have hsum := sum_g h0 (by omega) hi (by omega)
  have ht0 : Tch (fun b => b = mb) w w.drew := (Tch.refl _ w).drew
  have hnT : ¬ (fun b => b = mb) sb := by exact hs
  have hcd := hc.tch ht0 hnT
  have HM := Lib.hid (hm.tch (T := fun _ => False) (Tch.refl _ w).drew (fun h => h) (fun h => h))
  have HT := Lib.hid ht0
  have c17 := (hcd.cell 17).trans hp
  have c18 := (hcd.cell 18).trans hb
  have HR := Lib.hid fun W (hm : MemG W mb lb l) => read_g mb lb l (base + i) z W hm (by omega) hz
  have HN := Lib.hid hnT
  clear ht0 hcd hc hm hnT hz hlt hlen hp hb
  go_enter Tryz.func163, Tryz.ntmps163
  go_wp2_with fail
  have hSd : (fun w' : World => w'.cell? ⟨sb, 17, none⟩ = some (.pointer (some ⟨mb, 0, none⟩)) ∧ w'.cell? ⟨sb, 18, none⟩ = some (.int .i64 base)) w.drew := ⟨c17, c18⟩
  refine wp_region_held_drew (S := (fun w' : World => w'.cell? ⟨sb, 17, none⟩ = some (.pointer (some ⟨mb, 0, none⟩)) ∧ w'.cell? ⟨sb, 18, none⟩ = some (.int .i64 base))) (by kernel_rfl) hSd (fun hHeld => ?_)
  clear hSd
  generalize w.drew = wd at hHeld HM HT ⊢
  have hHeld : (fun w' : World => w'.cell? ⟨sb, 17, none⟩ = some (.pointer (some ⟨mb, 0, none⟩)) ∧ w'.cell? ⟨sb, 18, none⟩ = some (.int .i64 base)) wd := hHeld
  refine tkH 0 ?_
  refine tkH 1 ?_
  refine tkH 2 ?_
  refine tkH 3 ?_
  refine tkH 4 ?_
  refine tkH 5 ?_
  refine tkH 6 ?_
  refine tkH 7 ?_
  refine tkH 8 ?_
  refine tkH 9 ?_
  refine clH 10 (fun K hK => ?_)
  go_simp
  go_at_call 187
  refine (HR.out _ HM.out).mono ?_
  rintro ex wx ⟨rfl, ht, hmx⟩
  have hSx : (fun w' : World => w'.cell? ⟨sb, 17, none⟩ = some (.pointer (some ⟨mb, 0, none⟩)) ∧ w'.cell? ⟨sb, 18, none⟩ = some (.int .i64 base)) wx := ⟨ht.cell hHeld.1 HN.out, ht.cell hHeld.2 HN.out⟩
  refine hK.out _ _ hSx (fun hHeld => ?_)
  clear hK K
  try first | simp only [pS, List.set] | simp only [pN]
  refine tkH 11 ?_
  refine tkH 12 ?_
  refine tkH 13 ?_
  refine tkH 14 ?_
  refine tkH 15 ?_
  refine wpAnyH_done (by kernel_rfl) ?_ _
  have htt := HT.out.trans ht
  clear hHeld hSx ht
  go_wp2_with fail
  go_ret
  exact ⟨rfl, htt, hmx⟩
set_option maxRecDepth 100000 in
set_option maxHeartbeats 1000000 in
theorem cwrite_g (i z v : Int) (w : World) (hc : RowB w sb cs ty) (hp : cs[17]? = some (.pointer (some ⟨mb, 0, none⟩))) (hb : cs[18]? = some (.int .i64 base)) (hm : MemG w mb lb l) (hs : sb ≠ mb) (hs2 : sb ≠ lb) (h0 : 0 ≤ base) (hi : 0 ≤ i) (hi2 : i ≤ 1000000) (hz : l[(base + i).toNat]? = some z) (hv : 0 ≤ v ∧ v < 4294967296) :
    Calls Tryz.prog 167 #[.pointer (some ⟨sb, 0, none⟩), .int .i64 i, .int .u32 v] w fun e w' => e = .returned (.tuple #[]) ∧ Tch (fun b => b = mb ∨ b = lb) w w' ∧ MemG w' mb lb (l.set (base + i).toNat v) := by
  have hlt := get_lt hz
  have hlen := hm.len
  have hsum := sum_g h0 (by omega) hi (by omega)
  have ht0 : Tch (fun b => b = mb ∨ b = lb) w w.drew := (Tch.refl _ w).drew
  have hnT : ¬ (fun b => b = mb ∨ b = lb) sb := by rintro (h | h); exact hs h; exact hs2 h
  have hcd := hc.tch ht0 hnT
  have HM := Lib.hid (hm.tch (T := fun _ => False) (Tch.refl _ w).drew (fun h => h) (fun h => h))
  have HT := Lib.hid ht0
  have c17 := (hcd.cell 17).trans hp
  have c18 := (hcd.cell 18).trans hb
  have HR := Lib.hid fun W (hm : MemG W mb lb l) => write_g mb lb l (base + i) z v W hm (by omega) hz hv
  have HN := Lib.hid hnT
  clear ht0 hcd hc hm hnT hz hlt hlen hp hb
  go_enter Tryz.func167, Tryz.ntmps167
  go_wp2_with fail
  have hSd : (fun w' : World => w'.cell? ⟨sb, 17, none⟩ = some (.pointer (some ⟨mb, 0, none⟩)) ∧ w'.cell? ⟨sb, 18, none⟩ = some (.int .i64 base)) w.drew := ⟨c17, c18⟩
  refine wp_region_held_drew (S := (fun w' : World => w'.cell? ⟨sb, 17, none⟩ = some (.pointer (some ⟨mb, 0, none⟩)) ∧ w'.cell? ⟨sb, 18, none⟩ = some (.int .i64 base))) (by kernel_rfl) hSd (fun hHeld => ?_)
  clear hSd
  generalize w.drew = wd at hHeld HM HT ⊢
  have hHeld : (fun w' : World => w'.cell? ⟨sb, 17, none⟩ = some (.pointer (some ⟨mb, 0, none⟩)) ∧ w'.cell? ⟨sb, 18, none⟩ = some (.int .i64 base)) wd := hHeld
  refine tkH 0 ?_
  refine tkH 1 ?_
  refine tkH 2 ?_
  refine tkH 3 ?_
  refine tkH 4 ?_
  refine tkH 5 ?_
  refine tkH 6 ?_
  refine tkH 7 ?_
  refine tkH 8 ?_
  refine tkH 9 ?_
  refine tkH 10 ?_
  refine clH 11 (fun K hK => ?_)
  go_simp
  go_at_call 74
  refine (HR.out _ HM.out).mono ?_
  rintro ex wx ⟨rfl, ht, hmx⟩
  have hSx : (fun w' : World => w'.cell? ⟨sb, 17, none⟩ = some (.pointer (some ⟨mb, 0, none⟩)) ∧ w'.cell? ⟨sb, 18, none⟩ = some (.int .i64 base)) wx := ⟨ht.cell hHeld.1 HN.out, ht.cell hHeld.2 HN.out⟩
  refine hK.out _ _ hSx (fun hHeld => ?_)
  clear hK K
  try first | simp only [pS, List.set] | simp only [pN]
  refine wpAnyH_done (by kernel_rfl) ?_ _
  have htt := HT.out.trans ht
  clear hHeld hSx ht
  go_end0
  exact ⟨rfl, htt, hmx⟩
set_option maxRecDepth 100000 in
set_option maxHeartbeats 1000000 in
theorem cswap_g (i z was now : Int) (w : World) (hc : RowB w sb cs ty) (hp : cs[17]? = some (.pointer (some ⟨mb, 0, none⟩))) (hb : cs[18]? = some (.int .i64 base)) (hm : MemG w mb lb l) (hs : sb ≠ mb) (hs2 : sb ≠ lb) (h0 : 0 ≤ base) (hi : 0 ≤ i) (hi2 : i ≤ 1000000) (hz : l[(base + i).toNat]? = some z) (hv : 0 ≤ now ∧ now < 4294967296) :
    Calls Tryz.prog 171 #[.pointer (some ⟨sb, 0, none⟩), .int .i64 i, .int .u32 was, .int .u32 now] w fun e w' => e = .returned (.tuple #[]) ∧ Tch (fun b => b = mb ∨ b = lb) w w' ∧ MemG w' mb lb (if z = was then l.set (base + i).toNat now else l) := by
  have hlt := get_lt hz
  have hlen := hm.len
  have hsum := sum_g h0 (by omega) hi (by omega)
  have ht0 : Tch (fun b => b = mb ∨ b = lb) w w.drew := (Tch.refl _ w).drew
  have hnT : ¬ (fun b => b = mb ∨ b = lb) sb := by rintro (h | h); exact hs h; exact hs2 h
  have hcd := hc.tch ht0 hnT
  have HM := Lib.hid (hm.tch (T := fun _ => False) (Tch.refl _ w).drew (fun h => h) (fun h => h))
  have HT := Lib.hid ht0
  have c17 := (hcd.cell 17).trans hp
  have c18 := (hcd.cell 18).trans hb
  have HR := Lib.hid fun W (hm : MemG W mb lb l) => cas_g mb lb l (base + i) z was now W hm (by omega) hz hv
  have HN := Lib.hid hnT
  clear ht0 hcd hc hm hnT hz hlt hlen hp hb
  go_enter Tryz.func171, Tryz.ntmps171
  go_wp2_with fail
  have hSd : (fun w' : World => w'.cell? ⟨sb, 17, none⟩ = some (.pointer (some ⟨mb, 0, none⟩)) ∧ w'.cell? ⟨sb, 18, none⟩ = some (.int .i64 base)) w.drew := ⟨c17, c18⟩
  refine wp_region_held_drew (S := (fun w' : World => w'.cell? ⟨sb, 17, none⟩ = some (.pointer (some ⟨mb, 0, none⟩)) ∧ w'.cell? ⟨sb, 18, none⟩ = some (.int .i64 base))) (by kernel_rfl) hSd (fun hHeld => ?_)
  clear hSd
  generalize w.drew = wd at hHeld HM HT ⊢
  have hHeld : (fun w' : World => w'.cell? ⟨sb, 17, none⟩ = some (.pointer (some ⟨mb, 0, none⟩)) ∧ w'.cell? ⟨sb, 18, none⟩ = some (.int .i64 base)) wd := hHeld
  refine tkH 0 ?_
  refine tkH 1 ?_
  refine tkH 2 ?_
  refine tkH 3 ?_
  refine tkH 4 ?_
  refine tkH 5 ?_
  refine tkH 6 ?_
  refine tkH 7 ?_
  refine tkH 8 ?_
  refine tkH 9 ?_
  refine tkH 10 ?_
  refine tkH 11 ?_
  refine clH 12 (fun K hK => ?_)
  go_simp
  go_at_call 190
  refine (HR.out _ HM.out).mono ?_
  rintro ex wx ⟨bb, rfl, ht, hmx⟩
  have hSx : (fun w' : World => w'.cell? ⟨sb, 17, none⟩ = some (.pointer (some ⟨mb, 0, none⟩)) ∧ w'.cell? ⟨sb, 18, none⟩ = some (.int .i64 base)) wx := ⟨ht.cell hHeld.1 HN.out, ht.cell hHeld.2 HN.out⟩
  refine hK.out _ _ hSx (fun hHeld => ?_)
  clear hK K
  try first | simp only [pS, List.set] | simp only [pN]
  refine wpAnyH_done (by kernel_rfl) ?_ _
  have htt := HT.out.trans ht
  clear hHeld hSx ht
  go_end0
  exact ⟨rfl, htt, hmx⟩
end

end Go.Proofs.YtgjcniokgdicpaaGreatDoor
