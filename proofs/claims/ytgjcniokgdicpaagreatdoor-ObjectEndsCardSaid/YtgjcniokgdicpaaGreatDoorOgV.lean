/- Layer 20, the chapter's example; which cases are small. -/
import Derived.Test.YtgjcniokgdicpaaGreatDoorOgU
namespace Go.Proofs.YtgjcniokgdicpaaGreatDoor
open Go.RowKit
attribute [local go_sem] Oper.semAt_some

theorem ws_lit (w : World) (cs : Array Value) (l : List Int) (h : cs.toList = l.map (Value.int .u32)) (hw : ∀ z ∈ l, (Lit.int .u32 z).wf = true) : Ws (w.alloc (.cells cs 32)) (w.heap.size + 1) (some ⟨w.heap.size, 0, none⟩) l :=
  ⟨SlOf.new w cs _ l (by rw [h]; exact (of1_all _ _ l).symm), hw⟩
theorem ws_nil (w : World) (B : Nat) (A : Option Addr) : Ws w B A [] := ⟨SlOf.nil, by simp⟩
def o1 (n : Nat) : Ob := ⟨3, 1, 0, 1, 0, some ⟨n, 0, none⟩, 1, 1, 0, some ⟨n + 1, 0, none⟩, 1, 1⟩
theorem o1_seq (n : Nat) : seqR (o1 n) := by
  unfold seqR wordsR capsR
  refine ⟨⟨rfl, ?_, ?_, rfl, ?_, ?_⟩, rfl, ⟨?_, ?_⟩, rfl⟩ <;> simp [o1]
theorem o1_ok (n : Nat) : (o1 n).Ok := ⟨by simp [o1], by simp [o1], by simp [o1], by simp [o1]⟩
theorem o1_size (n : Nat) : sizeZ (o1 n) = 2 := by rw [sizeZ_seq (o1_seq n)]; rfl
theorem o1_beg (n : Nat) : begE (o1 n) 0 1 0 0 = 0 := by
  unfold begE mbE
  rw [o1_size]
  rfl
theorem o1_can (n : Nat) : (kc0 (o1 n) 0 1 0 []).can [2, 9] = true := by
  unfold Kc.can kc0 Kc.start
  rw [o1_size]
  rfl
theorem o1_step (n : Nat) : ((kc0 (o1 n) 0 1 0 []).step [2, 9]).1.over = false ∧ ((kc0 (o1 n) 0 1 0 []).step [2, 9]).1.steps = 1 := ⟨rfl, rfl⟩
def gt0 : Nat := 0
set_option maxRecDepth 100000 in
set_option maxHeartbeats 4000000 in
theorem awake_g (w : World) (hT : Tab64 w) (hg : gt0 < w.heap.size) : Calls Tryz.prog 7 #[] w fun e w' => e = .returned (.bool true) ∧ Below w.heap.size w w' := by
  have hop := Lib.hid (oops_any 6 w)
  have hb0 := (Below.refl w.heap.size w).alloc (Nat.le_refl _) (.cells #[.int .u32 5] 32)
  have hb1 := hb0.alloc hb0.size (.cells #[.int .i64 1] 3)
  have hbg := obegin_o (o1 w.heap.size) 0 1 0 none 0 [] (o1_ok _) ((w.alloc (.cells #[.int .u32 5] 32)).alloc (.cells #[.int .i64 1] 3)) (by simp) (ws_nil _ _ _) (by omega)
  have HTB := Lib.hid (And.intro hT hg)
  obtain ⟨n, hn⟩ : ∃ n, w.heap.size = n := ⟨_, rfl⟩
  rw [hn] at hbg
  have hs1 : ((w.alloc (.cells #[.int .u32 5] 32)).alloc (.cells #[.int .i64 1] 3)).heap.size = n + 1 + 1 := by simp [hn]
  simp only [List.length_nil] at hbg
  rw [o1_beg] at hbg
  unfold Begun at hbg
  simp only [List.length_nil] at hbg
  rw [o1_beg, hs1] at hbg
  unfold obA o1 at hbg
  have HBG := Lib.hid hbg
  have HB1 := Lib.hid hb1
  have HS1 := Lib.hid hs1
  clear hb0 hb1 hbg hs1 hT hg
  have hoA : oA 6 = 3 := rfl
  have hoB : oB 6 = 4 := rfl
  have hoK : isK 6 = true := rfl
  rw [hoA, hoB, hoK] at hop
  clear hoA hoB hoK
  go_enter Tryz.func7, Tryz.ntmps7
  go_wp2_with fail
  refine hop.out.mono ?_
  rintro e w1 ⟨rfl, hw1⟩
  rw [hw1]
  clear hw1
  go_wp2_with fail
  refine HBG.out.mono ?_
  rintro e w2 ⟨x, rfl, hb2, -, hok⟩
  obtain ⟨xb, sb, ty, rv, rfl, hxb, hsb, hrv, hoj, hinv⟩ := hok (by trivial)
  have hB2 := HB1.out.trans (hb2.mono (by have := HS1.out; omega))
  have hb3 := (Below.refl w2.heap.size w2).alloc (Nat.le_refl _) (.cells #[.int .u32 2, .int .u32 9] 32)
  have hoj3 := hoj.below hb3
  have hB3 := hB2.trans (hb3.mono hB2.size)
  have hlx := hoj.row.lt
  have hls : sb < w2.heap.size := by
    obtain ⟨u, _, hr⟩ := hoj.op.row
    exact hr.lt
  have hlr : ∀ b, rv.ownBlock = some b → b < w2.heap.size := fun b hb => (World.ownsRow.lt hoj.op.rc b hb).2
  have hme := Lib.hid (memory_g (some ⟨w2.heap.size, 0, none⟩) 2 [2, 9] (by simp) (w2.alloc (.cells #[.int .u32 2, .int .u32 9] 32)) (by rw [World.size_alloc]; exact ws_lit w2 #[.int .u32 2, .int .u32 9] [2, 9] rfl (by decide)))
  have HOJ := Lib.hid hoj3
  have HIV := Lib.hid hinv
  have HB3 := Lib.hid hB3
  clear hb2 hb3 HBG HB1 hoj hoj3 hB2 hB3 hinv hop hok
  go_wp2_with fail
  refine hme.out.mono ?_
  rintro e w3 ⟨mb, lb, rfl, hlb, hmb, hm, hb4⟩
  have hoj4 := HOJ.out.below hb4
  have hB4 := HB3.out.trans (hb4.mono HB3.out.size)
  rw [World.size_alloc] at hlb hmb
  have hT4 : Tab64 w3 := HTB.out.1.tch (Tch.of_below (fun _ => False) hB4) (fun h => h)
  have hg0 := HTB.out.2
  have hfp : ¬ fp sb mb lb rv 0 := by
    have hgd : (0 : Nat) = gt0 := rfl
    rintro (q | q | q | q)
    · omega
    · have := HB3.out.size; rw [World.size_alloc] at this; omega
    · have := HB3.out.size; rw [World.size_alloc] at this; omega
    · have := hrv _ q; omega
  have HST := Lib.hid (ostep_yes xb sb mb lb ty (o1 n) (kc0 (o1 n) 0 1 0 []) rv (.pointer none) [2, 9] w3 hoj4 hm HIV.out (o1_can n) (by omega) (by omega) (fun e => by have := hlr _ e; omega) (fun e => by have := hlr _ e; omega) (by omega) (by omega) hT4 hfp)
  have HB4 := Lib.hid hB4
  have HMV := Lib.hid hm
  clear hoj4 hB4 hm hb4 hme HB3 hT4 hfp hg0
  go_wp2_with fail
  refine HST.out.mono ?_
  rintro e w4 ⟨rv4, rfl, hoj5, hm5, -, hmv5⟩
  have hb5 : Below w.heap.size w w4 := HB4.out.trans (hmv5.tch.below (by have := HB4.out.size; omega) (fun k hk q => by
    rcases q with q | q | q | q
    · omega
    · have := HB4.out.size; omega
    · have := HB4.out.size; omega
    · have := hrv k q; omega))
  have hiv5 := Kc.Inv.step (l := [2, 9]) HIV.out rfl HMV.out.w32
  have HOJ5 := Lib.hid hoj5
  have HIV5 := Lib.hid hiv5
  have HB5 := Lib.hid hb5
  have hss := osteps_o xb sb ty (o1 n) ((kc0 (o1 n) 0 1 0 []).step [2, 9]).1 rv4 _ w4 hoj5 hiv5
  rw [(o1_step n).2] at hss
  have HSS := Lib.hid hss
  clear hoj5 hm5 hmv5 hb5 hiv5 hss HST
  go_wp2_with fail
  refine HSS.out.mono ?_
  rintro e w5 ⟨rfl, hb6⟩
  have hov := oover_o xb sb ty (o1 n) ((kc0 (o1 n) 0 1 0 []).step [2, 9]).1 rv4 _ w5 (HOJ5.out.below hb6) HIV5.out
  rw [(o1_step n).1] at hov
  have HOV := Lib.hid hov
  have HB6 := Lib.hid (HB5.out.trans (hb6.mono HB5.out.size))
  clear hov hb6 HSS
  go_wp2_with fail
  refine HOV.out.mono ?_
  rintro e w6 ⟨rfl, rfl⟩
  go_wp2_with fail
  go_ret
  exact ⟨rfl, by first | exact HB6.out | (rw [← hn]; exact HB6.out)⟩


end Go.Proofs.YtgjcniokgdicpaaGreatDoor
