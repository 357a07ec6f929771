/- The statement ObjectEnds: an operation ends within its bound, whatever others do. -/
import Derived.Test.YtgjcniokgdicpaaGreatDoorZcOgS
import Derived.Laws.CopyRow
import Derived.Laws.IdiomCopy
import Derived.Laws.MakeOwn
import Derived.Test.YtgjcniokgdicpaaGreatDoorZcI
namespace Go.Proofs.YtgjcniokgdicpaaGreatDoor
open Go.RowKit
attribute [local go_sem] Oper.semAt_some
set_option maxHeartbeats 1000000
set_option maxRecDepth 100000
def us (l : List Int) : Array Value := (l.map fun z => Value.int .u32 z).toArray
theorem own_us {w : World} {g : Nat} {l : List Int} (h : RowB w g (us l) 32) (hl : l.length ≤ maxLen) : Own (ints .u32) 32 0 w (.slice (some ⟨g, 0, none⟩) l.length l.length) l := by
 have hall : (ints .u32).all l = l.map (Value.int .u32) := of1_all _ _ l
 unfold Own
 rw [hall]
 have hs : (ints .u32).size = 1 := rfl
 rw [hs]
 refine ⟨by simp, .inr ⟨g, l.length, us l, rfl, Nat.zero_le _, h, Nat.le_refl _, hl, by simp [us], ?_⟩⟩
 simp only [us, Nat.mul_one]
 exact List.take_of_length_le (by simp)
theorem mkU (N : Nat) (h : N ≤ 100000) (w : World) : (Instr.makeSlice 33 (.int .i64 (N : Int)) (.int .i64 (N : Int))).run Tryz.prog w = .ok (.slice (some ⟨w.heap.size, 0, none⟩) N N) (w.alloc (.cells (us (List.replicate N 0)) 32)) := by
 obtain ⟨i, hi, h1, h2, h3⟩ := info_parts (P := Tryz.prog) (e := 32) (z := .int .u32 0) (size := 1) (bytes := 4) (by kernel_rfl)
 have hr := run_make (P := Tryz.prog) w 33 32 i (.int .u32 0) Tryz.underlying33 hi h1 .i64 .i64 (N : Int) (N : Int) (by omega) (by omega) (by rw [h3]; omega) (by omega)
 rw [hr, h2]
 have e : madeCells (Value.int .u32 0).cells ((N : Int).toNat * 1) = us (List.replicate N 0) := by
  apply Array.ext'
  rw [show (Value.int .u32 0).cells = #[.int .u32 0] from rfl, toList_madeCells_one]
  simp [us]
 rw [e]
 rfl
theorem mnew_g (N : Nat) (h : N ≤ 4096) (w : World) : Calls Tryz.prog 60 #[.int .i64 (N : Int)] w fun e w' => e = .returned (.tuple #[.pointer (some ⟨w.heap.size + 1, 0, none⟩), .int .i64 0]) ∧ w' = (w.alloc (.cells (us (List.replicate N 0)) 32)).alloc (.cells #[.slice (some ⟨w.heap.size, 0, none⟩) N N, .int .i64 0] 125) := by
 have d0 : decide ((N : Int) < 0) = false := decide_eq_false (by omega)
 have d1 : decide ((4096 : Int) < (N : Int)) = false := decide_eq_false (by omega)
 have hmk := mkU N (by omega)
 obtain ⟨U, hU⟩ : ∃ x, us (List.replicate N 0) = x := ⟨_, rfl⟩
 rw [hU] at hmk ⊢
 clear hU h
 go_enter Tryz.func60, Tryz.ntmps60
 go_wp2_with fail
 go_ret2
 exact ⟨rfl, rfl⟩
theorem mem_new (w : World) {N : Nat} (h : N ≤ 4096) : MemG ((w.alloc (.cells (us (List.replicate N 0)) 32)).alloc (.cells #[.slice (some ⟨w.heap.size, 0, none⟩) N N, .int .i64 0] 125)) (w.heap.size + 1) w.heap.size (List.replicate N 0) := by
 have hr := RowB.new w (us (List.replicate N 0)) 32
 have hb := (Below.refl _ (w.alloc (.cells (us (List.replicate N 0)) 32))).alloc (Nat.le_refl _) (.cells #[.slice (some ⟨w.heap.size, 0, none⟩) N N, .int .i64 0] 125)
 have hm := RowB.new (w.alloc (.cells (us (List.replicate N 0)) 32)) #[.slice (some ⟨w.heap.size, 0, none⟩) N N, .int .i64 0] 125
 rw [World.size_alloc] at hm
 have ho := own_us (hr.kept hb) (by simp [maxLen]; omega)
 refine ⟨0, N, ?_, ?_, by omega, by simp; omega, fun z hz => ?_⟩
 ·rw [List.length_replicate]; exact hm
 ·rw [List.length_replicate] at ho ⊢; exact ho
 ·rw [List.mem_replicate] at hz
  rw [hz.2]
  omega
theorem mem_lay {w : World} {mb lb : Nat} {l l' : List Int} (h : MemG w mb lb l) (hl : l'.length = l.length) (hw : W32 l') {cur : Array Value} (hr : RowB w lb cur 32) : MemG (w.setRow lb ((cur.toList.take 0 ++ l'.map (Value.int .u32) ++ cur.toList.drop (0 + (l'.map (Value.int .u32)).length)).toArray)) mb lb l' := by
 obtain ⟨k, c, hm, ho, hn, hb, _⟩ := h
 have hall : ∀ l : List Int, (ints .u32).all l = l.map (Value.int .u32) := fun l => of1_all _ _ l
 refine ⟨k, c, by rw [hl]; exact hm.far (fun e => hn e.symm), ?_, hn, by omega, hw⟩
 have h1 := ho.1
 unfold Own at ho ⊢
 rw [hall] at ho ⊢
 have hs1 : (ints .u32).size = 1 := rfl
 rw [hs1] at ho ⊢
 refine ⟨by simp, ?_⟩
 rcases ho.2 with ⟨h2, _⟩ | ⟨g', cap, cur', hv, hg, hh, hcap, hmax, hsz, htk⟩
 ·cases h2
 ·injection hv with hA hn' hc
  injection hA with hA
  injection hA with hA
  subst hA hc
  have hcc : cur' = cur := by
   have h3 : w.heap[lb]? = some (.cells cur 32 (0, 0)) := hr
   rw [hh] at h3
   injection h3 with h3
   injection h3
  subst hcc
  refine .inr ⟨lb, c, _, by rw [hl], hg, RowB.row (w := w) (n := lb) hh, by omega, hmax, ?_, ?_⟩
  ·simp
   omega
  ·simp
theorem mfill_g (mb lb : Nat) (l l' : List Int) (A : Option Addr) (cap : Nat) (w : World) (hm : MemG w mb lb l) (hl : l'.length = l.length) (hr : Ws w w.heap.size A l') :
  Calls Tryz.prog 61 #[.pointer (some ⟨mb, 0, none⟩), .int .i64 0, .slice A l'.length cap] w fun e w' => e = .returned (.int .i64 0) ∧ MemG w' mb lb l' ∧ Tch (fun b => b = lb) w w' := by
 have hlen := hm.len
 have HI := Lib.hid fun W => inside_g (l.length : Int) 0 (l'.length : Int) W (by omega) (by omega) (by omega) (by omega) (by omega)
 have hin : decide ((0 : Int) ≤ (l.length : Int) ∧ (l'.length : Int) ≤ (l.length : Int) - 0) = true := decide_eq_true (by omega)
 rw [hin] at HI
 have HM := Lib.hid hm
 have HR := Lib.hid hr
 have HL := Lib.hid hl
 obtain ⟨k, c, hmr, ho, hne, _, hw⟩ := hm
 have c0 := hmr.at 0 (.slice (some ⟨lb, 0, none⟩) l.length c)
 obtain ⟨hcc1, hcc2⟩ : l.length ≤ c ∧ c ≤ maxLen := by
  obtain ⟨_, _, hv, h2, _⟩ := ho.sl
  injection hv with h3 h4 h5
  rw [h5]; exact h2
 unfold maxLen at hcc2
 clear hr hmr ho hw hin hl
 go_enter Tryz.func61, Tryz.ntmps61
 go_wp2_with fail
 refine (HI.out _).mono ?_
 rintro e w1 ⟨rfl, hb⟩
 have hm1 := HM.out.belo hb
 have hr1 := HR.out.below hb hb.size
 have hm1' := hm1
 obtain ⟨k1, c1, hmr1, ho1, _, _, _⟩ := hm1'
 have d0 : w1.cell? ⟨mb, 0, none⟩ = some (.slice (some ⟨lb, 0, none⟩) l.length c) := (hb.cell (p := ⟨mb, 0, none⟩) (cell_lt c0)).trans c0
 have hmz : Nat.min l'.length l.length = l'.length := Nat.min_eq_left (by have := HL.out; omega)
 by_cases h0 : l' = []
 ·subst h0
  have hl0 : l = [] := List.eq_nil_of_length_eq_zero (by have := HL.out; simpa using this.symm)
  subst hl0
  have hcp : (Builtin.copy_ #[33, 33] 3 #[.slice (some ⟨lb, 0, none⟩) 0 c, .slice A 0 cap]).run Tryz.prog w1 = .ok (.int .i64 0) w1 :=
   run_copy_none (P := Tryz.prog) w1 33 33 3 32 (some ⟨lb, 0, none⟩) A 0 c 0 cap Tryz.underlying33 (by kernel_rfl) rfl
  have HM1 := Lib.hid hm1
  have HB := Lib.hid hb
  clear hb hm1 hr1 hmr1 ho1
  simp only [List.length_nil] at *
  go_wp2_with fail
  go_ret
  exact ⟨rfl, HM1.out, Tch.of_below _ HB.out⟩
 ·obtain ⟨x, hx⟩ : ∃ x, l'[0]? = some x := by
   cases l' with
   | nil => exact absurd rfl h0
   | cons x t => exact ⟨x, rfl⟩
  obtain ⟨_, sb, so, hA, _, _⟩ := hr1.get hx
  subst hA
  obtain ⟨cur, hcur⟩ := own_row ho1
  have hcs : cur.size = c1 := by
   rcases ho1.2 with ⟨h2, _⟩ | ⟨g', cap', cur', hv, hg, hh, hcap, hmax, hsz, htk⟩
   ·cases h2
   ·injection hv with hA hn' hc
    injection hA with hA
    injection hA with hA
    subst hA hc
    have h3 : w1.heap[lb]? = some (.cells cur 32 (0, 0)) := hcur
    rw [hh] at h3
    injection h3 with h3
    injection h3 with h3
    rw [← h3, hsz]
    exact Nat.mul_one _
  have hc1 : l.length ≤ c1 := by
   obtain ⟨_, _, hv, h2, _⟩ := ho1.sl
   injection hv with h3 h4 h5
   rw [h5]; exact h2.1
  have hcp : (Builtin.copy_ #[33, 33] 3 #[.slice (some ⟨lb, 0, none⟩) l.length c, .slice (some ⟨sb, so, none⟩) l'.length cap]).run Tryz.prog w1 = .ok (.int .i64 (l'.length : Int)) (w1.setRow lb ((cur.toList.take 0 ++ l'.map (Value.int .u32) ++ cur.toList.drop (0 + (l'.map (Value.int .u32)).length)).toArray)) := by
   have := run_copy_row (P := Tryz.prog) w1 33 33 3 32 lb 0 l.length c ⟨sb, so, none⟩ l'.length cap cur 32 (l'.map (Value.int .u32)) Tryz.underlying33 (by kernel_rfl) hcur (by rw [List.length_map]; exact hmz.symm) (fun j v hv => by
    rw [List.getElem?_map] at hv
    cases hq : l'[j]? with
    | none => rw [hq] at hv; cases hv
    | some z =>
     rw [hq] at hv
     injection hv with hv
     subst hv
     obtain ⟨_, b2, o2, he, _, hc⟩ := hr1.get hq
     injection he with he
     injection he with e1 e2 e3
     subst e1 e2
     rw [Addr.add_lit]
     exact hc) (by rw [List.length_map]; have := HL.out; omega) (fun v hv => by
    rw [List.mem_map] at hv
    obtain ⟨z, _, rfl⟩ := hv
    rfl)
   rw [this, List.length_map]
   rfl
  have hfin := mem_lay hm1 HL.out (ws_w32 hr1) hcur
  have ht := (Tch.of_below (fun b => b = lb) hb).row (b := lb) rfl ((cur.toList.take 0 ++ l'.map (Value.int .u32) ++ cur.toList.drop (0 + (l'.map (Value.int .u32)).length)).toArray)
  obtain ⟨CU, hCU⟩ : ∃ x, (cur.toList.take 0 ++ l'.map (Value.int .u32) ++ cur.toList.drop (0 + (l'.map (Value.int .u32)).length)).toArray = x := ⟨_, rfl⟩
  rw [hCU] at hcp hfin ht
  have HF := Lib.hid hfin
  have HT := Lib.hid ht
  clear hb hm1 hr1 hmr1 ho1 hcur hcs hc1 hfin ht hCU hx h0 hmz
  go_wp2_with fail
  go_ret
  exact ⟨rfl, HF.out, HT.out⟩
theorem memory_g (A : Option Addr) (cap : Nat) (l : List Int) (hl : l.length ≤ 4096) (w : World) (hr : Ws w w.heap.size A l) :
  Calls Tryz.prog 18 #[.slice A l.length cap] w fun e w' => ∃ mb lb, e = .returned (.pointer (some ⟨mb, 0, none⟩)) ∧ w.heap.size ≤ lb ∧ w.heap.size ≤ mb ∧ MemG w' mb lb l ∧ Below w.heap.size w w' := by
 have HN := Lib.hid (mnew_g l.length hl w)
 have hm := mem_new w hl
 have hb := ((Below.refl w.heap.size w).alloc (Nat.le_refl _) (.cells (us (List.replicate l.length 0)) 32)).alloc (by simp) (.cells #[.slice (some ⟨w.heap.size, 0, none⟩) l.length l.length, .int .i64 0] 125)
 have hr2 := hr.below hb hb.size
 obtain ⟨W2, hW2⟩ : ∃ x, (w.alloc (.cells (us (List.replicate l.length 0)) 32)).alloc (.cells #[.slice (some ⟨w.heap.size, 0, none⟩) l.length l.length, .int .i64 0] 125) = x := ⟨_, rfl⟩
 rw [hW2] at HN hm hb hr2
 have HF := Lib.hid (mfill_g (w.heap.size + 1) w.heap.size (List.replicate l.length 0) l A cap W2 hm (by simp) hr2)
 have HB := Lib.hid hb
 clear hm hb hr2 hr hW2 hl
 obtain ⟨n, hn⟩ : ∃ n, w.heap.size = n := ⟨_, rfl⟩
 rw [hn] at HN HF HB ⊢
 go_enter Tryz.func18, Tryz.ntmps18
 go_wp2_with fail
 refine HN.out.mono ?_
 rintro e w1 ⟨rfl, rfl⟩
 go_wp2_with fail
 refine HF.out.mono ?_
 rintro e w2 ⟨rfl, hm2, ht⟩
 have HM2 := Lib.hid hm2
 have HB2 := Lib.hid (HB.out.trans (ht.below (by have := HB.out.size; omega) (fun k _ e => by omega)))
 clear hm2 ht
 go_wp2_with fail
 go_ret
 exact ⟨_, _, rfl, Nat.le_refl _, by omega, HM2.out, HB2.out⟩
end Go.Proofs.YtgjcniokgdicpaaGreatDoor

namespace Go.Proofs.YtgjcniokgdicpaaGreatDoor
open Go.RowKit
attribute [local go_sem] Oper.semAt_some
set_option maxHeartbeats 4000000
set_option maxRecDepth 100000
structure Pk where
 t : Int
 a : Int
 w : Int
def pkE : Enc Pk := ⟨fun p => [.int .i64 p.t, .int .i64 p.a, .int .u32 p.w], 3, fun _ => rfl, fun p u hu => by simp at hu; rcases hu with rfl | rfl | rfl <;> rfl, by omega⟩
def Pks (w : World) (B : Nat) (A : Option Addr) (l : List Pk) : Prop := SlOf pkE w B A l ∧ ∀ p ∈ l, 0 ≤ p.w ∧ p.w < 4294967296
def poke1 (turn : Int) (l : List Int) (p : Pk) : List Int := if p.t = turn ∧ 0 ≤ p.a ∧ p.a < l.length then l.set p.a.toNat p.w else l
def pokes (turn : Int) (ps : List Pk) (l : List Int) : List Int := ps.foldl (poke1 turn) l
theorem poke1_len (turn : Int) (l : List Int) (p : Pk) : (poke1 turn l p).length = l.length := by
 unfold poke1
 split <;> simp
theorem pokes_len (turn : Int) (ps : List Pk) (l : List Int) : (pokes turn ps l).length = l.length := by
 induction ps generalizing l with
 | nil => rfl
 | cons p ps ih => exact (ih (poke1 turn l p)).trans (poke1_len turn l p)
theorem pokes_snoc {turn : Int} {ps : List Pk} {l : List Int} {k : Nat} {p : Pk} (h : ps[k]? = some p) (hno : ¬ (p.t = turn ∧ 0 ≤ p.a ∧ p.a < ((pokes turn (ps.take k) l).length : Int))) : pokes turn (ps.take (k + 1)) l = pokes turn (ps.take k) l := by
 unfold pokes at hno ⊢
 rw [foldl_snoc _ _ h]
 exact if_neg hno
theorem pokes_hit {turn : Int} {ps : List Pk} {l : List Int} {k : Nat} {p : Pk} (h : ps[k]? = some p) (hy : p.t = turn ∧ 0 ≤ p.a ∧ p.a < ((pokes turn (ps.take k) l).length : Int)) : pokes turn (ps.take (k + 1)) l = (pokes turn (ps.take k) l).set p.a.toNat p.w := by
 unfold pokes at hy ⊢
 rw [foldl_snoc _ _ h]
 exact if_pos hy
theorem Pks.get {w : World} {B : Nat} {A : Option Addr} {l : List Pk} (h : Pks w B A l) {k : Nat} {p : Pk} (hk : l[k]? = some p) : ∃ b off, A = some ⟨b, off, none⟩ ∧ b < B ∧ w.cell? ⟨b, off + k * 3, none⟩ = some (.int .i64 p.t) ∧ w.cell? ⟨b, off + k * 3 + 1, none⟩ = some (.int .i64 p.a) ∧ w.cell? ⟨b, off + k * 3 + 2, none⟩ = some (.int .u32 p.w) := by
 obtain ⟨b, off, hA, hlt, hc⟩ := h.1 k p hk
 have h0 := hc 0 _ rfl
 have h1 := hc 1 _ rfl
 have h2 := hc 2 _ rfl
 refine ⟨b, off, hA, hlt, ?_, ?_, ?_⟩
 ·simpa [pkE] using h0
 ·simpa [pkE, Nat.add_assoc] using h1
 ·simpa [pkE, Nat.add_assoc] using h2
theorem Pks.below {w w' : World} {B B' : Nat} {A : Option Addr} {l : List Pk} (h : Pks w B A l) (hb : Below B w w') (hB : B ≤ B') : Pks w' B' A l := ⟨h.1.below hb hB, h.2⟩
structure Cs where
 o : Ob
 a : Int
 op : Int
 rd : Int
 RA : Option Addr
 rn : Nat
 rc : Nat
 LA : Option Addr
 ln : Nat
 lc : Nat
 PA : Option Addr
 pn : Nat
 pc : Nat
def csA (c : Cs) : Array Value := #[.int .i64 c.o.k, .int .i64 c.o.wd, .int .i64 c.o.s, .int .i64 c.o.c, .int .u32 c.o.st, .slice c.o.I c.o.ni c.o.ci, .int .i64 c.o.wr, .slice c.o.R c.o.nr c.o.cr, .int .i64 c.a, .int .i64 c.op, .int .i64 c.rd, .slice c.RA c.rn c.rc, .slice c.LA c.ln c.lc, .slice c.PA c.pn c.pc]
structure Bo (w : World) (mb lb l2 : Nat) (cap : Nat) (lm l : List Int) : Prop where
 mem : MemG w mb lb lm
 own : Own (ints .u32) 32 0 w (.slice (some ⟨l2, 0, none⟩) l.length cap) l
 len : lm.length = l.length
 n1 : l2 ≠ mb
 n2 : l2 ≠ lb
theorem Bo.tch {w w' : World} {mb lb l2 cap : Nat} {lm l : List Int} {T : Nat → Prop} (h : Bo w mb lb l2 cap lm l) (hk : Tch T w w') (h1 : ¬ T mb) (h2 : ¬ T lb) (h3 : ¬ T l2) : Bo w' mb lb l2 cap lm l :=
 ⟨h.mem.tch hk h1 h2, own_tch h.own hk (fun b hb => by have : l2 = b := Option.some.inj hb; rw [← this]; exact h3), h.len, h.n1, h.n2⟩
theorem Bo.belo {w w' : World} {mb lb l2 cap : Nat} {lm l : List Int} (h : Bo w mb lb l2 cap lm l) (hb : Below w.heap.size w w') : Bo w' mb lb l2 cap lm l := h.tch (T := fun _ => False) (Tch.of_below _ hb) (fun h => h) (fun h => h) (fun h => h)
def Tb (mb lb l2 : Nat) (b : Nat) : Prop := b = mb ∨ b = lb ∨ b = l2
theorem poked_g (c : Cs) (turn : Int) (ps : List Pk) (mb lb l2 cap N : Nat) (lm l : List Int) (w : World) (hb : Bo w mb lb l2 cap lm l) (hpn : c.pn = ps.length) (hp1 : ps.length ≤ 1000) (hp : Pks w N c.PA ps) (hN : N ≤ w.heap.size) (hm : N ≤ mb) (hl : N ≤ lb) (h2 : N ≤ l2) :
  Calls Tryz.prog 21 #[.agg (csA c), .int .i64 turn, .pointer (some ⟨mb, 0, none⟩), .slice (some ⟨l2, 0, none⟩) l.length cap] w fun e w' => e = .returned (.tuple #[]) ∧ Bo w' mb lb l2 cap (pokes turn ps lm) (pokes turn ps l) ∧ Tch (Tb mb lb l2) w w' := by
 have hba := (Below.refl w.heap.size w).alloc (Nat.le_refl _) (.cells (csA c) 39)
 have hcr := RowB.new w (csA c) 39
 have hb1 := hb.belo hba
 have hp0 := hp.below (hba.mono hN) (Nat.le_refl _)
 have hT0 : Tch (Tb mb lb l2) w (w.alloc (.cells (csA c) 39)) := Tch.of_below _ hba
 have hlen : l.length ≤ 1000000 := by rw [← hb.len]; exact hb.mem.len
 obtain ⟨P, hP⟩ : ∃ x, c.pn = x := ⟨_, rfl⟩
 obtain ⟨L, hL⟩ : ∃ x, l.length = x := ⟨_, rfl⟩
 have HB := Lib.hid hb1
 have HP := Lib.hid hp0
 have HT := Lib.hid hT0
 have HPN := Lib.hid (hP.symm.trans hpn)
 have HN := Lib.hid hN
 have hPl : P ≤ 1000 := by omega
 have HL := Lib.hid hL
 have hlen' : L ≤ 1000000 := by omega
 clear hba hcr hb1 hp0 hT0 hb hp hpn hN hp1
 rw [hL]
 unfold csA at HB HP HT
 unfold csA
 rw [hP] at HB HP HT ⊢
 clear hP hL hlen
 obtain ⟨n, hn⟩ : ∃ n, w.heap.size = n := ⟨_, rfl⟩
 go_enter Tryz.func21, Tryz.ntmps21
 go_wp2_with fail
 obtain ⟨w1, hw1⟩ : ∃ x, w.alloc (.cells #[.int .i64 c.o.k, .int .i64 c.o.wd, .int .i64 c.o.s, .int .i64 c.o.c, .int .u32 c.o.st, .slice c.o.I c.o.ni c.o.ci, .int .i64 c.o.wr, .slice c.o.R c.o.nr c.o.cr, .int .i64 c.a, .int .i64 c.op, .int .i64 c.rd, .slice c.RA c.rn c.rc, .slice c.LA c.ln c.lc, .slice c.PA P c.pc] 39) = x := ⟨_, rfl⟩
 rw [hw1] at HB HP HT ⊢
 have hsz : w1.heap.size = n + 1 := by rw [← hw1, World.size_alloc, hn]
 have HSZ := Lib.hid hsz
 clear hw1 hsz
 go_loopw [13] (fun v wr => ∃ k : Nat, k ≤ P ∧ v = .int .i64 k ∧ Bo wr mb lb l2 cap (pokes turn (ps.take k) lm) (pokes turn (ps.take k) l) ∧ Tch (Tb mb lb l2) w1 wr) (fun v _ => P - (intOf v).toNat)
 case atStart => exact ⟨0, Nat.zero_le _, rfl, HB.out, Tch.refl _ _⟩
 case round =>
  obtain ⟨k, hk, rfl, hbo, htc⟩ := hrel
  by_cases hlt : k < P
  ·obtain ⟨p, hpk⟩ := get_some (l := ps) (k := k) (by have := HPN.out; omega)
   obtain ⟨b, off, hA, hbN, e0, e1, e2⟩ := HP.out.get hpk
   have hnb : ¬ Tb mb lb l2 b := by rintro (q | q | q) <;> omega
   have d0 := htc.cell e0 hnb
   have d1 := htc.cell e1 hnb
   have d2 := htc.cell e2 hnb
   have hkP : (k : Int) < (P : Int) := by omega
   have hix : ∀ W, (Instr.indexAt 37 (.slice c.PA P c.pc) (.int .i64 (k : Int))).run Tryz.prog W = .ok (.pointer (some ⟨b, off + k * 3, none⟩)) W := fun W => by
    rw [hA]
    go_simp
   have HB2 := Lib.hid hbo
   have HT2 := Lib.hid htc
   have HPK := Lib.hid hpk
   clear e0 e1 e2
   have hll : (pokes turn (ps.take k) l).length = L := by rw [pokes_len]; exact HL.out
   have HLL := Lib.hid hll
   clear hll
   by_cases h1 : p.t = turn
   ·by_cases h2 : 0 ≤ p.a
    ·by_cases h3 : p.a < (L : Int)
     ·have hbw := HB2.out
      obtain ⟨z', hz'⟩ := get_some (l := pokes turn (ps.take k) lm) (k := p.a.toNat) (by rw [HB2.out.len]; have := HLL.out; omega)
      obtain ⟨z, hz⟩ := get_some (l := pokes turn (ps.take k) l) (k := p.a.toNat) (by have := HLL.out; omega)
      have hba := (Below.refl wr.heap.size wr).alloc (Nat.le_refl _) (.cells #[.int .i64 p.t, .int .i64 p.a, .int .u32 p.w] 95)
      have hnew := RowB.new wr #[.int .i64 p.t, .int .i64 p.a, .int .u32 p.w] 95
      have hb3 := hbw.belo hba
      have hrow := hb3.own
      have l2c := own_cell hrow hz
      have l2f := own_frozen hrow p.a.toNat
      have hwv : 0 ≤ p.w ∧ p.w < 4294967296 := HP.out.2 p (List.mem_of_getElem? HPK.out)
      have hl2lt : l2 < wr.heap.size := by
       obtain ⟨cur, hc⟩ := own_row hbw.own
       exact hc.lt
      obtain ⟨W3, hW3⟩ : ∃ x, wr.alloc (.cells #[.int .i64 p.t, .int .i64 p.a, .int .u32 p.w] 95) = x := ⟨_, rfl⟩
      rw [hW3] at hba hnew hb3 hrow l2c l2f
      have hput := own_put hrow (i := p.a.toNat) (by have := HLL.out; omega) p.w
      have ht4 : Tch (fun b => b = l2) W3 (W3.setCell ⟨l2, p.a.toNat, none⟩ (.int .u32 p.w)) := (Tch.refl (fun b => b = l2) W3).set (b := l2) rfl p.a.toNat _
      have hm4 := hb3.mem.tch ht4 (fun e => hb3.n1 e.symm) (fun e => hb3.n2 e.symm)
      have hnew4 := hnew.tch ht4 (by omega)
      obtain ⟨W4, hW4⟩ : ∃ x, W3.setCell ⟨l2, p.a.toNat, none⟩ (.int .u32 p.w) = x := ⟨_, rfl⟩
      rw [hW4] at hput ht4 hm4 hnew4
      have g1 := hnew4.at 1 (.int .i64 p.a)
      have g2 := hnew4.at 2 (.int .u32 p.w)
      have n1 := hnew.at 0 (.int .i64 p.t)
      have n2 := hnew.at 1 (.int .i64 p.a)
      have n3 := hnew.at 2 (.int .u32 p.w)
      have HWR := Lib.hid (write_g mb lb (pokes turn (ps.take k) lm) p.a z' p.w W4 hm4 h2 hz' hwv)
      have hhit : p.t = turn ∧ 0 ≤ p.a ∧ p.a < ((pokes turn (ps.take k) l).length : Int) := ⟨h1, h2, by have := HLL.out; omega⟩
      have HH := Lib.hid hhit
      have HPUT := Lib.hid hput
      have HT4 := Lib.hid ((HT2.out.trans (Tch.of_below _ hba)).trans (ht4.mono fun _ _ e => .inr (.inr e)))
      have t1 : (p.t == turn) = true := by simpa using h1
      have t2 : decide (0 ≤ p.a) = true := decide_eq_true h2
      have t3 : decide (p.a < (L : Int)) = true := decide_eq_true h3
      clear hbo htc hpk hA h1 hbw hba hnew hb3 hrow hput ht4 hm4 hnew4 hz hz' hhit hwv hl2lt
      go_wp2_with fail
      refine HWR.out.mono ?_
      rintro e w5 ⟨rfl, ht5, hm5⟩
      have hown5 := own_tch HPUT.out ht5 (fun q hq e => by
       have hq' : l2 = q := Option.some.inj hq
       subst hq'
       rcases e with e | e
       ·exact HB2.out.n1 e
       ·exact HB2.out.n2 e)
      have hbo5 : Bo w5 mb lb l2 cap ((pokes turn (ps.take k) lm).set p.a.toNat p.w) ((pokes turn (ps.take k) l).set p.a.toNat p.w) := ⟨hm5, by rw [List.length_set]; exact hown5, by rw [List.length_set, List.length_set]; exact HB2.out.len, HB2.out.n1, HB2.out.n2⟩
      have HF := Lib.hid hbo5
      have HT5 := Lib.hid (HT4.out.trans (ht5.mono fun _ _ e => e.elim .inl (fun e => .inr (.inl e))))
      clear hown5 hbo5 ht5 hm5
      go_wp2_with fail
      go_roundw
      case rel =>
       refine ⟨k + 1, by omega, by go_num, ?_, HT5.out⟩
       rw [pokes_hit HPK.out HH.out, pokes_hit (l := lm) HPK.out (by rw [HB2.out.len]; exact HH.out)]
       exact HF.out
      case measure => simp [intOf]; omega
     ·have t1 : (p.t == turn) = true := by simpa using h1
      have t2 : decide (0 ≤ p.a) = true := decide_eq_true h2
      have t3 : decide (p.a < (L : Int)) = false := decide_eq_false h3
      have hno : ¬ (p.t = turn ∧ 0 ≤ p.a ∧ p.a < ((pokes turn (ps.take k) l).length : Int)) := by have := HLL.out; omega
      clear h1 h3
      have HG := Lib.hid hno
      clear hno hbo htc hpk hA
      go_wp2_with fail
      go_roundw
      case rel =>
       have hba := (Below.refl wr.heap.size wr).alloc (Nat.le_refl _) (.cells #[.int .i64 p.t, .int .i64 p.a, .int .u32 p.w] 95)
       refine ⟨k + 1, by omega, by go_num, ?_, HT2.out.trans (Tch.of_below _ hba)⟩
       rw [pokes_snoc HPK.out HG.out, pokes_snoc (l := lm) HPK.out (by rw [HB2.out.len]; exact HG.out)]
       exact HB2.out.belo hba
      case measure => simp [intOf]; omega
    ·have t1 : (p.t == turn) = true := by simpa using h1
     have t2 : decide (0 ≤ p.a) = false := decide_eq_false h2
     have hno : ¬ (p.t = turn ∧ 0 ≤ p.a ∧ p.a < ((pokes turn (ps.take k) l).length : Int)) := by omega
     clear h1 h2
     have HG := Lib.hid hno
     clear hno hbo htc hpk hA
     go_wp2_with fail
     go_roundw
     case rel =>
      have hba := (Below.refl wr.heap.size wr).alloc (Nat.le_refl _) (.cells #[.int .i64 p.t, .int .i64 p.a, .int .u32 p.w] 95)
      refine ⟨k + 1, by omega, by go_num, ?_, HT2.out.trans (Tch.of_below _ hba)⟩
      rw [pokes_snoc HPK.out HG.out, pokes_snoc (l := lm) HPK.out (by rw [HB2.out.len]; exact HG.out)]
      exact HB2.out.belo hba
     case measure => simp [intOf]; omega
   ·have t1 : (p.t == turn) = false := by simpa using h1
    have hno : ¬ (p.t = turn ∧ 0 ≤ p.a ∧ p.a < ((pokes turn (ps.take k) l).length : Int)) := fun h => h1 h.1
    clear h1
    have HG := Lib.hid hno
    clear hno hbo htc hpk hA
    go_wp2_with fail
    go_roundw
    case rel =>
     have hba := (Below.refl wr.heap.size wr).alloc (Nat.le_refl _) (.cells #[.int .i64 p.t, .int .i64 p.a, .int .u32 p.w] 95)
     refine ⟨k + 1, by omega, by go_num, ?_, HT2.out.trans (Tch.of_below _ hba)⟩
     rw [pokes_snoc HPK.out HG.out, pokes_snoc (l := lm) HPK.out (by rw [HB2.out.len]; exact HG.out)]
     exact HB2.out.belo hba
    case measure => simp [intOf]; omega
  ·obtain rfl : k = P := by omega
   have HB2 := Lib.hid hbo
   have HT2 := Lib.hid htc
   have e : ps.take k = ps := take_all (by have := HPN.out; omega)
   rw [e] at HB2
   clear hbo htc e
   go_wp2_with fail
   go_end0
   exact ⟨rfl, HB2.out, HT.out.trans HT2.out⟩
end Go.Proofs.YtgjcniokgdicpaaGreatDoor

namespace Go.Proofs.YtgjcniokgdicpaaGreatDoor
open Go.RowKit
attribute [local go_sem] Oper.semAt_some
set_option maxHeartbeats 4000000
set_option maxRecDepth 100000
theorem ws_lit (w : World) (cs : Array Value) (l : List Int) (h : cs.toList = l.map (Value.int .u32)) (hw : ∀ z ∈ l, (Lit.int .u32 z).wf = true) : Ws (w.alloc (.cells cs 32)) (w.heap.size + 1) (some ⟨w.heap.size, 0, none⟩) l :=
 ⟨SlOf.new w cs _ l (by rw [h]; exact (of1_all _ _ l).symm), hw⟩
theorem ws_nil (w : World) (B : Nat) (A : Option Addr) : Ws w B A [] := ⟨SlOf.nil, by simp⟩
def o1 (n : Nat) : Ob := ⟨3, 1, 0, 1, 0, some ⟨n, 0, none⟩, 1, 1, 0, some ⟨n + 1, 0, none⟩, 1, 1⟩
theorem o1_seq (n : Nat) : seqR (o1 n) := by
 unfold seqR wordsR capsR
 refine ⟨⟨rfl, ?_, ?_, rfl, ?_, ?_⟩, rfl, ⟨?_, ?_⟩, rfl⟩ <;> simp [o1]
theorem o1_ok (n : Nat) : (o1 n).Ok := ⟨by simp [o1], by simp [o1], by simp [o1], by simp [o1]⟩
theorem o1_size (n : Nat) : sizeZ (o1 n) = 2 := by rw [sizeZ_seq (o1_seq n)]; rfl
theorem o1_beg (n : Nat) : begE (o1 n) 0 1 0 0 = 0 := by
 unfold begE mbE
 rw [o1_size]
 rfl
theorem o1_can (n : Nat) : (kc0 (o1 n) 0 1 0 []).can [2, 9] = true := by
 unfold Kc.can kc0 Kc.start
 rw [o1_size]
 rfl
theorem o1_step (n : Nat) : ((kc0 (o1 n) 0 1 0 []).step [2, 9]).1.over = false ∧ ((kc0 (o1 n) 0 1 0 []).step [2, 9]).1.steps = 1 := ⟨rfl, rfl⟩
def gt0 : Nat := 0
theorem awake_g (w : World) (hT : Tab64 w) (hg : gt0 < w.heap.size) : Calls Tryz.prog 7 #[] w fun e w' => e = .returned (.bool true) ∧ Below w.heap.size w w' := by
 have hop := Lib.hid (oops_any 6 w)
 have hb0 := (Below.refl w.heap.size w).alloc (Nat.le_refl _) (.cells #[.int .u32 5] 32)
 have hb1 := hb0.alloc hb0.size (.cells #[.int .i64 1] 3)
 have hbg := obegin_o (o1 w.heap.size) 0 1 0 none 0 [] (o1_ok _) ((w.alloc (.cells #[.int .u32 5] 32)).alloc (.cells #[.int .i64 1] 3)) (by simp) (ws_nil _ _ _) (by omega)
 have HTB := Lib.hid (And.intro hT hg)
 obtain ⟨n, hn⟩ : ∃ n, w.heap.size = n := ⟨_, rfl⟩
 rw [hn] at hbg
 have hs1 : ((w.alloc (.cells #[.int .u32 5] 32)).alloc (.cells #[.int .i64 1] 3)).heap.size = n + 1 + 1 := by simp [hn]
 simp only [List.length_nil] at hbg
 rw [o1_beg] at hbg
 unfold Begun at hbg
 simp only [List.length_nil] at hbg
 rw [o1_beg, hs1] at hbg
 unfold obA o1 at hbg
 have HBG := Lib.hid hbg
 have HB1 := Lib.hid hb1
 have HS1 := Lib.hid hs1
 clear hb0 hb1 hbg hs1 hT hg
 have hoA : oA 6 = 3 := rfl
 have hoB : oB 6 = 4 := rfl
 have hoK : isK 6 = true := rfl
 rw [hoA, hoB, hoK] at hop
 clear hoA hoB hoK
 go_enter Tryz.func7, Tryz.ntmps7
 go_wp2_with fail
 refine hop.out.mono ?_
 rintro e w1 ⟨rfl, hw1⟩
 rw [hw1]
 clear hw1
 go_wp2_with fail
 refine HBG.out.mono ?_
 rintro e w2 ⟨x, rfl, hb2, -, hok⟩
 obtain ⟨xb, sb, ty, rv, rfl, hxb, hsb, hrv, hoj, hinv⟩ := hok (by trivial)
 have hB2 := HB1.out.trans (hb2.mono (by have := HS1.out; omega))
 have hb3 := (Below.refl w2.heap.size w2).alloc (Nat.le_refl _) (.cells #[.int .u32 2, .int .u32 9] 32)
 have hoj3 := hoj.below hb3
 have hB3 := hB2.trans (hb3.mono hB2.size)
 have hlx := hoj.row.lt
 have hls : sb < w2.heap.size := by
  obtain ⟨u, _, hr⟩ := hoj.op.row
  exact hr.lt
 have hlr : ∀ b, rv.ownBlock = some b → b < w2.heap.size := fun b hb => (World.ownsRow.lt hoj.op.rc b hb).2
 have hme := Lib.hid (memory_g (some ⟨w2.heap.size, 0, none⟩) 2 [2, 9] (by simp) (w2.alloc (.cells #[.int .u32 2, .int .u32 9] 32)) (by rw [World.size_alloc]; exact ws_lit w2 #[.int .u32 2, .int .u32 9] [2, 9] rfl (by decide)))
 have HOJ := Lib.hid hoj3
 have HIV := Lib.hid hinv
 have HB3 := Lib.hid hB3
 clear hb2 hb3 HBG HB1 hoj hoj3 hB2 hB3 hinv hop hok
 go_wp2_with fail
 refine hme.out.mono ?_
 rintro e w3 ⟨mb, lb, rfl, hlb, hmb, hm, hb4⟩
 have hoj4 := HOJ.out.below hb4
 have hB4 := HB3.out.trans (hb4.mono HB3.out.size)
 rw [World.size_alloc] at hlb hmb
 have hT4 : Tab64 w3 := HTB.out.1.tch (Tch.of_below (fun _ => False) hB4) (fun h => h)
 have hg0 := HTB.out.2
 have hfp : ¬ fp sb mb lb rv 0 := by
  have hgd : (0 : Nat) = gt0 := rfl
  rintro (q | q | q | q)
  ·omega
  ·have := HB3.out.size; rw [World.size_alloc] at this; omega
  ·have := HB3.out.size; rw [World.size_alloc] at this; omega
  ·have := hrv _ q; omega
 have HST := Lib.hid (ostep_yes xb sb mb lb ty (o1 n) (kc0 (o1 n) 0 1 0 []) rv (.pointer none) [2, 9] w3 hoj4 hm HIV.out (o1_can n) (by omega) (by omega) (fun e => by have := hlr _ e; omega) (fun e => by have := hlr _ e; omega) (by omega) (by omega) hT4 hfp)
 have HB4 := Lib.hid hB4
 have HMV := Lib.hid hm
 clear hoj4 hB4 hm hb4 hme HB3 hT4 hfp hg0
 go_wp2_with fail
 refine HST.out.mono ?_
 rintro e w4 ⟨rv4, rfl, hoj5, hm5, -, hmv5⟩
 have hb5 : Below w.heap.size w w4 := HB4.out.trans (hmv5.tch.below (by have := HB4.out.size; omega) (fun k hk q => by
  rcases q with q | q | q | q
  ·omega
  ·have := HB4.out.size; omega
  ·have := HB4.out.size; omega
  ·have := hrv k q; omega))
 have hiv5 := Kc.Inv.step (l := [2, 9]) HIV.out rfl HMV.out.w32
 have HOJ5 := Lib.hid hoj5
 have HIV5 := Lib.hid hiv5
 have HB5 := Lib.hid hb5
 have hss := osteps_o xb sb ty (o1 n) ((kc0 (o1 n) 0 1 0 []).step [2, 9]).1 rv4 _ w4 hoj5 hiv5
 rw [(o1_step n).2] at hss
 have HSS := Lib.hid hss
 clear hoj5 hm5 hmv5 hb5 hiv5 hss HST
 go_wp2_with fail
 refine HSS.out.mono ?_
 rintro e w5 ⟨rfl, hb6⟩
 have hov := oover_o xb sb ty (o1 n) ((kc0 (o1 n) 0 1 0 []).step [2, 9]).1 rv4 _ w5 (HOJ5.out.below hb6) HIV5.out
 rw [(o1_step n).1] at hov
 have HOV := Lib.hid hov
 have HB6 := Lib.hid (HB5.out.trans (hb6.mono HB5.out.size))
 clear hov hb6 HSS
 go_wp2_with fail
 refine HOV.out.mono ?_
 rintro e w6 ⟨rfl, rfl⟩
 go_wp2_with fail
 go_ret
 exact ⟨rfl, by first | exact HB6.out | (rw [← hn]; exact HB6.out)⟩
end Go.Proofs.YtgjcniokgdicpaaGreatDoor

namespace Go.Proofs.YtgjcniokgdicpaaGreatDoor
open Go.RowKit
attribute [local go_sem] Oper.semAt_some
set_option maxHeartbeats 1000000
set_option maxRecDepth 100000
theorem tab_low {W w : World} (h : Tab64 W) (hb : Below W.heap.size W w) : Tab64 w := h.tch (Tch.of_below (fun _ => False) hb) (fun h => h)
def smallB (o : Ob) : Prop := o.ni ≤ 100 ∧ o.nr ≤ 100
def lightB (c : Cs) : Prop := c.o.ni ≤ 100 ∧ c.o.nr ≤ 100 ∧ c.rn ≤ 100 ∧ c.ln ≤ 400 ∧ c.pn ≤ 100
theorem small_0 (o : Ob) (w : World) (h1 : decide ((o.ni : Int) ≤ 100) = true) (h2 : decide ((o.nr : Int) ≤ 100) = true) : Calls Tryz.prog 29 #[.agg (obA o)] w fun e w' => e = .returned (.bool true) ∧ Below w.heap.size w w' := by
 have hB := Lib.hid ((Below.refl w.heap.size w).alloc (Nat.le_refl _) (.cells (obA o) 36))
 have k1 : decide (o.ni ≤ 100) = true := by rw [← h1, decide_eq_decide]; omega
 have k2 : decide (o.nr ≤ 100) = true := by rw [← h2, decide_eq_decide]; omega
 unfold obA at hB
 unfold obA
 go_enter Tryz.func29, Tryz.ntmps29
 go_wp2_with fail
 go_ret
 exact ⟨rfl, hB.out⟩
theorem small_1 (o : Ob) (w : World) (h1 : decide ((o.ni : Int) ≤ 100) = true) (h2 : decide ((o.nr : Int) ≤ 100) = false) : Calls Tryz.prog 29 #[.agg (obA o)] w fun e w' => e = .returned (.bool false) ∧ Below w.heap.size w w' := by
 have hB := Lib.hid ((Below.refl w.heap.size w).alloc (Nat.le_refl _) (.cells (obA o) 36))
 have k1 : decide (o.ni ≤ 100) = true := by rw [← h1, decide_eq_decide]; omega
 have k2 : decide (o.nr ≤ 100) = false := by rw [← h2, decide_eq_decide]; omega
 unfold obA at hB
 unfold obA
 go_enter Tryz.func29, Tryz.ntmps29
 go_wp2_with fail
 go_ret
 exact ⟨rfl, hB.out⟩
theorem small_2 (o : Ob) (w : World) (h1 : decide ((o.ni : Int) ≤ 100) = false) : Calls Tryz.prog 29 #[.agg (obA o)] w fun e w' => e = .returned (.bool false) ∧ Below w.heap.size w w' := by
 have hB := Lib.hid ((Below.refl w.heap.size w).alloc (Nat.le_refl _) (.cells (obA o) 36))
 have k1 : decide (o.ni ≤ 100) = false := by rw [← h1, decide_eq_decide]; omega
 skip
 unfold obA at hB
 unfold obA
 go_enter Tryz.func29, Tryz.ntmps29
 go_wp2_with fail
 go_ret
 exact ⟨rfl, hB.out⟩
instance (o : Ob) : Decidable (smallB o) := by unfold smallB; infer_instance
instance (c : Cs) : Decidable (lightB c) := by unfold lightB; infer_instance
theorem small_g (o : Ob) (w : World) : Calls Tryz.prog 29 #[.agg (obA o)] w fun e w' => e = .returned (.bool (decide (smallB o))) ∧ Below w.heap.size w w' := by
 by_cases h1 : o.ni ≤ 100
 ·by_cases h2 : o.nr ≤ 100
  ·rw [decide_eq_true (show smallB o from ⟨h1, h2⟩)]
   exact small_0 o w (decide_eq_true (by omega)) (decide_eq_true (by omega))
  ·rw [decide_eq_false (fun h : smallB o => h2 h.2)]
   exact small_1 o w (decide_eq_true (by omega)) (decide_eq_false (by omega))
 ·rw [decide_eq_false (fun h : smallB o => h1 h.1)]
  exact small_2 o w (decide_eq_false (by omega))
theorem light_0 (c : Cs) (w : World) (h0 : decide (smallB c.o) = true) (h1 : decide (c.rn ≤ 100) = true) (h2 : decide (c.ln ≤ 400) = true) (h3 : decide (c.pn ≤ 100) = true) : Calls Tryz.prog 14 #[.agg (csA c)] w fun e w' => e = .returned (.bool true) ∧ Below w.heap.size w w' := by
 have hba := (Below.refl w.heap.size w).alloc (Nat.le_refl _) (.cells (csA c) 39)
 have hn := RowB.new w (csA c) 39
 have hsm := small_g c.o
 rw [h0] at hsm
 have HS := Lib.hid hsm
 clear hsm h0
 have k1 : decide ((c.rn : Int) ≤ 100) = true := by rw [← h1, decide_eq_decide]; omega
 have k2 : decide ((c.ln : Int) ≤ 400) = true := by rw [← h2, decide_eq_decide]; omega
 have k3 : decide ((c.pn : Int) ≤ 100) = true := by rw [← h3, decide_eq_decide]; omega
 have HB := Lib.hid hba
 obtain ⟨n, hn'⟩ : ∃ n, w.heap.size = n := ⟨_, rfl⟩
 rw [hn'] at hn
 have HN := Lib.hid hn
 clear hba hn
 unfold csA at HB HN
 unfold obA at HS
 unfold csA
 go_enter Tryz.func14, Tryz.ntmps14
 go_wp2_with fail
 refine (HS.out _).mono ?_
 rintro e w1 ⟨rfl, hb1⟩
 have hn1 := HN.out.kept hb1
 have c11 := hn1.at 11 (.slice c.RA c.rn c.rc)
 have c12 := hn1.at 12 (.slice c.LA c.ln c.lc)
 have c13 := hn1.at 13 (.slice c.PA c.pn c.pc)
 have HB1 := Lib.hid (HB.out.trans (hb1.mono HB.out.size))
 clear hn1 hb1
 go_wp2_with fail
 go_ret
 exact ⟨rfl, HB1.out⟩
theorem light_1 (c : Cs) (w : World) (h0 : decide (smallB c.o) = true) (h1 : decide (c.rn ≤ 100) = true) (h2 : decide (c.ln ≤ 400) = true) (h3 : decide (c.pn ≤ 100) = false) : Calls Tryz.prog 14 #[.agg (csA c)] w fun e w' => e = .returned (.bool false) ∧ Below w.heap.size w w' := by
 have hba := (Below.refl w.heap.size w).alloc (Nat.le_refl _) (.cells (csA c) 39)
 have hn := RowB.new w (csA c) 39
 have hsm := small_g c.o
 rw [h0] at hsm
 have HS := Lib.hid hsm
 clear hsm h0
 have k1 : decide ((c.rn : Int) ≤ 100) = true := by rw [← h1, decide_eq_decide]; omega
 have k2 : decide ((c.ln : Int) ≤ 400) = true := by rw [← h2, decide_eq_decide]; omega
 have k3 : decide ((c.pn : Int) ≤ 100) = false := by rw [← h3, decide_eq_decide]; omega
 have HB := Lib.hid hba
 obtain ⟨n, hn'⟩ : ∃ n, w.heap.size = n := ⟨_, rfl⟩
 rw [hn'] at hn
 have HN := Lib.hid hn
 clear hba hn
 unfold csA at HB HN
 unfold obA at HS
 unfold csA
 go_enter Tryz.func14, Tryz.ntmps14
 go_wp2_with fail
 refine (HS.out _).mono ?_
 rintro e w1 ⟨rfl, hb1⟩
 have hn1 := HN.out.kept hb1
 have c11 := hn1.at 11 (.slice c.RA c.rn c.rc)
 have c12 := hn1.at 12 (.slice c.LA c.ln c.lc)
 have c13 := hn1.at 13 (.slice c.PA c.pn c.pc)
 have HB1 := Lib.hid (HB.out.trans (hb1.mono HB.out.size))
 clear hn1 hb1
 go_wp2_with fail
 go_ret
 exact ⟨rfl, HB1.out⟩
theorem light_2 (c : Cs) (w : World) (h0 : decide (smallB c.o) = true) (h1 : decide (c.rn ≤ 100) = true) (h2 : decide (c.ln ≤ 400) = false) : Calls Tryz.prog 14 #[.agg (csA c)] w fun e w' => e = .returned (.bool false) ∧ Below w.heap.size w w' := by
 have hba := (Below.refl w.heap.size w).alloc (Nat.le_refl _) (.cells (csA c) 39)
 have hn := RowB.new w (csA c) 39
 have hsm := small_g c.o
 rw [h0] at hsm
 have HS := Lib.hid hsm
 clear hsm h0
 have k1 : decide ((c.rn : Int) ≤ 100) = true := by rw [← h1, decide_eq_decide]; omega
 have k2 : decide ((c.ln : Int) ≤ 400) = false := by rw [← h2, decide_eq_decide]; omega
 have HB := Lib.hid hba
 obtain ⟨n, hn'⟩ : ∃ n, w.heap.size = n := ⟨_, rfl⟩
 rw [hn'] at hn
 have HN := Lib.hid hn
 clear hba hn
 unfold csA at HB HN
 unfold obA at HS
 unfold csA
 go_enter Tryz.func14, Tryz.ntmps14
 go_wp2_with fail
 refine (HS.out _).mono ?_
 rintro e w1 ⟨rfl, hb1⟩
 have hn1 := HN.out.kept hb1
 have c11 := hn1.at 11 (.slice c.RA c.rn c.rc)
 have c12 := hn1.at 12 (.slice c.LA c.ln c.lc)
 have c13 := hn1.at 13 (.slice c.PA c.pn c.pc)
 have HB1 := Lib.hid (HB.out.trans (hb1.mono HB.out.size))
 clear hn1 hb1
 go_wp2_with fail
 go_ret
 exact ⟨rfl, HB1.out⟩
theorem light_3 (c : Cs) (w : World) (h0 : decide (smallB c.o) = true) (h1 : decide (c.rn ≤ 100) = false) : Calls Tryz.prog 14 #[.agg (csA c)] w fun e w' => e = .returned (.bool false) ∧ Below w.heap.size w w' := by
 have hba := (Below.refl w.heap.size w).alloc (Nat.le_refl _) (.cells (csA c) 39)
 have hn := RowB.new w (csA c) 39
 have hsm := small_g c.o
 rw [h0] at hsm
 have HS := Lib.hid hsm
 clear hsm h0
 have k1 : decide ((c.rn : Int) ≤ 100) = false := by rw [← h1, decide_eq_decide]; omega
 have HB := Lib.hid hba
 obtain ⟨n, hn'⟩ : ∃ n, w.heap.size = n := ⟨_, rfl⟩
 rw [hn'] at hn
 have HN := Lib.hid hn
 clear hba hn
 unfold csA at HB HN
 unfold obA at HS
 unfold csA
 go_enter Tryz.func14, Tryz.ntmps14
 go_wp2_with fail
 refine (HS.out _).mono ?_
 rintro e w1 ⟨rfl, hb1⟩
 have hn1 := HN.out.kept hb1
 have c11 := hn1.at 11 (.slice c.RA c.rn c.rc)
 have c12 := hn1.at 12 (.slice c.LA c.ln c.lc)
 have c13 := hn1.at 13 (.slice c.PA c.pn c.pc)
 have HB1 := Lib.hid (HB.out.trans (hb1.mono HB.out.size))
 clear hn1 hb1
 go_wp2_with fail
 go_ret
 exact ⟨rfl, HB1.out⟩
theorem light_4 (c : Cs) (w : World) (h0 : decide (smallB c.o) = false) : Calls Tryz.prog 14 #[.agg (csA c)] w fun e w' => e = .returned (.bool false) ∧ Below w.heap.size w w' := by
 have hba := (Below.refl w.heap.size w).alloc (Nat.le_refl _) (.cells (csA c) 39)
 have hn := RowB.new w (csA c) 39
 have hsm := small_g c.o
 rw [h0] at hsm
 have HS := Lib.hid hsm
 clear hsm h0
 have HB := Lib.hid hba
 obtain ⟨n, hn'⟩ : ∃ n, w.heap.size = n := ⟨_, rfl⟩
 rw [hn'] at hn
 have HN := Lib.hid hn
 clear hba hn
 unfold csA at HB HN
 unfold obA at HS
 unfold csA
 go_enter Tryz.func14, Tryz.ntmps14
 go_wp2_with fail
 refine (HS.out _).mono ?_
 rintro e w1 ⟨rfl, hb1⟩
 have hn1 := HN.out.kept hb1
 have c11 := hn1.at 11 (.slice c.RA c.rn c.rc)
 have c12 := hn1.at 12 (.slice c.LA c.ln c.lc)
 have c13 := hn1.at 13 (.slice c.PA c.pn c.pc)
 have HB1 := Lib.hid (HB.out.trans (hb1.mono HB.out.size))
 clear hn1 hb1
 go_wp2_with fail
 go_ret
 exact ⟨rfl, HB1.out⟩
theorem light_g (c : Cs) (w : World) : Calls Tryz.prog 14 #[.agg (csA c)] w fun e w' => e = .returned (.bool (decide (lightB c))) ∧ Below w.heap.size w w' := by
 by_cases h0 : smallB c.o
 ·by_cases h1 : c.rn ≤ 100
  ·by_cases h2 : c.ln ≤ 400
   ·by_cases h3 : c.pn ≤ 100
    ·rw [decide_eq_true (show lightB c from ⟨h0.1, h0.2, h1, h2, h3⟩)]
     exact light_0 c w (decide_eq_true h0) (decide_eq_true h1) (decide_eq_true h2) (decide_eq_true h3)
    ·rw [decide_eq_false (fun h : lightB c => h3 h.2.2.2.2)]
     exact light_1 c w (decide_eq_true h0) (decide_eq_true h1) (decide_eq_true h2) (decide_eq_false h3)
   ·rw [decide_eq_false (fun h : lightB c => h2 h.2.2.2.1)]
    exact light_2 c w (decide_eq_true h0) (decide_eq_true h1) (decide_eq_false h2)
  ·rw [decide_eq_false (fun h : lightB c => h1 h.2.2.1)]
   exact light_3 c w (decide_eq_true h0) (decide_eq_false h1)
 ·rw [decide_eq_false (fun h : lightB c => h0 ⟨h.1, h.2.1⟩)]
  exact light_4 c w (decide_eq_false h0)
end Go.Proofs.YtgjcniokgdicpaaGreatDoor

namespace Go.Proofs.YtgjcniokgdicpaaGreatDoor
open Go.RowKit
set_option maxRecDepth 100000
theorem nil_cat (w : World) (ty : TypeId) {base n : Nat} {v : Value} {xs : List Value} (h : w.ownsRow base 32 1 v n xs) (c : Nat) : (Builtin.append_ #[33, 33] ty #[v, .slice none 0 c]).run Tryz.prog w = .ok v w := by
 obtain ⟨i, hi, _⟩ := info_parts (P := Tryz.prog) (e := 32) (z := .int .u32 0) (size := 1) (bytes := 4) (by kernel_rfl)
 have ht : Tryz.prog.underlying 33 = some (.slice 32) := Tryz.underlying33
 rcases h.2 with ⟨rfl, rfl⟩ | ⟨g, cap, cur, rfl, _, _, hn, _⟩ <;> simp [Builtin.append_, Builtin.lenOf, Builtin.firstCells, sizeOf, typeInfo, storeCells, run_underlying ht, *]
theorem cat_run (w : World) (ty : TypeId) {base n : Nat} {v : Value} {xs : List Value} (h : w.ownsRow base 32 1 v n xs) {A : Option Addr} {c B : Nat} {l : List Int} (hw : Ws w B A l) (h1 : n + l.length ≤ 2000000) (hb : base ≤ w.heap.size) :
  ∃ v' w', (Builtin.append_ #[33, 33] ty #[v, .slice A l.length c]).run Tryz.prog w = .ok v' w' ∧ w'.ownsRow base 32 1 v' (n + l.length) (xs ++ l.map (Value.int .u32)) ∧ w.grownBy w' v.ownBlock ∧ (v'.ownBlock = v.ownBlock ∨ v'.ownBlock = some w.heap.size) := by
 cases A with
 | none =>
  cases l with
  | nil => exact ⟨v, w, nil_cat w ty h c, by simpa using h, World.grownBy.refl w _, .inl rfl⟩
  | cons x l => obtain ⟨_, _, _, q, _⟩ := hw.get (k := 0) (z := x) rfl; cases q
 | some a =>
  obtain ⟨ht, i, z, hi, hz, hs, hby, hzs, hsz⟩ := u32Ty
  have hc : ∀ (j : Nat) u, (l.map (Value.int .u32))[j]? = some u → w.cell? (a.add j) = some u := by
   intro j u hu
   rw [List.getElem?_map] at hu
   obtain ⟨z, hz, rfl⟩ := Option.map_eq_some_iff.1 hu
   obtain ⟨_, b', off', hA, _, hcell⟩ := hw.get hz
   injection hA with hA
   subst hA
   rw [Addr.add_lit]
   exact hcell
  obtain ⟨v', w', hr, h2, h3, _, h5⟩ := run_append_own_at (P := Tryz.prog) w base 33 ty 32 i z 1 4 ht hi hz hs hby hzs hsz v n xs h a l.length c (l.map (Value.int .u32)) (by simp) hc (fun u hu => by
   obtain ⟨z, _, rfl⟩ := List.mem_map.1 hu
   rfl) (by unfold maxLen; omega) (by omega) hb
  exact ⟨v', w', hr, h2, h3, h5⟩
theorem wpList_cat {w : World} {ops : Array Oper} {rest : List Oper} {o : Oper} {a : Act} {Q : Exit → Act → World → Prop} (hgd : o.guard = none) (s x : Operand)
  (ho : o.op = .call { callee := .builtin .append, args := #[s, x], argTypes := #[33, 33] }) {base n : Nat} {v : Value} {xs : List Value} (h : w.ownsRow base 32 1 v n xs) (hs : a.eval s = v) {A : Option Addr} {m c B : Nat} {l : List Int} (hx : a.eval x = .slice A m c) (hm : m = l.length) (hw : Ws w B A l) (h1 : n + l.length ≤ 2000000) (hb : base ≤ w.heap.size)
  (hk : ∀ v' w', w'.ownsRow base 32 1 v' (n + l.length) (xs ++ l.map (Value.int .u32)) → w.grownBy w' v.ownBlock → (v'.ownBlock = v.ownBlock ∨ v'.ownBlock = some w.heap.size) → wpList Tryz.prog ops Q rest (a.put o.dst v') w') : wpList Tryz.prog ops Q (o :: rest) a w := by
 subst hm
 refine wpList_plain hgd fun _ hK => ?_
 obtain ⟨v', w', hr, h2, h3, h4⟩ := cat_run w o.type h (c := c) hw h1 hb
 unfold Oper.wp execOp
 simp only [ho, resolve, invoke, builtin, Sem.run_bind, Sem.run_pure, Result.andThen_ok, List.map_toArray, List.map_cons, List.map_nil, hs, hx, hr]
 exact hK _ _ (hk v' w' h2 h3 h4)
end Go.Proofs.YtgjcniokgdicpaaGreatDoor

namespace Go.Proofs.YtgjcniokgdicpaaGreatDoor
open Go.RowKit
attribute [local go_sem] Oper.semAt_some
structure CsOk (c : Cs) (r l : List Int) (ps : List Pk) (W : World) : Prop where
 rn : c.rn = r.length
 ln : c.ln = l.length
 pn : c.pn = ps.length
 r : Ws W W.heap.size c.RA r
 l : Ws W W.heap.size c.LA l
 p : Pks W W.heap.size c.PA ps
 a0 : -9223372036854775808 ≤ c.a
 a1 : c.a < 9223372036854775808
 tab : Tab64 W
 g : gt0 < W.heap.size
def EndR (W : World) (c : Cs) (L M : Nat) (xb mb lb l2 cap : Nat) (k : Nat) (wr : World) : Prop :=
 ∃ (sb : Nat) (ty : TypeId) (d : Kc) (rv mp : Value) (lm ll : List Int), Oj wr xb sb ty c.o d rv mp ∧ Kc.Inv d ∧ Bo wr mb lb l2 cap lm ll ∧ (ll.length = L ∧ d.base + d.size ≤ L ∧ d.steps = k ∧ k + d.left ≤ M) ∧
  (W.heap.size < xb ∧ W.heap.size < sb ∧ W.heap.size < mb ∧ W.heap.size < lb ∧ W.heap.size < l2) ∧ (xb ≠ mb ∧ xb ≠ lb ∧ xb ≠ l2 ∧ sb ≠ mb ∧ sb ≠ lb ∧ sb ≠ l2) ∧ (∀ b, rv.ownBlock = some b → W.heap.size < b ∧ b ≠ mb ∧ b ≠ lb ∧ b ≠ l2) ∧
  RowB wr W.heap.size (csA c) 39 ∧ Below W.heap.size W wr
section
variable {W : World} {c : Cs} {L M xb mb lb l2 cap k : Nat} {wr w' : World}
theorem EndR.belo (h : EndR W c L M xb mb lb l2 cap k wr) (hb' : Below wr.heap.size wr w') : EndR W c L M xb mb lb l2 cap k w' := by
 obtain ⟨sb, ty, d, rv, mp, lm, ll, hoj, hI, hB, h0, h1, h2, h3, hr, hb⟩ := h
 exact ⟨sb, ty, d, rv, mp, lm, ll, hoj.below hb', hI, hB.belo hb', h0, h1, h2, h3, hr.kept hb', hb.trans (hb'.mono hb.size)⟩
theorem EndR.poked {sb : Nat} {ty : TypeId} {d : Kc} {rv mp : Value} (h : Oj wr xb sb ty c.o d rv mp) (h1 : W.heap.size < xb ∧ W.heap.size < sb ∧ W.heap.size < mb ∧ W.heap.size < lb ∧ W.heap.size < l2) (h2 : xb ≠ mb ∧ xb ≠ lb ∧ xb ≠ l2 ∧ sb ≠ mb ∧ sb ≠ lb ∧ sb ≠ l2) (h3 : ∀ b, rv.ownBlock = some b → W.heap.size < b ∧ b ≠ mb ∧ b ≠ lb ∧ b ≠ l2) (hr : RowB wr W.heap.size (csA c) 39) (hb : Below W.heap.size W wr) (ht : Tch (Tb mb lb l2) wr w') :
  Oj w' xb sb ty c.o d rv mp ∧ RowB w' W.heap.size (csA c) 39 ∧ Below W.heap.size W w' := by
 refine ⟨h.tch ht ?_ ?_ (fun b hb q => ?_), hr.tch ht ?_, hb.trans (ht.below hb.size (fun k hk q => ?_))⟩
 ·rintro (q | q | q) <;> omega
 ·rintro (q | q | q) <;> omega
 ·have := h3 b hb
  rcases q with q | q | q <;> omega
 ·rintro (q | q | q) <;> omega
 ·rcases q with q | q | q <;> omega
end
end Go.Proofs.YtgjcniokgdicpaaGreatDoor
