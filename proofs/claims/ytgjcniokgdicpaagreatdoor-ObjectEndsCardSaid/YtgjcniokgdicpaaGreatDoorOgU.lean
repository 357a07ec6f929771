/- What others do to a memory ahead of a turn. -/
import Derived.Test.YtgjcniokgdicpaaGreatDoorOgT
namespace Go.Proofs.YtgjcniokgdicpaaGreatDoor
open Go.RowKit
attribute [local go_sem] Oper.semAt_some

structure Pk where
  t : Int
  a : Int
  w : Int
def pkE : Enc Pk := ⟨fun p => [.int .i64 p.t, .int .i64 p.a, .int .u32 p.w], 3, fun _ => rfl, fun p u hu => by simp at hu; rcases hu with rfl | rfl | rfl <;> rfl, by omega⟩
def Pks (w : World) (B : Nat) (A : Option Addr) (l : List Pk) : Prop := SlOf pkE w B A l ∧ ∀ p ∈ l, 0 ≤ p.w ∧ p.w < 4294967296
def poke1 (turn : Int) (l : List Int) (p : Pk) : List Int := if p.t = turn ∧ 0 ≤ p.a ∧ p.a < l.length then l.set p.a.toNat p.w else l
def pokes (turn : Int) (ps : List Pk) (l : List Int) : List Int := ps.foldl (poke1 turn) l
theorem poke1_len (turn : Int) (l : List Int) (p : Pk) : (poke1 turn l p).length = l.length := by
  unfold poke1
  split <;> simp
theorem pokes_len (turn : Int) (ps : List Pk) (l : List Int) : (pokes turn ps l).length = l.length := by
  induction ps generalizing l with
  | nil => rfl
  | cons p ps ih => exact (ih (poke1 turn l p)).trans (poke1_len turn l p)
theorem pokes_snoc {turn : Int} {ps : List Pk} {l : List Int} {k : Nat} {p : Pk} (h : ps[k]? = some p) (hno : ¬ (p.t = turn ∧ 0 ≤ p.a ∧ p.a < ((pokes turn (ps.take k) l).length : Int))) : pokes turn (ps.take (k + 1)) l = pokes turn (ps.take k) l := by
  unfold pokes at hno ⊢
  rw [foldl_snoc _ _ h]
  exact if_neg hno
theorem pokes_hit {turn : Int} {ps : List Pk} {l : List Int} {k : Nat} {p : Pk} (h : ps[k]? = some p) (hy : p.t = turn ∧ 0 ≤ p.a ∧ p.a < ((pokes turn (ps.take k) l).length : Int)) : pokes turn (ps.take (k + 1)) l = (pokes turn (ps.take k) l).set p.a.toNat p.w := by
  unfold pokes at hy ⊢
  rw [foldl_snoc _ _ h]
  exact if_pos hy
theorem Pks.get {w : World} {B : Nat} {A : Option Addr} {l : List Pk} (h : Pks w B A l) {k : Nat} {p : Pk} (hk : l[k]? = some p) : ∃ b off, A = some ⟨b, off, none⟩ ∧ b < B ∧ w.cell? ⟨b, off + k * 3, none⟩ = some (.int .i64 p.t) ∧ w.cell? ⟨b, off + k * 3 + 1, none⟩ = some (.int .i64 p.a) ∧ w.cell? ⟨b, off + k * 3 + 2, none⟩ = some (.int .u32 p.w) := by
  obtain ⟨b, off, hA, hlt, hc⟩ := h.1 k p hk
  have h0 := hc 0 _ rfl
  have h1 := hc 1 _ rfl
  have h2 := hc 2 _ rfl
  refine ⟨b, off, hA, hlt, ?_, ?_, ?_⟩
  · simpa [pkE] using h0
  · simpa [pkE, Nat.add_assoc] using h1
  · simpa [pkE, Nat.add_assoc] using h2
theorem Pks.below {w w' : World} {B B' : Nat} {A : Option Addr} {l : List Pk} (h : Pks w B A l) (hb : Below B w w') (hB : B ≤ B') : Pks w' B' A l := ⟨h.1.below hb hB, h.2⟩
/-- A case's cells. -/
structure Cs where
  o : Ob
  a : Int
  op : Int
  rd : Int
  RA : Option Addr
  rn : Nat
  rc : Nat
  LA : Option Addr
  ln : Nat
  lc : Nat
  PA : Option Addr
  pn : Nat
  pc : Nat
def csA (c : Cs) : Array Value := #[.int .i64 c.o.k, .int .i64 c.o.wd, .int .i64 c.o.s, .int .i64 c.o.c, .int .u32 c.o.st, .slice c.o.I c.o.ni c.o.ci, .int .i64 c.o.wr, .slice c.o.R c.o.nr c.o.cr, .int .i64 c.a, .int .i64 c.op, .int .i64 c.rd, .slice c.RA c.rn c.rc, .slice c.LA c.ln c.lc, .slice c.PA c.pn c.pc]
/-- The words of both. -/
structure Bo (w : World) (mb lb l2 : Nat) (cap : Nat) (lm l : List Int) : Prop where
  mem : MemG w mb lb lm
  own : Own (ints .u32) 32 0 w (.slice (some ⟨l2, 0, none⟩) l.length cap) l
  len : lm.length = l.length
  n1 : l2 ≠ mb
  n2 : l2 ≠ lb
theorem Bo.tch {w w' : World} {mb lb l2 cap : Nat} {lm l : List Int} {T : Nat → Prop} (h : Bo w mb lb l2 cap lm l) (hk : Tch T w w') (h1 : ¬ T mb) (h2 : ¬ T lb) (h3 : ¬ T l2) : Bo w' mb lb l2 cap lm l :=
  ⟨h.mem.tch hk h1 h2, own_tch h.own hk (fun b hb => by have : l2 = b := Option.some.inj hb; rw [← this]; exact h3), h.len, h.n1, h.n2⟩
theorem Bo.belo {w w' : World} {mb lb l2 cap : Nat} {lm l : List Int} (h : Bo w mb lb l2 cap lm l) (hb : Below w.heap.size w w') : Bo w' mb lb l2 cap lm l := h.tch (T := fun _ => False) (Tch.of_below _ hb) (fun h => h) (fun h => h) (fun h => h)
def Tb (mb lb l2 : Nat) (b : Nat) : Prop := b = mb ∨ b = lb ∨ b = l2
set_option maxRecDepth 100000 in
set_option maxHeartbeats 4000000 in
theorem poked_g (c : Cs) (turn : Int) (ps : List Pk) (mb lb l2 cap N : Nat) (lm l : List Int) (w : World) (hb : Bo w mb lb l2 cap lm l) (hpn : c.pn = ps.length) (hp1 : ps.length ≤ 1000) (hp : Pks w N c.PA ps) (hN : N ≤ w.heap.size) (hm : N ≤ mb) (hl : N ≤ lb) (h2 : N ≤ l2) :
    Calls Tryz.prog 21 #[.agg (csA c), .int .i64 turn, .pointer (some ⟨mb, 0, none⟩), .slice (some ⟨l2, 0, none⟩) l.length cap] w fun e w' => e = .returned (.tuple #[]) ∧ Bo w' mb lb l2 cap (pokes turn ps lm) (pokes turn ps l) ∧ Tch (Tb mb lb l2) w w' := by
  have hba := (Below.refl w.heap.size w).alloc (Nat.le_refl _) (.cells (csA c) 39)
  have hcr := RowB.new w (csA c) 39
  have hb1 := hb.belo hba
  have hp0 := hp.below (hba.mono hN) (Nat.le_refl _)
  have hT0 : Tch (Tb mb lb l2) w (w.alloc (.cells (csA c) 39)) := Tch.of_below _ hba
  have hlen : l.length ≤ 1000000 := by rw [← hb.len]; exact hb.mem.len
  obtain ⟨P, hP⟩ : ∃ x, c.pn = x := ⟨_, rfl⟩
  obtain ⟨L, hL⟩ : ∃ x, l.length = x := ⟨_, rfl⟩
  have HB := Lib.hid hb1
  have HP := Lib.hid hp0
  have HT := Lib.hid hT0
  have HPN := Lib.hid (hP.symm.trans hpn)
  have HN := Lib.hid hN
  have hPl : P ≤ 1000 := by omega
  have HL := Lib.hid hL
  have hlen' : L ≤ 1000000 := by omega
  clear hba hcr hb1 hp0 hT0 hb hp hpn hN hp1
  rw [hL]
  unfold csA at HB HP HT
  unfold csA
  rw [hP] at HB HP HT ⊢
  clear hP hL hlen
  obtain ⟨n, hn⟩ : ∃ n, w.heap.size = n := ⟨_, rfl⟩
  go_enter Tryz.func21, Tryz.ntmps21
  go_wp2_with fail
  obtain ⟨w1, hw1⟩ : ∃ x, w.alloc (.cells #[.int .i64 c.o.k, .int .i64 c.o.wd, .int .i64 c.o.s, .int .i64 c.o.c, .int .u32 c.o.st, .slice c.o.I c.o.ni c.o.ci, .int .i64 c.o.wr, .slice c.o.R c.o.nr c.o.cr, .int .i64 c.a, .int .i64 c.op, .int .i64 c.rd, .slice c.RA c.rn c.rc, .slice c.LA c.ln c.lc, .slice c.PA P c.pc] 39) = x := ⟨_, rfl⟩
  rw [hw1] at HB HP HT ⊢
  have hsz : w1.heap.size = n + 1 := by rw [← hw1, World.size_alloc, hn]
  have HSZ := Lib.hid hsz
  clear hw1 hsz
  go_loopw [13] (fun v wr => ∃ k : Nat, k ≤ P ∧ v = .int .i64 k ∧ Bo wr mb lb l2 cap (pokes turn (ps.take k) lm) (pokes turn (ps.take k) l) ∧ Tch (Tb mb lb l2) w1 wr) (fun v _ => P - (intOf v).toNat)
  case atStart => exact ⟨0, Nat.zero_le _, rfl, HB.out, Tch.refl _ _⟩
  case round =>
    obtain ⟨k, hk, rfl, hbo, htc⟩ := hrel
    by_cases hlt : k < P
    · obtain ⟨p, hpk⟩ := get_some (l := ps) (k := k) (by have := HPN.out; omega)
      obtain ⟨b, off, hA, hbN, e0, e1, e2⟩ := HP.out.get hpk
      have hnb : ¬ Tb mb lb l2 b := by rintro (q | q | q) <;> omega
      have d0 := htc.cell e0 hnb
      have d1 := htc.cell e1 hnb
      have d2 := htc.cell e2 hnb
      have hkP : (k : Int) < (P : Int) := by omega
      have hix : ∀ W, (Instr.indexAt 37 (.slice c.PA P c.pc) (.int .i64 (k : Int))).run Tryz.prog W = .ok (.pointer (some ⟨b, off + k * 3, none⟩)) W := fun W => by
        rw [hA]
        go_simp
      have HB2 := Lib.hid hbo
      have HT2 := Lib.hid htc
      have HPK := Lib.hid hpk
      clear e0 e1 e2
      have hll : (pokes turn (ps.take k) l).length = L := by rw [pokes_len]; exact HL.out
      have HLL := Lib.hid hll
      clear hll
      by_cases h1 : p.t = turn
      · by_cases h2 : 0 ≤ p.a
        · by_cases h3 : p.a < (L : Int)
          · have hbw := HB2.out
            obtain ⟨z', hz'⟩ := get_some (l := pokes turn (ps.take k) lm) (k := p.a.toNat) (by rw [HB2.out.len]; have := HLL.out; omega)
            obtain ⟨z, hz⟩ := get_some (l := pokes turn (ps.take k) l) (k := p.a.toNat) (by have := HLL.out; omega)
            have hba := (Below.refl wr.heap.size wr).alloc (Nat.le_refl _) (.cells #[.int .i64 p.t, .int .i64 p.a, .int .u32 p.w] 95)
            have hnew := RowB.new wr #[.int .i64 p.t, .int .i64 p.a, .int .u32 p.w] 95
            have hb3 := hbw.belo hba
            have hrow := hb3.own
            have l2c := own_cell hrow hz
            have l2f := own_frozen hrow p.a.toNat
            have hwv : 0 ≤ p.w ∧ p.w < 4294967296 := HP.out.2 p (List.mem_of_getElem? HPK.out)
            have hl2lt : l2 < wr.heap.size := by
              obtain ⟨cur, hc⟩ := own_row hbw.own
              exact hc.lt
            obtain ⟨W3, hW3⟩ : ∃ x, wr.alloc (.cells #[.int .i64 p.t, .int .i64 p.a, .int .u32 p.w] 95) = x := ⟨_, rfl⟩
            rw [hW3] at hba hnew hb3 hrow l2c l2f
            have hput := own_put hrow (i := p.a.toNat) (by have := HLL.out; omega) p.w
            have ht4 : Tch (fun b => b = l2) W3 (W3.setCell ⟨l2, p.a.toNat, none⟩ (.int .u32 p.w)) := (Tch.refl (fun b => b = l2) W3).set (b := l2) rfl p.a.toNat _
            have hm4 := hb3.mem.tch ht4 (fun e => hb3.n1 e.symm) (fun e => hb3.n2 e.symm)
            have hnew4 := hnew.tch ht4 (by omega)
            obtain ⟨W4, hW4⟩ : ∃ x, W3.setCell ⟨l2, p.a.toNat, none⟩ (.int .u32 p.w) = x := ⟨_, rfl⟩
            rw [hW4] at hput ht4 hm4 hnew4
            have g1 : W4.cell? ⟨wr.heap.size, 1, none⟩ = some (.int .i64 p.a) := (hnew4.cell 1).trans rfl
            have g2 : W4.cell? ⟨wr.heap.size, 2, none⟩ = some (.int .u32 p.w) := (hnew4.cell 2).trans rfl
            have n1 : W3.cell? ⟨wr.heap.size, 0, none⟩ = some (.int .i64 p.t) := (hnew.cell 0).trans rfl
            have n2 : W3.cell? ⟨wr.heap.size, 1, none⟩ = some (.int .i64 p.a) := (hnew.cell 1).trans rfl
            have n3 : W3.cell? ⟨wr.heap.size, 2, none⟩ = some (.int .u32 p.w) := (hnew.cell 2).trans rfl
            have HWR := Lib.hid (write_g mb lb (pokes turn (ps.take k) lm) p.a z' p.w W4 hm4 h2 hz' hwv)
            have hhit : p.t = turn ∧ 0 ≤ p.a ∧ p.a < ((pokes turn (ps.take k) l).length : Int) := ⟨h1, h2, by have := HLL.out; omega⟩
            have HH := Lib.hid hhit
            have HPUT := Lib.hid hput
            have HT4 := Lib.hid ((HT2.out.trans (Tch.of_below _ hba)).trans (ht4.mono fun _ _ e => .inr (.inr e)))
            have t1 : (p.t == turn) = true := by simpa using h1
            have t2 : decide (0 ≤ p.a) = true := decide_eq_true h2
            have t3 : decide (p.a < (L : Int)) = true := decide_eq_true h3
            clear hbo htc hpk hA h1 hbw hba hnew hb3 hrow hput ht4 hm4 hnew4 hz hz' hhit hwv hl2lt
            go_wp2_with fail
            refine HWR.out.mono ?_
            rintro e w5 ⟨rfl, ht5, hm5⟩
            have hown5 := own_tch HPUT.out ht5 (fun q hq e => by
              have hq' : l2 = q := Option.some.inj hq
              subst hq'
              rcases e with e | e
              · exact HB2.out.n1 e
              · exact HB2.out.n2 e)
            have hbo5 : Bo w5 mb lb l2 cap ((pokes turn (ps.take k) lm).set p.a.toNat p.w) ((pokes turn (ps.take k) l).set p.a.toNat p.w) := ⟨hm5, by rw [List.length_set]; exact hown5, by rw [List.length_set, List.length_set]; exact HB2.out.len, HB2.out.n1, HB2.out.n2⟩
            have HF := Lib.hid hbo5
            have HT5 := Lib.hid (HT4.out.trans (ht5.mono fun _ _ e => e.elim .inl (fun e => .inr (.inl e))))
            clear hown5 hbo5 ht5 hm5
            go_wp2_with fail
            go_roundw
            case rel =>
              refine ⟨k + 1, by omega, by go_num, ?_, HT5.out⟩
              rw [pokes_hit HPK.out HH.out, pokes_hit (l := lm) HPK.out (by rw [HB2.out.len]; exact HH.out)]
              exact HF.out
            case measure => simp [intOf]; omega
          · have t1 : (p.t == turn) = true := by simpa using h1
            have t2 : decide (0 ≤ p.a) = true := decide_eq_true h2
            have t3 : decide (p.a < (L : Int)) = false := decide_eq_false h3
            have hno : ¬ (p.t = turn ∧ 0 ≤ p.a ∧ p.a < ((pokes turn (ps.take k) l).length : Int)) := by have := HLL.out; omega
            clear h1 h3

            have HG := Lib.hid hno
            clear hno hbo htc hpk hA
            go_wp2_with fail
            go_roundw
            case rel =>
              have hba := (Below.refl wr.heap.size wr).alloc (Nat.le_refl _) (.cells #[.int .i64 p.t, .int .i64 p.a, .int .u32 p.w] 95)
              refine ⟨k + 1, by omega, by go_num, ?_, HT2.out.trans (Tch.of_below _ hba)⟩
              rw [pokes_snoc HPK.out HG.out, pokes_snoc (l := lm) HPK.out (by rw [HB2.out.len]; exact HG.out)]
              exact HB2.out.belo hba
            case measure => simp [intOf]; omega
        · have t1 : (p.t == turn) = true := by simpa using h1
          have t2 : decide (0 ≤ p.a) = false := decide_eq_false h2
          have hno : ¬ (p.t = turn ∧ 0 ≤ p.a ∧ p.a < ((pokes turn (ps.take k) l).length : Int)) := by omega
          clear h1 h2

          have HG := Lib.hid hno
          clear hno hbo htc hpk hA
          go_wp2_with fail
          go_roundw
          case rel =>
            have hba := (Below.refl wr.heap.size wr).alloc (Nat.le_refl _) (.cells #[.int .i64 p.t, .int .i64 p.a, .int .u32 p.w] 95)
            refine ⟨k + 1, by omega, by go_num, ?_, HT2.out.trans (Tch.of_below _ hba)⟩
            rw [pokes_snoc HPK.out HG.out, pokes_snoc (l := lm) HPK.out (by rw [HB2.out.len]; exact HG.out)]
            exact HB2.out.belo hba
          case measure => simp [intOf]; omega
      · have t1 : (p.t == turn) = false := by simpa using h1
        have hno : ¬ (p.t = turn ∧ 0 ≤ p.a ∧ p.a < ((pokes turn (ps.take k) l).length : Int)) := fun h => h1 h.1
        clear h1
        have HG := Lib.hid hno
        clear hno hbo htc hpk hA
        go_wp2_with fail
        go_roundw
        case rel =>
          have hba := (Below.refl wr.heap.size wr).alloc (Nat.le_refl _) (.cells #[.int .i64 p.t, .int .i64 p.a, .int .u32 p.w] 95)
          refine ⟨k + 1, by omega, by go_num, ?_, HT2.out.trans (Tch.of_below _ hba)⟩
          rw [pokes_snoc HPK.out HG.out, pokes_snoc (l := lm) HPK.out (by rw [HB2.out.len]; exact HG.out)]
          exact HB2.out.belo hba
        case measure => simp [intOf]; omega
    · obtain rfl : k = P := by omega
      have HB2 := Lib.hid hbo
      have HT2 := Lib.hid htc
      have e : ps.take k = ps := take_all (by have := HPN.out; omega)
      rw [e] at HB2
      clear hbo htc e
      go_wp2_with fail
      go_end0
      exact ⟨rfl, HB2.out, HT.out.trans HT2.out⟩

end Go.Proofs.YtgjcniokgdicpaaGreatDoor
