/- The statement ObjectEnds: an operation ends within its bound, whatever others do. -/
import Derived.Test.YtgjcniokgdicpaaGreatDoorOgW
import Derived.Test.YtgjcniokgdicpaaGreatDoorOmLen
namespace Go.Proofs.YtgjcniokgdicpaaGreatDoor
open Go.RowKit
attribute [local go_sem] Oper.semAt_some

/-- What a case's lists hold. -/
structure CsOk (c : Cs) (r l : List Int) (ps : List Pk) (W : World) : Prop where
  rn : c.rn = r.length
  ln : c.ln = l.length
  pn : c.pn = ps.length
  r : Ws W W.heap.size c.RA r
  l : Ws W W.heap.size c.LA l
  p : Pks W W.heap.size c.PA ps
  a0 : -9223372036854775808 ≤ c.a
  a1 : c.a < 9223372036854775808
  tab : Tab64 W
  g : gt0 < W.heap.size
/-- How it stands ahead of a turn. -/
def EndR (W : World) (c : Cs) (L M : Nat) (xb mb lb l2 cap : Nat) (k : Nat) (wr : World) : Prop :=
  ∃ (sb : Nat) (ty : TypeId) (d : Kc) (rv mp : Value) (lm ll : List Int), Oj wr xb sb ty c.o d rv mp ∧ Kc.Inv d ∧ Bo wr mb lb l2 cap lm ll ∧ (ll.length = L ∧ d.base + d.size ≤ L ∧ d.steps = k ∧ k + d.left ≤ M) ∧
    (W.heap.size < xb ∧ W.heap.size < sb ∧ W.heap.size < mb ∧ W.heap.size < lb ∧ W.heap.size < l2) ∧ (xb ≠ mb ∧ xb ≠ lb ∧ xb ≠ l2 ∧ sb ≠ mb ∧ sb ≠ lb ∧ sb ≠ l2) ∧ (∀ b, rv.ownBlock = some b → W.heap.size < b ∧ b ≠ mb ∧ b ≠ lb ∧ b ≠ l2) ∧
    RowB wr W.heap.size (csA c) 39 ∧ Below W.heap.size W wr
section
variable {W : World} {c : Cs} {L M xb mb lb l2 cap k : Nat} {wr w' : World}
theorem EndR.belo (h : EndR W c L M xb mb lb l2 cap k wr) (hb' : Below wr.heap.size wr w') : EndR W c L M xb mb lb l2 cap k w' := by
  obtain ⟨sb, ty, d, rv, mp, lm, ll, hoj, hI, hB, h0, h1, h2, h3, hr, hb⟩ := h
  exact ⟨sb, ty, d, rv, mp, lm, ll, hoj.below hb', hI, hB.belo hb', h0, h1, h2, h3, hr.kept hb', hb.trans (hb'.mono hb.size)⟩
/-- Behind what others do. -/
theorem EndR.poked {sb : Nat} {ty : TypeId} {d : Kc} {rv mp : Value} (h : Oj wr xb sb ty c.o d rv mp) (h1 : W.heap.size < xb ∧ W.heap.size < sb ∧ W.heap.size < mb ∧ W.heap.size < lb ∧ W.heap.size < l2) (h2 : xb ≠ mb ∧ xb ≠ lb ∧ xb ≠ l2 ∧ sb ≠ mb ∧ sb ≠ lb ∧ sb ≠ l2) (h3 : ∀ b, rv.ownBlock = some b → W.heap.size < b ∧ b ≠ mb ∧ b ≠ lb ∧ b ≠ l2) (hr : RowB wr W.heap.size (csA c) 39) (hb : Below W.heap.size W wr) (ht : Tch (Tb mb lb l2) wr w') :
    Oj w' xb sb ty c.o d rv mp ∧ RowB w' W.heap.size (csA c) 39 ∧ Below W.heap.size W w' := by
  refine ⟨h.tch ht ?_ ?_ (fun b hb q => ?_), hr.tch ht ?_, hb.trans (ht.below hb.size (fun k hk q => ?_))⟩
  · rintro (q | q | q) <;> omega
  · rintro (q | q | q) <;> omega
  · have := h3 b hb
    rcases q with q | q | q <;> omega
  · rintro (q | q | q) <;> omega
  · rcases q with q | q | q <;> omega
/-- Behind a step. -/
theorem EndR.went {sb : Nat} {ty : TypeId} {d : Kc} {rv : Value} {lm ll : List Int} (hI : Kc.Inv d) (ho : d.over = false) (hB : Bo wr mb lb l2 cap lm ll) (h0 : ll.length = L ∧ d.base + d.size ≤ L ∧ d.steps = k ∧ k + d.left ≤ M) (h1 : W.heap.size < xb ∧ W.heap.size < sb ∧ W.heap.size < mb ∧ W.heap.size < lb ∧ W.heap.size < l2) (h2 : xb ≠ mb ∧ xb ≠ lb ∧ xb ≠ l2 ∧ sb ≠ mb ∧ sb ≠ lb ∧ sb ≠ l2) (h3 : ∀ b, rv.ownBlock = some b → W.heap.size < b ∧ b ≠ mb ∧ b ≠ lb ∧ b ≠ l2) (hr : RowB wr W.heap.size (csA c) 39) (hb : Below W.heap.size W wr)
    {e : Ending} (hw : Went xb sb mb lb ty c.o wr rv (d.step lm).1 (d.step lm).2 e w') : e = .returned (.bool true) ∧ EndR W c L M xb mb lb l2 cap (k + 1) w' ∧ ∃ rv', Oj w' xb sb ty c.o (d.step lm).1 rv' (.pointer (some ⟨mb, 0, none⟩)) := by
  obtain ⟨rv', he, hoj, hm, ⟨q1, q2⟩, hmv⟩ := hw
  have hlf := Kc.left_step (l := lm) ho hI.sta.wd1 hI.sta.nr1 hI.sta.cap1
  have hsame := hlf.2
  have hst : (d.step lm).1.steps = k + 1 := by
    rw [hsame.2.2.2.2.2.2.2.2.2, ← h0.2.2.1]
  have hbase : (d.step lm).1.base = d.base := hsame.2.2.2.2.2.2.2.1
  have hsize : (d.step lm).1.size = d.size := hsame.2.2.2.2.2.2.2.2.1
  have hfpN : ∀ b, b ≤ W.heap.size → ¬ fp sb mb lb rv b := fun b hbn q => by
    rcases q with q | q | q | q
    · omega
    · omega
    · omega
    · have := h3 b q; omega
  have hl2lt : l2 < wr.heap.size := by
    obtain ⟨cur, hc⟩ := own_row hB.own
    exact hc.lt
  have hmlt : mb < wr.heap.size ∧ lb < wr.heap.size := by
    obtain ⟨kk, cc, hr, ho, _⟩ := hB.mem
    obtain ⟨cur, hc⟩ := own_row ho
    exact ⟨hr.lt, hc.lt⟩
  have hown := own_tch hB.own hmv.tch (fun b hb q => by
    have hb' : l2 = b := Option.some.inj hb
    subst hb'
    rcases q with q | q | q | q
    · omega
    · exact hB.n1 q
    · exact hB.n2 q
    · exact (h3 l2 q).2.2.2 rfl)
  have hlen : (d.step lm).2.length = lm.length := step_len d lm
  refine ⟨he, ⟨sb, ty, (d.step lm).1, rv', _, (d.step lm).2, ll, hoj, hI.step ho hB.mem.w32, ⟨hm, hown, by rw [hlen]; exact hB.len, hB.n1, hB.n2⟩, ⟨h0.1, by rw [hbase, hsize]; exact h0.2.1, hst, by have := h0.2.2.2; omega⟩, h1, h2, fun b hb => ?_, hr.tch hmv.tch (hfpN _ (Nat.le_refl _)), hb.trans (hmv.tch.below hb.size (fun k hk q => ?_))⟩, rv', hoj⟩
  · have hq1 : b ≠ mb := fun e => q1 (by rw [hb, e])
    have hq2 : b ≠ lb := fun e => q2 (by rw [hb, e])
    rcases hmv.rv b hb with q | q
    · exact h3 b q
    · exact ⟨by have := hr.lt; omega, hq1, hq2, by omega⟩
  · rcases Nat.lt_or_ge k W.heap.size with q' | q'
    · exact absurd q (hfpN k (Nat.le_of_lt q'))
    · exact q'
end

end Go.Proofs.YtgjcniokgdicpaaGreatDoor
