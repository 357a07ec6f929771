/- trace.Parse: a text's events. The reference's Parse: a text's events. -/
import Derived.Test.YtkcdmonmgnmojaaDoorAsmM2
import Derived.Test.YtkcdmonmgnmojaaDoorSeqBox
import Derived.Test.YtkcdmonmgnmojaaDoorAsmRd
import Derived.Test.YtkcdmonmgnmojaaDoorAsmM1
import Derived.Test.YtkcdmonmgnmojaaDoorAsmRR
namespace Go.Proofs.YtkcdmonmgnmojaaDoor
open Go.RowKit Go.Shelf
attribute [local go_sem] Oper.semAt_some

/-- So far nothing was wrong, and these are the events. -/
def Sofar (pre : List (List UInt8)) (outs : List Ins) : Prop := (∀ r, parseL (pre ++ r) [] = parseL r outs) ∧ outs.length = pre.length ∧ ∀ e ∈ outs, e.ok
theorem sofar_nil : Sofar [] [] := ⟨fun r => rfl, rfl, fun e h => by cases h⟩
theorem sofar_snoc {pre : List (List UInt8)} {outs : List Ins} {x : List UInt8} {e : Ins} (h : Sofar pre outs) (hs : Lib.hasSuffix x [10] = true) (hr : readI (Lib.trimSuffix x [10]) = some e) : Sofar (pre ++ [x]) (outs ++ [e]) := by
  refine ⟨fun r => ?_, by rw [List.length_append, List.length_append, h.2.1]; rfl, fun y hy => ?_⟩
  · rw [List.append_assoc, h.1]
    show parseL (x :: r) outs = _
    rw [parseL, if_pos hs, hr]
  · rcases List.mem_append.1 hy with hy | hy
    · exact h.2.2 y hy
    · rw [List.mem_singleton.1 hy]; exact (readI_some hr).2.2
theorem sofar_end {pre : List (List UInt8)} {outs : List Ins} {x : List UInt8} {l : List UInt8} (h : Sofar pre outs) (hok : pre ++ [x] <+: lns l) (hs : Lib.hasSuffix x [10] = false) : parseE l = ⟨[], outs.length + 1, 2⟩ := by
  obtain ⟨r, hr⟩ := hok
  unfold parseE
  rw [← hr, List.append_assoc, h.1]
  show parseL (x :: r) outs = _
  rw [parseL, hs, if_neg (by decide)]
theorem sofar_form {pre : List (List UInt8)} {outs : List Ins} {x : List UInt8} {l : List UInt8} (h : Sofar pre outs) (hok : pre ++ [x] <+: lns l) (hs : Lib.hasSuffix x [10] = true) (hr : readI (Lib.trimSuffix x [10]) = none) : parseE l = ⟨[], outs.length + 1, 4⟩ := by
  obtain ⟨r, hr'⟩ := hok
  unfold parseE
  rw [← hr', List.append_assoc, h.1]
  show parseL (x :: r) outs = _
  rw [parseL, if_pos hs, hr]
theorem sofar_done {outs : List Ins} {l : List UInt8} (h : Sofar (lns l) outs) : parseE l = ⟨outs, 0, 0⟩ := by
  have := h.1 []
  rw [List.append_nil] at this
  unfold parseE
  rw [this]
  rfl

theorem res_parse (tmps : Array Value) (w : World) {a b c : Addr} {A : Option Addr} {n cp : Nat} {x y : Int} (ha : tmps[2]?.getD undef = .pointer (some a)) (hb : tmps[3]?.getD undef = .pointer (some b)) (hc : tmps[4]?.getD undef = .pointer (some c)) (hv : w.cell? a = some (.slice A n cp)) (hx : w.cell? b = some (.int .i64 x)) (hy : w.cell? c = some (.int .i64 y)) :
    (results Tryd.f15 tmps).run Tryd.prog w = .ok (.tuple #[.slice A n cp, .int .i64 x, .int .i64 y]) w := by
  simp [results, ha, hb, hc, hv, hx, hy, go_sem]

/-- The three results in their boxes, and what else is kept. -/
def Wr (W : World) (L : Nat) (w : World) (v0 v1 v2 : Value) (X : World) : Prop :=
  Boxed X (w.heap.size) 33 v0 ∧ Boxed X (w.heap.size + 1) 3 v1 ∧ Boxed X (w.heap.size + 1 + 1) 34 v2 ∧ KeepsFrom L W X ∧ Below w.heap.size w X
section
variable {W X w : World} {L : Nat} {v0 v1 v2 u : Value}
theorem Wr.s0 (h : Wr W L w v0 v1 v2 X) : Wr W L w u v1 v2 (X.setCell ⟨w.heap.size, 0, none⟩ u) :=
  ⟨h.1.set u, h.2.1.other (by omega) u, h.2.2.1.other (by omega) u, h.2.2.2.1.trans ((KeepsOthers.setCell _ _ _).from _), h.2.2.2.2.setCell (p := ⟨w.heap.size, 0, none⟩) (Nat.le_refl _) _⟩
theorem Wr.s1 (h : Wr W L w v0 v1 v2 X) : Wr W L w v0 u v2 (X.setCell ⟨w.heap.size + 1, 0, none⟩ u) :=
  ⟨h.1.other (by omega) u, h.2.1.set u, h.2.2.1.other (by omega) u, h.2.2.2.1.trans ((KeepsOthers.setCell _ _ _).from _), h.2.2.2.2.setCell (p := ⟨w.heap.size + 1, 0, none⟩) (by simp) _⟩
theorem Wr.s2 (h : Wr W L w v0 v1 v2 X) : Wr W L w v0 v1 u (X.setCell ⟨w.heap.size + 1 + 1, 0, none⟩ u) :=
  ⟨h.1.other (by omega) u, h.2.1.other (by omega) u, h.2.2.1.set u, h.2.2.2.1.trans ((KeepsOthers.setCell _ _ _).from _), h.2.2.2.2.setCell (p := ⟨w.heap.size + 1 + 1, 0, none⟩) (by simp; omega) _⟩
theorem Wr.dr (h : Wr W L w v0 v1 v2 X) : Wr W L w v0 v1 v2 X.drew :=
  ⟨h.1, h.2.1, h.2.2.1, ⟨h.2.2.2.1.1, h.2.2.2.1.2⟩, h.2.2.2.2.drew⟩
theorem Wr.al {o : Obj} (h : Wr W L w v0 v1 v2 X) : Wr W L w v0 v1 v2 (X.alloc o) :=
  ⟨h.1.alloc o, h.2.1.alloc o, h.2.2.1.alloc o, h.2.2.2.1.trans (keeps_below ((Below.refl _ X).alloc (Nat.le_refl _) o)), h.2.2.2.2.alloc h.2.2.2.2.size o⟩
end

set_option maxRecDepth 100000 in
set_option maxHeartbeats 1000000 in
theorem parse_any (s : ByteArray) (w : World) (hs : s.size ≤ 65536) (hlines : ∀ x ∈ lns s.data.toList, x.length ≤ 3000) (hT : Tab w) (hM : Mx w) :
    Calls Tryd.prog 15 #[.string s] w fun e w' => ∃ v, e = .returned (.tuple #[v, .int .i64 (parseE s.data.toList).at_, .int .i64 (parseE s.data.toList).err]) ∧ OwnI w.heap.size w' v (parseE s.data.toList).evs ∧ Below w.heap.size w w' := by
  have tmx : decide ((65536 : Int) < (s.size : Int)) = false := by rw [decide_eq_false_iff_not]; omega
  have tmy : decide (65536 < s.size) = false := by rw [decide_eq_false_iff_not]; omega
  have tmz : ¬ (65536 < s.size) := by omega
  obtain ⟨l, hl⟩ : ∃ l, s.data.toList = l := ⟨_, rfl⟩
  have hlen : l.length = s.size := by rw [← hl]; exact Array.length_toList
  have hll := lns_len l
  have hls := fun W b1 => lines_st (6 - 1) (by omega) (w.heap.size + 1 + 1 + 1 + 1) s (by omega) W b1
  rw [hl] at hlines hls ⊢
  have hl' := Lib.hid hl
  clear hl
  refine (callsIn_wide (n := 6)).1 ?_
  refine callsIn_of_wp_marks Tryd.func15 rfl trivial ?_ rfl
  simp only [Tryd.ntmps15, List.size_toArray, List.length_cons, List.length_nil, Nat.reduceAdd, Nat.reduceSub, Array.replicate_succ, Array.replicate_zero, List.push_toArray, List.append_toArray, List.nil_append, List.cons_append]
  gi_wp2_with fail
  refine ⟨trivial, ?_⟩
  refine (callsIn_wide.2 (linesSeq_any s _)).mono ?_
  rintro e W0 ⟨B, hB, rfl, hW0⟩
  gi_wp2_with fail
  clear hB
  obtain ⟨w1, hw1⟩ : ∃ x, w.alloc (.cells #[.slice none 0 0] 33) = x := ⟨_, rfl⟩
  rw [hw1] at hW0
  have x1 := box_new hw1 rfl
  obtain ⟨w2, hw2⟩ : ∃ x, w1.alloc (.cells #[.int .i64 0] 3) = x := ⟨_, rfl⟩
  rw [hw2] at hW0
  have x2 := box_new hw2 x1.2
  obtain ⟨w3, hw3⟩ : ∃ x, w2.alloc (.cells #[.int .i64 0] 34) = x := ⟨_, rfl⟩
  rw [hw3] at hW0
  have x3 := box_new hw3 x2.2
  obtain ⟨w4, hw4⟩ : ∃ x, w3.alloc (.cells #[.slice none 0 0] 33) = x := ⟨_, rfl⟩
  rw [hw4] at hW0
  have x4 := box_new hw4 x3.2
  have hw5 := hW0
  have x5 := box_new hw5 x4.2
  have y1 := (box_al (box_al (box_al (box_al x1.1 hw2) hw3) hw4) hw5)
  have y2 := (box_al (box_al (box_al x2.1 hw3) hw4) hw5)
  have y3 := (box_al (box_al x3.1 hw4) hw5)
  have y4 := (box_al x4.1 hw5)
  have y5 := x5.1
  have hb0 : Below w.heap.size w W0 := below_al (below_al (below_al (below_al (below_al (Below.refl w.heap.size w) (Nat.le_refl _) hw1) (by rw [x1.2]; omega) hw2) (by rw [x2.2]; omega) hw3) (by rw [x3.2]; omega) hw4) (by rw [x4.2]; omega) hw5
  have hsz := x5.2
  clear x1 x2 x3 x4 x5 hw1 hw2 hw3 hw4 hw5 hW0
  obtain ⟨N, hN⟩ : ∃ N, N = w.heap.size + 1 + 1 + 1 + 1 + 1 := ⟨_, rfl⟩
  refine wpIn_rangeFunc_st rfl (by omega) (gf := 87) (lb := #[.pointer (some ⟨w.heap.size + 1 + 1 + 1 + 1, 0, none⟩)]) rfl trivial (enters_of Tryd.func87 (by kernel_rfl) rfl)
    (hls W0 y5) (by omega) (fun h k => Eq.trans k h) (fun W l o o' hl _ _ => World.putObj_heap_other (by omega)) (Below.refl _ _)
    (fun pre W => (Boxed W (w.heap.size) 33 (.slice none 0 0) ∧ Boxed W (w.heap.size + 1) 3 (.int .i64 0) ∧ Boxed W (w.heap.size + 1 + 1) 34 (.int .i64 0)) ∧
      (∃ outs, (∃ v, Boxed W (w.heap.size + 1 + 1 + 1) 33 v ∧ W.ownsRow N 24 5 v pre.length (insE.all outs)) ∧ Sofar pre outs) ∧ (Below w.heap.size w W ∧ N ≤ W.heap.size))
    (fun c pre W => (∃ at_ er : Int, (Boxed W (w.heap.size) 33 (.slice none 0 0) ∧ Boxed W (w.heap.size + 1) 3 (.int .i64 at_) ∧ Boxed W (w.heap.size + 1 + 1) 34 (.int .i64 er)) ∧ parseE l = ⟨[], at_, er⟩) ∧ Below w.heap.size w W ∧ c = .ret)
    ?_ ?_ ?_ ?_ ⟨⟨y1, y2, y3⟩, ⟨[], ⟨_, y4, World.ownsRow_nil _ _ _ _⟩, sofar_nil⟩, hb0, by omega⟩
    (fun x => { tmps := #[.string s, undef, .pointer (some ⟨w.heap.size, 0, none⟩), .pointer (some ⟨w.heap.size + 1, 0, none⟩), .pointer (some ⟨w.heap.size + 1 + 1, 0, none⟩), .pointer (some ⟨w.heap.size + 1 + 1 + 1, 0, none⟩), .string ⟨x.toArray⟩, undef, undef, undef, undef, .string s, .int .i64 s.size, .bool false, .string s, .func (.func 87) #[] #[.pointer (some ⟨w.heap.size + 1 + 1 + 1 + 1, 0, none⟩)], .string ⟨x.toArray⟩, undef, undef, undef, undef, undef, undef, undef, undef, undef, undef, undef, undef, undef, undef, undef, undef, undef, undef, undef, undef, undef, undef, undef, undef, undef], defers := [] })
    ?assign ?body ?done ?stop
  · exact fun pre => ((Calm.boxed (by omega) _ _).and ((Calm.boxed (by omega) _ _).and (Calm.boxed (by omega) _ _))).and ((Calm.ex fun outs => (Calm.ex fun v => (Calm.boxed (by omega) _ _).and (Calm.owns (by omega) _ _ _ _ _)).and (Calm.const _ _)).and ((Calm.below (by omega) (Nat.le_refl _)).and (Calm.size _ _)))
  · exact fun c pre => (Calm.ex fun a => Calm.ex fun b => ((Calm.boxed (by omega) _ _).and ((Calm.boxed (by omega) _ _).and (Calm.boxed (by omega) _ _))).and (Calm.const _ _)).and ((Calm.below (by omega) (Nat.le_refl _)).and (Calm.const _ _))
  · rintro pre W l o o' ⟨⟨r0, r1, r2⟩, ⟨outs, ⟨v, r3, hown⟩, hso⟩, hbw, hNW⟩ hl ho hc
    have hbp := below_putO (H := w.heap.size) o' (by omega) ho
    exact ⟨⟨box_putO o' r0 ho hc, box_putO o' r1 ho hc, box_putO o' r2 ho hc⟩, ⟨outs, ⟨v, box_putO o' r3 ho hc, ownsRow_putObj hown o' ho hc⟩, hso⟩, hbw.trans hbp, Nat.le_trans hNW hbp.size⟩
  · rintro c pre W l o o' ⟨⟨at_, er, ⟨r0, r1, r2⟩, hp⟩, hbw, hr⟩ hl ho hc
    have hbp := below_putO (H := w.heap.size) o' (by omega) ho
    exact ⟨⟨at_, er, ⟨box_putO o' r0 ho hc, box_putO o' r1 ho hc, box_putO o' r2 ho hc⟩, hp⟩, hbw.trans hbp, hr⟩
  case assign =>
    intro l x W K hK
    gi_wp2
    exact hK
  case body =>
    rintro lb pre x W ⟨⟨r0, r1, r2⟩, ⟨outs, ⟨v, r3, hown⟩, hso⟩, hbw, hNW⟩ hok
    have hx3 := hlines x (hok.subset (by simp))
    have hpl := hok.length_le
    rw [List.length_append, List.length_singleton] at hpl
    gi_wp2_with fail
    refine ⟨trivial, ?_⟩
    refine (CallsIn.inRound lb (callsIn_wide.2 (Tryd.strings_CutSuffix ⟨x.toArray⟩ ⟨#[10]⟩ _ (by simp [ByteArray.size]; omega)))).mono ?_
    rintro e1 W1 ⟨rfl, rfl⟩
    rw [show (⟨x.toArray⟩ : ByteArray).data.toList = x from rfl, show (⟨#[10]⟩ : ByteArray).data.toList = [10] from rfl]
    obtain ⟨A, c, rfl⟩ := owns_slice hown
    have g0 := r0.cell
    have g1 := r1.cell
    have g2 := r2.cell
    have g3 := r3.cell
    have f0 := r0.frozen
    have f1 := r1.frozen
    have f2 := r2.frozen
    have f3 := r3.frozen
    have hbwC := hbw
    have hwl : IntKind.i64.wrap ((pre.length : Int) + 1) = (pre.length : Int) + 1 := by simp [IntKind.wrap, IntKind.signed, IntKind.bits]; omega
    rcases hsf : Lib.hasSuffix x [10] with _ | _
    · have hpe := Lib.hid (sofar_end hso hok hsf)
      have hol := Lib.hid hso.2.1
      clear hsf hso hown hok
      gi_wp2_with fail
      have hbase : Wr W1 W0.heap.size w (.slice none 0 0) (.int .i64 0) (.int .i64 0) W1 := ⟨r0, r1, r2, ⟨Nat.le_refl _, fun _ _ _ h _ => h⟩, hbw⟩
      gi_region
      all_goals
        gi_wp2_with fail
        refine (fun h => ⟨h.2.2.2.1, ⟨(pre.length : Int) + 1, 2, ⟨h.1, h.2.1, h.2.2.1⟩, by rw [hpe.out, hol.out]⟩, h.2.2.2.2, rfl⟩ : Wr W1 W0.heap.size w (.slice none 0 0) (.int .i64 ((pre.length : Int) + 1)) (.int .i64 2) _ → _) ?_
        repeat (first | (with_reducible exact hbase) | (with_reducible apply Wr.dr) | (with_reducible apply Wr.s0) | (with_reducible apply Wr.s1) | (with_reducible apply Wr.s2))
    · have htl : (Lib.trimSuffix x [10]).length ≤ 3000 := by
        unfold Lib.trimSuffix
        rw [if_pos hsf, List.length_take]
        omega
      gi_wp2_with fail
      refine ⟨trivial, ?_⟩
      refine (CallsIn.inRound lb (callsIn_wide.2 (aread_any ⟨(Lib.trimSuffix x [10]).toArray⟩ _ (by simp [ByteArray.size]; omega) (hT.below hbw) (hM.below hbw)))).mono ?_
      rintro e2 W3 ⟨rfl, hb3⟩
      rw [show (⟨(Lib.trimSuffix x [10]).toArray⟩ : ByteArray).data.toList = Lib.trimSuffix x [10] from rfl]
      replace r0 : Boxed W3 _ _ _ := (hb3.block _ r0.lt).trans r0
      replace r1 : Boxed W3 _ _ _ := (hb3.block _ r1.lt).trans r1
      replace r2 : Boxed W3 _ _ _ := (hb3.block _ r2.lt).trans r2
      replace r3 : Boxed W3 _ _ _ := (hb3.block _ r3.lt).trans r3
      replace hown := owns_below hown hb3 (Nat.le_refl _)
      have hb3' := hbw.trans (hb3.mono hbw.size)
      have hs3 := hb3.size
      clear g0 g1 g2 g3 f0 f1 f2 f3
      have l0 := r0.lt
      have l1 := r1.lt
      have l2 := r2.lt
      have l3 := r3.lt
      have m0 : w.heap.size ≠ W3.heap.size := by omega
      have m1 : w.heap.size + 1 ≠ W3.heap.size := by omega
      have m2 : w.heap.size + 1 + 1 ≠ W3.heap.size := by omega
      have m3 : w.heap.size + 1 + 1 + 1 ≠ W3.heap.size := by omega
      have g0 := r0.cell
      have g1 := r1.cell
      have g2 := r2.cell
      have g3 := r3.cell
      have f0 := r0.frozen
      have f1 := r1.frozen
      have f2 := r2.frozen
      have f3 := r3.frozen
      rcases read_cases (Lib.trimSuffix x [10]) with ⟨ev, hr1, hr2, hr3, hr4⟩ | ⟨hr1, hr3, hrz⟩
      · rw [hr2, hr3]
        have hso' := Lib.hid (sofar_snoc hso hsf hr1)
        have hol := Lib.hid hso.2.1
        have hokE := Lib.hid (hr4.2)
        obtain ⟨t, k, p, a, b⟩ := ev
        unfold insV
        simp only
        have hcn := cells_new' (W3.alloc (.cells #[.int .i64 t, .int .i64 k, .int .i64 p, .int .i64 a, .int .u32 b] 24)) [.int .i64 t, .int .i64 k, .int .i64 p, .int .i64 a, .int .u32 b] #[.int .i64 t, .int .i64 k, .int .i64 p, .int .i64 a, .int .u32 b] 24 rfl
        rw [World.size_alloc] at hcn
        have hcn' := Lib.hid hcn
        have hown4 := hown.alloc (.cells #[.int .i64 t, .int .i64 k, .int .i64 p, .int .i64 a, .int .u32 b] 24)
        have r34 := r3.alloc (.cells #[.int .i64 t, .int .i64 k, .int .i64 p, .int .i64 a, .int .u32 b] 24)
        have hown' := Lib.hid hown4
        have hr34 := Lib.hid r34
        have hsz4 : (W3.alloc (.cells #[.int .i64 t, .int .i64 k, .int .i64 p, .int .i64 a, .int .u32 b] 24)).heap.size = W3.heap.size + 1 := World.size_alloc _ _
        have hb34 := Lib.hid ((Below.refl W3.heap.size W3).alloc (Nat.le_refl _) (.cells #[.int .i64 t, .int .i64 k, .int .i64 p, .int .i64 a, .int .u32 b] 24))
        clear hr1 hr2 hr3 hr4 hso hsf hown hown4 hcn r34
        obtain ⟨ht, i0, zz, hi, hz0, hsize, hby, hzs, hszz⟩ := insTy
        gi_wp2_with (gi_at_builtin; refine wpListIn_append_own _ rfl _ _ 33 rfl N 24 i0 zz 5 40 ht hi hz0 hsize hby hzs hszz _ _ _ rfl (hown'.out.alloc _) ⟨W3.heap.size + 1, 0, none⟩ 1 1 [.int .i64 t, .int .i64 k, .int .i64 p, .int .i64 a, .int .u32 b] rfl rfl hcn'.out (by simp [Value.oneCell']) (by unfold maxLen; omega) (by omega) (by simp; omega) ?_
                     intro v' w1 hown1 hgrow1 _
                     obtain ⟨A', c', rfl⟩ := owns_slice hown1
                     obtain ⟨q1, q2, q3, q4, q5, q6⟩ := app_box hr34.out hown'.out (by rw [hsz4]; omega) (by omega) hown1 hgrow1
                     have q1c := q1.cell
                     have q1f := q1.frozen)
        have hk : ∀ j, j < N → j ≠ w.heap.size + 1 + 1 + 1 → (w1.setCell ⟨w.heap.size + 1 + 1 + 1, 0, none⟩ (.slice A' (pre.length + 1) c')).heap[j]? = W3.heap[j]? := fun j h1 h2 => (q5 j h1 h2).trans (hb34.out.block j (by omega))
        refine ⟨((keeps_below hb3).trans (keeps_below hb34.out)).trans (q4.from _), (hk _ (by omega) (by omega)).trans (hb3.block _ (by omega)), ⟨(hk _ (by omega) (by omega)).trans r0, (hk _ (by omega) (by omega)).trans r1, (hk _ (by omega) (by omega)).trans r2⟩, ⟨outs ++ [⟨t, k, p, a, b⟩], ⟨_, q2, ?_⟩, hso'.out⟩, ?_, ?_⟩
        · rw [List.length_append, List.length_singleton, Enc.all_append]
          exact q3
        · exact (hb3'.trans (hb34.out.mono (by have := hb3'.size; omega))).trans (q6 _ (by omega))
        · exact Nat.le_trans (Nat.le_trans hNW hs3) (Nat.le_trans hb34.out.size (q6 w.heap.size (by omega)).size)
      · rw [hr3]
        have hpe := Lib.hid (sofar_form hso hok hsf hr1)
        have hol := Lib.hid hso.2.1
        clear hsf hso hown hok hr1 hr3
        obtain ⟨t, k, p, a, b⟩ := readX (Lib.trimSuffix x [10])
        unfold insV
        simp only
        gi_wp2_with fail
        have hbase : Wr W1 W0.heap.size w (.slice none 0 0) (.int .i64 0) (.int .i64 0) W3 := ⟨r0, r1, r2, keeps_below hb3, hb3'⟩
        gi_region
        all_goals
          gi_wp2_with fail
          refine (fun h => ⟨h.2.2.2.1, ⟨(pre.length : Int) + 1, 4, ⟨h.1, h.2.1, h.2.2.1⟩, by rw [hpe.out, hol.out]⟩, h.2.2.2.2, rfl⟩ : Wr W1 W0.heap.size w (.slice none 0 0) (.int .i64 ((pre.length : Int) + 1)) (.int .i64 4) _ → _) ?_
          repeat (first | (with_reducible exact hbase) | (with_reducible apply Wr.dr) | (with_reducible apply Wr.al) | (with_reducible apply Wr.s0) | (with_reducible apply Wr.s1) | (with_reducible apply Wr.s2))
  case done =>
    rintro D ys W hD rfl ⟨⟨r0, r1, r2⟩, ⟨outs, ⟨v, r3, hown⟩, hso⟩, hbw, hNW⟩ hK
    obtain ⟨A, c, rfl⟩ := owns_slice hown
    have g0 := r0.cell
    have g1 := r1.cell
    have g2 := r2.cell
    have g3 := r3.cell
    have f0 := r0.frozen
    have f1 := r1.frozen
    have f2 := r2.frozen
    have hpe := Lib.hid (sofar_done hso)
    have hok' := Lib.hid hso.2.2
    have hol := Lib.hid hso.2.1
    clear hso
    gi_wp2_with fail
    have k0 := ((r0.set (.slice A (lns l).length c)).other (B' := w.heap.size + 1) (by omega) (.int .i64 0)).other (B' := w.heap.size + 1 + 1) (by omega) (.int .i64 0)
    have k1 := ((r1.other (B' := w.heap.size) (by omega) (.slice A (lns l).length c)).set (.int .i64 0)).other (B' := w.heap.size + 1 + 1) (by omega) (.int .i64 0)
    have k2 := ((r2.other (B' := w.heap.size) (by omega) (.slice A (lns l).length c)).other (B' := w.heap.size + 1) (by omega) (.int .i64 0)).set (.int .i64 0)
    have hK1 := (Calm.at (B := w.heap.size) (l := D) (by omega) _).set _ (.slice A (lns l).length c) hK
    have hK2 := (Calm.at (B := w.heap.size + 1) (l := D) (by omega) _).set _ (.int .i64 0) hK1
    have hK' := (Calm.at (B := w.heap.size + 1 + 1) (l := D) (by omega) _).set _ (.int .i64 0) hK2
    have ho1 := (Calm.owns (B := w.heap.size) (base := N) (by omega) _ _ _ _ _).set _ (.slice A (lns l).length c) hown
    have ho2 := (Calm.owns (B := w.heap.size + 1) (base := N) (by omega) _ _ _ _ _).set _ (.int .i64 0) ho1
    have ho3 := (Calm.owns (B := w.heap.size + 1 + 1) (base := N) (by omega) _ _ _ _ _).set _ (.int .i64 0) ho2
    have hown' := ownsRow_putObj ho3 (.deferred none) hK' rfl
    have hbp := below_putO (H := w.heap.size) (.deferred none) (by omega) hK'
    refine ⟨by simp, .inl ⟨_, _, rfl, run_takeDeferred hK', ?_⟩⟩
    refine ⟨_, res_parse _ _ rfl rfl rfl (box_putO (.deferred none) k0 hK' rfl).cell (box_putO (.deferred none) k1 hK' rfl).cell (box_putO (.deferred none) k2 hK' rfl).cell, .slice A (lns l).length c, (by rw [hpe.out]), (by
      rw [hpe.out]
      refine ⟨Own.mono ?_ (show w.heap.size ≤ N by omega), hok'.out⟩
      unfold Own
      rw [hol.out]
      exact hown'), (((hbw.setCell (p := ⟨w.heap.size, 0, none⟩) (Nat.le_refl _) _).setCell (p := ⟨w.heap.size + 1, 0, none⟩) (by simp) _).setCell (p := ⟨w.heap.size + 1 + 1, 0, none⟩) (by simp; omega) _).trans hbp⟩
  case stop =>
    rintro D c pre W hD _ ⟨⟨at_, er, ⟨r0, r1, r2⟩, hp⟩, hbw, rfl⟩ hK
    have g0 := r0.cell
    have g1 := r1.cell
    have g2 := r2.cell
    have hp' := Lib.hid hp
    clear hp
    have hbp := below_putO (H := w.heap.size) (.deferred none) (by omega) hK
    gi_wp2_with fail
    refine ⟨by simp, .inl ⟨_, _, rfl, run_takeDeferred hK, ?_⟩⟩
    exact ⟨_, res_parse _ _ rfl rfl rfl (box_putO (.deferred none) r0 hK rfl).cell (box_putO (.deferred none) r1 hK rfl).cell (box_putO (.deferred none) r2 hK rfl).cell, .slice none 0 0, (by rw [hp'.out]), (by rw [hp'.out]; exact OwnI.nil _ _), hbw.trans hbp⟩

end Go.Proofs.YtkcdmonmgnmojaaDoor

namespace Go.Proofs.YtkcdmonmgnmojaaDoor
open Go.RowKit

theorem parseR_some {x : List UInt8} {r : List (List UInt8)} {outs : List Ins} {e : Ins} (hr : r ≠ []) (h : readI x = some e) : parseR (x :: r) outs = parseR r (outs ++ [e]) := by
  rw [parseR, if_neg hr, h]
theorem parseR_none {x : List UInt8} {r : List (List UInt8)} {outs : List Ins} (hr : r ≠ []) (h : readI x = none) : parseR (x :: r) outs = ⟨[], outs.length + 1, 4⟩ := by
  rw [parseR, if_neg hr, h]
theorem drop_cons {α : Type} {q : List α} {k : Nat} {x : α} (h : q[k]? = some x) : q.drop k = x :: q.drop (k + 1) := by
  have hk := get_lt h
  rw [List.drop_eq_getElem_cons hk]
  have : q[k] = x := by rw [List.getElem?_eq_getElem hk] at h; exact Option.some.inj h
  rw [this]

set_option maxRecDepth 100000 in
set_option maxHeartbeats 2000000 in
theorem aparse9_any (s : ByteArray) (w : World) (hs : s.size ≤ 100000) (hlines : ∀ x ∈ pcs 10 s.data.toList, x.length ≤ 3000) :
    Calls Tryd.prog 18 #[.string s] w fun e w' => ∃ v, e = .returned (.tuple #[v, .int .i64 (parseE s.data.toList).at_, .int .i64 (parseE s.data.toList).err]) ∧ OwnI w.heap.size w' v (parseE s.data.toList).evs ∧ Below w.heap.size w w' := by
  obtain ⟨l, hl⟩ : ∃ l, s.data.toList = l := ⟨_, rfl⟩
  have hlen : l.length = s.size := by rw [← hl]; exact Array.length_toList
  have hsp := rsplit_cells s 10 10 w rfl (by omega)
  rw [hl] at hlines hsp ⊢
  rw [← parseR_E]
  have hne := pcs_ne 10 l
  have hpl := pcs_len 10 l
  obtain ⟨q, hq⟩ : ∃ q, pcs 10 l = q := ⟨_, rfl⟩
  rw [hq] at hlines hsp hne hpl ⊢
  have hn1 : 1 ≤ q.length := List.length_pos_iff.2 hne
  have hn2 : q.length ≤ 100001 := by omega
  have ew : IntKind.i64.wrap ((q.length : Int) - 1) = (q.length : Int) - 1 := by simp [IntKind.wrap, IntKind.signed, IntKind.bits]; omega
  have hsp' := Lib.hid hsp
  clear hsp hl hlen hpl hne hq
  go_enter Tryd.func18, Tryd.ntmps18
  go_wp2_with fail
  refine hsp'.out.mono ?_
  rintro e w1 ⟨b, cp, rfl, hc, ⟨hcp, _⟩, hb1⟩
  have hc1 : ∀ (W : World), Below w1.heap.size w1 W → ∀ (j : Nat) x, q[j]? = some x → W.cell? ⟨b, j, none⟩ = some (.string ⟨x.toArray⟩) := fun W hW j x hx => (hW.cell (p := ⟨b, j, none⟩) (cell_lt (hc j x hx))).trans (hc j x hx)
  have hc' := Lib.hid hc1
  clear hc hc1
  go_wp2_with fail
  go_loopw [6, 7] (fun v j wr => ∃ (k : Nat) (outs : List Ins), k + 1 ≤ q.length ∧ j = .int .i64 k ∧ OwnI w1.heap.size wr v outs ∧ outs.length = k ∧ parseR q [] = parseR (q.drop k) outs ∧ Below w1.heap.size w1 wr) (fun _ j _ => q.length - (intOf j).toNat)
  case atStart => exact ⟨0, [], hn1, rfl, OwnI.nil _ _, rfl, by rw [List.drop_zero], Below.refl _ _⟩
  case round =>
    obtain ⟨k, outs, hk, rfl, hown, hol, hpr, hb⟩ := hrel
    have hsz := hb.size
    obtain ⟨x, hx⟩ := get_some (show k < q.length by omega)
    have hcx := hc'.out _ hb k x hx
    have hx3 := hlines x (List.mem_of_getElem? hx)
    have hdc := Lib.hid (drop_cons hx)
    have hx' := Lib.hid hx
    have hpr' := Lib.hid hpr
    have hol' := Lib.hid hol
    clear hx hpr
    have k0 : (0 : Int) ≤ (k : Int) := by omega
    have k1 : (k : Int) < (q.length : Int) := by omega
    by_cases hlt : k + 1 < q.length
    · have t1 : decide ((k : Int) < (q.length : Int) - 1) = true := by rw [decide_eq_true_iff]; omega
      have hdn : q.drop (k + 1) ≠ [] := fun e => by
        have := congrArg List.length e
        rw [List.length_drop, List.length_nil] at this
        omega
      have hrr := aread9_any ⟨x.toArray⟩ wr (by simp [ByteArray.size]; omega)
      rw [show (⟨x.toArray⟩ : ByteArray).data.toList = x from rfl] at hrr
      rcases read_cases x with ⟨ev, hr1, hr2, hr3, hr4⟩ | ⟨hr1, hr3, hrz⟩
      · rw [hr2, hr3] at hrr
        have hst := Lib.hid (parseR_some (outs := outs) hdn hr1)
        have hokE := Lib.hid (hr4.2)
        obtain ⟨t, kk, p, a, bb⟩ := ev
        unfold insV at hrr
        simp only at hrr
        have hrr' := Lib.hid hrr
        have hownE := Lib.hid hown
        clear hr1 hr2 hr3 hr4 hrr hown hdn
        go_wp2_with fail
        refine hrr'.out.mono ?_
        rintro e2 w2 ⟨rfl, hb2⟩
        have hown2 := hownE.out.below hb2 (Nat.le_refl _)
        have hB2 := hb.trans (hb2.mono hsz)
        have hown3 := Lib.hid (hown2.1.alloc (.cells #[.int .i64 t, .int .i64 kk, .int .i64 p, .int .i64 a, .int .u32 bb] 24))
        have hown2' := Lib.hid hown2
        have hsz2 := hB2.size
        have hB3 := Lib.hid (hB2.alloc hsz2 (.cells #[.int .i64 t, .int .i64 kk, .int .i64 p, .int .i64 a, .int .u32 bb] 24))
        clear hown2
        go_wp2_with (first
          | (at_builtin; refine wpList_app1 rfl _ _ 33 rfl insTy w1.heap.size hown3.out rfl (by rw [World.size_alloc]; rfl) rfl rfl (by unfold maxLen; omega) (by omega) (by simp; omega) ?_; intro v' w3 hown4 hbel4 _)
          | fail)
        go_roundw
        case rel => exact ⟨k + 1, outs ++ [⟨t, kk, p, a, bb⟩], by omega, by go_num, OwnI.snoc (e := ⟨t, kk, p, a, bb⟩) hown2'.out hokE.out hown4, by rw [List.length_append, hol'.out]; rfl, by rw [hpr'.out, hdc.out, hst.out], hB3.out.trans hbel4⟩
        case measure => simp [intOf]; omega
      · rw [hr3] at hrr
        have hst := Lib.hid (parseR_none (outs := outs) hdn hr1)
        obtain ⟨rx, hrx⟩ : ∃ r, readX x = r := ⟨_, rfl⟩
        rw [hrx] at hrr
        obtain ⟨t, kk, p, a, bb⟩ := rx
        unfold insV at hrr
        simp only at hrr
        have hrr' := Lib.hid hrr
        have ek : IntKind.i64.wrap ((k : Int) + 1) = (k : Int) + 1 := by simp [IntKind.wrap, IntKind.signed, IntKind.bits]; omega
        clear hr1 hr3 hrr hown hdn hrx
        go_wp2_with fail
        refine hrr'.out.mono ?_
        rintro e2 w2 ⟨rfl, hb2⟩
        have hB2 := hb1.trans ((hb.trans (hb2.mono hsz)).mono hb1.size)
        have hB3 := hB2.alloc hB2.size (.cells #[.int .i64 t, .int .i64 kk, .int .i64 p, .int .i64 a, .int .u32 bb] 24)
        go_wp2_with fail
        refine bodyPost_ret (results_tmp3 rfl _ _ _) rfl ?_
        exact ⟨.slice none 0 0, by rw [hpr'.out, hdc.out, hst.out, hol'.out]; rfl, by rw [hpr'.out, hdc.out, hst.out]; exact OwnI.nil _ _, hB3⟩
    · have hkn : k + 1 = q.length := by omega
      have t1 : decide ((k : Int) < (q.length : Int) - 1) = false := by rw [decide_eq_false_iff_not]; omega
      have ek : (q.length : Int) - 1 = (k : Int) := by omega
      have hd1 : q.drop (k + 1) = [] := List.drop_eq_nil_of_le (by omega)
      by_cases hxe : x = []
      · have hst := Lib.hid (show parseR q [] = ⟨outs, 0, 0⟩ by rw [hpr'.out, hdc.out, hd1, parseR, if_pos rfl, if_pos hxe])
        subst hxe
        have hownE := Lib.hid hown
        clear hown hd1
        rw [ek] at ew t1
        go_wp2_with fail
        obtain ⟨A2, c2, rfl, _, _⟩ := hownE.out.sl
        refine bodyPost_ret (results_tmp3 rfl _ _ _) rfl ?_
        exact ⟨_, by rw [hst.out]; rfl, by rw [hst.out]; exact ⟨hownE.out.1.mono hb1.size, hownE.out.2⟩, hb1.trans (hb.mono hb1.size)⟩
      · have hst := Lib.hid (show parseR q [] = ⟨[], outs.length + 1, 2⟩ by rw [hpr'.out, hdc.out, hd1, parseR, if_pos rfl, if_neg hxe])
        obtain ⟨c0, xt, rfl⟩ : ∃ c t, x = c :: t := by
          cases x with
          | nil => exact (hxe rfl).elim
          | cons c t => exact ⟨c, t, rfl⟩
        clear hown hd1 hxe
        rw [ek] at ew t1
        go_wp2_with fail
        have hql : (q.length : Int) = (outs.length : Int) + 1 := by have := hol'.out; omega
        refine bodyPost_ret (results_tmp3 rfl _ _ _) rfl ?_
        exact ⟨.slice none 0 0, by rw [hst.out, hql]; rfl, by rw [hst.out]; exact OwnI.nil _ _, hb1.trans (hb.mono hb1.size)⟩

end Go.Proofs.YtkcdmonmgnmojaaDoor
