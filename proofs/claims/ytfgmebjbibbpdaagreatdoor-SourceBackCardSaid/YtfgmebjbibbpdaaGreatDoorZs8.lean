/- Texts joined: asm.number: the number of a word, behind its letter. asm.guess: the instruction that a line may be of. asm.guess: the instruction that a line may be of, kind for kind. asm.guess: the instruction that a line may be of, kind for kind. asm.guess: the instruction that a line may be of, kind for kind. asm.guess: the instruction that a line may be of, kind for kind. asm.guess: the instruction that a line may be of. asm.Read: the instruction of a line. -/
import Derived.Test.YtfgmebjbibbpdaaGreatDoorZs1
import Derived.Test.YtfgmebjbibbpdaaGreatDoorZs3
import Derived.Test.YtfgmebjbibbpdaaGreatDoorShelf
import Derived.Shelf.Strings.SlTrimAscii
import Derived.Test.YtfgmebjbibbpdaaGreatDoorZs6
import Derived.Deep.RegionHeld3
import Derived.Test.YtfgmebjbibbpdaaGreatDoorZs2
namespace Go.Proofs.YtfgmebjbibbpdaaGreatDoor
open Go.RowKit

theorem trim_ro (l : List UInt8) : Lib.trimLeftS l [114, 111] = trimRO l := by
  unfold Lib.trimLeftS trimRO
  congr 1
  funext x
  simp only [List.contains_cons, List.contains_nil, Bool.or_false]
theorem trim_any (s : ByteArray) (w : World) : Calls Tryz.prog 98 #[.string s, .string ⟨#[114, 111]⟩] w fun e w' => e = .returned (.string ⟨(trimRO s.data.toList).toArray⟩) ∧ Below w.heap.size w w' := by
  have h := Any.strings_TrimLeft_laid Tryz.lays161 (by kernel_rfl) s ⟨#[114, 111]⟩ w (by decide) (fun j b h => by
    have := List.mem_of_getElem? h
    simp at this
    rcases this with rfl | rfl <;> decide)
  rw [show (⟨#[114, 111]⟩ : ByteArray).data.toList = [114, 111] from rfl, trim_ro] at h
  exact h

theorem pcs_one {l p : List UInt8} (h : pcs 32 l = [p]) : p = l := by
  have := join_pcs l
  rw [h] at this
  simpa [Lib.join] using this
theorem read_num (l : List UInt8) : (readB 1 l = true ∧ l ≠ [] ∧ readL l = [numI l] ∧ 0 ≤ numI l) ∨ (readB 1 l = true ∧ readL l = [] ∧ numI l = 0) ∨ (readB 1 l = false ∧ numI l = 0) := by
  by_cases h0 : l = []
  · subst h0
    exact .inr (.inl ⟨rfl, rfl, rfl⟩)
  · have hn : pcs 32 l ≠ [] := pcs_ne 32 l
    rcases hp : pcs 32 l with _ | ⟨p, r⟩
    · exact absurd hp hn
    · cases r with
      | nil =>
        have hpl := pcs_one hp
        subst hpl
        have hb : readB 1 p = numB p := by unfold readB; rw [if_neg h0, hp]; simp
        have hl : readL p = [(dv p : Int)] := by unfold readL; rw [if_neg h0, hp]; rfl
        unfold numI
        rcases hq : numB p with _ | _
        · exact .inr (.inr ⟨by rw [hb, hq], by simp⟩)
        · exact .inl ⟨by rw [hb, hq], h0, by rw [hl]; simp, by simp⟩
      | cons q r =>
        have hb : readB 1 l = false := by
          unfold readB
          rw [if_neg h0, hp]
          simp
          intros
          omega
        refine .inr (.inr ⟨hb, ?_⟩)
        unfold numI
        rw [if_neg]
        intro hq
        have hall : l.all digB = true := by unfold numB at hq; simp only [Bool.and_eq_true] at hq; exact hq.2.1
        have : pcs 32 l = [l] := pcs_none 32 l (fun k hk => by
          have := List.all_eq_true.1 hall 32 (List.mem_of_getElem? hk)
          simp [digB] at this)
        rw [hp] at this
        simp at this

set_option maxHeartbeats 1000000 in
theorem anumber_any (s : ByteArray) (w : World) (hs : s.size ≤ 1000000) : Calls Tryz.prog 87 #[.string s] w fun e w' => e = .returned (.int .u32 (numI (trimRO s.data.toList))) ∧ Below w.heap.size w w' := by
  have hlen : (trimRO s.data.toList).length ≤ s.size := by
    have h1 : (trimRO s.data.toList).length ≤ s.data.toList.length := (List.dropWhile_sublist _).length_le
    have h2 : s.data.toList.length = s.size := Array.length_toList
    omega
  have ht := fun W => trim_any s W
  obtain ⟨l, hl⟩ : ∃ l, trimRO s.data.toList = l := ⟨_, rfl⟩
  rw [hl] at ht hlen ⊢
  have hr := fun W => read_any ⟨l.toArray⟩ 1 W (by simp [ByteArray.size]; omega) (by decide) (by decide)
  simp only at hr
  have ht' := Lib.hid ht
  clear ht hl
  rcases read_num l with ⟨h1, h2, h3, h4⟩ | ⟨h1, h3, h4⟩ | ⟨h1, h4⟩
  · rw [h1, h3] at hr
    have hr' := Lib.hid hr
    obtain ⟨z, hz⟩ : ∃ z, numI l = z := ⟨_, rfl⟩
    rw [hz] at hr' h4 ⊢
    clear hr h1 h2 h3 hz
    go_enter Tryz.func87, Tryz.ntmps87
    go_wp2_with fail
    refine (ht'.out _).mono ?_
    rintro e w1 ⟨rfl, hb1⟩
    go_wp2_with fail
    refine (hr'.out _).mono ?_
    rintro e w2 ⟨v, rfl, hv, _, hb2⟩
    obtain ⟨A, c, rfl, hc, hws⟩ := (hv trivial).ws
    obtain ⟨_, b, off, rfl, hlt, hcell⟩ := hws.get (k := 0) (z := z) rfl
    have hB := hb1.trans (hb2.mono hb1.size)
    clear hv hws
    rw [Nat.add_zero] at hcell
    go_wp2_with fail
    go_ret
    exact ⟨rfl, hB⟩
  · rw [h1, h3] at hr
    have hr' := Lib.hid hr
    rw [h4]
    clear hr h1 h3 h4
    go_enter Tryz.func87, Tryz.ntmps87
    go_wp2_with fail
    refine (ht'.out _).mono ?_
    rintro e w1 ⟨rfl, hb1⟩
    go_wp2_with fail
    refine (hr'.out _).mono ?_
    rintro e w2 ⟨v, rfl, hv, _, hb2⟩
    obtain ⟨A, c, rfl, hc, hws⟩ := (hv trivial).ws
    have hB := hb1.trans (hb2.mono hb1.size)
    clear hv hws
    go_wp2_with fail
    go_ret
    exact ⟨rfl, hB⟩
  · rw [h1] at hr
    have hr' := Lib.hid hr
    rw [h4]
    clear hr h1 h4
    go_enter Tryz.func87, Tryz.ntmps87
    go_wp2_with fail
    refine (ht'.out _).mono ?_
    rintro e w1 ⟨rfl, hb1⟩
    go_wp2_with fail
    refine (hr'.out _).mono ?_
    rintro e w2 ⟨v, rfl, _, hv, hb2⟩
    obtain rfl := hv trivial
    have hB := hb1.trans (hb2.mono hb1.size)
    go_wp2_with fail
    go_ret
    exact ⟨rfl, hB⟩

end Go.Proofs.YtfgmebjbibbpdaaGreatDoor

namespace Go.Proofs.YtfgmebjbibbpdaaGreatDoor
open Go.RowKit

theorem setC_size (W : World) (a : Addr) (v : Value) : (W.setCell a v).heap.size = W.heap.size := by simp [World.setCell]
def nextV (nl ni : Nat) : Value := .func (.func 86) #[] #[.pointer (some ⟨ni + 1, 0, none⟩), .pointer (some ⟨nl, 0, none⟩)]
structure GSt (w0 : World) (nl ni : Nat) (ps : List (List UInt8)) (k : Nat) (e : Ins) (W : World) : Prop where
  hb : Below w0.heap.size w0 W
  hr : InBox W w0.heap.size Ins.zero
  hl : Boxed W nl 70 (.slice (some ⟨w0.heap.size + 1, 0, none⟩) ps.length ps.length)
  hs : ∀ (j : Nat) x, ps[j]? = some x → W.cell? ⟨w0.heap.size + 1, j, none⟩ = some (.string ⟨x.toArray⟩)
  hi : InBox W ni e
  ha : Boxed W (ni + 1) 3 (.int .i64 (k : Int))
  hx : Boxed W (ni + 1 + 1) 137 (nextV nl ni)
  hn : w0.heap.size + 1 < nl ∧ nl < ni
section
variable {w0 : World} {nl ni k : Nat} {ps : List (List UInt8)} {e : Ins} {W W' : World}
theorem GSt.lt (h : GSt w0 nl ni ps k e W) : ni + 1 + 1 < W.heap.size := h.hx.lt
theorem GSt.blocks (h : GSt w0 nl ni ps k e W) (hB : Below w0.heap.size w0 W') (hk : ∀ j, j ≤ ni + 1 + 1 → W'.heap[j]? = W.heap[j]?) : GSt w0 nl ni ps k e W' :=
  have hn := h.hn
  ⟨hB, (hk _ (by omega)).trans h.hr, (hk _ (by omega)).trans h.hl, fun j x hx => (World.cell?_of_block (a := ⟨w0.heap.size + 1, j, none⟩) (hk _ (by simp only; omega))).trans (h.hs j x hx), (hk _ (by omega)).trans h.hi, (hk _ (by omega)).trans h.ha, (hk _ (by omega)).trans h.hx, hn⟩
theorem GSt.below (h : GSt w0 nl ni ps k e W) (hb : Below W.heap.size W W') : GSt w0 nl ni ps k e W' :=
  h.blocks (h.hb.trans (hb.mono h.hb.size)) fun j hj => hb.block j (by have := h.lt; omega)
theorem GSt.drew (h : GSt w0 nl ni ps k e W) : GSt w0 nl ni ps k e W.drew := h.below (Below.refl _ W).drew
theorem GSt.step (h : GSt w0 nl ni ps k e W) (m : Nat) : GSt w0 nl ni ps m e (W.setCell ⟨ni + 1, 0, none⟩ (.int .i64 (m : Int))) :=
  have hn := h.hn
  have hk : ∀ j, j ≠ ni + 1 → (W.setCell ⟨ni + 1, 0, none⟩ (.int .i64 (m : Int))).heap[j]? = W.heap[j]? := fun j hj => Below.heap_setCell _ _ _ _ hj
  ⟨h.hb.setCell (p := ⟨ni + 1, 0, none⟩) (by simp only; omega) _, (hk _ (by omega)).trans h.hr, (hk _ (by omega)).trans h.hl, fun j x hx => (World.cell?_of_block (a := ⟨w0.heap.size + 1, j, none⟩) (hk _ (by simp only; omega))).trans (h.hs j x hx), (hk _ (by omega)).trans h.hi, h.ha.set _, (hk _ (by omega)).trans h.hx, hn⟩
theorem GSt.next (h : GSt w0 nl ni ps k e W) {m : Nat} (hb : Below W.heap.size (W.setCell ⟨ni + 1, 0, none⟩ (.int .i64 (m : Int))) W') : GSt w0 nl ni ps m e W' :=
  (h.step m).below (by rw [setC_size]; exact hb)
theorem GSt.put (h : GSt w0 nl ni ps k e W) {e' : Ins} (j : Nat) (v : Value) (hz : InBox (W.setCell ⟨ni, j, none⟩ v) ni e') : GSt w0 nl ni ps k e' (W.setCell ⟨ni, j, none⟩ v) :=
  have hn := h.hn
  have hk : ∀ i, i ≠ ni → (W.setCell ⟨ni, j, none⟩ v).heap[i]? = W.heap[i]? := fun i hi => Below.heap_setCell _ _ _ _ hi
  ⟨h.hb.setCell (p := ⟨ni, j, none⟩) (by simp only; omega) _, (hk _ (by omega)).trans h.hr, (hk _ (by omega)).trans h.hl, fun i x hx => (World.cell?_of_block (a := ⟨w0.heap.size + 1, i, none⟩) (hk _ (by simp only; omega))).trans (h.hs i x hx), hz, (hk _ (by omega)).trans h.ha, (hk _ (by omega)).trans h.hx, hn⟩
theorem GSt.putA (h : GSt w0 nl ni ps k e W) (v : Int) : GSt w0 nl ni ps k ⟨e.op, v, e.b, e.c, e.n⟩ (W.setCell ⟨ni, 1, none⟩ (.int .i64 v)) := h.put 1 _ (h.hi.setA v)
theorem GSt.putB (h : GSt w0 nl ni ps k e W) (v : Int) : GSt w0 nl ni ps k ⟨e.op, e.a, v, e.c, e.n⟩ (W.setCell ⟨ni, 2, none⟩ (.int .i64 v)) := h.put 2 _ (h.hi.setB v)
theorem GSt.putC (h : GSt w0 nl ni ps k e W) (v : Int) : GSt w0 nl ni ps k ⟨e.op, e.a, e.b, v, e.n⟩ (W.setCell ⟨ni, 3, none⟩ (.int .i64 v)) := h.put 3 _ (h.hi.setC v)
theorem GSt.putN (h : GSt w0 nl ni ps k e W) (v : Int) : GSt w0 nl ni ps k ⟨e.op, e.a, e.b, e.c, v⟩ (W.setCell ⟨ni, 4, none⟩ (.int .u32 v)) := h.put 4 _ (h.hi.setN v)
end

set_option maxHeartbeats 1000000 in
theorem next_any {w0 : World} {nl ni k : Nat} {ps : List (List UInt8)} {e : Ins} {W : World} (h : GSt w0 nl ni ps k e W) (hk : k ≤ 10) (hp : ∀ p ∈ ps, p.length ≤ 1000000) :
    Calls Tryz.prog 86 #[.pointer (some ⟨ni + 1, 0, none⟩), .pointer (some ⟨nl, 0, none⟩)] W fun r W' => r = .returned (.int .u32 (wordAt ps (k + 1))) ∧ Below W.heap.size (W.setCell ⟨ni + 1, 0, none⟩ (.int .i64 ((k + 1 : Nat) : Int))) W' := by
  have hn := h.hn
  have g1 := h.ha.cell
  have f1 := h.ha.frozen
  have hG := h.step (k + 1)
  have g2 := hG.ha.cell
  have g3 := hG.hl.cell
  have g4 := hG.hs
  have hwr : IntKind.i64.wrap ((k : Int) + 1) = ((k + 1 : Nat) : Int) := by simp [IntKind.wrap, IntKind.signed, IntKind.bits]; omega
  have hsz : (W.setCell ⟨ni + 1, 0, none⟩ (.int .i64 ((k + 1 : Nat) : Int))).heap.size = W.heap.size := setC_size _ _ _
  obtain ⟨X, hX⟩ : ∃ X, W.setCell ⟨ni + 1, 0, none⟩ (.int .i64 ((k + 1 : Nat) : Int)) = X := ⟨_, rfl⟩
  rw [hX] at g2 g3 g4 hsz ⊢
  have hX' : W.setCell ⟨ni + 1, 0, none⟩ (.int .i64 (k + 1 : Int)) = X := by rw [← hX]; rfl
  have g2' : X.cell? ⟨ni + 1, 0, none⟩ = some (.int .i64 ((k : Int) + 1)) := g2
  clear hG h
  unfold wordAt
  by_cases hlt : k + 1 < ps.length
  · rw [if_pos hlt]
    obtain ⟨p, hp'⟩ := get_some hlt
    have hpl := hp p (List.mem_of_getElem? hp')
    have g5 := g4 (k + 1) p hp'
    rw [List.getD_eq_getElem?_getD, hp']
    have hnum := anumber_any ⟨p.toArray⟩ X (by simp [ByteArray.size]; omega)
    rw [show (⟨p.toArray⟩ : ByteArray).data.toList = p from rfl] at hnum
    have hnum' := Lib.hid hnum
    have t1 : decide (((k + 1 : Nat) : Int) < (ps.length : Int)) = true := by rw [decide_eq_true_iff]; omega
    have t2 : decide (((k : Int) + 1) < (ps.length : Int)) = true := by rw [decide_eq_true_iff]; omega
    have k0 : (0 : Int) ≤ (k : Int) + 1 := by omega
    have k1 : (k : Int) + 1 < (ps.length : Int) := by omega
    have kt : ((k : Int) + 1).toNat = k + 1 := by omega
    clear hp g4 hnum hp' hX
    go_enter Tryz.func86, Tryz.ntmps86
    go_wp2_with fail
    refine hnum'.out.mono ?_
    rintro e w1 ⟨rfl, hb⟩
    go_wp2_with fail
    go_ret
    exact ⟨rfl, by rw [← hsz]; exact hb⟩
  · rw [if_neg hlt]
    have t1 : decide (((k + 1 : Nat) : Int) < (ps.length : Int)) = false := by rw [decide_eq_false_iff_not]; omega
    have t2 : decide (((k : Int) + 1) < (ps.length : Int)) = false := by rw [decide_eq_false_iff_not]; omega
    clear hp g4 hX
    go_enter Tryz.func86, Tryz.ntmps86
    go_wp2_with fail
    go_ret
    exact ⟨rfl, Below.refl _ _⟩
theorem small_any {w0 : World} {nl ni k : Nat} {ps : List (List UInt8)} {e : Ins} {W : World} (h : GSt w0 nl ni ps k e W) (hk : k ≤ 10) (hp : ∀ p ∈ ps, p.length ≤ 1000000) :
    Calls Tryz.prog 88 #[.pointer (some ⟨ni + 1 + 1, 0, none⟩)] W fun r W' => r = .returned (.int .i64 (wordAt ps (k + 1))) ∧ Below W.heap.size (W.setCell ⟨ni + 1, 0, none⟩ (.int .i64 ((k + 1 : Nat) : Int))) W' := by
  have g1 := h.hx.cell
  have hnx := Lib.hid (next_any h hk hp)
  have hbd := wordAt_bd ps (k + 1)
  have hwr : IntKind.i64.wrap (wordAt ps (k + 1)) = wordAt ps (k + 1) := by simp [IntKind.wrap, IntKind.signed, IntKind.bits]; omega
  unfold nextV at g1
  clear h hp
  go_enter Tryz.func88, Tryz.ntmps88
  go_wp2_with fail
  refine hnx.out.mono ?_
  rintro e w1 ⟨rfl, hb⟩
  go_wp2_with fail
  go_ret
  exact ⟨rfl, hb⟩

theorem InBox.set5 {W : World} {B : Nat} {e : Ins} (h : InBox W B e) (e' : Ins) : InBox (((((W.setCell ⟨B, 0, none⟩ (.int .i64 e'.op)).setCell ⟨B, 1, none⟩ (.int .i64 e'.a)).setCell ⟨B, 2, none⟩ (.int .i64 e'.b)).setCell ⟨B, 3, none⟩ (.int .i64 e'.c)).setCell ⟨B, 4, none⟩ (.int .u32 e'.n)) B e' := ((((h.setO e'.op).setA e'.a).setB e'.b).setC e'.c).setN e'.n
theorem below_set5 {N : Nat} {W W' : World} (h : Below N W W') (B : Nat) (hB : N ≤ B) (v0 v1 v2 v3 v4 : Value) : Below N W (((((W'.setCell ⟨B, 0, none⟩ v0).setCell ⟨B, 1, none⟩ v1).setCell ⟨B, 2, none⟩ v2).setCell ⟨B, 3, none⟩ v3).setCell ⟨B, 4, none⟩ v4) :=
  below_set (below_set (below_set (below_set (below_set h B 0 hB v0) B 1 hB v1) B 2 hB v2) B 3 hB v3) B 4 hB v4
theorem res_guess (tmps : Array Value) (w : World) {b : Nat} {e : Ins} (ha : tmps[2]?.getD undef = .pointer (some ⟨b, 0, none⟩)) (hbox : InBox w b e) :
    (results Tryz.f69 tmps).run Tryz.prog w = .ok (insV e) w := by
  obtain ⟨h0, h1, h2, h3, h4⟩ := hbox.cells
  simp [results, ha, h0, h1, h2, h3, h4, go_sem, insV]

theorem gst_start {w w1 w2 : World} {ps : List (List UInt8)} {op : Int} (hc : ∀ (j : Nat) x, ps[j]? = some x → w1.cell? ⟨w.heap.size + 1, j, none⟩ = some (.string ⟨x.toArray⟩)) (hb1 : Below (w.alloc (.cells #[.int .i64 0, .int .i64 0, .int .i64 0, .int .i64 0, .int .u32 0] 73)).heap.size (w.alloc (.cells #[.int .i64 0, .int .i64 0, .int .i64 0, .int .i64 0, .int .u32 0] 73)) w1) (hlt : w.heap.size + 1 < w1.heap.size)
    (hb2 : Below (w1.alloc (.cells #[.slice (some ⟨w.heap.size + 1, 0, none⟩) ps.length ps.length] 70)).heap.size (w1.alloc (.cells #[.slice (some ⟨w.heap.size + 1, 0, none⟩) ps.length ps.length] 70)) w2) :
    GSt w w1.heap.size w2.heap.size ps 0 ⟨op, 0, 0, 0, 0⟩ (((w2.alloc (.cells #[.int .i64 op, .int .i64 0, .int .i64 0, .int .i64 0, .int .u32 0] 73)).alloc (.cells #[.int .i64 0] 3)).alloc (.cells #[nextV w1.heap.size w2.heap.size] 137)) := by
  have s1 : w1.heap.size < w2.heap.size := by have := hb2.size; rw [World.size_alloc] at this; omega
  have hB1 : Below w.heap.size w w1 := ((Below.refl _ w).alloc (Nat.le_refl _) _).trans (hb1.mono (by simp))
  have hB2 : Below w.heap.size w w2 := (hB1.alloc hB1.size _).trans (hb2.mono (by rw [World.size_alloc]; have := hB1.size; omega))
  have k1 : ∀ j, j < w1.heap.size → w2.heap[j]? = w1.heap[j]? := fun j hj => (hb2.block j (by rw [World.size_alloc]; omega)).trans (Below.heap_alloc _ _ _ hj)
  have k3 : ∀ (o1 o2 o3 : Obj) j, j < w2.heap.size → (((w2.alloc o1).alloc o2).alloc o3).heap[j]? = w2.heap[j]? := fun o1 o2 o3 j hj => by
    rw [Below.heap_alloc _ _ _ (by simp only [World.size_alloc]; omega), Below.heap_alloc _ _ _ (by simp only [World.size_alloc]; omega), Below.heap_alloc _ _ _ hj]
  have hr0 : InBox w1 w.heap.size Ins.zero := (hb1.block _ (by rw [World.size_alloc]; omega)).trans (heap_alloc_new w _)
  have hl0 : Boxed w2 w1.heap.size 70 (.slice (some ⟨w.heap.size + 1, 0, none⟩) ps.length ps.length) := (hb2.block _ (by rw [World.size_alloc]; omega)).trans (heap_alloc_new w1 _)
  refine ⟨((hB2.alloc hB2.size _).alloc (by rw [World.size_alloc]; have := hB2.size; omega) _).alloc (by simp only [World.size_alloc]; have := hB2.size; omega) _, ?_, ?_, ?_, ?_, ?_, ?_, hlt, s1⟩
  · exact (k3 _ _ _ _ (by omega)).trans ((k1 _ (by omega)).trans hr0)
  · exact (k3 _ _ _ _ (by omega)).trans hl0
  · intro j x hx
    exact (World.cell?_of_block (a := ⟨w.heap.size + 1, j, none⟩) ((k3 _ _ _ _ (by simp only; omega)).trans (k1 _ hlt))).trans (hc j x hx)
  · unfold InBox
    rw [Below.heap_alloc _ _ _ (by simp only [World.size_alloc]; omega), Below.heap_alloc _ _ _ (by simp only [World.size_alloc]; omega)]
    exact heap_alloc_new w2 _
  · unfold Boxed
    rw [Below.heap_alloc _ _ _ (by simp only [World.size_alloc]; omega)]
    have := heap_alloc_new (w2.alloc (.cells #[.int .i64 op, .int .i64 0, .int .i64 0, .int .i64 0, .int .u32 0] 73)) (.cells #[.int .i64 0] 3)
    rw [World.size_alloc] at this
    exact this
  · unfold Boxed
    have := heap_alloc_new ((w2.alloc (.cells #[.int .i64 op, .int .i64 0, .int .i64 0, .int .i64 0, .int .u32 0] 73)).alloc (.cells #[.int .i64 0] 3)) (.cells #[nextV w1.heap.size w2.heap.size] 137)
    rw [World.size_alloc, World.size_alloc] at this
    exact this

end Go.Proofs.YtfgmebjbibbpdaaGreatDoor

namespace Go.Proofs.YtfgmebjbibbpdaaGreatDoor
open Go.RowKit

set_option maxRecDepth 100000 in
set_option maxHeartbeats 4000000 in
theorem guess_back (op : Int) (p0 : List UInt8) (ps : List (List UInt8)) (s : ByteArray) (w : World) (hM : Mx w) (hs : s.size ≤ 1000000) (hps : pcs 32 s.data.toList = ps) (hp0 : ps[0]? = some p0) (hpl : ∀ p ∈ ps, p.length ≤ 1000000) (hn : ps.length ≤ 1000001) (hk : kindOf p0 = op) (ho : op = 16) :
    Calls Tryz.prog 69 #[.string s] w fun r W' => r = .returned (insV ⟨16, 0, 0, wordAt ps 2, wordAt ps 1⟩) ∧ Below w.heap.size w W' := by
  subst ho
  have hsp := fun W hM => split_any s 32 W hM hs
  rw [hps] at hsp
  have hki := fun W => kind_any ⟨p0.toArray⟩ W
  rw [show (⟨p0.toArray⟩ : ByteArray).data.toList = p0 from rfl, hk] at hki
  have hl0 : 0 < ps.length := get_lt hp0
  have hl1 : (0 : Int) < (ps.length : Int) := by omega
  have hsp' := Lib.hid hsp
  have hki' := Lib.hid hki
  have hMz' := Lib.hid (hM.below ((Below.refl _ w).alloc (Nat.le_refl _) (.cells #[.int .i64 0, .int .i64 0, .int .i64 0, .int .i64 0, .int .u32 0] 73)))
  have hpl' := Lib.hid hpl
  clear hsp hki hps hk hpl hM
  go_enter Tryz.func69, Tryz.ntmps69
  go_wp2_with fail
  refine (hsp'.out _ hMz'.out).mono ?_
  rintro e w1 ⟨rfl, hc1, hb1⟩
  simp only [World.size_alloc] at hc1
  have c0 := hc1 0 p0 hp0
  have hlt1 : w.heap.size + 1 < w1.heap.size := cell_lt c0
  have hne1 : w.heap.size + 1 ≠ w1.heap.size := by omega
  have hc1' := Lib.hid hc1
  clear hc1
  go_wp2_with fail
  refine (hki'.out _).mono ?_
  rintro e w2 ⟨rfl, hb2⟩
  have hG0 := gst_start (op := 16) hc1'.out hb1 hlt1 hb2
  have hs2 : w1.heap.size < w2.heap.size := hG0.hn.2
  have hne2 : w1.heap.size ≠ w2.heap.size := by omega
  have hne3 : w.heap.size ≠ w2.heap.size := by omega
  have hne4 : w.heap.size ≠ w2.heap.size + 1 := by omega
  have hlt3 : w.heap.size < w2.heap.size := by omega
  have hlt4 : w.heap.size < w2.heap.size + 1 := by omega
  have hlt5 : w.heap.size < w2.heap.size + 1 + 1 := by omega
  have hne5 : w.heap.size ≠ w2.heap.size + 1 + 1 := by omega
  have hrw : InBox w2 w.heap.size Ins.zero := ((hb2.block _ (by rw [World.size_alloc]; omega)).trans ((Below.heap_alloc _ _ _ (by omega)).trans ((hb1.block _ (by rw [World.size_alloc]; omega)).trans (heap_alloc_new w _))))
  obtain ⟨y0, y1, y2, y3, y4⟩ := hrw.cells
  have z0 := hrw.frozen 0
  have z1 := hrw.frozen 1
  have z2 := hrw.frozen 2
  have z3 := hrw.frozen 3
  have z4 := hrw.frozen 4
  have hst := fun W p => run_store Tryz.prog W p (.func (.func 86) #[] #[.pointer (some ⟨w2.heap.size + 1, 0, none⟩), .pointer (some ⟨w1.heap.size, 0, none⟩)]) .plain rfl
  have hB1 : Below w.heap.size w w1 := ((Below.refl _ w).alloc (Nat.le_refl _) _).trans (hb1.mono (by simp))
  have hB2 : Below w.heap.size w w2 := (hB1.alloc hB1.size _).trans (hb2.mono (by rw [World.size_alloc]; have := hB1.size; omega))
  have hB2' := Lib.hid hB2
  have hrw' := Lib.hid hrw
  clear c0 hc1' hb1 hb2 hB1 hB2 hrw
  go_wp2_with (first
    | (go_at_call 86; refine (next_any (by assumption) (by omega) hpl'.out).mono ?_; rintro e wx ⟨rfl, hbx⟩; have hGx := GSt.next (by assumption) hbx; have hSx := hGx.hx.cell; obtain ⟨d0, d1, d2, d3, d4⟩ := hGx.hi.cells; have q0 := hGx.hi.frozen 0; have q1 := hGx.hi.frozen 1; have q2 := hGx.hi.frozen 2; have q3 := hGx.hi.frozen 3; have q4 := hGx.hi.frozen 4; obtain ⟨y0, y1, y2, y3, y4⟩ := hGx.hr.cells; have z0 := hGx.hr.frozen 0; have z1 := hGx.hr.frozen 1; have z2 := hGx.hr.frozen 2; have z3 := hGx.hr.frozen 3; have z4 := hGx.hr.frozen 4; unfold nextV at hSx)
    | (go_at_call 88; refine (small_any (by assumption) (by omega) hpl'.out).mono ?_; rintro e wx ⟨rfl, hbx⟩; have hGx := GSt.next (by assumption) hbx; have hSx := hGx.hx.cell; obtain ⟨d0, d1, d2, d3, d4⟩ := hGx.hi.cells; have q0 := hGx.hi.frozen 0; have q1 := hGx.hi.frozen 1; have q2 := hGx.hi.frozen 2; have q3 := hGx.hi.frozen 3; have q4 := hGx.hi.frozen 4; obtain ⟨y0, y1, y2, y3, y4⟩ := hGx.hr.cells; have z0 := hGx.hr.frozen 0; have z1 := hGx.hr.frozen 1; have z2 := hGx.hr.frozen 2; have z3 := hGx.hr.frozen 3; have z4 := hGx.hr.frozen 4; unfold nextV at hSx))
  have hF := ((hGx.putN (wordAt ps 1)).putC (wordAt ps 2))
  refine bodyPost_ret (res_guess _ _ rfl (hF.hr.set5 ⟨16, 0, 0, wordAt ps 2, wordAt ps 1⟩)) rfl ?_
  exact ⟨rfl, below_set5 hF.hb _ (Nat.le_refl _) _ _ _ _ _⟩

set_option maxRecDepth 100000 in
set_option maxHeartbeats 4000000 in
theorem guess_jump (op : Int) (p0 : List UInt8) (ps : List (List UInt8)) (s : ByteArray) (w : World) (hM : Mx w) (hs : s.size ≤ 1000000) (hps : pcs 32 s.data.toList = ps) (hp0 : ps[0]? = some p0) (hpl : ∀ p ∈ ps, p.length ≤ 1000000) (hn : ps.length ≤ 1000001) (hk : kindOf p0 = op) (ho : op = 14) :
    Calls Tryz.prog 69 #[.string s] w fun r W' => r = .returned (insV ⟨14, 0, 0, 0, wordAt ps 1⟩) ∧ Below w.heap.size w W' := by
  subst ho
  have hsp := fun W hM => split_any s 32 W hM hs
  rw [hps] at hsp
  have hki := fun W => kind_any ⟨p0.toArray⟩ W
  rw [show (⟨p0.toArray⟩ : ByteArray).data.toList = p0 from rfl, hk] at hki
  have hl0 : 0 < ps.length := get_lt hp0
  have hl1 : (0 : Int) < (ps.length : Int) := by omega
  have hsp' := Lib.hid hsp
  have hki' := Lib.hid hki
  have hMz' := Lib.hid (hM.below ((Below.refl _ w).alloc (Nat.le_refl _) (.cells #[.int .i64 0, .int .i64 0, .int .i64 0, .int .i64 0, .int .u32 0] 73)))
  have hpl' := Lib.hid hpl
  clear hsp hki hps hk hpl hM
  go_enter Tryz.func69, Tryz.ntmps69
  go_wp2_with fail
  refine (hsp'.out _ hMz'.out).mono ?_
  rintro e w1 ⟨rfl, hc1, hb1⟩
  simp only [World.size_alloc] at hc1
  have c0 := hc1 0 p0 hp0
  have hlt1 : w.heap.size + 1 < w1.heap.size := cell_lt c0
  have hne1 : w.heap.size + 1 ≠ w1.heap.size := by omega
  have hc1' := Lib.hid hc1
  clear hc1
  go_wp2_with fail
  refine (hki'.out _).mono ?_
  rintro e w2 ⟨rfl, hb2⟩
  have hG0 := gst_start (op := 14) hc1'.out hb1 hlt1 hb2
  have hs2 : w1.heap.size < w2.heap.size := hG0.hn.2
  have hne2 : w1.heap.size ≠ w2.heap.size := by omega
  have hne3 : w.heap.size ≠ w2.heap.size := by omega
  have hne4 : w.heap.size ≠ w2.heap.size + 1 := by omega
  have hlt3 : w.heap.size < w2.heap.size := by omega
  have hlt4 : w.heap.size < w2.heap.size + 1 := by omega
  have hlt5 : w.heap.size < w2.heap.size + 1 + 1 := by omega
  have hne5 : w.heap.size ≠ w2.heap.size + 1 + 1 := by omega
  have hrw : InBox w2 w.heap.size Ins.zero := ((hb2.block _ (by rw [World.size_alloc]; omega)).trans ((Below.heap_alloc _ _ _ (by omega)).trans ((hb1.block _ (by rw [World.size_alloc]; omega)).trans (heap_alloc_new w _))))
  obtain ⟨y0, y1, y2, y3, y4⟩ := hrw.cells
  have z0 := hrw.frozen 0
  have z1 := hrw.frozen 1
  have z2 := hrw.frozen 2
  have z3 := hrw.frozen 3
  have z4 := hrw.frozen 4
  have hst := fun W p => run_store Tryz.prog W p (.func (.func 86) #[] #[.pointer (some ⟨w2.heap.size + 1, 0, none⟩), .pointer (some ⟨w1.heap.size, 0, none⟩)]) .plain rfl
  have hB1 : Below w.heap.size w w1 := ((Below.refl _ w).alloc (Nat.le_refl _) _).trans (hb1.mono (by simp))
  have hB2 : Below w.heap.size w w2 := (hB1.alloc hB1.size _).trans (hb2.mono (by rw [World.size_alloc]; have := hB1.size; omega))
  have hB2' := Lib.hid hB2
  have hrw' := Lib.hid hrw
  clear c0 hc1' hb1 hb2 hB1 hB2 hrw
  go_wp2_with (first
    | (go_at_call 86; refine (next_any (by assumption) (by omega) hpl'.out).mono ?_; rintro e wx ⟨rfl, hbx⟩; have hGx := GSt.next (by assumption) hbx; have hSx := hGx.hx.cell; obtain ⟨d0, d1, d2, d3, d4⟩ := hGx.hi.cells; have q0 := hGx.hi.frozen 0; have q1 := hGx.hi.frozen 1; have q2 := hGx.hi.frozen 2; have q3 := hGx.hi.frozen 3; have q4 := hGx.hi.frozen 4; obtain ⟨y0, y1, y2, y3, y4⟩ := hGx.hr.cells; have z0 := hGx.hr.frozen 0; have z1 := hGx.hr.frozen 1; have z2 := hGx.hr.frozen 2; have z3 := hGx.hr.frozen 3; have z4 := hGx.hr.frozen 4; unfold nextV at hSx)
    | (go_at_call 88; refine (small_any (by assumption) (by omega) hpl'.out).mono ?_; rintro e wx ⟨rfl, hbx⟩; have hGx := GSt.next (by assumption) hbx; have hSx := hGx.hx.cell; obtain ⟨d0, d1, d2, d3, d4⟩ := hGx.hi.cells; have q0 := hGx.hi.frozen 0; have q1 := hGx.hi.frozen 1; have q2 := hGx.hi.frozen 2; have q3 := hGx.hi.frozen 3; have q4 := hGx.hi.frozen 4; obtain ⟨y0, y1, y2, y3, y4⟩ := hGx.hr.cells; have z0 := hGx.hr.frozen 0; have z1 := hGx.hr.frozen 1; have z2 := hGx.hr.frozen 2; have z3 := hGx.hr.frozen 3; have z4 := hGx.hr.frozen 4; unfold nextV at hSx))
  have hF := (hGx.putN (wordAt ps 1))
  refine bodyPost_ret (res_guess _ _ rfl (hF.hr.set5 ⟨14, 0, 0, 0, wordAt ps 1⟩)) rfl ?_
  exact ⟨rfl, below_set5 hF.hb _ (Nat.le_refl _) _ _ _ _ _⟩

set_option maxRecDepth 100000 in
set_option maxHeartbeats 4000000 in
theorem guess_move (op : Int) (p0 : List UInt8) (ps : List (List UInt8)) (s : ByteArray) (w : World) (hM : Mx w) (hs : s.size ≤ 1000000) (hps : pcs 32 s.data.toList = ps) (hp0 : ps[0]? = some p0) (hpl : ∀ p ∈ ps, p.length ≤ 1000000) (hn : ps.length ≤ 1000001) (hk : kindOf p0 = op) (ho : op = 2) :
    Calls Tryz.prog 69 #[.string s] w fun r W' => r = .returned (insV ⟨2, wordAt ps 1, wordAt ps 2, 0, 0⟩) ∧ Below w.heap.size w W' := by
  subst ho
  have hsp := fun W hM => split_any s 32 W hM hs
  rw [hps] at hsp
  have hki := fun W => kind_any ⟨p0.toArray⟩ W
  rw [show (⟨p0.toArray⟩ : ByteArray).data.toList = p0 from rfl, hk] at hki
  have hl0 : 0 < ps.length := get_lt hp0
  have hl1 : (0 : Int) < (ps.length : Int) := by omega
  have hsp' := Lib.hid hsp
  have hki' := Lib.hid hki
  have hMz' := Lib.hid (hM.below ((Below.refl _ w).alloc (Nat.le_refl _) (.cells #[.int .i64 0, .int .i64 0, .int .i64 0, .int .i64 0, .int .u32 0] 73)))
  have hpl' := Lib.hid hpl
  clear hsp hki hps hk hpl hM
  go_enter Tryz.func69, Tryz.ntmps69
  go_wp2_with fail
  refine (hsp'.out _ hMz'.out).mono ?_
  rintro e w1 ⟨rfl, hc1, hb1⟩
  simp only [World.size_alloc] at hc1
  have c0 := hc1 0 p0 hp0
  have hlt1 : w.heap.size + 1 < w1.heap.size := cell_lt c0
  have hne1 : w.heap.size + 1 ≠ w1.heap.size := by omega
  have hc1' := Lib.hid hc1
  clear hc1
  go_wp2_with fail
  refine (hki'.out _).mono ?_
  rintro e w2 ⟨rfl, hb2⟩
  have hG0 := gst_start (op := 2) hc1'.out hb1 hlt1 hb2
  have hs2 : w1.heap.size < w2.heap.size := hG0.hn.2
  have hne2 : w1.heap.size ≠ w2.heap.size := by omega
  have hne3 : w.heap.size ≠ w2.heap.size := by omega
  have hne4 : w.heap.size ≠ w2.heap.size + 1 := by omega
  have hlt3 : w.heap.size < w2.heap.size := by omega
  have hlt4 : w.heap.size < w2.heap.size + 1 := by omega
  have hlt5 : w.heap.size < w2.heap.size + 1 + 1 := by omega
  have hne5 : w.heap.size ≠ w2.heap.size + 1 + 1 := by omega
  have hrw : InBox w2 w.heap.size Ins.zero := ((hb2.block _ (by rw [World.size_alloc]; omega)).trans ((Below.heap_alloc _ _ _ (by omega)).trans ((hb1.block _ (by rw [World.size_alloc]; omega)).trans (heap_alloc_new w _))))
  obtain ⟨y0, y1, y2, y3, y4⟩ := hrw.cells
  have z0 := hrw.frozen 0
  have z1 := hrw.frozen 1
  have z2 := hrw.frozen 2
  have z3 := hrw.frozen 3
  have z4 := hrw.frozen 4
  have hst := fun W p => run_store Tryz.prog W p (.func (.func 86) #[] #[.pointer (some ⟨w2.heap.size + 1, 0, none⟩), .pointer (some ⟨w1.heap.size, 0, none⟩)]) .plain rfl
  have hB1 : Below w.heap.size w w1 := ((Below.refl _ w).alloc (Nat.le_refl _) _).trans (hb1.mono (by simp))
  have hB2 : Below w.heap.size w w2 := (hB1.alloc hB1.size _).trans (hb2.mono (by rw [World.size_alloc]; have := hB1.size; omega))
  have hB2' := Lib.hid hB2
  have hrw' := Lib.hid hrw
  clear c0 hc1' hb1 hb2 hB1 hB2 hrw
  go_wp2_with (first
    | (go_at_call 86; refine (next_any (by assumption) (by omega) hpl'.out).mono ?_; rintro e wx ⟨rfl, hbx⟩; have hGx := GSt.next (by assumption) hbx; have hSx := hGx.hx.cell; obtain ⟨d0, d1, d2, d3, d4⟩ := hGx.hi.cells; have q0 := hGx.hi.frozen 0; have q1 := hGx.hi.frozen 1; have q2 := hGx.hi.frozen 2; have q3 := hGx.hi.frozen 3; have q4 := hGx.hi.frozen 4; obtain ⟨y0, y1, y2, y3, y4⟩ := hGx.hr.cells; have z0 := hGx.hr.frozen 0; have z1 := hGx.hr.frozen 1; have z2 := hGx.hr.frozen 2; have z3 := hGx.hr.frozen 3; have z4 := hGx.hr.frozen 4; unfold nextV at hSx)
    | (go_at_call 88; refine (small_any (by assumption) (by omega) hpl'.out).mono ?_; rintro e wx ⟨rfl, hbx⟩; have hGx := GSt.next (by assumption) hbx; have hSx := hGx.hx.cell; obtain ⟨d0, d1, d2, d3, d4⟩ := hGx.hi.cells; have q0 := hGx.hi.frozen 0; have q1 := hGx.hi.frozen 1; have q2 := hGx.hi.frozen 2; have q3 := hGx.hi.frozen 3; have q4 := hGx.hi.frozen 4; obtain ⟨y0, y1, y2, y3, y4⟩ := hGx.hr.cells; have z0 := hGx.hr.frozen 0; have z1 := hGx.hr.frozen 1; have z2 := hGx.hr.frozen 2; have z3 := hGx.hr.frozen 3; have z4 := hGx.hr.frozen 4; unfold nextV at hSx))
  have hF := ((hGx.putA (wordAt ps 1)).putB (wordAt ps 2))
  refine bodyPost_ret (res_guess _ _ rfl (hF.hr.set5 ⟨2, wordAt ps 1, wordAt ps 2, 0, 0⟩)) rfl ?_
  exact ⟨rfl, below_set5 hF.hb _ (Nat.le_refl _) _ _ _ _ _⟩

set_option maxRecDepth 100000 in
set_option maxHeartbeats 4000000 in
theorem guess_three (op : Int) (p0 : List UInt8) (ps : List (List UInt8)) (s : ByteArray) (w : World) (hM : Mx w) (hs : s.size ≤ 1000000) (hps : pcs 32 s.data.toList = ps) (hp0 : ps[0]? = some p0) (hpl : ∀ p ∈ ps, p.length ≤ 1000000) (hn : ps.length ≤ 1000001) (hk : kindOf p0 = op) (ho : 3 ≤ op ∧ op ≤ 10) :
    Calls Tryz.prog 69 #[.string s] w fun r W' => r = .returned (insV ⟨op, wordAt ps 1, wordAt ps 2, wordAt ps 3, 0⟩) ∧ Below w.heap.size w W' := by
  have x16 : (op == 16) = false := by rw [beq_eq_false_iff_ne]; omega
  have x14 : (op == 14) = false := by rw [beq_eq_false_iff_ne]; omega
  have x1 : (op == 1) = false := by rw [beq_eq_false_iff_ne]; omega
  have x15 : (op == 15) = false := by rw [beq_eq_false_iff_ne]; omega
  have x2 : (op == 2) = false := by rw [beq_eq_false_iff_ne]; omega
  have y3 : decide (3 ≤ op) = true := decide_eq_true ho.1
  have y4 : decide (op ≤ 10) = true := decide_eq_true ho.2
  have hsp := fun W hM => split_any s 32 W hM hs
  rw [hps] at hsp
  have hki := fun W => kind_any ⟨p0.toArray⟩ W
  rw [show (⟨p0.toArray⟩ : ByteArray).data.toList = p0 from rfl, hk] at hki
  have hl0 : 0 < ps.length := get_lt hp0
  have hl1 : (0 : Int) < (ps.length : Int) := by omega
  have hsp' := Lib.hid hsp
  have hki' := Lib.hid hki
  have hMz' := Lib.hid (hM.below ((Below.refl _ w).alloc (Nat.le_refl _) (.cells #[.int .i64 0, .int .i64 0, .int .i64 0, .int .i64 0, .int .u32 0] 73)))
  have hpl' := Lib.hid hpl
  clear hsp hki hps hk hpl hM
  go_enter Tryz.func69, Tryz.ntmps69
  go_wp2_with fail
  refine (hsp'.out _ hMz'.out).mono ?_
  rintro e w1 ⟨rfl, hc1, hb1⟩
  simp only [World.size_alloc] at hc1
  have c0 := hc1 0 p0 hp0
  have hlt1 : w.heap.size + 1 < w1.heap.size := cell_lt c0
  have hne1 : w.heap.size + 1 ≠ w1.heap.size := by omega
  have hc1' := Lib.hid hc1
  clear hc1
  go_wp2_with fail
  refine (hki'.out _).mono ?_
  rintro e w2 ⟨rfl, hb2⟩
  have hG0 := gst_start (op := op) hc1'.out hb1 hlt1 hb2
  have hs2 : w1.heap.size < w2.heap.size := hG0.hn.2
  have hne2 : w1.heap.size ≠ w2.heap.size := by omega
  have hne3 : w.heap.size ≠ w2.heap.size := by omega
  have hne4 : w.heap.size ≠ w2.heap.size + 1 := by omega
  have hlt3 : w.heap.size < w2.heap.size := by omega
  have hlt4 : w.heap.size < w2.heap.size + 1 := by omega
  have hlt5 : w.heap.size < w2.heap.size + 1 + 1 := by omega
  have hne5 : w.heap.size ≠ w2.heap.size + 1 + 1 := by omega
  have hrw : InBox w2 w.heap.size Ins.zero := ((hb2.block _ (by rw [World.size_alloc]; omega)).trans ((Below.heap_alloc _ _ _ (by omega)).trans ((hb1.block _ (by rw [World.size_alloc]; omega)).trans (heap_alloc_new w _))))
  obtain ⟨y0, y1, y2, y3, y4⟩ := hrw.cells
  have z0 := hrw.frozen 0
  have z1 := hrw.frozen 1
  have z2 := hrw.frozen 2
  have z3 := hrw.frozen 3
  have z4 := hrw.frozen 4
  have hst := fun W p => run_store Tryz.prog W p (.func (.func 86) #[] #[.pointer (some ⟨w2.heap.size + 1, 0, none⟩), .pointer (some ⟨w1.heap.size, 0, none⟩)]) .plain rfl
  have hB1 : Below w.heap.size w w1 := ((Below.refl _ w).alloc (Nat.le_refl _) _).trans (hb1.mono (by simp))
  have hB2 : Below w.heap.size w w2 := (hB1.alloc hB1.size _).trans (hb2.mono (by rw [World.size_alloc]; have := hB1.size; omega))
  have hB2' := Lib.hid hB2
  have hrw' := Lib.hid hrw
  clear c0 hc1' hb1 hb2 hB1 hB2 hrw
  go_wp2_with (first
    | (go_at_call 86; refine (next_any (by assumption) (by omega) hpl'.out).mono ?_; rintro e wx ⟨rfl, hbx⟩; have hGx := GSt.next (by assumption) hbx; have hSx := hGx.hx.cell; obtain ⟨d0, d1, d2, d3, d4⟩ := hGx.hi.cells; have q0 := hGx.hi.frozen 0; have q1 := hGx.hi.frozen 1; have q2 := hGx.hi.frozen 2; have q3 := hGx.hi.frozen 3; have q4 := hGx.hi.frozen 4; obtain ⟨y0, y1, y2, y3, y4⟩ := hGx.hr.cells; have z0 := hGx.hr.frozen 0; have z1 := hGx.hr.frozen 1; have z2 := hGx.hr.frozen 2; have z3 := hGx.hr.frozen 3; have z4 := hGx.hr.frozen 4; unfold nextV at hSx)
    | (go_at_call 88; refine (small_any (by assumption) (by omega) hpl'.out).mono ?_; rintro e wx ⟨rfl, hbx⟩; have hGx := GSt.next (by assumption) hbx; have hSx := hGx.hx.cell; obtain ⟨d0, d1, d2, d3, d4⟩ := hGx.hi.cells; have q0 := hGx.hi.frozen 0; have q1 := hGx.hi.frozen 1; have q2 := hGx.hi.frozen 2; have q3 := hGx.hi.frozen 3; have q4 := hGx.hi.frozen 4; obtain ⟨y0, y1, y2, y3, y4⟩ := hGx.hr.cells; have z0 := hGx.hr.frozen 0; have z1 := hGx.hr.frozen 1; have z2 := hGx.hr.frozen 2; have z3 := hGx.hr.frozen 3; have z4 := hGx.hr.frozen 4; unfold nextV at hSx))
  have hF := (((hGx.putA (wordAt ps 1)).putB (wordAt ps 2)).putC (wordAt ps 3))
  refine bodyPost_ret (res_guess _ _ rfl (hF.hr.set5 ⟨op, wordAt ps 1, wordAt ps 2, wordAt ps 3, 0⟩)) rfl ?_
  exact ⟨rfl, below_set5 hF.hb _ (Nat.le_refl _) _ _ _ _ _⟩

set_option maxRecDepth 100000 in
set_option maxHeartbeats 4000000 in
theorem guess_nop (op : Int) (p0 : List UInt8) (ps : List (List UInt8)) (s : ByteArray) (w : World) (hM : Mx w) (hs : s.size ≤ 1000000) (hps : pcs 32 s.data.toList = ps) (hp0 : ps[0]? = some p0) (hpl : ∀ p ∈ ps, p.length ≤ 1000000) (hn : ps.length ≤ 1000001) (hk : kindOf p0 = op) (ho : op = 0) :
    Calls Tryz.prog 69 #[.string s] w fun r W' => r = .returned (insV ⟨0, 0, 0, 0, 0⟩) ∧ Below w.heap.size w W' := by
  subst ho
  have hsp := fun W hM => split_any s 32 W hM hs
  rw [hps] at hsp
  have hki := fun W => kind_any ⟨p0.toArray⟩ W
  rw [show (⟨p0.toArray⟩ : ByteArray).data.toList = p0 from rfl, hk] at hki
  have hl0 : 0 < ps.length := get_lt hp0
  have hl1 : (0 : Int) < (ps.length : Int) := by omega
  have hsp' := Lib.hid hsp
  have hki' := Lib.hid hki
  have hMz' := Lib.hid (hM.below ((Below.refl _ w).alloc (Nat.le_refl _) (.cells #[.int .i64 0, .int .i64 0, .int .i64 0, .int .i64 0, .int .u32 0] 73)))
  have hpl' := Lib.hid hpl
  clear hsp hki hps hk hpl hM
  go_enter Tryz.func69, Tryz.ntmps69
  go_wp2_with fail
  refine (hsp'.out _ hMz'.out).mono ?_
  rintro e w1 ⟨rfl, hc1, hb1⟩
  simp only [World.size_alloc] at hc1
  have c0 := hc1 0 p0 hp0
  have hlt1 : w.heap.size + 1 < w1.heap.size := cell_lt c0
  have hne1 : w.heap.size + 1 ≠ w1.heap.size := by omega
  have hc1' := Lib.hid hc1
  clear hc1
  go_wp2_with fail
  refine (hki'.out _).mono ?_
  rintro e w2 ⟨rfl, hb2⟩
  have hG0 := gst_start (op := 0) hc1'.out hb1 hlt1 hb2
  have hs2 : w1.heap.size < w2.heap.size := hG0.hn.2
  have hne2 : w1.heap.size ≠ w2.heap.size := by omega
  have hne3 : w.heap.size ≠ w2.heap.size := by omega
  have hne4 : w.heap.size ≠ w2.heap.size + 1 := by omega
  have hlt3 : w.heap.size < w2.heap.size := by omega
  have hlt4 : w.heap.size < w2.heap.size + 1 := by omega
  have hlt5 : w.heap.size < w2.heap.size + 1 + 1 := by omega
  have hne5 : w.heap.size ≠ w2.heap.size + 1 + 1 := by omega
  have hrw : InBox w2 w.heap.size Ins.zero := ((hb2.block _ (by rw [World.size_alloc]; omega)).trans ((Below.heap_alloc _ _ _ (by omega)).trans ((hb1.block _ (by rw [World.size_alloc]; omega)).trans (heap_alloc_new w _))))
  obtain ⟨y0, y1, y2, y3, y4⟩ := hrw.cells
  have z0 := hrw.frozen 0
  have z1 := hrw.frozen 1
  have z2 := hrw.frozen 2
  have z3 := hrw.frozen 3
  have z4 := hrw.frozen 4
  have hst := fun W p => run_store Tryz.prog W p (.func (.func 86) #[] #[.pointer (some ⟨w2.heap.size + 1, 0, none⟩), .pointer (some ⟨w1.heap.size, 0, none⟩)]) .plain rfl
  have hB1 : Below w.heap.size w w1 := ((Below.refl _ w).alloc (Nat.le_refl _) _).trans (hb1.mono (by simp))
  have hB2 : Below w.heap.size w w2 := (hB1.alloc hB1.size _).trans (hb2.mono (by rw [World.size_alloc]; have := hB1.size; omega))
  have hB2' := Lib.hid hB2
  have hrw' := Lib.hid hrw
  clear c0 hc1' hb1 hb2 hB1 hB2 hrw
  go_wp2_with (first
    | (go_at_call 86; refine (next_any (by assumption) (by omega) hpl'.out).mono ?_; rintro e wx ⟨rfl, hbx⟩; have hGx := GSt.next (by assumption) hbx; have hSx := hGx.hx.cell; obtain ⟨d0, d1, d2, d3, d4⟩ := hGx.hi.cells; have q0 := hGx.hi.frozen 0; have q1 := hGx.hi.frozen 1; have q2 := hGx.hi.frozen 2; have q3 := hGx.hi.frozen 3; have q4 := hGx.hi.frozen 4; obtain ⟨y0, y1, y2, y3, y4⟩ := hGx.hr.cells; have z0 := hGx.hr.frozen 0; have z1 := hGx.hr.frozen 1; have z2 := hGx.hr.frozen 2; have z3 := hGx.hr.frozen 3; have z4 := hGx.hr.frozen 4; unfold nextV at hSx)
    | (go_at_call 88; refine (small_any (by assumption) (by omega) hpl'.out).mono ?_; rintro e wx ⟨rfl, hbx⟩; have hGx := GSt.next (by assumption) hbx; have hSx := hGx.hx.cell; obtain ⟨d0, d1, d2, d3, d4⟩ := hGx.hi.cells; have q0 := hGx.hi.frozen 0; have q1 := hGx.hi.frozen 1; have q2 := hGx.hi.frozen 2; have q3 := hGx.hi.frozen 3; have q4 := hGx.hi.frozen 4; obtain ⟨y0, y1, y2, y3, y4⟩ := hGx.hr.cells; have z0 := hGx.hr.frozen 0; have z1 := hGx.hr.frozen 1; have z2 := hGx.hr.frozen 2; have z3 := hGx.hr.frozen 3; have z4 := hGx.hr.frozen 4; unfold nextV at hSx))
  have hF := hG0
  have hb5 := below_set5 hB2'.out w.heap.size (Nat.le_refl _) (.int .i64 0) (.int .i64 0) (.int .i64 0) (.int .i64 0) (.int .u32 0)
  have hb6 := ((hb5.alloc (by simp only [setC_size]; omega) (.cells #[.int .i64 0, .int .i64 0, .int .i64 0, .int .i64 0, .int .u32 0] 73)).alloc (by simp only [World.size_alloc, setC_size]; omega) (.cells #[.int .i64 0] 3)).alloc (by simp only [World.size_alloc, setC_size]; omega) (.cells #[.func (.func 86) #[] #[.pointer (some ⟨w2.heap.size + 1, 0, none⟩), .pointer (some ⟨w1.heap.size, 0, none⟩)]] 137)
  refine bodyPost_ret (res_guess _ _ rfl ((((hrw'.out.set5 ⟨0, 0, 0, 0, 0⟩).kept ((Below.refl _ _).alloc (Nat.le_refl _) _)).kept ((Below.refl _ _).alloc (Nat.le_refl _) _)).kept ((Below.refl _ _).alloc (Nat.le_refl _) _))) rfl ?_
  exact ⟨rfl, hb6⟩

set_option maxRecDepth 100000 in
set_option maxHeartbeats 4000000 in
theorem guess_done (op : Int) (p0 : List UInt8) (ps : List (List UInt8)) (s : ByteArray) (w : World) (hM : Mx w) (hs : s.size ≤ 1000000) (hps : pcs 32 s.data.toList = ps) (hp0 : ps[0]? = some p0) (hpl : ∀ p ∈ ps, p.length ≤ 1000000) (hn : ps.length ≤ 1000001) (hk : kindOf p0 = op) (ho : op = 21) :
    Calls Tryz.prog 69 #[.string s] w fun r W' => r = .returned (insV ⟨21, 0, 0, 0, 0⟩) ∧ Below w.heap.size w W' := by
  subst ho
  have hsp := fun W hM => split_any s 32 W hM hs
  rw [hps] at hsp
  have hki := fun W => kind_any ⟨p0.toArray⟩ W
  rw [show (⟨p0.toArray⟩ : ByteArray).data.toList = p0 from rfl, hk] at hki
  have hl0 : 0 < ps.length := get_lt hp0
  have hl1 : (0 : Int) < (ps.length : Int) := by omega
  have hsp' := Lib.hid hsp
  have hki' := Lib.hid hki
  have hMz' := Lib.hid (hM.below ((Below.refl _ w).alloc (Nat.le_refl _) (.cells #[.int .i64 0, .int .i64 0, .int .i64 0, .int .i64 0, .int .u32 0] 73)))
  have hpl' := Lib.hid hpl
  clear hsp hki hps hk hpl hM
  go_enter Tryz.func69, Tryz.ntmps69
  go_wp2_with fail
  refine (hsp'.out _ hMz'.out).mono ?_
  rintro e w1 ⟨rfl, hc1, hb1⟩
  simp only [World.size_alloc] at hc1
  have c0 := hc1 0 p0 hp0
  have hlt1 : w.heap.size + 1 < w1.heap.size := cell_lt c0
  have hne1 : w.heap.size + 1 ≠ w1.heap.size := by omega
  have hc1' := Lib.hid hc1
  clear hc1
  go_wp2_with fail
  refine (hki'.out _).mono ?_
  rintro e w2 ⟨rfl, hb2⟩
  have hG0 := gst_start (op := 21) hc1'.out hb1 hlt1 hb2
  have hs2 : w1.heap.size < w2.heap.size := hG0.hn.2
  have hne2 : w1.heap.size ≠ w2.heap.size := by omega
  have hne3 : w.heap.size ≠ w2.heap.size := by omega
  have hne4 : w.heap.size ≠ w2.heap.size + 1 := by omega
  have hlt3 : w.heap.size < w2.heap.size := by omega
  have hlt4 : w.heap.size < w2.heap.size + 1 := by omega
  have hlt5 : w.heap.size < w2.heap.size + 1 + 1 := by omega
  have hne5 : w.heap.size ≠ w2.heap.size + 1 + 1 := by omega
  have hrw : InBox w2 w.heap.size Ins.zero := ((hb2.block _ (by rw [World.size_alloc]; omega)).trans ((Below.heap_alloc _ _ _ (by omega)).trans ((hb1.block _ (by rw [World.size_alloc]; omega)).trans (heap_alloc_new w _))))
  obtain ⟨y0, y1, y2, y3, y4⟩ := hrw.cells
  have z0 := hrw.frozen 0
  have z1 := hrw.frozen 1
  have z2 := hrw.frozen 2
  have z3 := hrw.frozen 3
  have z4 := hrw.frozen 4
  have hst := fun W p => run_store Tryz.prog W p (.func (.func 86) #[] #[.pointer (some ⟨w2.heap.size + 1, 0, none⟩), .pointer (some ⟨w1.heap.size, 0, none⟩)]) .plain rfl
  have hB1 : Below w.heap.size w w1 := ((Below.refl _ w).alloc (Nat.le_refl _) _).trans (hb1.mono (by simp))
  have hB2 : Below w.heap.size w w2 := (hB1.alloc hB1.size _).trans (hb2.mono (by rw [World.size_alloc]; have := hB1.size; omega))
  have hB2' := Lib.hid hB2
  have hrw' := Lib.hid hrw
  clear c0 hc1' hb1 hb2 hB1 hB2 hrw
  go_wp2_with (first
    | (go_at_call 86; refine (next_any (by assumption) (by omega) hpl'.out).mono ?_; rintro e wx ⟨rfl, hbx⟩; have hGx := GSt.next (by assumption) hbx; have hSx := hGx.hx.cell; obtain ⟨d0, d1, d2, d3, d4⟩ := hGx.hi.cells; have q0 := hGx.hi.frozen 0; have q1 := hGx.hi.frozen 1; have q2 := hGx.hi.frozen 2; have q3 := hGx.hi.frozen 3; have q4 := hGx.hi.frozen 4; obtain ⟨y0, y1, y2, y3, y4⟩ := hGx.hr.cells; have z0 := hGx.hr.frozen 0; have z1 := hGx.hr.frozen 1; have z2 := hGx.hr.frozen 2; have z3 := hGx.hr.frozen 3; have z4 := hGx.hr.frozen 4; unfold nextV at hSx)
    | (go_at_call 88; refine (small_any (by assumption) (by omega) hpl'.out).mono ?_; rintro e wx ⟨rfl, hbx⟩; have hGx := GSt.next (by assumption) hbx; have hSx := hGx.hx.cell; obtain ⟨d0, d1, d2, d3, d4⟩ := hGx.hi.cells; have q0 := hGx.hi.frozen 0; have q1 := hGx.hi.frozen 1; have q2 := hGx.hi.frozen 2; have q3 := hGx.hi.frozen 3; have q4 := hGx.hi.frozen 4; obtain ⟨y0, y1, y2, y3, y4⟩ := hGx.hr.cells; have z0 := hGx.hr.frozen 0; have z1 := hGx.hr.frozen 1; have z2 := hGx.hr.frozen 2; have z3 := hGx.hr.frozen 3; have z4 := hGx.hr.frozen 4; unfold nextV at hSx))
  have hF := hG0
  have hb5 := below_set5 hB2'.out w.heap.size (Nat.le_refl _) (.int .i64 21) (.int .i64 0) (.int .i64 0) (.int .i64 0) (.int .u32 0)
  have hb6 := ((hb5.alloc (by simp only [setC_size]; omega) (.cells #[.int .i64 21, .int .i64 0, .int .i64 0, .int .i64 0, .int .u32 0] 73)).alloc (by simp only [World.size_alloc, setC_size]; omega) (.cells #[.int .i64 0] 3)).alloc (by simp only [World.size_alloc, setC_size]; omega) (.cells #[.func (.func 86) #[] #[.pointer (some ⟨w2.heap.size + 1, 0, none⟩), .pointer (some ⟨w1.heap.size, 0, none⟩)]] 137)
  refine bodyPost_ret (res_guess _ _ rfl ((((hrw'.out.set5 ⟨21, 0, 0, 0, 0⟩).kept ((Below.refl _ _).alloc (Nat.le_refl _) _)).kept ((Below.refl _ _).alloc (Nat.le_refl _) _)).kept ((Below.refl _ _).alloc (Nat.le_refl _) _))) rfl ?_
  exact ⟨rfl, hb6⟩

end Go.Proofs.YtfgmebjbibbpdaaGreatDoor

namespace Go.Proofs.YtfgmebjbibbpdaaGreatDoor
open Go.RowKit

set_option maxRecDepth 100000 in
set_option maxHeartbeats 4000000 in
theorem guess_set (op : Int) (p0 : List UInt8) (ps : List (List UInt8)) (s : ByteArray) (w : World) (hM : Mx w) (hs : s.size ≤ 1000000) (hps : pcs 32 s.data.toList = ps) (hp0 : ps[0]? = some p0) (hpl : ∀ p ∈ ps, p.length ≤ 1000000) (hn : ps.length ≤ 1000001) (hk : kindOf p0 = op) (ho : op = 1) :
    Calls Tryz.prog 69 #[.string s] w fun r W' => r = .returned (insV ⟨1, wordAt ps 1, 0, 0, wordAt ps 2⟩) ∧ Below w.heap.size w W' := by
  subst ho
  have hsp := fun W hM => split_any s 32 W hM hs
  rw [hps] at hsp
  have hki := fun W => kind_any ⟨p0.toArray⟩ W
  rw [show (⟨p0.toArray⟩ : ByteArray).data.toList = p0 from rfl, hk] at hki
  have hl0 : 0 < ps.length := get_lt hp0
  have hl1 : (0 : Int) < (ps.length : Int) := by omega
  have hsp' := Lib.hid hsp
  have hki' := Lib.hid hki
  have hMz' := Lib.hid (hM.below ((Below.refl _ w).alloc (Nat.le_refl _) (.cells #[.int .i64 0, .int .i64 0, .int .i64 0, .int .i64 0, .int .u32 0] 73)))
  have hpl' := Lib.hid hpl
  clear hsp hki hps hk hpl hM
  go_enter Tryz.func69, Tryz.ntmps69
  go_wp2_with fail
  refine (hsp'.out _ hMz'.out).mono ?_
  rintro e w1 ⟨rfl, hc1, hb1⟩
  simp only [World.size_alloc] at hc1
  have c0 := hc1 0 p0 hp0
  have hlt1 : w.heap.size + 1 < w1.heap.size := cell_lt c0
  have hne1 : w.heap.size + 1 ≠ w1.heap.size := by omega
  have hc1' := Lib.hid hc1
  clear hc1
  go_wp2_with fail
  refine (hki'.out _).mono ?_
  rintro e w2 ⟨rfl, hb2⟩
  have hG0 := gst_start (op := 1) hc1'.out hb1 hlt1 hb2
  have hs2 : w1.heap.size < w2.heap.size := hG0.hn.2
  have hne2 : w1.heap.size ≠ w2.heap.size := by omega
  have hne3 : w.heap.size ≠ w2.heap.size := by omega
  have hne4 : w.heap.size ≠ w2.heap.size + 1 := by omega
  have hlt3 : w.heap.size < w2.heap.size := by omega
  have hlt4 : w.heap.size < w2.heap.size + 1 := by omega
  have hlt5 : w.heap.size < w2.heap.size + 1 + 1 := by omega
  have hne5 : w.heap.size ≠ w2.heap.size + 1 + 1 := by omega
  have hrw : InBox w2 w.heap.size Ins.zero := ((hb2.block _ (by rw [World.size_alloc]; omega)).trans ((Below.heap_alloc _ _ _ (by omega)).trans ((hb1.block _ (by rw [World.size_alloc]; omega)).trans (heap_alloc_new w _))))
  obtain ⟨y0, y1, y2, y3, y4⟩ := hrw.cells
  have z0 := hrw.frozen 0
  have z1 := hrw.frozen 1
  have z2 := hrw.frozen 2
  have z3 := hrw.frozen 3
  have z4 := hrw.frozen 4
  have hst := fun W p => run_store Tryz.prog W p (.func (.func 86) #[] #[.pointer (some ⟨w2.heap.size + 1, 0, none⟩), .pointer (some ⟨w1.heap.size, 0, none⟩)]) .plain rfl
  have hB1 : Below w.heap.size w w1 := ((Below.refl _ w).alloc (Nat.le_refl _) _).trans (hb1.mono (by simp))
  have hB2 : Below w.heap.size w w2 := (hB1.alloc hB1.size _).trans (hb2.mono (by rw [World.size_alloc]; have := hB1.size; omega))
  have hB2' := Lib.hid hB2
  have hrw' := Lib.hid hrw
  clear c0 hc1' hb1 hb2 hB1 hB2 hrw
  go_wp2_with (first
    | (go_at_call 86; refine (next_any (by assumption) (by omega) hpl'.out).mono ?_; rintro e wx ⟨rfl, hbx⟩; have hGx := GSt.next (by assumption) hbx; have hSx := hGx.hx.cell; obtain ⟨d0, d1, d2, d3, d4⟩ := hGx.hi.cells; have q0 := hGx.hi.frozen 0; have q1 := hGx.hi.frozen 1; have q2 := hGx.hi.frozen 2; have q3 := hGx.hi.frozen 3; have q4 := hGx.hi.frozen 4; obtain ⟨y0, y1, y2, y3, y4⟩ := hGx.hr.cells; have z0 := hGx.hr.frozen 0; have z1 := hGx.hr.frozen 1; have z2 := hGx.hr.frozen 2; have z3 := hGx.hr.frozen 3; have z4 := hGx.hr.frozen 4; unfold nextV at hSx)
    | (go_at_call 88; refine (small_any (by assumption) (by omega) hpl'.out).mono ?_; rintro e wx ⟨rfl, hbx⟩; have hGx := GSt.next (by assumption) hbx; have hSx := hGx.hx.cell; obtain ⟨d0, d1, d2, d3, d4⟩ := hGx.hi.cells; have q0 := hGx.hi.frozen 0; have q1 := hGx.hi.frozen 1; have q2 := hGx.hi.frozen 2; have q3 := hGx.hi.frozen 3; have q4 := hGx.hi.frozen 4; obtain ⟨y0, y1, y2, y3, y4⟩ := hGx.hr.cells; have z0 := hGx.hr.frozen 0; have z1 := hGx.hr.frozen 1; have z2 := hGx.hr.frozen 2; have z3 := hGx.hr.frozen 3; have z4 := hGx.hr.frozen 4; unfold nextV at hSx))
  have hGd := hG0.drew
  have hSd := hGd.hx.cell
  unfold nextV at hSd
  go_region_held3 (fun w' => w'.cell? ⟨w2.heap.size + 1 + 1, 0, none⟩ = some (.func (.func 86) #[] #[.pointer (some ⟨w2.heap.size + 1, 0, none⟩), .pointer (some ⟨w1.heap.size, 0, none⟩)]))
    (first | with_reducible exact hSd | with_reducible assumption | (rw [World.cell?_setCell_far _ _ _ _ (by simp <;> omega)]; with_reducible assumption) | (rw [World.cell?_setCell_far _ _ _ _ (by simp <;> omega), World.cell?_setCell_far _ _ _ _ (by simp <;> omega)]; with_reducible assumption) | (rw [World.cell?_setCell_far _ _ _ _ (by simp <;> omega), World.cell?_setCell_far _ _ _ _ (by simp <;> omega), World.cell?_setCell_far _ _ _ _ (by simp <;> omega)]; with_reducible assumption) | (rw [World.cell?_setCell_far _ _ _ _ (by simp <;> omega), World.cell?_setCell_far _ _ _ _ (by simp <;> omega), World.cell?_setCell_far _ _ _ _ (by simp <;> omega), World.cell?_setCell_far _ _ _ _ (by simp <;> omega)]; with_reducible assumption))
    (first
      | (go_at_call 86; refine (next_any (by assumption) (by omega) hpl'.out).mono ?_; rintro e wx ⟨rfl, hbx⟩; have hGx := GSt.next (by assumption) hbx; have hSx := hGx.hx.cell; obtain ⟨d0, d1, d2, d3, d4⟩ := hGx.hi.cells; have q0 := hGx.hi.frozen 0; have q1 := hGx.hi.frozen 1; have q2 := hGx.hi.frozen 2; have q3 := hGx.hi.frozen 3; have q4 := hGx.hi.frozen 4; obtain ⟨y0, y1, y2, y3, y4⟩ := hGx.hr.cells; have z0 := hGx.hr.frozen 0; have z1 := hGx.hr.frozen 1; have z2 := hGx.hr.frozen 2; have z3 := hGx.hr.frozen 3; have z4 := hGx.hr.frozen 4; unfold nextV at hSx)
      | (go_at_call 88; refine (small_any (by assumption) (by omega) hpl'.out).mono ?_; rintro e wx ⟨rfl, hbx⟩; have hGx := GSt.next (by assumption) hbx; have hSx := hGx.hx.cell; obtain ⟨d0, d1, d2, d3, d4⟩ := hGx.hi.cells; have q0 := hGx.hi.frozen 0; have q1 := hGx.hi.frozen 1; have q2 := hGx.hi.frozen 2; have q3 := hGx.hi.frozen 3; have q4 := hGx.hi.frozen 4; obtain ⟨y0, y1, y2, y3, y4⟩ := hGx.hr.cells; have z0 := hGx.hr.frozen 0; have z1 := hGx.hr.frozen 1; have z2 := hGx.hr.frozen 2; have z3 := hGx.hr.frozen 3; have z4 := hGx.hr.frozen 4; unfold nextV at hSx))
  all_goals
    have hF := ((hGx.putA (wordAt ps 1)).putN (wordAt ps 2))
    obtain ⟨d0, d1, d2, d3, d4⟩ := hF.hi.cells
    obtain ⟨y0, y1, y2, y3, y4⟩ := hF.hr.cells
    have z0 := hF.hr.frozen 0
    have z1 := hF.hr.frozen 1
    have z2 := hF.hr.frozen 2
    have z3 := hF.hr.frozen 3
    have z4 := hF.hr.frozen 4
    go_wp2_with fail
    refine bodyPost_ret (res_guess _ _ rfl (hF.hr.set5 ⟨1, wordAt ps 1, 0, 0, wordAt ps 2⟩)) rfl ?_
    exact ⟨rfl, below_set5 hF.hb _ (Nat.le_refl _) _ _ _ _ _⟩

set_option maxRecDepth 100000 in
set_option maxHeartbeats 4000000 in
theorem guess_zero (op : Int) (p0 : List UInt8) (ps : List (List UInt8)) (s : ByteArray) (w : World) (hM : Mx w) (hs : s.size ≤ 1000000) (hps : pcs 32 s.data.toList = ps) (hp0 : ps[0]? = some p0) (hpl : ∀ p ∈ ps, p.length ≤ 1000000) (hn : ps.length ≤ 1000001) (hk : kindOf p0 = op) (ho : op = 15) :
    Calls Tryz.prog 69 #[.string s] w fun r W' => r = .returned (insV ⟨15, wordAt ps 1, 0, 0, wordAt ps 2⟩) ∧ Below w.heap.size w W' := by
  subst ho
  have hsp := fun W hM => split_any s 32 W hM hs
  rw [hps] at hsp
  have hki := fun W => kind_any ⟨p0.toArray⟩ W
  rw [show (⟨p0.toArray⟩ : ByteArray).data.toList = p0 from rfl, hk] at hki
  have hl0 : 0 < ps.length := get_lt hp0
  have hl1 : (0 : Int) < (ps.length : Int) := by omega
  have hsp' := Lib.hid hsp
  have hki' := Lib.hid hki
  have hMz' := Lib.hid (hM.below ((Below.refl _ w).alloc (Nat.le_refl _) (.cells #[.int .i64 0, .int .i64 0, .int .i64 0, .int .i64 0, .int .u32 0] 73)))
  have hpl' := Lib.hid hpl
  clear hsp hki hps hk hpl hM
  go_enter Tryz.func69, Tryz.ntmps69
  go_wp2_with fail
  refine (hsp'.out _ hMz'.out).mono ?_
  rintro e w1 ⟨rfl, hc1, hb1⟩
  simp only [World.size_alloc] at hc1
  have c0 := hc1 0 p0 hp0
  have hlt1 : w.heap.size + 1 < w1.heap.size := cell_lt c0
  have hne1 : w.heap.size + 1 ≠ w1.heap.size := by omega
  have hc1' := Lib.hid hc1
  clear hc1
  go_wp2_with fail
  refine (hki'.out _).mono ?_
  rintro e w2 ⟨rfl, hb2⟩
  have hG0 := gst_start (op := 15) hc1'.out hb1 hlt1 hb2
  have hs2 : w1.heap.size < w2.heap.size := hG0.hn.2
  have hne2 : w1.heap.size ≠ w2.heap.size := by omega
  have hne3 : w.heap.size ≠ w2.heap.size := by omega
  have hne4 : w.heap.size ≠ w2.heap.size + 1 := by omega
  have hlt3 : w.heap.size < w2.heap.size := by omega
  have hlt4 : w.heap.size < w2.heap.size + 1 := by omega
  have hlt5 : w.heap.size < w2.heap.size + 1 + 1 := by omega
  have hne5 : w.heap.size ≠ w2.heap.size + 1 + 1 := by omega
  have hrw : InBox w2 w.heap.size Ins.zero := ((hb2.block _ (by rw [World.size_alloc]; omega)).trans ((Below.heap_alloc _ _ _ (by omega)).trans ((hb1.block _ (by rw [World.size_alloc]; omega)).trans (heap_alloc_new w _))))
  obtain ⟨y0, y1, y2, y3, y4⟩ := hrw.cells
  have z0 := hrw.frozen 0
  have z1 := hrw.frozen 1
  have z2 := hrw.frozen 2
  have z3 := hrw.frozen 3
  have z4 := hrw.frozen 4
  have hst := fun W p => run_store Tryz.prog W p (.func (.func 86) #[] #[.pointer (some ⟨w2.heap.size + 1, 0, none⟩), .pointer (some ⟨w1.heap.size, 0, none⟩)]) .plain rfl
  have hB1 : Below w.heap.size w w1 := ((Below.refl _ w).alloc (Nat.le_refl _) _).trans (hb1.mono (by simp))
  have hB2 : Below w.heap.size w w2 := (hB1.alloc hB1.size _).trans (hb2.mono (by rw [World.size_alloc]; have := hB1.size; omega))
  have hB2' := Lib.hid hB2
  have hrw' := Lib.hid hrw
  clear c0 hc1' hb1 hb2 hB1 hB2 hrw
  go_wp2_with (first
    | (go_at_call 86; refine (next_any (by assumption) (by omega) hpl'.out).mono ?_; rintro e wx ⟨rfl, hbx⟩; have hGx := GSt.next (by assumption) hbx; have hSx := hGx.hx.cell; obtain ⟨d0, d1, d2, d3, d4⟩ := hGx.hi.cells; have q0 := hGx.hi.frozen 0; have q1 := hGx.hi.frozen 1; have q2 := hGx.hi.frozen 2; have q3 := hGx.hi.frozen 3; have q4 := hGx.hi.frozen 4; obtain ⟨y0, y1, y2, y3, y4⟩ := hGx.hr.cells; have z0 := hGx.hr.frozen 0; have z1 := hGx.hr.frozen 1; have z2 := hGx.hr.frozen 2; have z3 := hGx.hr.frozen 3; have z4 := hGx.hr.frozen 4; unfold nextV at hSx)
    | (go_at_call 88; refine (small_any (by assumption) (by omega) hpl'.out).mono ?_; rintro e wx ⟨rfl, hbx⟩; have hGx := GSt.next (by assumption) hbx; have hSx := hGx.hx.cell; obtain ⟨d0, d1, d2, d3, d4⟩ := hGx.hi.cells; have q0 := hGx.hi.frozen 0; have q1 := hGx.hi.frozen 1; have q2 := hGx.hi.frozen 2; have q3 := hGx.hi.frozen 3; have q4 := hGx.hi.frozen 4; obtain ⟨y0, y1, y2, y3, y4⟩ := hGx.hr.cells; have z0 := hGx.hr.frozen 0; have z1 := hGx.hr.frozen 1; have z2 := hGx.hr.frozen 2; have z3 := hGx.hr.frozen 3; have z4 := hGx.hr.frozen 4; unfold nextV at hSx))
  have hGd := hG0.drew
  have hSd := hGd.hx.cell
  unfold nextV at hSd
  go_region_held3 (fun w' => w'.cell? ⟨w2.heap.size + 1 + 1, 0, none⟩ = some (.func (.func 86) #[] #[.pointer (some ⟨w2.heap.size + 1, 0, none⟩), .pointer (some ⟨w1.heap.size, 0, none⟩)]))
    (first | with_reducible exact hSd | with_reducible assumption | (rw [World.cell?_setCell_far _ _ _ _ (by simp <;> omega)]; with_reducible assumption) | (rw [World.cell?_setCell_far _ _ _ _ (by simp <;> omega), World.cell?_setCell_far _ _ _ _ (by simp <;> omega)]; with_reducible assumption) | (rw [World.cell?_setCell_far _ _ _ _ (by simp <;> omega), World.cell?_setCell_far _ _ _ _ (by simp <;> omega), World.cell?_setCell_far _ _ _ _ (by simp <;> omega)]; with_reducible assumption) | (rw [World.cell?_setCell_far _ _ _ _ (by simp <;> omega), World.cell?_setCell_far _ _ _ _ (by simp <;> omega), World.cell?_setCell_far _ _ _ _ (by simp <;> omega), World.cell?_setCell_far _ _ _ _ (by simp <;> omega)]; with_reducible assumption))
    (first
      | (go_at_call 86; refine (next_any (by assumption) (by omega) hpl'.out).mono ?_; rintro e wx ⟨rfl, hbx⟩; have hGx := GSt.next (by assumption) hbx; have hSx := hGx.hx.cell; obtain ⟨d0, d1, d2, d3, d4⟩ := hGx.hi.cells; have q0 := hGx.hi.frozen 0; have q1 := hGx.hi.frozen 1; have q2 := hGx.hi.frozen 2; have q3 := hGx.hi.frozen 3; have q4 := hGx.hi.frozen 4; obtain ⟨y0, y1, y2, y3, y4⟩ := hGx.hr.cells; have z0 := hGx.hr.frozen 0; have z1 := hGx.hr.frozen 1; have z2 := hGx.hr.frozen 2; have z3 := hGx.hr.frozen 3; have z4 := hGx.hr.frozen 4; unfold nextV at hSx)
      | (go_at_call 88; refine (small_any (by assumption) (by omega) hpl'.out).mono ?_; rintro e wx ⟨rfl, hbx⟩; have hGx := GSt.next (by assumption) hbx; have hSx := hGx.hx.cell; obtain ⟨d0, d1, d2, d3, d4⟩ := hGx.hi.cells; have q0 := hGx.hi.frozen 0; have q1 := hGx.hi.frozen 1; have q2 := hGx.hi.frozen 2; have q3 := hGx.hi.frozen 3; have q4 := hGx.hi.frozen 4; obtain ⟨y0, y1, y2, y3, y4⟩ := hGx.hr.cells; have z0 := hGx.hr.frozen 0; have z1 := hGx.hr.frozen 1; have z2 := hGx.hr.frozen 2; have z3 := hGx.hr.frozen 3; have z4 := hGx.hr.frozen 4; unfold nextV at hSx))
  all_goals
    have hF := ((hGx.putA (wordAt ps 1)).putN (wordAt ps 2))
    obtain ⟨d0, d1, d2, d3, d4⟩ := hF.hi.cells
    obtain ⟨y0, y1, y2, y3, y4⟩ := hF.hr.cells
    have z0 := hF.hr.frozen 0
    have z1 := hF.hr.frozen 1
    have z2 := hF.hr.frozen 2
    have z3 := hF.hr.frozen 3
    have z4 := hF.hr.frozen 4
    go_wp2_with fail
    refine bodyPost_ret (res_guess _ _ rfl (hF.hr.set5 ⟨15, wordAt ps 1, 0, 0, wordAt ps 2⟩)) rfl ?_
    exact ⟨rfl, below_set5 hF.hb _ (Nat.le_refl _) _ _ _ _ _⟩

end Go.Proofs.YtfgmebjbibbpdaaGreatDoor

namespace Go.Proofs.YtfgmebjbibbpdaaGreatDoor
open Go.RowKit

set_option maxRecDepth 100000 in
set_option maxHeartbeats 4000000 in
theorem guess_cas (op : Int) (p0 : List UInt8) (ps : List (List UInt8)) (s : ByteArray) (w : World) (hM : Mx w) (hs : s.size ≤ 1000000) (hps : pcs 32 s.data.toList = ps) (hp0 : ps[0]? = some p0) (hpl : ∀ p ∈ ps, p.length ≤ 1000000) (hn : ps.length ≤ 1000001) (hk : kindOf p0 = op) (ho : op = 13) :
    Calls Tryz.prog 69 #[.string s] w fun r W' => r = .returned (insV ⟨13, wordAt ps 1, wordAt ps 2, wordAt ps 3, wordAt ps 4⟩) ∧ Below w.heap.size w W' := by
  subst ho
  have hsp := fun W hM => split_any s 32 W hM hs
  rw [hps] at hsp
  have hki := fun W => kind_any ⟨p0.toArray⟩ W
  rw [show (⟨p0.toArray⟩ : ByteArray).data.toList = p0 from rfl, hk] at hki
  have hl0 : 0 < ps.length := get_lt hp0
  have hl1 : (0 : Int) < (ps.length : Int) := by omega
  have hsp' := Lib.hid hsp
  have hki' := Lib.hid hki
  have hMz' := Lib.hid (hM.below ((Below.refl _ w).alloc (Nat.le_refl _) (.cells #[.int .i64 0, .int .i64 0, .int .i64 0, .int .i64 0, .int .u32 0] 73)))
  have hpl' := Lib.hid hpl
  clear hsp hki hps hk hpl hM
  go_enter Tryz.func69, Tryz.ntmps69
  go_wp2_with fail
  refine (hsp'.out _ hMz'.out).mono ?_
  rintro e w1 ⟨rfl, hc1, hb1⟩
  simp only [World.size_alloc] at hc1
  have c0 := hc1 0 p0 hp0
  have hlt1 : w.heap.size + 1 < w1.heap.size := cell_lt c0
  have hne1 : w.heap.size + 1 ≠ w1.heap.size := by omega
  have hc1' := Lib.hid hc1
  clear hc1
  go_wp2_with fail
  refine (hki'.out _).mono ?_
  rintro e w2 ⟨rfl, hb2⟩
  have hG0 := gst_start (op := 13) hc1'.out hb1 hlt1 hb2
  have hs2 : w1.heap.size < w2.heap.size := hG0.hn.2
  have hne2 : w1.heap.size ≠ w2.heap.size := by omega
  have hne3 : w.heap.size ≠ w2.heap.size := by omega
  have hne4 : w.heap.size ≠ w2.heap.size + 1 := by omega
  have hlt3 : w.heap.size < w2.heap.size := by omega
  have hlt4 : w.heap.size < w2.heap.size + 1 := by omega
  have hlt5 : w.heap.size < w2.heap.size + 1 + 1 := by omega
  have hne5 : w.heap.size ≠ w2.heap.size + 1 + 1 := by omega
  have hrw : InBox w2 w.heap.size Ins.zero := ((hb2.block _ (by rw [World.size_alloc]; omega)).trans ((Below.heap_alloc _ _ _ (by omega)).trans ((hb1.block _ (by rw [World.size_alloc]; omega)).trans (heap_alloc_new w _))))
  obtain ⟨y0, y1, y2, y3, y4⟩ := hrw.cells
  have z0 := hrw.frozen 0
  have z1 := hrw.frozen 1
  have z2 := hrw.frozen 2
  have z3 := hrw.frozen 3
  have z4 := hrw.frozen 4
  have hst := fun W p => run_store Tryz.prog W p (.func (.func 86) #[] #[.pointer (some ⟨w2.heap.size + 1, 0, none⟩), .pointer (some ⟨w1.heap.size, 0, none⟩)]) .plain rfl
  have hB1 : Below w.heap.size w w1 := ((Below.refl _ w).alloc (Nat.le_refl _) _).trans (hb1.mono (by simp))
  have hB2 : Below w.heap.size w w2 := (hB1.alloc hB1.size _).trans (hb2.mono (by rw [World.size_alloc]; have := hB1.size; omega))
  have hB2' := Lib.hid hB2
  have hrw' := Lib.hid hrw
  clear c0 hc1' hb1 hb2 hB1 hB2 hrw
  go_wp2_with (first
    | (go_at_call 86; refine (next_any (by assumption) (by omega) hpl'.out).mono ?_; rintro e wx ⟨rfl, hbx⟩; have hGx := GSt.next (by assumption) hbx; have hSx := hGx.hx.cell; obtain ⟨d0, d1, d2, d3, d4⟩ := hGx.hi.cells; have q0 := hGx.hi.frozen 0; have q1 := hGx.hi.frozen 1; have q2 := hGx.hi.frozen 2; have q3 := hGx.hi.frozen 3; have q4 := hGx.hi.frozen 4; obtain ⟨y0, y1, y2, y3, y4⟩ := hGx.hr.cells; have z0 := hGx.hr.frozen 0; have z1 := hGx.hr.frozen 1; have z2 := hGx.hr.frozen 2; have z3 := hGx.hr.frozen 3; have z4 := hGx.hr.frozen 4; unfold nextV at hSx)
    | (go_at_call 88; refine (small_any (by assumption) (by omega) hpl'.out).mono ?_; rintro e wx ⟨rfl, hbx⟩; have hGx := GSt.next (by assumption) hbx; have hSx := hGx.hx.cell; obtain ⟨d0, d1, d2, d3, d4⟩ := hGx.hi.cells; have q0 := hGx.hi.frozen 0; have q1 := hGx.hi.frozen 1; have q2 := hGx.hi.frozen 2; have q3 := hGx.hi.frozen 3; have q4 := hGx.hi.frozen 4; obtain ⟨y0, y1, y2, y3, y4⟩ := hGx.hr.cells; have z0 := hGx.hr.frozen 0; have z1 := hGx.hr.frozen 1; have z2 := hGx.hr.frozen 2; have z3 := hGx.hr.frozen 3; have z4 := hGx.hr.frozen 4; unfold nextV at hSx))
  have hGd := hG0.drew
  have hSd := hGd.hx.cell
  unfold nextV at hSd
  go_region_held3 (fun w' => w'.cell? ⟨w2.heap.size + 1 + 1, 0, none⟩ = some (.func (.func 86) #[] #[.pointer (some ⟨w2.heap.size + 1, 0, none⟩), .pointer (some ⟨w1.heap.size, 0, none⟩)]))
    (first | with_reducible exact hSd | with_reducible assumption | (rw [World.cell?_setCell_far _ _ _ _ (by simp <;> omega)]; with_reducible assumption) | (rw [World.cell?_setCell_far _ _ _ _ (by simp <;> omega), World.cell?_setCell_far _ _ _ _ (by simp <;> omega)]; with_reducible assumption) | (rw [World.cell?_setCell_far _ _ _ _ (by simp <;> omega), World.cell?_setCell_far _ _ _ _ (by simp <;> omega), World.cell?_setCell_far _ _ _ _ (by simp <;> omega)]; with_reducible assumption) | (rw [World.cell?_setCell_far _ _ _ _ (by simp <;> omega), World.cell?_setCell_far _ _ _ _ (by simp <;> omega), World.cell?_setCell_far _ _ _ _ (by simp <;> omega), World.cell?_setCell_far _ _ _ _ (by simp <;> omega)]; with_reducible assumption))
    (first
      | (go_at_call 86; refine (next_any (by assumption) (by omega) hpl'.out).mono ?_; rintro e wx ⟨rfl, hbx⟩; have hGx := GSt.next (by assumption) hbx; have hSx := hGx.hx.cell; obtain ⟨d0, d1, d2, d3, d4⟩ := hGx.hi.cells; have q0 := hGx.hi.frozen 0; have q1 := hGx.hi.frozen 1; have q2 := hGx.hi.frozen 2; have q3 := hGx.hi.frozen 3; have q4 := hGx.hi.frozen 4; obtain ⟨y0, y1, y2, y3, y4⟩ := hGx.hr.cells; have z0 := hGx.hr.frozen 0; have z1 := hGx.hr.frozen 1; have z2 := hGx.hr.frozen 2; have z3 := hGx.hr.frozen 3; have z4 := hGx.hr.frozen 4; unfold nextV at hSx)
      | (go_at_call 88; refine (small_any (by assumption) (by omega) hpl'.out).mono ?_; rintro e wx ⟨rfl, hbx⟩; have hGx := GSt.next (by assumption) hbx; have hSx := hGx.hx.cell; obtain ⟨d0, d1, d2, d3, d4⟩ := hGx.hi.cells; have q0 := hGx.hi.frozen 0; have q1 := hGx.hi.frozen 1; have q2 := hGx.hi.frozen 2; have q3 := hGx.hi.frozen 3; have q4 := hGx.hi.frozen 4; obtain ⟨y0, y1, y2, y3, y4⟩ := hGx.hr.cells; have z0 := hGx.hr.frozen 0; have z1 := hGx.hr.frozen 1; have z2 := hGx.hr.frozen 2; have z3 := hGx.hr.frozen 3; have z4 := hGx.hr.frozen 4; unfold nextV at hSx))
  all_goals
    have hF := ((((hGx.putA (wordAt ps 1)).putB (wordAt ps 2)).putC (wordAt ps 3)).putN (wordAt ps 4))
    obtain ⟨d0, d1, d2, d3, d4⟩ := hF.hi.cells
    obtain ⟨y0, y1, y2, y3, y4⟩ := hF.hr.cells
    have z0 := hF.hr.frozen 0
    have z1 := hF.hr.frozen 1
    have z2 := hF.hr.frozen 2
    have z3 := hF.hr.frozen 3
    have z4 := hF.hr.frozen 4
    go_wp2_with fail
    refine bodyPost_ret (res_guess _ _ rfl (hF.hr.set5 ⟨13, wordAt ps 1, wordAt ps 2, wordAt ps 3, wordAt ps 4⟩)) rfl ?_
    exact ⟨rfl, below_set5 hF.hb _ (Nat.le_refl _) _ _ _ _ _⟩

end Go.Proofs.YtfgmebjbibbpdaaGreatDoor

namespace Go.Proofs.YtfgmebjbibbpdaaGreatDoor
open Go.RowKit

set_option maxRecDepth 100000 in
set_option maxHeartbeats 4000000 in
theorem guess_load (op : Int) (p0 : List UInt8) (ps : List (List UInt8)) (s : ByteArray) (w : World) (hM : Mx w) (hs : s.size ≤ 1000000) (hps : pcs 32 s.data.toList = ps) (hp0 : ps[0]? = some p0) (hpl : ∀ p ∈ ps, p.length ≤ 1000000) (hn : ps.length ≤ 1000001) (hk : kindOf p0 = op) (ho : 11 ≤ op ∧ op ≤ 20 ∧ op ≠ 13 ∧ op ≠ 14 ∧ op ≠ 15 ∧ op ≠ 16) :
    Calls Tryz.prog 69 #[.string s] w fun r W' => r = .returned (insV ⟨op, wordAt ps 1, wordAt ps 2, 0, wordAt ps 3⟩) ∧ Below w.heap.size w W' := by
  have x16 : (op == 16) = false := by rw [beq_eq_false_iff_ne]; omega
  have x14 : (op == 14) = false := by rw [beq_eq_false_iff_ne]; omega
  have x1 : (op == 1) = false := by rw [beq_eq_false_iff_ne]; omega
  have x15 : (op == 15) = false := by rw [beq_eq_false_iff_ne]; omega
  have x2 : (op == 2) = false := by rw [beq_eq_false_iff_ne]; omega
  have x13 : (op == 13) = false := by rw [beq_eq_false_iff_ne]; omega
  have y3 : (decide (3 ≤ op) && decide (op ≤ 10)) = false := by simp; omega
  have y3a : decide (3 ≤ op) = true := decide_eq_true (by omega)
  have y3b : decide (op ≤ 10) = false := decide_eq_false (by omega)
  have y5 : (op != 0) = true := by simp; omega
  have y6 : (op != 21) = true := by simp; omega
  have hsp := fun W hM => split_any s 32 W hM hs
  rw [hps] at hsp
  have hki := fun W => kind_any ⟨p0.toArray⟩ W
  rw [show (⟨p0.toArray⟩ : ByteArray).data.toList = p0 from rfl, hk] at hki
  have hl0 : 0 < ps.length := get_lt hp0
  have hl1 : (0 : Int) < (ps.length : Int) := by omega
  have hsp' := Lib.hid hsp
  have hki' := Lib.hid hki
  have hMz' := Lib.hid (hM.below ((Below.refl _ w).alloc (Nat.le_refl _) (.cells #[.int .i64 0, .int .i64 0, .int .i64 0, .int .i64 0, .int .u32 0] 73)))
  have hpl' := Lib.hid hpl
  clear hsp hki hps hk hpl hM
  go_enter Tryz.func69, Tryz.ntmps69
  go_wp2_with fail
  refine (hsp'.out _ hMz'.out).mono ?_
  rintro e w1 ⟨rfl, hc1, hb1⟩
  simp only [World.size_alloc] at hc1
  have c0 := hc1 0 p0 hp0
  have hlt1 : w.heap.size + 1 < w1.heap.size := cell_lt c0
  have hne1 : w.heap.size + 1 ≠ w1.heap.size := by omega
  have hc1' := Lib.hid hc1
  clear hc1
  go_wp2_with fail
  refine (hki'.out _).mono ?_
  rintro e w2 ⟨rfl, hb2⟩
  have hG0 := gst_start (op := op) hc1'.out hb1 hlt1 hb2
  have hs2 : w1.heap.size < w2.heap.size := hG0.hn.2
  have hne2 : w1.heap.size ≠ w2.heap.size := by omega
  have hne3 : w.heap.size ≠ w2.heap.size := by omega
  have hne4 : w.heap.size ≠ w2.heap.size + 1 := by omega
  have hlt3 : w.heap.size < w2.heap.size := by omega
  have hlt4 : w.heap.size < w2.heap.size + 1 := by omega
  have hlt5 : w.heap.size < w2.heap.size + 1 + 1 := by omega
  have hne5 : w.heap.size ≠ w2.heap.size + 1 + 1 := by omega
  have hrw : InBox w2 w.heap.size Ins.zero := ((hb2.block _ (by rw [World.size_alloc]; omega)).trans ((Below.heap_alloc _ _ _ (by omega)).trans ((hb1.block _ (by rw [World.size_alloc]; omega)).trans (heap_alloc_new w _))))
  obtain ⟨y0, y1, y2, y3, y4⟩ := hrw.cells
  have z0 := hrw.frozen 0
  have z1 := hrw.frozen 1
  have z2 := hrw.frozen 2
  have z3 := hrw.frozen 3
  have z4 := hrw.frozen 4
  have hst := fun W p => run_store Tryz.prog W p (.func (.func 86) #[] #[.pointer (some ⟨w2.heap.size + 1, 0, none⟩), .pointer (some ⟨w1.heap.size, 0, none⟩)]) .plain rfl
  have hB1 : Below w.heap.size w w1 := ((Below.refl _ w).alloc (Nat.le_refl _) _).trans (hb1.mono (by simp))
  have hB2 : Below w.heap.size w w2 := (hB1.alloc hB1.size _).trans (hb2.mono (by rw [World.size_alloc]; have := hB1.size; omega))
  have hB2' := Lib.hid hB2
  have hrw' := Lib.hid hrw
  clear c0 hc1' hb1 hb2 hB1 hB2 hrw
  go_wp2_with (first
    | (go_at_call 86; refine (next_any (by assumption) (by omega) hpl'.out).mono ?_; rintro e wx ⟨rfl, hbx⟩; have hGx := GSt.next (by assumption) hbx; have hSx := hGx.hx.cell; obtain ⟨d0, d1, d2, d3, d4⟩ := hGx.hi.cells; have q0 := hGx.hi.frozen 0; have q1 := hGx.hi.frozen 1; have q2 := hGx.hi.frozen 2; have q3 := hGx.hi.frozen 3; have q4 := hGx.hi.frozen 4; obtain ⟨y0, y1, y2, y3, y4⟩ := hGx.hr.cells; have z0 := hGx.hr.frozen 0; have z1 := hGx.hr.frozen 1; have z2 := hGx.hr.frozen 2; have z3 := hGx.hr.frozen 3; have z4 := hGx.hr.frozen 4; unfold nextV at hSx)
    | (go_at_call 88; refine (small_any (by assumption) (by omega) hpl'.out).mono ?_; rintro e wx ⟨rfl, hbx⟩; have hGx := GSt.next (by assumption) hbx; have hSx := hGx.hx.cell; obtain ⟨d0, d1, d2, d3, d4⟩ := hGx.hi.cells; have q0 := hGx.hi.frozen 0; have q1 := hGx.hi.frozen 1; have q2 := hGx.hi.frozen 2; have q3 := hGx.hi.frozen 3; have q4 := hGx.hi.frozen 4; obtain ⟨y0, y1, y2, y3, y4⟩ := hGx.hr.cells; have z0 := hGx.hr.frozen 0; have z1 := hGx.hr.frozen 1; have z2 := hGx.hr.frozen 2; have z3 := hGx.hr.frozen 3; have z4 := hGx.hr.frozen 4; unfold nextV at hSx))
  have hGd := hG0.drew
  have hSd := hGd.hx.cell
  unfold nextV at hSd
  go_region_held3 (fun w' => w'.cell? ⟨w2.heap.size + 1 + 1, 0, none⟩ = some (.func (.func 86) #[] #[.pointer (some ⟨w2.heap.size + 1, 0, none⟩), .pointer (some ⟨w1.heap.size, 0, none⟩)]))
    (first | with_reducible exact hSd | with_reducible assumption | (rw [World.cell?_setCell_far _ _ _ _ (by simp <;> omega)]; with_reducible assumption) | (rw [World.cell?_setCell_far _ _ _ _ (by simp <;> omega), World.cell?_setCell_far _ _ _ _ (by simp <;> omega)]; with_reducible assumption) | (rw [World.cell?_setCell_far _ _ _ _ (by simp <;> omega), World.cell?_setCell_far _ _ _ _ (by simp <;> omega), World.cell?_setCell_far _ _ _ _ (by simp <;> omega)]; with_reducible assumption) | (rw [World.cell?_setCell_far _ _ _ _ (by simp <;> omega), World.cell?_setCell_far _ _ _ _ (by simp <;> omega), World.cell?_setCell_far _ _ _ _ (by simp <;> omega), World.cell?_setCell_far _ _ _ _ (by simp <;> omega)]; with_reducible assumption))
    (first
      | (go_at_call 86; refine (next_any (by assumption) (by omega) hpl'.out).mono ?_; rintro e wx ⟨rfl, hbx⟩; have hGx := GSt.next (by assumption) hbx; have hSx := hGx.hx.cell; obtain ⟨d0, d1, d2, d3, d4⟩ := hGx.hi.cells; have q0 := hGx.hi.frozen 0; have q1 := hGx.hi.frozen 1; have q2 := hGx.hi.frozen 2; have q3 := hGx.hi.frozen 3; have q4 := hGx.hi.frozen 4; obtain ⟨y0, y1, y2, y3, y4⟩ := hGx.hr.cells; have z0 := hGx.hr.frozen 0; have z1 := hGx.hr.frozen 1; have z2 := hGx.hr.frozen 2; have z3 := hGx.hr.frozen 3; have z4 := hGx.hr.frozen 4; unfold nextV at hSx)
      | (go_at_call 88; refine (small_any (by assumption) (by omega) hpl'.out).mono ?_; rintro e wx ⟨rfl, hbx⟩; have hGx := GSt.next (by assumption) hbx; have hSx := hGx.hx.cell; obtain ⟨d0, d1, d2, d3, d4⟩ := hGx.hi.cells; have q0 := hGx.hi.frozen 0; have q1 := hGx.hi.frozen 1; have q2 := hGx.hi.frozen 2; have q3 := hGx.hi.frozen 3; have q4 := hGx.hi.frozen 4; obtain ⟨y0, y1, y2, y3, y4⟩ := hGx.hr.cells; have z0 := hGx.hr.frozen 0; have z1 := hGx.hr.frozen 1; have z2 := hGx.hr.frozen 2; have z3 := hGx.hr.frozen 3; have z4 := hGx.hr.frozen 4; unfold nextV at hSx))
  all_goals
    have hF := (((hGx.putA (wordAt ps 1)).putB (wordAt ps 2)).putN (wordAt ps 3))
    obtain ⟨d0, d1, d2, d3, d4⟩ := hF.hi.cells
    obtain ⟨y0, y1, y2, y3, y4⟩ := hF.hr.cells
    have z0 := hF.hr.frozen 0
    have z1 := hF.hr.frozen 1
    have z2 := hF.hr.frozen 2
    have z3 := hF.hr.frozen 3
    have z4 := hF.hr.frozen 4
    go_wp2_with fail
    refine bodyPost_ret (res_guess _ _ rfl (hF.hr.set5 ⟨op, wordAt ps 1, wordAt ps 2, 0, wordAt ps 3⟩)) rfl ?_
    exact ⟨rfl, below_set5 hF.hb _ (Nat.le_refl _) _ _ _ _ _⟩

end Go.Proofs.YtfgmebjbibbpdaaGreatDoor

namespace Go.Proofs.YtfgmebjbibbpdaaGreatDoor
open Go.RowKit

theorem kind_rng (p : List UInt8) : 0 ≤ kindOf p ∧ kindOf p < 22 := by
  unfold kindOf
  refine ⟨Int.natCast_nonneg _, ?_⟩
  cases h : shs.findIdx? fun x => x.w == p with
  | none => decide
  | some k =>
    have := (List.findIdx?_eq_some_iff_getElem.1 h).1
    have h22 : shs.length = 22 := rfl
    show ((k : Nat) : Int) < 22
    omega
theorem pcs_le (c : UInt8) (l : List UInt8) : ∀ x ∈ pcs c l, x.length ≤ l.length := by
  induction l with
  | nil => intro x hx; simp [pcs] at hx; simp [hx]
  | cons a l ih =>
    intro x hx
    have hh : ((pcs c l).headD []).length ≤ l.length := by
      cases h : pcs c l with
      | nil => simp
      | cons y r => exact ih y (by rw [h]; simp)
    unfold pcs at hx
    split at hx
    · rcases List.mem_cons.1 hx with rfl | hx
      · simp
      · have := ih x hx
        rw [List.length_cons]; omega
    · rcases List.mem_cons.1 hx with rfl | hx
      · simp only [List.length_cons]; omega
      · have := ih x (List.mem_of_mem_tail hx)
        rw [List.length_cons]; omega

theorem guess_any (s : ByteArray) (w : World) (hM : Mx w) (hs : s.size ≤ 1000000) : Calls Tryz.prog 69 #[.string s] w fun r W' => r = .returned (insV (guess s.data.toList)) ∧ Below w.heap.size w W' := by
  have hne := pcs_ne 32 s.data.toList
  have hlen : s.data.toList.length = s.size := Array.length_toList
  have hn : (pcs 32 s.data.toList).length ≤ 1000001 := by have := pcs_len 32 s.data.toList; omega
  have hpl : ∀ p ∈ pcs 32 s.data.toList, p.length ≤ 1000000 := fun p hp => by have := pcs_le 32 s.data.toList p hp; omega
  obtain ⟨p0, hp0⟩ := get_some (List.length_pos_iff.2 hne)
  unfold guess guessL
  have hp0' : (pcs 32 s.data.toList).getD 0 [] = p0 := by rw [List.getD_eq_getElem?_getD, hp0]; rfl
  rw [hp0']
  simp only
  have hr := kind_rng p0
  by_cases h16 : kindOf p0 = 16
  · rw [if_pos h16, h16]
    exact guess_back 16 p0 _ s w hM hs rfl hp0 hpl hn h16 rfl
  rw [if_neg h16]
  by_cases h14 : kindOf p0 = 14
  · rw [if_pos h14, h14]
    exact guess_jump 14 p0 _ s w hM hs rfl hp0 hpl hn h14 rfl
  rw [if_neg h14]
  by_cases h1 : kindOf p0 = 1
  · rw [if_pos (.inl h1), h1]
    exact guess_set 1 p0 _ s w hM hs rfl hp0 hpl hn h1 rfl
  by_cases h15 : kindOf p0 = 15
  · rw [if_pos (.inr h15), h15]
    exact guess_zero 15 p0 _ s w hM hs rfl hp0 hpl hn h15 rfl
  rw [if_neg (fun h => h.elim h1 h15)]
  by_cases h2 : kindOf p0 = 2
  · rw [if_pos h2, h2]
    exact guess_move 2 p0 _ s w hM hs rfl hp0 hpl hn h2 rfl
  rw [if_neg h2]
  by_cases h3 : 3 ≤ kindOf p0 ∧ kindOf p0 ≤ 10
  · rw [if_pos h3]
    exact guess_three _ p0 _ s w hM hs rfl hp0 hpl hn rfl h3
  rw [if_neg h3]
  by_cases h13 : kindOf p0 = 13
  · rw [if_pos h13, h13]
    exact guess_cas 13 p0 _ s w hM hs rfl hp0 hpl hn h13 rfl
  rw [if_neg h13]
  by_cases h0 : kindOf p0 = 0
  · rw [if_neg (fun h => h.1 h0), h0]
    exact guess_nop 0 p0 _ s w hM hs rfl hp0 hpl hn h0 rfl
  by_cases h21 : kindOf p0 = 21
  · rw [if_neg (fun h => h.2 h21), h21]
    exact guess_done 21 p0 _ s w hM hs rfl hp0 hpl hn h21 rfl
  rw [if_pos ⟨h0, h21⟩]
  exact guess_load _ p0 _ s w hM hs rfl hp0 hpl hn rfl ⟨by omega, by omega, h13, h14, h15, h16⟩

end Go.Proofs.YtfgmebjbibbpdaaGreatDoor

namespace Go.Proofs.YtfgmebjbibbpdaaGreatDoor
open Go.RowKit

theorem res_aread (tmps : Array Value) (w : World) {b : Nat} {e : Ins} {x : Bool} (ha : tmps[2]?.getD undef = .pointer (some ⟨b, 0, none⟩)) (hx : tmps[3]?.getD undef = .bool x) (hbox : InBox w b e) :
    (results Tryz.f44 tmps).run Tryz.prog w = .ok (.tuple #[insV e, .bool x]) w := by
  obtain ⟨h0, h1, h2, h3, h4⟩ := hbox.cells
  simp [results, ha, hx, h0, h1, h2, h3, h4, go_sem, insV]

theorem read_yes {l : List UInt8} (h1 : insB (guess l) = true) (h2 : lineL (guess l) = l) : readX l = guess l ∧ readOk l = true := by
  unfold readX readOk readI
  rw [if_pos ⟨h1, h2⟩]
  exact ⟨rfl, rfl⟩
theorem read_no {l : List UInt8} (h : ¬ (insB (guess l) = true ∧ lineL (guess l) = l)) : readX l = Ins.zero ∧ readOk l = false := by
  unfold readX readOk readI
  rw [if_neg h]
  exact ⟨rfl, rfl⟩

set_option maxRecDepth 100000 in
set_option maxHeartbeats 2000000 in
theorem aread_any (s : ByteArray) (w : World) (hs : s.size ≤ 1000000) (hT : Tab w) (hM : Mx w) :
    Calls Tryz.prog 44 #[.string s] w fun r W' => r = .returned (.tuple #[insV (readX s.data.toList), .bool (readOk s.data.toList)]) ∧ Below w.heap.size w W' := by
  obtain ⟨l, hl⟩ : ∃ l, s.data.toList = l := ⟨_, rfl⟩
  have hst : s.toList = l := by rw [ByteArray.toList_eq, hl]
  have hg := fun W hM => guess_any s W hM hs
  have hy := @read_yes l
  have hno := @read_no l
  have hgo := guess_ok l
  rw [hl] at hg ⊢
  obtain ⟨g, hge⟩ : ∃ g, guess l = g := ⟨_, rfl⟩
  rw [hge] at hg hy hno hgo
  have hln := fun W hT => line_any g hgo W hT
  have hr0 := InBox.new w Ins.zero
  have hr0' := Lib.hid hr0
  have hMz' := Lib.hid (hM.below ((Below.refl _ w).alloc (Nat.le_refl _) (.cells #[.int .i64 0, .int .i64 0, .int .i64 0, .int .i64 0, .int .u32 0] 73)))
  have hT' := Lib.hid hT
  have hg' := Lib.hid hg
  clear hg hge hl hM hT hr0
  have key : (insB g = true ∧ lineL g = l) ∨ ¬ (insB g = true ∧ lineL g = l) := Classical.em _
  rcases hb : insB g with _ | _
  · have hn := Lib.hid (hno (by rw [hb]; simp))
    rw [hb] at hln
    simp only [Bool.false_eq_true, if_false] at hln
    have hln' := Lib.hid hln
    clear hln hy hno key hb hgo hst
    obtain ⟨op, a, b, c, m⟩ := g
    unfold insV at hg' hln'
    simp only at hg' hln'
    go_enter Tryz.func44, Tryz.ntmps44
    go_wp2_with fail
    refine (hg'.out _ hMz'.out).mono ?_
    rintro e w1 ⟨rfl, hb1⟩
    have hr1 := hr0'.out.kept hb1
    have hlt1 := hr1.lt
    have hne1 : w.heap.size ≠ w1.heap.size := by omega
    have hB1 := ((Below.refl _ w).alloc (Nat.le_refl _) (.cells #[.int .i64 0, .int .i64 0, .int .i64 0, .int .i64 0, .int .u32 0] 73)).trans (hb1.mono (by simp))
    have hB1a := hB1.alloc hB1.size (.cells #[.int .i64 op, .int .i64 a, .int .i64 b, .int .i64 c, .int .u32 m] 73)
    have hTa := hT'.out.below hB1a
    clear hb1
    go_wp2_with fail
    refine (hln'.out _ hTa).mono ?_
    rintro e w2 ⟨rfl, hb2⟩
    have hr2 := (hr1.kept ((Below.refl _ w1).alloc (Nat.le_refl _) _)).kept hb2
    have hB2 := hB1a.trans (hb2.mono hB1a.size)
    obtain ⟨y0, y1, y2, y3, y4⟩ := hr2.cells
    have z0 := hr2.frozen 0
    have z1 := hr2.frozen 1
    have z2 := hr2.frozen 2
    have z3 := hr2.frozen 3
    have z4 := hr2.frozen 4
    go_wp2_with fail
    refine bodyPost_ret (res_aread _ _ rfl rfl (hr2.set5 Ins.zero)) rfl ?_
    exact ⟨by rw [hn.out.1, hn.out.2], below_set5 hB2 _ (Nat.le_refl _) _ _ _ _ _⟩
  · rw [hb] at hln
    simp only [if_true] at hln
    have hnew := fun W => InBox.new W g
    by_cases hq : lineL g = l
    · have hstr : ((lineS g).toList == s.toList) = true := by rw [hst, ByteArray.toList_eq]; simp [lineS, hq]
      have hn := Lib.hid (hy hb hq)
      obtain ⟨LS, hLS⟩ : ∃ x, lineS g = x := ⟨_, rfl⟩
      rw [hLS] at hln hstr
      have hln' := Lib.hid hln
      have hnew' := Lib.hid hnew
      clear hln hy hno key hb hgo hq hLS hnew hst
      obtain ⟨op, a, b, c, m⟩ := g
      unfold insV at hg' hln'
      simp only at hg' hln' hnew'
      go_enter Tryz.func44, Tryz.ntmps44
      go_wp2_with fail
      refine (hg'.out _ hMz'.out).mono ?_
      rintro e w1 ⟨rfl, hb1⟩
      have hr1 := hr0'.out.kept hb1
      have hlt1 := hr1.lt
      have hne1 : w.heap.size ≠ w1.heap.size := by omega
      have hB1 := ((Below.refl _ w).alloc (Nat.le_refl _) (.cells #[.int .i64 0, .int .i64 0, .int .i64 0, .int .i64 0, .int .u32 0] 73)).trans (hb1.mono (by simp))
      have hB1a := hB1.alloc hB1.size (.cells #[.int .i64 op, .int .i64 a, .int .i64 b, .int .i64 c, .int .u32 m] 73)
      have hTa := hT'.out.below hB1a
      clear hb1
      go_wp2_with fail
      refine (hln'.out _ hTa).mono ?_
      rintro e w2 ⟨rfl, hb2⟩
      have hr2 := (hr1.kept ((Below.refl _ w1).alloc (Nat.le_refl _) _)).kept hb2
      have hg2 := (hnew'.out w1).kept hb2
      have hB2 := hB1a.trans (hb2.mono hB1a.size)
      obtain ⟨y0, y1, y2, y3, y4⟩ := hr2.cells
      obtain ⟨x0, x1, x2, x3, x4⟩ := hg2.cells
      have z0 := hr2.frozen 0
      have z1 := hr2.frozen 1
      have z2 := hr2.frozen 2
      have z3 := hr2.frozen 3
      have z4 := hr2.frozen 4
      go_wp2_with fail
      refine bodyPost_ret (res_aread _ _ rfl rfl (hr2.set5 ⟨op, a, b, c, m⟩)) rfl ?_
      exact ⟨by rw [hn.out.1, hn.out.2], below_set5 hB2 _ (Nat.le_refl _) _ _ _ _ _⟩
    · have hstr : ((lineS g).toList == s.toList) = false := by
        rw [beq_eq_false_iff_ne, hst, ByteArray.toList_eq]
        simpa [lineS] using hq
      have hn := Lib.hid (hno (fun h => hq h.2))
      obtain ⟨LS, hLS⟩ : ∃ x, lineS g = x := ⟨_, rfl⟩
      rw [hLS] at hln hstr
      have hln' := Lib.hid hln
      clear hln hy hno key hb hgo hq hLS hnew hst
      obtain ⟨op, a, b, c, m⟩ := g
      unfold insV at hg' hln'
      simp only at hg' hln'
      go_enter Tryz.func44, Tryz.ntmps44
      go_wp2_with fail
      refine (hg'.out _ hMz'.out).mono ?_
      rintro e w1 ⟨rfl, hb1⟩
      have hr1 := hr0'.out.kept hb1
      have hlt1 := hr1.lt
      have hne1 : w.heap.size ≠ w1.heap.size := by omega
      have hB1 := ((Below.refl _ w).alloc (Nat.le_refl _) (.cells #[.int .i64 0, .int .i64 0, .int .i64 0, .int .i64 0, .int .u32 0] 73)).trans (hb1.mono (by simp))
      have hB1a := hB1.alloc hB1.size (.cells #[.int .i64 op, .int .i64 a, .int .i64 b, .int .i64 c, .int .u32 m] 73)
      have hTa := hT'.out.below hB1a
      clear hb1
      go_wp2_with fail
      refine (hln'.out _ hTa).mono ?_
      rintro e w2 ⟨rfl, hb2⟩
      have hr2 := (hr1.kept ((Below.refl _ w1).alloc (Nat.le_refl _) _)).kept hb2
      have hB2 := hB1a.trans (hb2.mono hB1a.size)
      obtain ⟨y0, y1, y2, y3, y4⟩ := hr2.cells
      have z0 := hr2.frozen 0
      have z1 := hr2.frozen 1
      have z2 := hr2.frozen 2
      have z3 := hr2.frozen 3
      have z4 := hr2.frozen 4
      go_wp2_with fail
      refine bodyPost_ret (res_aread _ _ rfl rfl (hr2.set5 Ins.zero)) rfl ?_
      exact ⟨by rw [hn.out.1, hn.out.2], below_set5 hB2 _ (Nat.le_refl _) _ _ _ _ _⟩

end Go.Proofs.YtfgmebjbibbpdaaGreatDoor
