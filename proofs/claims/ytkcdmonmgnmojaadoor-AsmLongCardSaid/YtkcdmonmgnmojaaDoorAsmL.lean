/- asm.Line: an instruction's line. -/
import Derived.Test.YtkcdmonmgnmojaaDoorAsmO
import Derived.Test.YtkcdmonmgnmojaaDoorShow
namespace Go.Proofs.YtkcdmonmgnmojaaDoor
open Go.RowKit

/-- 'append(out, x...)' in a region that draws its order; what is no row of out's stands as it stood. -/
theorem step_app2 {P : Program} {w : World} {ops : Array Oper} {o : Oper} {a : Act} {K : Act → World → Prop} {Q : Exit → Act → World → Prop} {E : Prop} (hgd : o.guard = none) (s x : Operand) (t : TypeId)
    (ho : o.op = .call { callee := .builtin .append, args := #[s, x], argTypes := #[t, t] }) {e : TypeId} {size bytes : Nat} (hT : ElemTy P t e size bytes) (base : Nat)
    {v : Value} {n : Nat} {xs : List Value} (hown : w.ownsRow base e size v n xs) (hs : a.eval s = v) {ad : Addr} {m c : Nat} {news : List Value} (hnews : ∀ j u, news[j]? = some u → w.cell? (ad.add j) = some u) (hx : a.eval x = .slice (some ad) m c) (hl : news.length = m * size) (h1 : ∀ u ∈ news, u.oneCell' = true)
    (h63 : n + m ≤ maxLen) (hbytes : (n + m) * bytes ≤ 140737488355328) (hbase : base ≤ w.heap.size)
    (h : ∀ v' w', w'.ownsRow base e size v' (n + m) (xs ++ news) → Below base w w' → (∀ k, k < w.heap.size → some k ≠ v.ownBlock → w'.heap[k]? = w.heap[k]?) → (v'.ownBlock = v.ownBlock ∨ v'.ownBlock = some w.heap.size) → K (a.put o.dst v') w') : if Region.wanted o (yielded ops a.tmps) = true then Oper.wp P o a w K Q else E := by
  have hw : Region.wanted o (yielded ops a.tmps) = true := by simp [Region.wanted, hgd]
  rw [if_pos hw]
  obtain ⟨ht, i, z, hi, hz, hsize, hby, hzs, hsz⟩ := hT
  obtain ⟨v', w', hr, h2, h3, h4, h5⟩ := run_append_own_at (P := P) w base t o.type e i z size bytes ht hi hz hsize hby hzs hsz v n xs hown ad m c news hl hnews h1 h63 hbytes hbase
  unfold Oper.wp execOp
  simp only [ho, resolve, invoke, builtin, Sem.run_bind, Sem.run_pure, Result.andThen_ok, List.map_toArray, List.map_cons, List.map_nil, hs, hx, hr]
  exact h v' w' h2 (grown_below hown h3 (Nat.le_refl _) hbase) h3.block h5

def Fresh (N2 N3 : Nat) (v : Value) : Prop := ∃ g, v.ownBlock = some g ∧ (g = N2 ∨ N3 ≤ g)
def Kept (N2 N3 : Nat) (w3 wr : World) : Prop := ∀ j, N2 < j → j < N3 → wr.heap[j]? = w3.heap[j]?
theorem Kept.below {N2 N3 : Nat} {w3 w w' : World} (h : Kept N2 N3 w3 w) (hb : Below w.heap.size w w') (hs : N3 ≤ w.heap.size) : Kept N2 N3 w3 w' := fun j h1 h2 => (hb.block j (by omega)).trans (h j h1 h2)
theorem Fresh.ne {N2 N3 : Nat} {v : Value} (h : Fresh N2 N3 v) {j : Nat} (h1 : N2 < j) (h2 : j < N3) : some j ≠ v.ownBlock := by
  obtain ⟨g, e, hg⟩ := h
  rw [e]
  intro h
  cases h
  omega
def LnSt (base : Nat) (w1 : World) (nb N2 N3 : Nat) (w3 : World) (x : ByteArray) (z : Int) (w' : World) : Prop :=
  Below base w1 w' ∧ w'.cell? ⟨nb, 0, none⟩ = some (.string x) ∧ w'.cell? ⟨nb, 1, none⟩ = some (.int .u32 z) ∧ Kept N2 N3 w3 w'
section
variable {base nb N2 N3 : Nat} {w1 w3 w w' : World} {x : ByteArray} {z : Int}
theorem LnSt.below (h : LnSt base w1 nb N2 N3 w3 x z w) (hs : base ≤ N3 ∧ N3 ≤ w1.heap.size) (hb : Below w.heap.size w w') : LnSt base w1 nb N2 N3 w3 x z w' := by
  obtain ⟨h1, h2, h3, h4⟩ := h
  have hsz := h1.size
  refine ⟨h1.trans (hb.mono (by omega)), ?_, ?_, h4.below hb (by omega)⟩
  · exact (hb.cell (p := ⟨nb, 0, none⟩) (cell_lt h2)).trans h2
  · exact (hb.cell (p := ⟨nb, 1, none⟩) (cell_lt h3)).trans h3
theorem LnSt.drew (h : LnSt base w1 nb N2 N3 w3 x z w) : LnSt base w1 nb N2 N3 w3 x z w.drew := ⟨h.1.drew, h.2⟩
theorem LnSt.alloc (h : LnSt base w1 nb N2 N3 w3 x z w) (hs : base ≤ N3 ∧ N3 ≤ w1.heap.size) (o : Obj) : LnSt base w1 nb N2 N3 w3 x z (w.alloc o) := h.below hs ((Below.refl _ w).alloc (Nat.le_refl _) o)
theorem LnSt.app {v : Value} (h : LnSt base w1 nb N2 N3 w3 x z w) (hs : N3 ≤ w1.heap.size) (hb : Below base w w') (hk : ∀ k, k < w.heap.size → some k ≠ v.ownBlock → w'.heap[k]? = w.heap[k]?) (hne : some nb ≠ v.ownBlock) (hf : Fresh N2 N3 v) : LnSt base w1 nb N2 N3 w3 x z w' := by
  obtain ⟨h1, h2, h3, h4⟩ := h
  have key := hk nb (cell_lt h2) hne
  have hsz := h1.size
  exact ⟨h1.trans hb, (World.cell?_of_block (a := ⟨nb, 0, none⟩) key).trans h2, (World.cell?_of_block (a := ⟨nb, 1, none⟩) key).trans h3, fun j g1 g2 => (hk j (by omega) (hf.ne g1 g2)).trans (h4 j g1 g2)⟩
end

theorem ws_one (W : World) (z : Int) (h : 0 ≤ z ∧ z < 4294967296) : Ws (W.alloc (.cells #[.int .u32 z] 22)) (W.alloc (.cells #[.int .u32 z] 22)).heap.size (some ⟨W.heap.size, 0, none⟩) [z] :=
  ⟨by rw [World.size_alloc]; exact SlOf.new W _ _ [z] rfl, fun x hx => by rw [List.mem_singleton.1 hx]; exact u32_to h.1 h.2⟩
theorem show_one (z : Int) : showS [z] = numS z.toNat := by
  unfold showS showL numS
  simp [Lib.join]
theorem show1 (W : World) (z : Int) (h : 0 ≤ z ∧ z < 4294967296) (hT : Tab W) :
    Calls Tryd.prog 40 #[.slice (some ⟨W.heap.size, 0, none⟩) 1 1] (W.alloc (.cells #[.int .u32 z] 22)) fun e w' => e = .returned (.string (numS z.toNat)) ∧ Below (W.alloc (.cells #[.int .u32 z] 22)).heap.size (W.alloc (.cells #[.int .u32 z] 22)) w' := by
  rw [← show_one]
  exact show_any (some ⟨W.heap.size, 0, none⟩) 1 [z] (W.alloc (.cells #[.int .u32 z] 22)) (by simp) (ws_one W z h) (hT.below ((Below.refl _ W).alloc (Nat.le_refl _) _))

theorem show1d (W : World) (z : Int) (h : 0 ≤ z ∧ z < 4294967296) (hT : Tab W) :
    Calls Tryd.prog 40 #[.slice (some ⟨W.heap.size, 0, none⟩) 1 1] ((W.alloc (.cells #[.int .u32 z] 22)).drew) fun e w' => e = .returned (.string (numS z.toNat)) ∧ Below ((W.alloc (.cells #[.int .u32 z] 22)).drew).heap.size ((W.alloc (.cells #[.int .u32 z] 22)).drew) w' := by
  rw [← show_one]
  exact show_any (some ⟨W.heap.size, 0, none⟩) 1 [z] _ (by simp) ((ws_one W z h).below (Below.refl _ _).drew (Nat.le_refl _)) (hT.below ((Below.refl _ W).alloc (Nat.le_refl _) _).drew)

theorem numS_len {z : Int} (h : 0 ≤ z ∧ z < 4294967296) : (numS z.toNat).size ≤ 10 := by
  have h1 := dd_len 9 z.toNat (by omega)
  have : (numS z.toNat).size = (Lib.decDigits z.toNat).length := by simp [numS, ByteArray.size]
  omega
def partS (p : List UInt8 × Int) : ByteArray := ⟨(partL p).toArray⟩
theorem partS_eq (p : List UInt8 × Int) : (⟨p.1.toArray⟩ : ByteArray) ++ numS p.2.toNat = partS p := by
  refine ByteArray.ext ?_
  simp [partS, partL, numS]

theorem line_no (i : Ins) (w : World) (hk : i.ok) (h : insB i = false) : Calls Tryd.prog 12 #[insV i] w fun r w' => r = .returned (.tuple #[.string ⟨#[]⟩, .bool false]) ∧ Below w.heap.size w w' := by
  have hr := fun W => right_any i W (u32_of hk.2.2.2.2)
  rw [h] at hr
  obtain ⟨op, a, b, c, m⟩ := i
  unfold insV at hr ⊢
  simp only at hr ⊢
  have hr' := Lib.hid hr
  clear hr h hk
  go_enter Tryd.func12, Tryd.ntmps12
  go_wp2_with (go_at_call 37; refine (hr'.out _).mono ?_; rintro e w1 ⟨rfl, hb⟩)
  go_ret2
  exact ⟨rfl, ((Below.refl _ w).alloc (Nat.le_refl _) _).trans (hb.mono (by simp))⟩

set_option maxRecDepth 100000 in
set_option maxHeartbeats 4000000 in
theorem line_yes (i : Ins) (w : World) (hk : i.ok) (h : insB i = true) (hT : Tab w) : Calls Tryd.prog 12 #[insV i] w fun r w' => r = .returned (.tuple #[.string (lineS i), .bool true]) ∧ Below w.heap.size w w' := by
  have hr := fun W => right_any i W (u32_of hk.2.2.2.2)
  rw [h] at hr
  have hwd := fun W => word_any i.op W (ins_bd h hk).1
  have hop := fun W => operands_any h hk W
  have hbd := ops_bd h hk
  have hol := ops_len i
  have hpl : lineL i = Lib.join (partsL i) [32] := rfl
  have hlen := lineL_len h hk
  unfold lineS
  rw [hpl] at hlen ⊢
  have hle := fun p hp => opsL_letter i p hp
  obtain ⟨L, hL⟩ : ∃ L, opsL i = L := ⟨_, rfl⟩
  unfold partsL at hlen ⊢
  rw [hL] at hop hbd hol hlen hle ⊢
  have hwb : (shOf i.op).w = (wordB i.op).data.toList := by simp [wordB]
  rw [hwb] at hlen ⊢
  obtain ⟨op, a, b, c, m⟩ := i
  unfold insV at hr hop ⊢
  simp only at hr hwd hop hlen ⊢
  obtain ⟨WD, hWD⟩ : ∃ x, wordB op = x := ⟨_, rfl⟩
  rw [hWD] at hwd hlen ⊢
  have hr' := Lib.hid hr
  have hwd' := Lib.hid hwd
  have hop' := Lib.hid hop
  have hlen' := Lib.hid hlen
  clear hr h hk hwd hop hL hpl hwb hWD hlen
  have hbx := InBox.new w ⟨op, a, b, c, m⟩
  simp only at hbx
  have hbx' := Lib.hid hbx
  clear hbx
  go_enter Tryd.func12, Tryd.ntmps12
  go_wp2_with (go_at_call 37; refine (hr'.out _).mono ?_; rintro e w1 ⟨rfl, hb⟩; have hbx1 := hbx'.out.kept hb; obtain ⟨c0, c1, c2, c3, c4⟩ := hbx1.cells)
  refine (hwd'.out _).mono ?_
  rintro e w2 ⟨rfl, hb2⟩
  have hB1 := ((Below.refl _ w).alloc (Nat.le_refl _) (.cells #[.int .i64 op, .int .i64 a, .int .i64 b, .int .i64 c, .int .u32 m] 24)).trans (hb.mono (by simp))
  have hB2 := hB1.trans (hb2.mono hB1.size)
  have hbx2 := hbx1.kept hb2
  clear c0 c1 c2 c3 c4 hb hb2 hbx1 hB1
  obtain ⟨c0, c1, c2, c3, c4⟩ := hbx2.cells
  have hlt := hbx2.lt
  have hne : w.heap.size ≠ w2.heap.size := by omega
  have hown0 : Own strs 9 w.heap.size (w2.alloc (.cells #[.string WD] 9)) (.slice (some ⟨w2.heap.size, 0, none⟩) 1 1) [WD] := World.ownsRow_lit w2 #[.string WD] 1 hB2.size (by unfold maxLen; omega) rfl
  go_wp2_with fail
  refine (hop'.out _).mono ?_
  rintro e w3 ⟨A3, rfl, ⟨hsl3, hA3⟩, hb3⟩
  have hs3 : w2.heap.size + 1 ≤ w3.heap.size := by have := hb3.size; rw [World.size_alloc] at this; exact this
  have hB3 : Below w.heap.size w w3 := (hB2.alloc hB2.size _).trans (hb3.mono (by rw [World.size_alloc]; have := hB2.size; omega))
  have hown3 : Own strs 9 w.heap.size w3 (.slice (some ⟨w2.heap.size, 0, none⟩) 1 1) [WD] := hown0.below hb3 (Nat.le_refl _)
  rw [World.size_alloc] at hA3
  have hsl3' := Lib.hid hsl3
  have hA3' := Lib.hid hA3
  have hbd' := Lib.hid hbd
  have hle' := Lib.hid hle
  have hB3' := Lib.hid hB3
  clear c0 c1 c2 c3 c4 hbx2 hne hown0 hb3 hop' hr' hwd' hbx' hsl3 hA3 hbd hle
  go_wp2_with fail
  go_loopw [4, 6, 17] (fun v _ j wr => ∃ k : Nat, k ≤ L.length ∧ j = .int .i64 k ∧ Own strs 9 w.heap.size wr v (WD :: (L.take k).map partS) ∧ Fresh w2.heap.size w3.heap.size v ∧ Kept w2.heap.size w3.heap.size w3 wr ∧ Below w.heap.size w wr ∧ w3.heap.size ≤ wr.heap.size) (fun _ _ j _ => L.length - (intOf j).toNat)
  case atStart => exact ⟨0, Nat.zero_le _, rfl, hown3, ⟨_, rfl, .inl rfl⟩, fun j _ _ => rfl, hB3, Nat.le_refl _⟩
  case round =>
    obtain ⟨k, hk, rfl, hown, hfr, hkp, hb, hsw⟩ := hrel
    by_cases hlt2 : k < L.length
    · obtain ⟨p, hp⟩ := get_some hlt2
      have hpm := List.mem_of_getElem? hp
      have hz := hbd'.out p hpm
      have hlt1 := hle'.out p hpm
      obtain ⟨b1, off, hA, hbl, hc⟩ := hsl3'.out k p hp
      have hb1 := hA3'.out _ hA
      have hblk := hkp b1 (by simp only at hb1; omega) hbl
      have g0 := (World.cell?_of_block (a := ⟨b1, off + (k * 2 + 0), none⟩) hblk).trans (hc 0 _ rfl)
      have g1 := (World.cell?_of_block (a := ⟨b1, off + (k * 2 + 1), none⟩) hblk).trans (hc 1 _ rfl)
      have htk := Lib.hid (show WD :: (L.take (k + 1)).map partS = (WD :: (L.take k).map partS) ++ [partS p] by rw [take_snoc hp, List.map_append]; rfl)
      have hpe := Lib.hid (partS_eq p)
      obtain ⟨ls, z⟩ := p
      simp only at hz hlt1 g0 g1 hpe
      have hD := numS_len hz
      have hX : (⟨ls.toArray⟩ : ByteArray).size ≤ 1 := by rcases hlt1 with e | e | e <;> rw [e] <;> simp [ByteArray.size]
      have hsh := fun W hT => show1 W z hz hT
      obtain ⟨X, hXe⟩ : ∃ X, (⟨ls.toArray⟩ : ByteArray) = X := ⟨_, rfl⟩
      obtain ⟨D, hDe⟩ : ∃ D, numS z.toNat = D := ⟨_, rfl⟩
      rw [hXe] at g0 hX
      rw [hDe] at hD hsh
      rw [hXe, hDe] at hpe
      have hsh' := Lib.hid hsh
      have hshd := fun W hT => show1d W z hz hT
      rw [hDe] at hshd
      have hshd' := Lib.hid hshd
      subst hA
      have hxd : ¬ 9223372036854775807 < X.size + D.size := by omega
      have e0 : off + (k * 2 + 0) = off + k * 2 := by omega
      have e1 : off + (k * 2 + 1) = off + k * 2 + 1 := by omega
      rw [e0] at g0
      rw [e1] at g1
      have hown' := Lib.hid hown
      clear hc hpm hsh hshd hlt1 hXe hDe hblk hown hp
      go_wp2_with fail
      have hSd0 : LnSt w.heap.size (wr.alloc (.cells #[.string X, .int .u32 z] 67)) wr.heap.size w2.heap.size w3.heap.size w3 X z (wr.alloc (.cells #[.string X, .int .u32 z] 67)) := ⟨Below.refl _ _, by simp, by simp, hkp.below ((Below.refl _ wr).alloc (Nat.le_refl _) _) hsw⟩
      have hsb : w.heap.size ≤ w3.heap.size ∧ w3.heap.size ≤ (wr.alloc (.cells #[.string X, .int .u32 z] 67)).heap.size := by rw [World.size_alloc]; exact ⟨hB3'.out.size, by omega⟩
      have hownb := hown'.out.alloc (.cells #[.string X, .int .u32 z] 67)
      have hBb := hb.alloc hb.size (.cells #[.string X, .int .u32 z] 67)
      have hnbv : some wr.heap.size ≠ u4.ownBlock := fun e => by have := (hown'.out.lt _ e.symm).2; omega
      have hlk : (WD :: (L.take k).map partS).length = k + 1 := by simp; omega
      obtain ⟨wb, hwb⟩ : ∃ x, wr.alloc (.cells #[.string X, .int .u32 z] 67) = x := ⟨_, rfl⟩
      obtain ⟨nb, hnb⟩ : ∃ n, wr.heap.size = n := ⟨_, rfl⟩
      rw [hwb] at hSd0 hsb hownb hBb ⊢
      rw [hnb] at hSd0 hnbv
      simp only [hnb]
      clear hwb
      have hSd := hSd0.drew
      have hTb := hT.below hBb
      have hTbd := hTb.below (Below.refl _ wb).drew
      have hownb' := Lib.hid hownb
      have hTb' := Lib.hid hTb
      have hTbd' := Lib.hid hTbd
      have hBb' := Lib.hid hBb
      have hkp' := Lib.hid hkp
      obtain ⟨s1, s2, s3, s4⟩ := hSd0
      clear hownb hTb hTbd hBb hkp hb g0 g1 hbl hb1
      go_region_held3 (fun w' => Below w.heap.size wb w' ∧ w'.cell? ⟨nb, 0, none⟩ = some (.string X) ∧ w'.cell? ⟨nb, 1, none⟩ = some (.int .u32 z) ∧ Kept w2.heap.size w3.heap.size w3 w')
        (first | exact hSd | assumption | exact LnSt.alloc (base := w.heap.size) (w1 := wb) (nb := nb) (N2 := w2.heap.size) (N3 := w3.heap.size) (w3 := w3) (x := X) (z := z) (by assumption) hsb _)
        (first
          | (go_at_call 40; refine (hsh'.out _ hTb'.out).mono ?_; rintro e wx ⟨rfl, hbx⟩; have hSx := LnSt.below (base := w.heap.size) (w1 := wb) (nb := nb) (N2 := w2.heap.size) (N3 := w3.heap.size) (w3 := w3) (x := X) (z := z) (by assumption) hsb hbx; have hq := ((Below.refl _ wb).alloc (Nat.le_refl _) (.cells #[.int .u32 z] 22)).trans (hbx.mono (by simp)))
          | (go_at_call 40; refine (hsh'.out _ hTbd'.out).mono ?_; rintro e wx ⟨rfl, hbx⟩; have hSx := LnSt.below (base := w.heap.size) (w1 := wb) (nb := nb) (N2 := w2.heap.size) (N3 := w3.heap.size) (w3 := w3) (x := X) (z := z) (by assumption) hsb hbx; have hq := ((Below.refl _ wb).drew.alloc (by simp) (.cells #[.int .u32 z] 22)).trans (hbx.mono (by simp)))
          | (go_at_call 40; refine (hshd'.out _ hTb'.out).mono ?_; rintro e wx ⟨rfl, hbx⟩; have hSx := LnSt.below (base := w.heap.size) (w1 := wb) (nb := nb) (N2 := w2.heap.size) (N3 := w3.heap.size) (w3 := w3) (x := X) (z := z) (by assumption) hsb hbx; have hq := ((Below.refl _ wb).alloc (Nat.le_refl _) (.cells #[.int .u32 z] 22)).drew.trans (hbx.mono (by simp)))
          | (refine step_app2 (by rfl) (.tmp 21) (.tmp 29) 60 (by rfl) strTy w.heap.size ((hownb'.out.below hq (Nat.le_refl _)).alloc _) (by rfl) (cells_new' wx [.string (X ++ D)] _ _ rfl) (by rfl) (by rfl) (by simp [Value.oneCell']) (by unfold maxLen; omega) (by omega) (Nat.le_trans (Nat.le_trans hBb'.out.size hq.size) (by simp)) ?_
             intro v' w9 hown9 hb9 hblk9 hob9
             have hS9 := LnSt.app (base := w.heap.size) (w1 := wb) (nb := nb) (N2 := w2.heap.size) (N3 := w3.heap.size) (w3 := w3) (x := X) (z := z) (by assumption) hsb.2 hb9 hblk9 hnbv hfr))
      all_goals
        go_wp2_with fail
        go_roundw
        case rel =>
          refine ⟨k + 1, by omega, by go_num, ?_, ?_, hS9.2.2.2, hBb'.out.trans hS9.1, Nat.le_trans hsb.2 hS9.1.size⟩
          · rw [htk.out, ← hpe.out]
            exact Own.app hown9 rfl
          · rcases hob9 with e | e
            · obtain ⟨g, hg1, hg2⟩ := hfr
              exact ⟨g, e.trans hg1, hg2⟩
            · exact ⟨_, e, .inr (Nat.le_trans (Nat.le_trans hsb.2 hq.size) (by simp))⟩
        case measure => simp [intOf]; omega
    · have ht := take_all hlt2
      rw [ht] at hown
      obtain ⟨A', c', rfl, hcl, hne, hsl⟩ := hown.sl
      have hll := Lib.hid (show (WD :: L.map partS).length = L.length + 1 by simp)
      have hbs := hb.size
      obtain ⟨s0, hs0⟩ := get_some (show 0 < (WD :: L.map partS).length by rw [hll.out]; omega)
      obtain ⟨bk, o, rfl, hbk, _⟩ := hsl 0 s0 hs0
      have hcells : ∀ (j : Nat) x, (WD :: L.map partS)[j]? = some x → wr.cell? ⟨bk, o + j, none⟩ = some (.string x) := by
        intro j x hx
        obtain ⟨b1, o1, e1, _, hc1⟩ := hsl j x hx
        injection e1 with e1
        injection e1 with e1 e2
        subst e1 e2
        have := hc1 0 _ rfl
        simpa [strs, Enc.of1] using this
      have hj : (WD :: L.map partS).map (·.data.toList) = WD.data.toList :: L.map partL := by
        rw [List.map_cons, List.map_map]
        rfl
      have hcon := Tryd.strings_Join bk o c' (WD :: L.map partS) ⟨#[32]⟩ wr hcells hbk (by rw [hll.out]; omega) hcl.1 (by rw [hj]; exact Nat.le_trans hlen'.out (by omega))
      rw [hj, show (⟨#[32]⟩ : ByteArray).data.toList = [32] from rfl, hll.out] at hcon
      have hll2 : (WD :: L.map partS).length = L.length + 1 := hll.out
      have hcon' := Lib.hid hcon
      clear hcon hj hcells hs0 hne hsl hown
      simp only [hll2]
      go_wp2_with fail
      refine hcon'.out.mono ?_
      rintro e w1 ⟨rfl, hb1⟩
      go_wp2_with fail
      go_ret2
      exact ⟨rfl, hb.trans (hb1.mono hbs)⟩

theorem line_any (i : Ins) (hk : i.ok) (w : World) (hT : Tab w) : Calls Tryd.prog 12 #[insV i] w fun r w' => r = .returned (.tuple #[.string (if insB i = true then lineS i else ⟨#[]⟩), .bool (insB i)]) ∧ Below w.heap.size w w' := by
  rcases h : insB i with _ | _
  · exact line_no i w hk h
  · exact line_yes i w hk h hT

end Go.Proofs.YtkcdmonmgnmojaaDoor
