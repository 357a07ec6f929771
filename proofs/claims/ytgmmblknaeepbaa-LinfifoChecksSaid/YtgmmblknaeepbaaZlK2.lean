/- All orders of a queue's calls: the reference's Orders. -/
import Derived.Test.YtgmmblknaeepbaaZlK
import Derived.Deep.DeepCutAuto
import Derived.Deep.CutBlock
namespace Go.Proofs.Ytgmmblknaeepbaa
open Go.RowKit
attribute [local go_sem] Oper.semAt_some

theorem slice_head (A : Addr) (M c k : Nat) (hk : k ≤ c) (hc : 0 < c) (W : World) : (Instr.sliceAt 22 (.slice (some A) M c) none (some (.int .i64 (k : Int))) none).run Try.prog W = .ok (.slice (some A) k c) W := by
  have ht' : Try.prog.underlying 22 = some (.slice (Try.prog.elem 22)) := by rw [show Try.prog.elem 22 = 32 by kernel_rfl]; exact Try.underlying22
  have hs : ∀ W, (sizeOf 32).run Try.prog W = .ok 7 W := fun W => by kernel_rfl
  rw [run_sliceAt_slice W _ _ _ _ _ ht', run_slice_h W _ _ _ _ ht' .i64 (k : Int) (by omega) (by omega), show Try.prog.elem 22 = 32 by kernel_rfl, hs]
  simp [Result.andThen, sliced, show c ≠ 0 by omega, Addr.add]
theorem slice_recs (A : Option Addr) (M c n : Nat) (h : n ≤ M) (W : World) :
    (Instr.sliceAt 40 (.slice A M c) (some (.int .i64 (n : Int))) none none).run Try.prog W = .ok (.slice (if c = n then A else A.map (·.add (n * 1))) (M - n) (c - n)) W :=
  slice_tail 40 30 1 Try.prog Try.underlying40 (by kernel_rfl) (fun W => by kernel_rfl) A M c n h W
theorem ItSl.tail {w : World} {B : Nat} {A : Option Addr} {r : List Int} {t : List (List Int)} (hl : ItSl w B A (r :: t)) {c : Nat} (hc : t.length + 1 ≤ c) : ItSl w B (if c = 1 then A else A.map (·.add (1 * 1))) t := by
  intro k x hk
  obtain ⟨b, off, Ar, cr, hA, hlt, hcl, hr⟩ := hl (k + 1) x (by simpa using hk)
  have := get_lt hk
  rw [if_neg (by omega), hA]
  refine ⟨b, off + 1, Ar, cr, by simp [Addr.add_lit], hlt, ?_, hr⟩
  rw [show off + 1 + k = off + (k + 1) by omega]
  exact hcl

theorem newsAt_els {W : World} {N b off : Nat} {L : List El} (h : ElSl W N (some ⟨b, off, none⟩) L) (k c : Nat) (hk : k ≤ L.length) : NewsAt W 7 (.slice (some ⟨b, off, none⟩) k c) k (elE.all (L.take k)) := by
  refine ⟨by rw [Enc.all_len, List.length_take, Nat.min_eq_left hk]; rfl, elE.all_one _, .inl ⟨_, _, rfl, fun j u hu => ?_⟩⟩
  rw [Addr.add_lit]
  refine all_cells (E := elE) (fun i e he j u hu => els_news h i e ?_ j u hu) j u hu
  have hi := get_lt he
  rw [List.length_take] at hi
  rwa [List.getElem?_take_of_lt (by omega)] at he
theorem newsAt_tail {W : World} {N b off : Nat} {L : List El} (h : ElSl W N (some ⟨b, off, none⟩) L) (n c : Nat) (hn : n ≤ L.length) (hc : L.length ≤ c) : NewsAt W 7 (.slice (if c = n then some ⟨b, off, none⟩ else (some (⟨b, off, none⟩ : Addr)).map (·.add (n * 7))) (L.length - n) (c - n)) (L.length - n) (elE.all (L.drop n)) := by
  refine ⟨by rw [Enc.all_len, List.length_drop]; rfl, elE.all_one _, ?_⟩
  by_cases e : c = n
  · rw [if_pos e]
    refine .inl ⟨_, _, rfl, fun j u hu => ?_⟩
    have : L.drop n = [] := List.drop_eq_nil_of_le (by omega)
    rw [this] at hu
    simp [Enc.all] at hu
  · rw [if_neg e]
    refine .inl ⟨⟨b, off + n * 7, none⟩, c - n, by simp [Addr.add_lit], fun j u hu => ?_⟩
    rw [Addr.add_lit]
    refine all_cells (E := elE) (b := b) (off := off + n * 7) (fun i e he j u hu => ?_) j u hu
    rw [List.getElem?_drop] at he
    have := els_news h _ e he j u hu
    rwa [show off + ((n + i) * 7 + j) = off + n * 7 + (i * 7 + j) by omega] at this
theorem newsAt_own {W : World} {base : Nat} {v : Value} {l : List Int} (h : Own (ints .i64) 3 base W v l) : NewsAt W 1 v l.length ((ints .i64).all l) := by
  refine ⟨by rw [Enc.all_len]; rfl, (ints .i64).all_one _, ?_⟩
  obtain ⟨A, c, hv, _, hn, hs⟩ := h.sl
  rcases h.2 with ⟨e, e0⟩ | ⟨g, cap, cur, e, hg, hh, r⟩
  · exact .inr ⟨e0, e⟩
  · refine .inl ⟨⟨g, 0, none⟩, cap, e, fun j u hu => ?_⟩
    exact h.cells (g := g) (by rw [e]; rfl) j u hu
/-- Records in a slice, with where they lie. -/
def ItEls (W : World) (N : Nat) (A : Option Addr) (L : List It) : Prop := ∀ (k : Nat) (e : It), L[k]? = some e → ∃ b off, A = some ⟨b, off, none⟩ ∧ b < N ∧ W.cell? ⟨b, off + k, none⟩ = some (.slice e.A e.r.length e.c) ∧ Ws W N e.A e.r ∧ e.r.length ≤ e.c ∧ e.c ≤ maxLen
theorem ItEls.below {w w' : World} {B B' : Nat} {A : Option Addr} {L : List It} (h : ItEls w B A L) (hb : Below B w w') (hB : B ≤ B') : ItEls w' B' A L := fun k r hk => by
  obtain ⟨b, off, hA, hlt, hc, hw, h1⟩ := h k r hk
  exact ⟨b, off, hA, by omega, (hb.cell (p := ⟨b, _, none⟩) hlt).trans hc, hw.below hb hB, h1⟩
theorem ItSl.els {W : World} {N : Nat} {A : Option Addr} {q : List (List Int)} (h : ItSl W N A q) : ∃ L : List It, L.map (·.r) = q ∧ ItEls W N A L := by
  have key : ∀ m, m ≤ q.length → ∃ L : List It, L.map (·.r) = q.take m ∧ ItEls W N A L := by
    intro m
    induction m with
    | zero => exact fun _ => ⟨[], by simp, fun k e h => by simp at h⟩
    | succ m ih =>
      intro hm
      obtain ⟨L, h1, h2⟩ := ih (by omega)
      obtain ⟨r, hr⟩ := get_some (show m < q.length by omega)
      obtain ⟨b, off, Ar, c, hA, hb, hc, hw, hcc⟩ := h m r hr
      have hl : L.length = m := by
        have := congrArg List.length h1
        rw [List.length_map, List.length_take] at this
        omega
      refine ⟨L ++ [⟨r, Ar, c⟩], by rw [take_snoc hr, List.map_append, h1]; rfl, fun k e he => ?_⟩
      by_cases hk : k < L.length
      · rw [List.getElem?_append_left hk] at he
        exact h2 k e he
      · have hlt := get_lt he
        rw [List.length_append, List.length_singleton] at hlt
        have hkn : k = m := by omega
        subst hkn
        rw [List.getElem?_append_right (by omega), hl, Nat.sub_self] at he
        injection he with he
        subst he
        exact ⟨b, off, hA, hb, hc, hw, hcc⟩
  obtain ⟨L, h1, h2⟩ := key q.length (Nat.le_refl _)
  exact ⟨L, by rw [h1, List.take_length], h2⟩
theorem its_lo {W : World} {s0 : Nat} {A : Option Addr} {L : List It} (h : ItEls W W.heap.size A L) (hs : W.heap.size = s0) : ItEls W s0 A L := hs ▸ h
theorem ws_lo {W : World} {s0 : Nat} {A : Option Addr} {l : List Int} (h : Ws W W.heap.size A l) (hs : W.heap.size = s0) : Ws W s0 A l := hs ▸ h
theorem newsAt_its {W : World} {N : Nat} {A : Option Addr} {L : List It} {q : List (List Int)} {Q cq : Nat} (hQ : q.length = Q) (hL : L.map (·.r) = q) (h : ItEls W N A L) (hA : A = none → cq = 0) : NewsAt W 1 (.slice A Q cq) Q (itE.all L) := by
  have hl : L.length = Q := by rw [← hQ, ← hL, List.length_map]
  refine ⟨by rw [Enc.all_len, hl]; rfl, itE.all_one _, ?_⟩
  cases A with
  | none =>
    have : Q = 0 := by
      rcases Nat.eq_zero_or_pos Q with e | e
      · exact e
      · obtain ⟨e0, he⟩ := get_some (show 0 < L.length by omega)
        obtain ⟨b, off, hA2, _⟩ := h 0 e0 he
        cases hA2
    rw [this, hA rfl]
    exact .inr ⟨rfl, rfl⟩
  | some ad =>
    refine .inl ⟨ad, cq, rfl, fun j u hu => ?_⟩
    have hj : j < L.length := by
      have := get_lt hu
      rw [Enc.all_len] at this
      simpa [itE, Enc.of1] using this
    obtain ⟨e, he⟩ := get_some hj
    obtain ⟨b, off, hA2, _, hc, _⟩ := h j e he
    injection hA2 with hA2
    subst hA2
    rw [Addr.add_lit]
    have h1 := itE.all_get L j e he 0 (by simp [itE, Enc.of1])
    simp only [itE, Enc.of1, Nat.mul_one, Nat.add_zero] at h1
    simp only [itE, Enc.of1] at hu
    rw [h1] at hu
    simp at hu
    subst hu
    exact hc
theorem newsAt_one {W : World} {ab : Nat} {v : Value} {ty : TypeId} (h : W.heap[ab]? = some (.cells #[v] ty (0, 0))) (hv : v.oneCell' = true := by rfl) : NewsAt W 1 (.slice (some ⟨ab, 0, none⟩) 1 1) 1 [v] := by
  refine ⟨rfl, fun u hu => by rw [List.mem_singleton.1 hu]; exact hv, .inl ⟨_, _, rfl, fun j u hu => ?_⟩⟩
  match j, hu with
  | 0, hu =>
    simp at hu
    subst hu
    rw [Addr.add_lit]
    exact row_cell h 0
  | j + 1, hu => simp at hu
def ItRow (v : Value) (W : World) (q' : List (List Int)) : Prop := ∃ A c, v = .slice A q'.length c ∧ q'.length ≤ c ∧ (A = none → c = 0) ∧ ItSl W W.heap.size A q'
theorem itrow {W wd : World} {s0 : Nat} {v : Value} {Q cx : Nat} {q : List (List Int)} {L : List It} {Aq Ax : Option Addr} {r : List Int} (ho : W.ownsRow s0 30 1 v (0 + Q + 1) ([] ++ itE.all L ++ [.slice Ax r.length cx])) (hQ : q.length = Q) (hL : L.map (·.r) = q) (hI : ItEls wd s0 Aq L) (hw : Ws wd s0 Ax r ∧ r.length ≤ cx ∧ cx ≤ maxLen) (hb : Below s0 wd W) (hs : s0 ≤ W.heap.size) : ItRow v W (q ++ [r]) := by
  have hl : L.length = Q := by rw [← hQ, ← hL, List.length_map]
  have ho' : Own itE 30 s0 W v (L ++ [⟨r, Ax, cx⟩]) := by
    unfold Own
    rw [Enc.all_append, List.length_append, hl]
    simpa [itE, Enc.of1, Enc.all] using ho
  have hh : HeldI s0 wd (L ++ [⟨r, Ax, cx⟩]) := fun e he => by
    rcases List.mem_append.1 he with h | h
    · obtain ⟨k, hk⟩ := List.getElem?_of_mem h
      obtain ⟨_, _, _, _, _, h1⟩ := hI k e hk
      exact h1
    · rw [List.mem_singleton.1 h]; exact hw
  obtain ⟨A, c, hv, hs2, _⟩ := own_itsl ho' hh hb hs
  obtain ⟨A2, c2, hv2, ⟨hc2, _⟩, hn2, _⟩ := ho'.sl
  rw [hv] at hv2
  injection hv2 with e1 e2 e3
  have hm : (L ++ [(⟨r, Ax, cx⟩ : It)]).map (·.r) = q ++ [r] := by rw [List.map_append, hL]; rfl
  rw [hm] at hv hs2 e2
  refine ⟨A, c, hv, by rw [e3, e2]; exact hc2, fun e => ?_, hs2⟩
  rcases hn2 with h | h
  · simp at h
  · rw [← e1] at h; exact absurd e h
theorem nxt_of {n : Int} {rest : List Cl} {c : Cl} {q : List (List Int)} {Q : Nat} {W : World} {A : Option Addr} {cc : Nat} {b : Bool} (hQ : q.length = Q) (hf : firstR rest c = true) (h : nextR n c q = if b = true then some q else none) (hc : Q ≤ cc) (hA : A = none → cc = 0) (hs : ItSl W W.heap.size A q) : NxtR (tryR n rest c q) W (.slice A Q cc) (.bool b) := by
  subst hQ
  exact NxtR.of hf h hc hA hs
theorem nxt_of2 {n : Int} {rest : List Cl} {c : Cl} {q q' : List (List Int)} {Q' : Nat} {W : World} {A : Option Addr} {cc : Nat} {b : Bool} (hQ : q'.length = Q') (hf : firstR rest c = true) (h : nextR n c q = if b = true then some q' else none) (hc : Q' ≤ cc) (hA : A = none → cc = 0) (hs : ItSl W W.heap.size A q') : NxtR (tryR n rest c q) W (.slice A Q' cc) (.bool b) := by
  subst hQ
  exact NxtR.of hf h hc hA hs
theorem map_erase {L : List El} {k : Nat} : (L.eraseIdx k).map (·.x) = (L.map (·.x)).eraseIdx k := by
  rw [← erase_eq, ← erase_eq, List.map_append, List.map_take, List.map_drop]
theorem try_len {n : Int} {rest : List Cl} {c : Cl} {q q' : List (List Int)} (h : tryR n rest c q = some q') : q'.length ≤ q.length + 1 := by
  unfold tryR at h
  split at h
  · unfold nextR at h
    repeat' split at h
    all_goals first
      | (cases h; done)
      | (cases h; simp; done)
      | (cases h; simp; omega)
  · cases h
theorem erased_sl {W wd : World} {s0 : Nat} {v : Value} {k : Nat} {rest : List Cl} {L : List El} {A : Option Addr} (ho : W.ownsRow s0 32 7 v (0 + k + (rest.length - (k + 1))) ([] ++ elE.all (L.take k) ++ elE.all (L.drop (k + 1)))) (hL : L.map (·.x) = rest) (hE : ElSl wd wd.heap.size A L) (hs0 : wd.heap.size = s0) (hb : Below s0 wd W) (hs : s0 ≤ W.heap.size) (hk : k < rest.length) :
    ∃ A3 c3, v = .slice A3 (rest.eraseIdx k).length c3 ∧ (rest.eraseIdx k).length ≤ c3 ∧ ClSl W W.heap.size A3 (rest.eraseIdx k) := by
  have hl : L.length = rest.length := by rw [← hL, List.length_map]
  have ho' : Own elE 32 s0 W v (L.eraseIdx k) := by
    unfold Own
    rw [← erase_eq, Enc.all_append, List.length_append, List.length_take, List.length_drop, hl, Nat.min_eq_left (by omega), show elE.size = 7 from rfl]
    simpa using ho
  have hh : Held s0 wd (L.eraseIdx k) := fun e he => by
    obtain ⟨i, hi⟩ := List.getElem?_of_mem ((List.eraseIdx_sublist L k).subset he)
    obtain ⟨_, _, _, _, _, _, h1⟩ := hE i e hi
    rw [hs0] at h1
    exact h1
  obtain ⟨A3, c3, hv, hc, hcl⟩ := own_clsl ho' hh hb hs
  rw [map_erase, hL] at hv hc hcl
  exact ⟨A3, c3, hv, hc, hcl⟩
theorem Own.appN {base : Nat} {w : World} {v : Value} {l m : List Int} (h : w.ownsRow base 3 1 v (l.length + m.length) ((ints .i64).all l ++ (ints .i64).all m)) : Own (ints .i64) 3 base w v (l ++ m) := by
  unfold Own
  rw [Enc.all_append, List.length_append]
  exact h


set_option maxRecDepth 100000 in
set_option maxHeartbeats 16000000 in
theorem orders_any {n : Int} : ∀ (f : Nat) (rest : List Cl) (q : List (List Int)) (A : Option Addr) (c : Nat) (Aq : Option Addr) (cq : Nat) (W : World), rest.length ≤ f → f ≤ 7 → rest.length ≤ c → (Aq = none → cq = 0) → q.length ≤ cq → q.length + rest.length ≤ 7 → (∀ x ∈ rest, x.q = 3 ∨ x.q = 4) → ClSl W W.heap.size A rest → ItSl W W.heap.size Aq q →
    Calls Try.prog 17 #[.int .i64 n, .slice A rest.length c, .slice Aq q.length cq] W fun e w' => ∃ v, e = .returned v ∧ Own (ints .i64) 3 W.heap.size w' v (ordersR n f rest q) ∧ Below W.heap.size W w' := by
  intro f
  induction f using Nat.strongRecOn with
  | _ f ih =>
    intro rest q A c Aq cq W hl hf7 hc hAq hcq hq7 hq34 hR hQ
    rw [ordersR_eq hl]
    obtain ⟨Q, hQl⟩ : ∃ y, q.length = y := ⟨_, rfl⟩
    rw [hQl] at hcq hq7 ⊢
    have HQL := Lib.hid hQl
    clear hQl
    have hcnt : ∀ k, k ≤ rest.length → ((List.range k).flatMap (gO n rest q f)).length ≤ 13700 := fun k hk => by
      cases f with
      | zero =>
        have : k = 0 := by omega
        subst this
        simp
      | succ f' =>
        have h1 := len_flat (fun i => len_gO (n := n) (q := q) (len_orders (n := n) f') hl i) k
        have h2 : k * cntO f' ≤ (f' + 1) * cntO f' := Nat.mul_le_mul_right _ (by omega)
        have h3 : cntO (f' + 1) ≤ cntO 7 := cnt_mono hf7
        have h4 := cnt_7
        simp only [cntO] at h3
        omega
    have HCNT := Lib.hid hcnt
    have HIH := Lib.hid ih
    have HR := Lib.hid hR
    have HQ := Lib.hid hQ
    have H34 := Lib.hid hq34
    have HAQ := Lib.hid hAq
    have hb0 := Lib.hid (Below.refl W.heap.size W)
    clear hcnt ih hR hQ hq34 hAq
    go_enter Try.func17, Try.ntmps17
    go_wp2_with fail
    go_loopw [7, 8, 9, 18] (fun v op _ j wr => ∃ k : Nat, k ≤ rest.length ∧ j = .int .i64 k ∧ Own (ints .i64) 3 W.heap.size wr v ((List.range k).flatMap (gO n rest q f)) ∧ op = .int .i64 ((rest.take k).countP opn : Int) ∧ Below W.heap.size W wr) (fun _ _ _ j _ => rest.length - (intOf j).toNat)
    case atStart => exact ⟨0, Nat.zero_le _, rfl, Own.nil _ _, rfl, hb0.out⟩
    case round =>
      obtain ⟨k, hk, rfl, hown, rfl, hb⟩ := hrel
      obtain ⟨wo, rfl⟩ : ∃ y, y = wr := ⟨_, rfl⟩
      by_cases hlt : k < rest.length
      · obtain ⟨x, hx⟩ := get_some hlt
        obtain ⟨f', rfl⟩ : ∃ f', f = f' + 1 := ⟨f - 1, by omega⟩
        obtain ⟨rb, ro, Ax, cx, rfl, hlb, ⟨h0, h1, h2, h3, h4, h5, h6⟩, hws, hc1, hc2⟩ := (HR.out.below hb (Nat.le_refl _)) k x hx
        have hx34 := H34.out x (List.mem_of_getElem? hx)
        have HGO := Lib.hid (gO_eq (n := n) (q := q) (f := f') hx)
        have HOP := Lib.hid (opn_cnt hx)
        have hopb : (rest.take k).countP opn ≤ 7 := Nat.le_trans List.countP_le_length (by rw [List.length_take]; omega)
        obtain ⟨op, hop⟩ : ∃ y, (rest.take k).countP opn = y := ⟨_, rfl⟩
        rw [hop] at HOP hopb ⊢
        obtain ⟨W1, hW1⟩ : ∃ W1, wo.alloc (.cells #[.int .i64 x.p, .int .i64 x.o, .int .i64 x.q, .slice Ax x.r.length cx, .int .i64 x.c, .int .i64 x.b, .int .i64 x.e] 32) = W1 := ⟨_, rfl⟩
        have hbw := (Below.refl wo.heap.size wo).alloc (Nat.le_refl _) (.cells #[.int .i64 x.p, .int .i64 x.o, .int .i64 x.q, .slice Ax x.r.length cx, .int .i64 x.c, .int .i64 x.b, .int .i64 x.e] 32)
        have hbx := ClBox.new wo x Ax cx
        rw [hW1] at hbw hbx
        obtain ⟨nb, hnb⟩ : ∃ y, wo.heap.size = y := ⟨_, rfl⟩
        rw [hnb] at hbx hbw
        obtain ⟨y0, y1, y2, y3, y4, y5, y6⟩ := hbx.cells
        have HX := Lib.hid hx
        have HOWN := Lib.hid hown
        have HB := Lib.hid hb
        have HBX := Lib.hid hbx
        have HBW := Lib.hid hbw
        have HWS := Lib.hid hws
        have HNB := Lib.hid hnb
        have hWn : W.heap.size ≤ nb := by rw [← hnb]; exact hb.size
        clear hx hown hb hbx hbw hws hop
        go_upto_if 25 with fail
        go_cut [8] (fun v8 wx => v8 = .int .i64 ((rest.take (k + 1)).countP opn : Int) ∧ wx = W1)
        case first =>
          by_cases he : x.e < 0
          · (try go_wp2_with fail)
            go_meet
            exact ⟨val_int (by rw [HOP.out, if_pos he]; omega), rfl⟩
          · (try go_wp2_with fail)
            go_meet
            exact ⟨val_int (by rw [HOP.out, if_neg (by omega)]; omega), rfl⟩
        case rest =>
          obtain ⟨rfl, hwx⟩ := hcut
          rw [hwx]
          clear hwx
          go_wp2_with fail
          go_loopw [11, 30] (fun fst j wq => ∃ m : Nat, m ≤ rest.length ∧ j = .int .i64 m ∧ fst = .bool (firstR (rest.take m) x) ∧ ClBox wq nb x Ax cx ∧ Below nb wo wq) (fun _ j _ => rest.length - (intOf j).toNat)
          case atStart => exact ⟨0, Nat.zero_le _, rfl, rfl, HBX.out, HBW.out⟩
          case round =>
            clear y0 y1 y2 y3 y4 y5 y6
            obtain ⟨m, hm, rfl, rfl, hbxq, hbq⟩ := hrel
            have hBq := HB.out.trans (hbq.mono hWn)
            by_cases hlm : m < rest.length
            · obtain ⟨d, hd⟩ := get_some hlm
              obtain ⟨rb2, ro2, Ad, cd, hA2, _, ⟨g0, g1, g2, g3, g4, g5, g6⟩, _, hd1, hd2⟩ := (HR.out.below hBq (Nat.le_refl _)) m d hd
              injection hA2 with hA2
              injection hA2 with hA3 hA4
              subst hA3 hA4
              have hfs := first_snoc (c := x) hd
              obtain ⟨Wd, hWd⟩ : ∃ y, wr.alloc (.cells #[.int .i64 d.p, .int .i64 d.o, .int .i64 d.q, .slice Ad d.r.length cd, .int .i64 d.c, .int .i64 d.b, .int .i64 d.e] 32) = y := ⟨_, rfl⟩
              have hbd := (Below.refl wr.heap.size wr).alloc (Nat.le_refl _) (.cells #[.int .i64 d.p, .int .i64 d.o, .int .i64 d.q, .slice Ad d.r.length cd, .int .i64 d.c, .int .i64 d.b, .int .i64 d.e] 32)
              have hdx := ClBox.new wr d Ad cd
              rw [hWd] at hbd hdx
              have hxx := hbxq.kept hbd
              have hnbq : nb ≤ wr.heap.size := Nat.le_of_lt hbxq.lt
              have hBd := hbq.trans (hbd.mono hnbq)
              have hbf := rbefore_any d x Ad Ax cd cx Wd
              unfold clV at hbf
              obtain ⟨bf, hbfe⟩ : ∃ y, befB d x = y := ⟨_, rfl⟩
              rw [hbfe] at hbf hfs
              obtain ⟨z0, z1, z2, z3, z4, z5, z6⟩ := hdx.cells
              obtain ⟨a0, a1, a2, a3, a4, a5, a6⟩ := hxx.cells
              have HXX := Lib.hid hxx
              have HBD := Lib.hid hBd
              have HBF := Lib.hid hbf
              obtain ⟨fm, hfm⟩ : ∃ y, firstR (rest.take m) x = y := ⟨_, rfl⟩
              rw [hfm] at hfs ⊢
              have HFS := Lib.hid hfs
              have hszd := hBd.size
              have hszx : nb ≤ Wd.heap.size := Nat.le_of_lt hxx.lt
              clear hd hfs hbd hdx hxx hBd hbf hbxq hbq hBq hfm hbfe
              cases fm with
              | false =>
                go_wp2_with fail
                go_roundw
                case rel => exact ⟨m + 1, by omega, by go_num, by rw [HFS.out]; rfl, HXX.out, HBD.out⟩
                case measure => simp [intOf]; omega
              | true =>
                go_wp2_with fail
                refine HBF.out.mono ?_
                rintro e w2 ⟨rfl, hb2⟩
                have HX2 := Lib.hid (HXX.out.kept hb2)
                have HB2 := Lib.hid (HBD.out.trans (hb2.mono hszx))
                clear hb2
                go_wp2_with fail
                go_roundw
                case rel => exact ⟨m + 1, by omega, by go_num, by rw [HFS.out]; simp, HX2.out, HB2.out⟩
                case measure => simp [intOf]; omega
            · have ht := take_all hlm
              rw [ht]
              obtain ⟨bf, hbf⟩ : ∃ y, firstR rest x = y := ⟨_, rfl⟩
              rw [hbf]
              have HBF := Lib.hid hbf
              obtain ⟨y0, y1, y2, y3, y4, y5, y6⟩ := hbxq.cells
              have HBXQ := Lib.hid hbxq
              have HBQ := Lib.hid hbq
              have hkinds : (x.q = 3 ∧ ¬ x.e < 0 ∧ x.c = 2) ∨ (x.q = 3 ∧ x.e < 0) ∨ (x.q = 3 ∧ ¬ x.e < 0 ∧ x.c ≠ 2) ∨ (x.q = 4 ∧ ¬ x.e < 0 ∧ x.c = 3) ∨ (x.q = 4 ∧ x.e < 0) ∨ (x.q = 4 ∧ ¬ x.e < 0 ∧ x.c ≠ 3) := by omega
              have HKS := Lib.hid hkinds
              clear ht hbf hbxq hbq hBq hkinds hx34
              obtain ⟨wy, rfl⟩ : ∃ y, y = wr := ⟨_, rfl⟩
              have hBy := HB.out.trans (HBQ.out.mono hWn)
              have hQy := HQ.out.below hBy hBy.size
              have HQY := Lib.hid hQy
              have HBY := HBQ
              have hnby : nb < wy.heap.size := HBXQ.out.lt
              have hwsy := HWS.out.below (HBQ.out.mono hWn) hBy.size
              have HWSY := Lib.hid (show Ws wy wy.heap.size Ax x.r ∧ x.r.length ≤ cx ∧ cx ≤ maxLen from ⟨hwsy, hc1, hc2⟩)
              clear hQy hwsy HBXQ HBQ hBy
              go_upto_block 4 with fail
              go_cut [14, 15] (fun v14 v15 wx => NxtR (tryR n rest x q) wx v14 v15 ∧ Below nb wo wx)
              case first =>
                rcases HKS.out with ⟨hq, he, hcc⟩ | ⟨hq, he⟩ | ⟨hq, he, hcc⟩ | ⟨hq, he, hcc⟩ | ⟨hq, he⟩ | ⟨hq, he, hcc⟩
                · skip
                  have t0 : (x.q == 3) = true := by rw [hq]; rfl
                  have t1 : (x.c == 2) = true := by rw [hcc]; rfl
                  have tp : opn x = false := by simp [opn]; omega
                  have tf : ful x = true := by simp [ful, tp, t1]
                  have HN := Lib.hid (show nextR n x q = (if ((Q : Int) == n) = true then some q else none) by unfold nextR; simp [t0, tf, HQL.out])
                  clear hq hcc tp tf
                  cases bf with
                  | false =>
                    go_wp2_with fail
                    go_meet
                    exact ⟨NxtR.no (try_no HBF.out), HBY.out⟩
                  | true =>
                    go_wp2_with fail
                    go_meet
                    exact ⟨nxt_of HQL.out HBF.out HN.out hcq HAQ.out HQY.out, HBY.out⟩
                · skip
                  have t0 : (x.q == 3) = true := by rw [hq]; rfl
                  have tp : opn x = true := by simp [opn, he]
                  have tf : ful x = false := by simp [ful, tp]
                  have HN := Lib.hid (show nextR n x q = (if (decide ((Q : Int) < n)) = true then some (q ++ [x.r]) else none) by unfold nextR; simp [t0, tf, HQL.out])
                  clear hq tp tf
                  cases bf with
                  | false =>
                    go_wp2_with fail
                    have hSd : (fun w' => Below nb wo w' ∧ w'.cell? ⟨nb, 3, none⟩ = some (.slice Ax x.r.length cx)) wy.drew := ⟨HBY.out.drew, y3⟩
                    refine wp_region_held_drew (S := (fun w' => Below nb wo w' ∧ w'.cell? ⟨nb, 3, none⟩ = some (.slice Ax x.r.length cx))) (by kernel_rfl) hSd (fun hHeld => ?_)
                    have HQD := Lib.hid (HQY.out.below ((Below.refl wy.heap.size wy).drew) (Nat.le_refl _))
                    have HWD := Lib.hid (HWSY.out.1.below ((Below.refl wy.heap.size wy).drew) (Nat.le_refl _))
                    have hnbd : nb < wy.drew.heap.size := hnby
                    have HQD2 : Hid (ItSl wy.drew wy.drew.heap.size Aq q) := HQD
                    have HWD2 : Hid (Ws wy.drew wy.drew.heap.size Ax x.r) := HWD
                    clear HQD HWD hSd
                    generalize wy.drew = wd at hHeld hnbd HQD2 HWD2 ⊢
                    have hHeld : (fun w' => Below nb wo w' ∧ w'.cell? ⟨nb, 3, none⟩ = some (.slice Ax x.r.length cx)) wd := hHeld
                    obtain ⟨s0, hs0⟩ : ∃ y, wd.heap.size = y := ⟨_, rfl⟩
                    have HS0 := Lib.hid hs0
                    have hnb0 : nb < s0 := by rw [← hs0]; exact hnbd
                    clear hs0 hnbd
                    obtain ⟨LI, hLI, hLs⟩ := ItSl.els HQD2.out
                    have HIT := Lib.hid hLI
                    have HITS := Lib.hid (its_lo hLs HS0.out)
                    have HWS0 := Lib.hid (show Ws wd s0 Ax x.r ∧ x.r.length ≤ cx ∧ cx ≤ maxLen from ⟨ws_lo HWD2.out HS0.out, hc1, hc2⟩)
                    have HKQ := Lib.hid (Below.refl s0 wd)
                    clear hLI hLs HQD2 HWD2
                    refine tkH 1 ?_
                    try first | simp only [pS, List.set] | simp only [pN]
                    refine tkH 3 ?_
                    try first | simp only [pS, List.set] | simp only [pN]
                    refine tkH 4 ?_
                    try first | simp only [pS, List.set] | simp only [pN]
                    refine wpAnyH_ready (rs := [0, 5]) (by kernel_rfl) (by simp) ?_
                    refine AllReadyH.cons (o := ?_) ?_ (fun K hK => ?_) ?_
                    rotate_left
                    · (simp only [List.getElem?_toArray, List.getElem?_cons_zero]; rfl)
                    · go_simp
                      obtain ⟨ad1, had1⟩ : ∃ y, wd.heap.size = y := ⟨_, rfl⟩
                      obtain ⟨wz1, hwz1⟩ : ∃ y, wd.alloc (.cells #[] 30) = y := ⟨_, rfl⟩
                      have hba := (Below.refl wd.heap.size wd).alloc (Nat.le_refl _) (.cells #[] 30)
                      have hnew := heap_alloc_new wd (.cells #[] 30)
                      have hsz := World.size_alloc wd (.cells #[] 30)
                      have hsle : s0 ≤ wd.heap.size := by rw [HS0.out]; exact Nat.le_refl _
                      have hrow := World.ownsRow_lit (base := s0) (e := 30) (size := 1) wd #[] 0 hsle (by simp [maxLen]) rfl
                      have hSx0 : (fun w' => Below nb wo w' ∧ w'.cell? ⟨nb, 3, none⟩ = some (.slice Ax x.r.length cx)) (wd.alloc (.cells #[] 30)) := ⟨hHeld.1.trans (hba.mono (by omega)), cell_below hHeld.2 hba⟩
                      rw [hwz1] at hnew hsz hSx0 hba hrow ⊢
                      rw [had1] at hnew hsz hrow ⊢
                      have HAD1 := Lib.hid (show s0 ≤ ad1 ∧ wz1.heap.size = ad1 + 1 from ⟨by rw [← had1]; exact hsle, hsz⟩)
                      have hswz1 : s0 ≤ wz1.heap.size := by have := HAD1.out; omega
                      have HROW := Lib.hid hrow
                      have hkq := HKQ.out.trans (hba.mono hsle)
                      have HKQ := Lib.hid hkq
                      clear hwz1 had1 hsz hba hkq hnew hrow
                      refine hK.out _ _ hSx0 (fun hHeld => ?_)
                      clear hK K
                      try first | simp only [pS, List.set] | simp only [pN]
                      refine wpAnyH_ready (rs := [2, 5]) (by kernel_rfl) (by simp) ?_
                      refine AllReadyH.cons (o := ?_) ?_ (fun K hK => ?_) ?_
                      rotate_left
                      · (simp only [List.getElem?_toArray, List.getElem?_cons_succ, List.getElem?_cons_zero]; rfl)
                      · refine step_append_any (by rfl) (.tmp 82) (.tmp 83) 40 (by rfl) itTy s0 _ 0 _ (by rfl) HROW.out Q _ _ (by rfl) (newsAt_its HQL.out HIT.out (HITS.out.below HKQ.out (Nat.le_refl _)) HAQ.out) (by unfold maxLen; omega) (by omega) hswz1 ?_
                        intro v2 wz2 hown2 hgr2 _ hob2
                        have hb2 : Below s0 wz1 wz2 := grown_below HROW.out hgr2 (Nat.le_refl _) hswz1
                        have hgs := hgr2.size
                        have hSx0 : (fun w' => Below nb wo w' ∧ w'.cell? ⟨nb, 3, none⟩ = some (.slice Ax x.r.length cx)) wz2 := ⟨hHeld.1.trans (hb2.mono (by omega)), cell_low hHeld.2 hb2 hnb0⟩
                        have hswz2 : s0 ≤ wz2.heap.size := by omega
                        have HROW := Lib.hid hown2
                        have hkq := HKQ.out.trans hb2
                        have HKQ := Lib.hid hkq
                        clear hown2 hgr2 hob2 hb2 hkq
                        refine hK.out _ _ hSx0 (fun hHeld => ?_)
                        clear hK K
                        try first | simp only [pS, List.set] | simp only [pN]
                        refine wpAnyH_ready (rs := [5]) (by kernel_rfl) (by simp) ?_
                        refine AllReadyH.cons (o := ?_) ?_ (fun K hK => ?_) AllReadyH.nil
                        rotate_left
                        · (simp only [List.getElem?_toArray, List.getElem?_cons_succ, List.getElem?_cons_zero]; rfl)
                        · go_simp
                          obtain ⟨ad3, had3⟩ : ∃ y, wz2.heap.size = y := ⟨_, rfl⟩
                          obtain ⟨wz3, hwz3⟩ : ∃ y, wz2.alloc (.cells #[.slice Ax x.r.length cx] 30) = y := ⟨_, rfl⟩
                          have hba := (Below.refl wz2.heap.size wz2).alloc (Nat.le_refl _) (.cells #[.slice Ax x.r.length cx] 30)
                          have hnew := heap_alloc_new wz2 (.cells #[.slice Ax x.r.length cx] 30)
                          have hsz := World.size_alloc wz2 (.cells #[.slice Ax x.r.length cx] 30)
                          have hsle : s0 ≤ wz2.heap.size := by omega
                          have hrow := HROW.out.alloc (.cells #[.slice Ax x.r.length cx] 30)
                          have hSx0 : (fun w' => Below nb wo w' ∧ w'.cell? ⟨nb, 3, none⟩ = some (.slice Ax x.r.length cx)) (wz2.alloc (.cells #[.slice Ax x.r.length cx] 30)) := ⟨hHeld.1.trans (hba.mono (by omega)), cell_below hHeld.2 hba⟩
                          rw [hwz3] at hnew hsz hSx0 hba hrow ⊢
                          rw [had3] at hnew hsz ⊢
                          have HAD3 := Lib.hid (show s0 ≤ ad3 ∧ wz3.heap.size = ad3 + 1 ∧ ad3 = wz2.heap.size from ⟨by rw [← had3]; exact hsle, hsz, had3.symm⟩)
                          have hswz3 : s0 ≤ wz3.heap.size := by have := HAD3.out; omega
                          have HROW := Lib.hid hrow
                          have HLIT := Lib.hid hnew
                          have hkq := HKQ.out.trans (hba.mono hsle)
                          have HKQ := Lib.hid hkq
                          clear hwz3 had3 hsz hba hkq hnew hrow
                          refine hK.out _ _ hSx0 (fun hHeld => ?_)
                          clear hK K
                          try first | simp only [pS, List.set] | simp only [pN]
                          refine wpAnyH_ready (rs := [6]) (by kernel_rfl) (by simp) ?_
                          refine AllReadyH.cons (o := ?_) ?_ (fun K hK => ?_) AllReadyH.nil
                          rotate_left
                          · (simp only [List.getElem?_toArray, List.getElem?_cons_succ, List.getElem?_cons_zero]; rfl)
                          · refine step_append_any (by rfl) (.tmp 84) (.tmp 87) 40 (by rfl) itTy s0 _ _ _ (by rfl) HROW.out 1 [.slice Ax x.r.length cx] _ (by rfl) (newsAt_one HLIT.out) (by unfold maxLen; omega) (by omega) hswz3 ?_
                            intro v4 wz4 hown2 hgr2 _ hob2
                            have hb2 : Below s0 wz3 wz4 := grown_below HROW.out hgr2 (Nat.le_refl _) hswz3
                            have hgs := hgr2.size
                            have hSx0 : (fun w' => Below nb wo w' ∧ w'.cell? ⟨nb, 3, none⟩ = some (.slice Ax x.r.length cx)) wz4 := ⟨hHeld.1.trans (hb2.mono (by omega)), cell_low hHeld.2 hb2 hnb0⟩
                            have hkq := HKQ.out.trans hb2
                            have HFIN := Lib.hid (itrow hown2 HQL.out HIT.out HITS.out HWS0.out hkq (by omega))
                            clear hown2 hgr2 hob2 hb2 hkq
                            refine hK.out _ _ hSx0 (fun hHeld => ?_)
                            clear hK K
                            try first | simp only [pS, List.set] | simp only [pN]
                            refine tkH 7 ?_
                            try first | simp only [pS, List.set] | simp only [pN]
                            refine wpAnyH_done (by kernel_rfl) ?_ _
                            have HBF2 := Lib.hid hHeld.1
                            (try go_wp2_with fail)
                            go_meet
                            obtain ⟨A9, c9, rfl, hc9, hA9, hi9⟩ := HFIN.out
                            exact ⟨NxtR.no (try_no HBF.out), HBF2.out⟩
                      · refine AllReadyH.cons (o := ?_) ?_ (fun K hK => ?_) AllReadyH.nil
                        rotate_left
                        · (simp only [List.getElem?_toArray, List.getElem?_cons_succ, List.getElem?_cons_zero]; rfl)
                        · go_simp
                          obtain ⟨ad2, had2⟩ : ∃ y, wz1.heap.size = y := ⟨_, rfl⟩
                          obtain ⟨wz2, hwz2⟩ : ∃ y, wz1.alloc (.cells #[.slice Ax x.r.length cx] 30) = y := ⟨_, rfl⟩
                          have hba := (Below.refl wz1.heap.size wz1).alloc (Nat.le_refl _) (.cells #[.slice Ax x.r.length cx] 30)
                          have hnew := heap_alloc_new wz1 (.cells #[.slice Ax x.r.length cx] 30)
                          have hsz := World.size_alloc wz1 (.cells #[.slice Ax x.r.length cx] 30)
                          have hsle : s0 ≤ wz1.heap.size := by omega
                          have hrow := HROW.out.alloc (.cells #[.slice Ax x.r.length cx] 30)
                          have hSx0 : (fun w' => Below nb wo w' ∧ w'.cell? ⟨nb, 3, none⟩ = some (.slice Ax x.r.length cx)) (wz1.alloc (.cells #[.slice Ax x.r.length cx] 30)) := ⟨hHeld.1.trans (hba.mono (by omega)), cell_below hHeld.2 hba⟩
                          rw [hwz2] at hnew hsz hSx0 hba hrow ⊢
                          rw [had2] at hnew hsz ⊢
                          have HAD2 := Lib.hid (show s0 ≤ ad2 ∧ wz2.heap.size = ad2 + 1 ∧ ad2 = wz1.heap.size from ⟨by rw [← had2]; exact hsle, hsz, had2.symm⟩)
                          have hswz2 : s0 ≤ wz2.heap.size := by have := HAD2.out; omega
                          have HROW := Lib.hid hrow
                          have HLIT := Lib.hid hnew
                          have hkq := HKQ.out.trans (hba.mono hsle)
                          have HKQ := Lib.hid hkq
                          clear hwz2 had2 hsz hba hkq hnew hrow
                          refine hK.out _ _ hSx0 (fun hHeld => ?_)
                          clear hK K
                          try first | simp only [pS, List.set] | simp only [pN]
                          refine wpAnyH_ready (rs := [2]) (by kernel_rfl) (by simp) ?_
                          refine AllReadyH.cons (o := ?_) ?_ (fun K hK => ?_) AllReadyH.nil
                          rotate_left
                          · (simp only [List.getElem?_toArray, List.getElem?_cons_succ, List.getElem?_cons_zero]; rfl)
                          · refine step_append_any (by rfl) (.tmp 82) (.tmp 83) 40 (by rfl) itTy s0 _ 0 _ (by rfl) HROW.out Q _ _ (by rfl) (newsAt_its HQL.out HIT.out (HITS.out.below HKQ.out (Nat.le_refl _)) HAQ.out) (by unfold maxLen; omega) (by omega) hswz2 ?_
                            intro v3 wz3 hown2 hgr2 _ hob2
                            have hb2 : Below s0 wz2 wz3 := grown_below HROW.out hgr2 (Nat.le_refl _) hswz2
                            have hgs := hgr2.size
                            have hSx0 : (fun w' => Below nb wo w' ∧ w'.cell? ⟨nb, 3, none⟩ = some (.slice Ax x.r.length cx)) wz3 := ⟨hHeld.1.trans (hb2.mono (by omega)), cell_low hHeld.2 hb2 hnb0⟩
                            have hswz3 : s0 ≤ wz3.heap.size := by omega
                            have hlit := (hgr2.block ad2 (row_lt HLIT.out) (by intro e; have e2 : ad2 = ad1 := (by simpa [Value.ownBlock] using e); have h1 := HAD2.out; have h2 := HAD1.out; omega)).trans HLIT.out
                            have HLIT := Lib.hid hlit
                            have HROW := Lib.hid hown2
                            have hkq := HKQ.out.trans hb2
                            have HKQ := Lib.hid hkq
                            clear hown2 hgr2 hob2 hb2 hkq hlit
                            refine hK.out _ _ hSx0 (fun hHeld => ?_)
                            clear hK K
                            try first | simp only [pS, List.set] | simp only [pN]
                            refine wpAnyH_ready (rs := [6]) (by kernel_rfl) (by simp) ?_
                            refine AllReadyH.cons (o := ?_) ?_ (fun K hK => ?_) AllReadyH.nil
                            rotate_left
                            · (simp only [List.getElem?_toArray, List.getElem?_cons_succ, List.getElem?_cons_zero]; rfl)
                            · refine step_append_any (by rfl) (.tmp 84) (.tmp 87) 40 (by rfl) itTy s0 _ _ _ (by rfl) HROW.out 1 [.slice Ax x.r.length cx] _ (by rfl) (newsAt_one HLIT.out) (by unfold maxLen; omega) (by omega) hswz3 ?_
                              intro v4 wz4 hown2 hgr2 _ hob2
                              have hb2 : Below s0 wz3 wz4 := grown_below HROW.out hgr2 (Nat.le_refl _) hswz3
                              have hgs := hgr2.size
                              have hSx0 : (fun w' => Below nb wo w' ∧ w'.cell? ⟨nb, 3, none⟩ = some (.slice Ax x.r.length cx)) wz4 := ⟨hHeld.1.trans (hb2.mono (by omega)), cell_low hHeld.2 hb2 hnb0⟩
                              have hkq := HKQ.out.trans hb2
                              have HFIN := Lib.hid (itrow hown2 HQL.out HIT.out HITS.out HWS0.out hkq (by omega))
                              clear hown2 hgr2 hob2 hb2 hkq
                              refine hK.out _ _ hSx0 (fun hHeld => ?_)
                              clear hK K
                              try first | simp only [pS, List.set] | simp only [pN]
                              refine tkH 7 ?_
                              try first | simp only [pS, List.set] | simp only [pN]
                              refine wpAnyH_done (by kernel_rfl) ?_ _
                              have HBF2 := Lib.hid hHeld.1
                              (try go_wp2_with fail)
                              go_meet
                              obtain ⟨A9, c9, rfl, hc9, hA9, hi9⟩ := HFIN.out
                              exact ⟨NxtR.no (try_no HBF.out), HBF2.out⟩
                    · refine AllReadyH.cons (o := ?_) ?_ (fun K hK => ?_) AllReadyH.nil
                      rotate_left
                      · (simp only [List.getElem?_toArray, List.getElem?_cons_succ, List.getElem?_cons_zero]; rfl)
                      · go_simp
                        obtain ⟨ad1, had1⟩ : ∃ y, wd.heap.size = y := ⟨_, rfl⟩
                        obtain ⟨wz1, hwz1⟩ : ∃ y, wd.alloc (.cells #[.slice Ax x.r.length cx] 30) = y := ⟨_, rfl⟩
                        have hba := (Below.refl wd.heap.size wd).alloc (Nat.le_refl _) (.cells #[.slice Ax x.r.length cx] 30)
                        have hnew := heap_alloc_new wd (.cells #[.slice Ax x.r.length cx] 30)
                        have hsz := World.size_alloc wd (.cells #[.slice Ax x.r.length cx] 30)
                        have hsle : s0 ≤ wd.heap.size := by rw [HS0.out]; exact Nat.le_refl _
                        have hSx0 : (fun w' => Below nb wo w' ∧ w'.cell? ⟨nb, 3, none⟩ = some (.slice Ax x.r.length cx)) (wd.alloc (.cells #[.slice Ax x.r.length cx] 30)) := ⟨hHeld.1.trans (hba.mono (by omega)), cell_below hHeld.2 hba⟩
                        rw [hwz1] at hnew hsz hSx0 hba ⊢
                        rw [had1] at hnew hsz ⊢
                        have HAD1 := Lib.hid (show s0 ≤ ad1 ∧ wz1.heap.size = ad1 + 1 from ⟨by rw [← had1]; exact hsle, hsz⟩)
                        have hswz1 : s0 ≤ wz1.heap.size := by have := HAD1.out; omega
                        have HLIT := Lib.hid hnew
                        have hkq := HKQ.out.trans (hba.mono hsle)
                        have HKQ := Lib.hid hkq
                        clear hwz1 had1 hsz hba hkq hnew
                        refine hK.out _ _ hSx0 (fun hHeld => ?_)
                        clear hK K
                        try first | simp only [pS, List.set] | simp only [pN]
                        refine wpAnyH_ready (rs := [0]) (by kernel_rfl) (by simp) ?_
                        refine AllReadyH.cons (o := ?_) ?_ (fun K hK => ?_) AllReadyH.nil
                        rotate_left
                        · (simp only [List.getElem?_toArray, List.getElem?_cons_zero]; rfl)
                        · go_simp
                          obtain ⟨ad2, had2⟩ : ∃ y, wz1.heap.size = y := ⟨_, rfl⟩
                          obtain ⟨wz2, hwz2⟩ : ∃ y, wz1.alloc (.cells #[] 30) = y := ⟨_, rfl⟩
                          have hba := (Below.refl wz1.heap.size wz1).alloc (Nat.le_refl _) (.cells #[] 30)
                          have hnew := heap_alloc_new wz1 (.cells #[] 30)
                          have hsz := World.size_alloc wz1 (.cells #[] 30)
                          have hsle : s0 ≤ wz1.heap.size := by omega
                          have hrow := World.ownsRow_lit (base := s0) (e := 30) (size := 1) wz1 #[] 0 hsle (by simp [maxLen]) rfl
                          have hlit := row_kept HLIT.out hba
                          have hSx0 : (fun w' => Below nb wo w' ∧ w'.cell? ⟨nb, 3, none⟩ = some (.slice Ax x.r.length cx)) (wz1.alloc (.cells #[] 30)) := ⟨hHeld.1.trans (hba.mono (by omega)), cell_below hHeld.2 hba⟩
                          rw [hwz2] at hnew hsz hSx0 hba hrow hlit ⊢
                          rw [had2] at hnew hsz hrow ⊢
                          have HAD2 := Lib.hid (show s0 ≤ ad2 ∧ wz2.heap.size = ad2 + 1 ∧ ad2 = wz1.heap.size from ⟨by rw [← had2]; exact hsle, hsz, had2.symm⟩)
                          have hswz2 : s0 ≤ wz2.heap.size := by have := HAD2.out; omega
                          have HROW := Lib.hid hrow
                          have HLIT := Lib.hid hlit
                          have hkq := HKQ.out.trans (hba.mono hsle)
                          have HKQ := Lib.hid hkq
                          clear hwz2 had2 hsz hba hkq hnew hrow hlit
                          refine hK.out _ _ hSx0 (fun hHeld => ?_)
                          clear hK K
                          try first | simp only [pS, List.set] | simp only [pN]
                          refine wpAnyH_ready (rs := [2]) (by kernel_rfl) (by simp) ?_
                          refine AllReadyH.cons (o := ?_) ?_ (fun K hK => ?_) AllReadyH.nil
                          rotate_left
                          · (simp only [List.getElem?_toArray, List.getElem?_cons_succ, List.getElem?_cons_zero]; rfl)
                          · refine step_append_any (by rfl) (.tmp 82) (.tmp 83) 40 (by rfl) itTy s0 _ 0 _ (by rfl) HROW.out Q _ _ (by rfl) (newsAt_its HQL.out HIT.out (HITS.out.below HKQ.out (Nat.le_refl _)) HAQ.out) (by unfold maxLen; omega) (by omega) hswz2 ?_
                            intro v3 wz3 hown2 hgr2 _ hob2
                            have hb2 : Below s0 wz2 wz3 := grown_below HROW.out hgr2 (Nat.le_refl _) hswz2
                            have hgs := hgr2.size
                            have hSx0 : (fun w' => Below nb wo w' ∧ w'.cell? ⟨nb, 3, none⟩ = some (.slice Ax x.r.length cx)) wz3 := ⟨hHeld.1.trans (hb2.mono (by omega)), cell_low hHeld.2 hb2 hnb0⟩
                            have hswz3 : s0 ≤ wz3.heap.size := by omega
                            have hlit := (hgr2.block ad1 (row_lt HLIT.out) (by intro e; have e2 : ad1 = ad2 := (by simpa [Value.ownBlock] using e); have h1 := HAD1.out; have h2 := HAD2.out; omega)).trans HLIT.out
                            have HLIT := Lib.hid hlit
                            have HROW := Lib.hid hown2
                            have hkq := HKQ.out.trans hb2
                            have HKQ := Lib.hid hkq
                            clear hown2 hgr2 hob2 hb2 hkq hlit
                            refine hK.out _ _ hSx0 (fun hHeld => ?_)
                            clear hK K
                            try first | simp only [pS, List.set] | simp only [pN]
                            refine wpAnyH_ready (rs := [6]) (by kernel_rfl) (by simp) ?_
                            refine AllReadyH.cons (o := ?_) ?_ (fun K hK => ?_) AllReadyH.nil
                            rotate_left
                            · (simp only [List.getElem?_toArray, List.getElem?_cons_succ, List.getElem?_cons_zero]; rfl)
                            · refine step_append_any (by rfl) (.tmp 84) (.tmp 87) 40 (by rfl) itTy s0 _ _ _ (by rfl) HROW.out 1 [.slice Ax x.r.length cx] _ (by rfl) (newsAt_one HLIT.out) (by unfold maxLen; omega) (by omega) hswz3 ?_
                              intro v4 wz4 hown2 hgr2 _ hob2
                              have hb2 : Below s0 wz3 wz4 := grown_below HROW.out hgr2 (Nat.le_refl _) hswz3
                              have hgs := hgr2.size
                              have hSx0 : (fun w' => Below nb wo w' ∧ w'.cell? ⟨nb, 3, none⟩ = some (.slice Ax x.r.length cx)) wz4 := ⟨hHeld.1.trans (hb2.mono (by omega)), cell_low hHeld.2 hb2 hnb0⟩
                              have hkq := HKQ.out.trans hb2
                              have HFIN := Lib.hid (itrow hown2 HQL.out HIT.out HITS.out HWS0.out hkq (by omega))
                              clear hown2 hgr2 hob2 hb2 hkq
                              refine hK.out _ _ hSx0 (fun hHeld => ?_)
                              clear hK K
                              try first | simp only [pS, List.set] | simp only [pN]
                              refine tkH 7 ?_
                              try first | simp only [pS, List.set] | simp only [pN]
                              refine wpAnyH_done (by kernel_rfl) ?_ _
                              have HBF2 := Lib.hid hHeld.1
                              (try go_wp2_with fail)
                              go_meet
                              obtain ⟨A9, c9, rfl, hc9, hA9, hi9⟩ := HFIN.out
                              exact ⟨NxtR.no (try_no HBF.out), HBF2.out⟩
                  | true =>
                    go_wp2_with fail
                    have hSd : (fun w' => Below nb wo w' ∧ w'.cell? ⟨nb, 3, none⟩ = some (.slice Ax x.r.length cx)) wy.drew := ⟨HBY.out.drew, y3⟩
                    refine wp_region_held_drew (S := (fun w' => Below nb wo w' ∧ w'.cell? ⟨nb, 3, none⟩ = some (.slice Ax x.r.length cx))) (by kernel_rfl) hSd (fun hHeld => ?_)
                    have HQD := Lib.hid (HQY.out.below ((Below.refl wy.heap.size wy).drew) (Nat.le_refl _))
                    have HWD := Lib.hid (HWSY.out.1.below ((Below.refl wy.heap.size wy).drew) (Nat.le_refl _))
                    have hnbd : nb < wy.drew.heap.size := hnby
                    have HQD2 : Hid (ItSl wy.drew wy.drew.heap.size Aq q) := HQD
                    have HWD2 : Hid (Ws wy.drew wy.drew.heap.size Ax x.r) := HWD
                    clear HQD HWD hSd
                    generalize wy.drew = wd at hHeld hnbd HQD2 HWD2 ⊢
                    have hHeld : (fun w' => Below nb wo w' ∧ w'.cell? ⟨nb, 3, none⟩ = some (.slice Ax x.r.length cx)) wd := hHeld
                    obtain ⟨s0, hs0⟩ : ∃ y, wd.heap.size = y := ⟨_, rfl⟩
                    have HS0 := Lib.hid hs0
                    have hnb0 : nb < s0 := by rw [← hs0]; exact hnbd
                    clear hs0 hnbd
                    obtain ⟨LI, hLI, hLs⟩ := ItSl.els HQD2.out
                    have HIT := Lib.hid hLI
                    have HITS := Lib.hid (its_lo hLs HS0.out)
                    have HWS0 := Lib.hid (show Ws wd s0 Ax x.r ∧ x.r.length ≤ cx ∧ cx ≤ maxLen from ⟨ws_lo HWD2.out HS0.out, hc1, hc2⟩)
                    have HKQ := Lib.hid (Below.refl s0 wd)
                    clear hLI hLs HQD2 HWD2
                    refine tkH 1 ?_
                    try first | simp only [pS, List.set] | simp only [pN]
                    refine tkH 3 ?_
                    try first | simp only [pS, List.set] | simp only [pN]
                    refine tkH 4 ?_
                    try first | simp only [pS, List.set] | simp only [pN]
                    refine wpAnyH_ready (rs := [0, 5]) (by kernel_rfl) (by simp) ?_
                    refine AllReadyH.cons (o := ?_) ?_ (fun K hK => ?_) ?_
                    rotate_left
                    · (simp only [List.getElem?_toArray, List.getElem?_cons_zero]; rfl)
                    · go_simp
                      obtain ⟨ad1, had1⟩ : ∃ y, wd.heap.size = y := ⟨_, rfl⟩
                      obtain ⟨wz1, hwz1⟩ : ∃ y, wd.alloc (.cells #[] 30) = y := ⟨_, rfl⟩
                      have hba := (Below.refl wd.heap.size wd).alloc (Nat.le_refl _) (.cells #[] 30)
                      have hnew := heap_alloc_new wd (.cells #[] 30)
                      have hsz := World.size_alloc wd (.cells #[] 30)
                      have hsle : s0 ≤ wd.heap.size := by rw [HS0.out]; exact Nat.le_refl _
                      have hrow := World.ownsRow_lit (base := s0) (e := 30) (size := 1) wd #[] 0 hsle (by simp [maxLen]) rfl
                      have hSx0 : (fun w' => Below nb wo w' ∧ w'.cell? ⟨nb, 3, none⟩ = some (.slice Ax x.r.length cx)) (wd.alloc (.cells #[] 30)) := ⟨hHeld.1.trans (hba.mono (by omega)), cell_below hHeld.2 hba⟩
                      rw [hwz1] at hnew hsz hSx0 hba hrow ⊢
                      rw [had1] at hnew hsz hrow ⊢
                      have HAD1 := Lib.hid (show s0 ≤ ad1 ∧ wz1.heap.size = ad1 + 1 from ⟨by rw [← had1]; exact hsle, hsz⟩)
                      have hswz1 : s0 ≤ wz1.heap.size := by have := HAD1.out; omega
                      have HROW := Lib.hid hrow
                      have hkq := HKQ.out.trans (hba.mono hsle)
                      have HKQ := Lib.hid hkq
                      clear hwz1 had1 hsz hba hkq hnew hrow
                      refine hK.out _ _ hSx0 (fun hHeld => ?_)
                      clear hK K
                      try first | simp only [pS, List.set] | simp only [pN]
                      refine wpAnyH_ready (rs := [2, 5]) (by kernel_rfl) (by simp) ?_
                      refine AllReadyH.cons (o := ?_) ?_ (fun K hK => ?_) ?_
                      rotate_left
                      · (simp only [List.getElem?_toArray, List.getElem?_cons_succ, List.getElem?_cons_zero]; rfl)
                      · refine step_append_any (by rfl) (.tmp 82) (.tmp 83) 40 (by rfl) itTy s0 _ 0 _ (by rfl) HROW.out Q _ _ (by rfl) (newsAt_its HQL.out HIT.out (HITS.out.below HKQ.out (Nat.le_refl _)) HAQ.out) (by unfold maxLen; omega) (by omega) hswz1 ?_
                        intro v2 wz2 hown2 hgr2 _ hob2
                        have hb2 : Below s0 wz1 wz2 := grown_below HROW.out hgr2 (Nat.le_refl _) hswz1
                        have hgs := hgr2.size
                        have hSx0 : (fun w' => Below nb wo w' ∧ w'.cell? ⟨nb, 3, none⟩ = some (.slice Ax x.r.length cx)) wz2 := ⟨hHeld.1.trans (hb2.mono (by omega)), cell_low hHeld.2 hb2 hnb0⟩
                        have hswz2 : s0 ≤ wz2.heap.size := by omega
                        have HROW := Lib.hid hown2
                        have hkq := HKQ.out.trans hb2
                        have HKQ := Lib.hid hkq
                        clear hown2 hgr2 hob2 hb2 hkq
                        refine hK.out _ _ hSx0 (fun hHeld => ?_)
                        clear hK K
                        try first | simp only [pS, List.set] | simp only [pN]
                        refine wpAnyH_ready (rs := [5]) (by kernel_rfl) (by simp) ?_
                        refine AllReadyH.cons (o := ?_) ?_ (fun K hK => ?_) AllReadyH.nil
                        rotate_left
                        · (simp only [List.getElem?_toArray, List.getElem?_cons_succ, List.getElem?_cons_zero]; rfl)
                        · go_simp
                          obtain ⟨ad3, had3⟩ : ∃ y, wz2.heap.size = y := ⟨_, rfl⟩
                          obtain ⟨wz3, hwz3⟩ : ∃ y, wz2.alloc (.cells #[.slice Ax x.r.length cx] 30) = y := ⟨_, rfl⟩
                          have hba := (Below.refl wz2.heap.size wz2).alloc (Nat.le_refl _) (.cells #[.slice Ax x.r.length cx] 30)
                          have hnew := heap_alloc_new wz2 (.cells #[.slice Ax x.r.length cx] 30)
                          have hsz := World.size_alloc wz2 (.cells #[.slice Ax x.r.length cx] 30)
                          have hsle : s0 ≤ wz2.heap.size := by omega
                          have hrow := HROW.out.alloc (.cells #[.slice Ax x.r.length cx] 30)
                          have hSx0 : (fun w' => Below nb wo w' ∧ w'.cell? ⟨nb, 3, none⟩ = some (.slice Ax x.r.length cx)) (wz2.alloc (.cells #[.slice Ax x.r.length cx] 30)) := ⟨hHeld.1.trans (hba.mono (by omega)), cell_below hHeld.2 hba⟩
                          rw [hwz3] at hnew hsz hSx0 hba hrow ⊢
                          rw [had3] at hnew hsz ⊢
                          have HAD3 := Lib.hid (show s0 ≤ ad3 ∧ wz3.heap.size = ad3 + 1 ∧ ad3 = wz2.heap.size from ⟨by rw [← had3]; exact hsle, hsz, had3.symm⟩)
                          have hswz3 : s0 ≤ wz3.heap.size := by have := HAD3.out; omega
                          have HROW := Lib.hid hrow
                          have HLIT := Lib.hid hnew
                          have hkq := HKQ.out.trans (hba.mono hsle)
                          have HKQ := Lib.hid hkq
                          clear hwz3 had3 hsz hba hkq hnew hrow
                          refine hK.out _ _ hSx0 (fun hHeld => ?_)
                          clear hK K
                          try first | simp only [pS, List.set] | simp only [pN]
                          refine wpAnyH_ready (rs := [6]) (by kernel_rfl) (by simp) ?_
                          refine AllReadyH.cons (o := ?_) ?_ (fun K hK => ?_) AllReadyH.nil
                          rotate_left
                          · (simp only [List.getElem?_toArray, List.getElem?_cons_succ, List.getElem?_cons_zero]; rfl)
                          · refine step_append_any (by rfl) (.tmp 84) (.tmp 87) 40 (by rfl) itTy s0 _ _ _ (by rfl) HROW.out 1 [.slice Ax x.r.length cx] _ (by rfl) (newsAt_one HLIT.out) (by unfold maxLen; omega) (by omega) hswz3 ?_
                            intro v4 wz4 hown2 hgr2 _ hob2
                            have hb2 : Below s0 wz3 wz4 := grown_below HROW.out hgr2 (Nat.le_refl _) hswz3
                            have hgs := hgr2.size
                            have hSx0 : (fun w' => Below nb wo w' ∧ w'.cell? ⟨nb, 3, none⟩ = some (.slice Ax x.r.length cx)) wz4 := ⟨hHeld.1.trans (hb2.mono (by omega)), cell_low hHeld.2 hb2 hnb0⟩
                            have hkq := HKQ.out.trans hb2
                            have HFIN := Lib.hid (itrow hown2 HQL.out HIT.out HITS.out HWS0.out hkq (by omega))
                            clear hown2 hgr2 hob2 hb2 hkq
                            refine hK.out _ _ hSx0 (fun hHeld => ?_)
                            clear hK K
                            try first | simp only [pS, List.set] | simp only [pN]
                            refine tkH 7 ?_
                            try first | simp only [pS, List.set] | simp only [pN]
                            refine wpAnyH_done (by kernel_rfl) ?_ _
                            have HBF2 := Lib.hid hHeld.1
                            (try go_wp2_with fail)
                            go_meet
                            obtain ⟨A9, c9, rfl, hc9, hA9, hi9⟩ := HFIN.out
                            exact ⟨NxtR.of HBF.out HN.out hc9 hA9 hi9, HBF2.out⟩
                      · refine AllReadyH.cons (o := ?_) ?_ (fun K hK => ?_) AllReadyH.nil
                        rotate_left
                        · (simp only [List.getElem?_toArray, List.getElem?_cons_succ, List.getElem?_cons_zero]; rfl)
                        · go_simp
                          obtain ⟨ad2, had2⟩ : ∃ y, wz1.heap.size = y := ⟨_, rfl⟩
                          obtain ⟨wz2, hwz2⟩ : ∃ y, wz1.alloc (.cells #[.slice Ax x.r.length cx] 30) = y := ⟨_, rfl⟩
                          have hba := (Below.refl wz1.heap.size wz1).alloc (Nat.le_refl _) (.cells #[.slice Ax x.r.length cx] 30)
                          have hnew := heap_alloc_new wz1 (.cells #[.slice Ax x.r.length cx] 30)
                          have hsz := World.size_alloc wz1 (.cells #[.slice Ax x.r.length cx] 30)
                          have hsle : s0 ≤ wz1.heap.size := by omega
                          have hrow := HROW.out.alloc (.cells #[.slice Ax x.r.length cx] 30)
                          have hSx0 : (fun w' => Below nb wo w' ∧ w'.cell? ⟨nb, 3, none⟩ = some (.slice Ax x.r.length cx)) (wz1.alloc (.cells #[.slice Ax x.r.length cx] 30)) := ⟨hHeld.1.trans (hba.mono (by omega)), cell_below hHeld.2 hba⟩
                          rw [hwz2] at hnew hsz hSx0 hba hrow ⊢
                          rw [had2] at hnew hsz ⊢
                          have HAD2 := Lib.hid (show s0 ≤ ad2 ∧ wz2.heap.size = ad2 + 1 ∧ ad2 = wz1.heap.size from ⟨by rw [← had2]; exact hsle, hsz, had2.symm⟩)
                          have hswz2 : s0 ≤ wz2.heap.size := by have := HAD2.out; omega
                          have HROW := Lib.hid hrow
                          have HLIT := Lib.hid hnew
                          have hkq := HKQ.out.trans (hba.mono hsle)
                          have HKQ := Lib.hid hkq
                          clear hwz2 had2 hsz hba hkq hnew hrow
                          refine hK.out _ _ hSx0 (fun hHeld => ?_)
                          clear hK K
                          try first | simp only [pS, List.set] | simp only [pN]
                          refine wpAnyH_ready (rs := [2]) (by kernel_rfl) (by simp) ?_
                          refine AllReadyH.cons (o := ?_) ?_ (fun K hK => ?_) AllReadyH.nil
                          rotate_left
                          · (simp only [List.getElem?_toArray, List.getElem?_cons_succ, List.getElem?_cons_zero]; rfl)
                          · refine step_append_any (by rfl) (.tmp 82) (.tmp 83) 40 (by rfl) itTy s0 _ 0 _ (by rfl) HROW.out Q _ _ (by rfl) (newsAt_its HQL.out HIT.out (HITS.out.below HKQ.out (Nat.le_refl _)) HAQ.out) (by unfold maxLen; omega) (by omega) hswz2 ?_
                            intro v3 wz3 hown2 hgr2 _ hob2
                            have hb2 : Below s0 wz2 wz3 := grown_below HROW.out hgr2 (Nat.le_refl _) hswz2
                            have hgs := hgr2.size
                            have hSx0 : (fun w' => Below nb wo w' ∧ w'.cell? ⟨nb, 3, none⟩ = some (.slice Ax x.r.length cx)) wz3 := ⟨hHeld.1.trans (hb2.mono (by omega)), cell_low hHeld.2 hb2 hnb0⟩
                            have hswz3 : s0 ≤ wz3.heap.size := by omega
                            have hlit := (hgr2.block ad2 (row_lt HLIT.out) (by intro e; have e2 : ad2 = ad1 := (by simpa [Value.ownBlock] using e); have h1 := HAD2.out; have h2 := HAD1.out; omega)).trans HLIT.out
                            have HLIT := Lib.hid hlit
                            have HROW := Lib.hid hown2
                            have hkq := HKQ.out.trans hb2
                            have HKQ := Lib.hid hkq
                            clear hown2 hgr2 hob2 hb2 hkq hlit
                            refine hK.out _ _ hSx0 (fun hHeld => ?_)
                            clear hK K
                            try first | simp only [pS, List.set] | simp only [pN]
                            refine wpAnyH_ready (rs := [6]) (by kernel_rfl) (by simp) ?_
                            refine AllReadyH.cons (o := ?_) ?_ (fun K hK => ?_) AllReadyH.nil
                            rotate_left
                            · (simp only [List.getElem?_toArray, List.getElem?_cons_succ, List.getElem?_cons_zero]; rfl)
                            · refine step_append_any (by rfl) (.tmp 84) (.tmp 87) 40 (by rfl) itTy s0 _ _ _ (by rfl) HROW.out 1 [.slice Ax x.r.length cx] _ (by rfl) (newsAt_one HLIT.out) (by unfold maxLen; omega) (by omega) hswz3 ?_
                              intro v4 wz4 hown2 hgr2 _ hob2
                              have hb2 : Below s0 wz3 wz4 := grown_below HROW.out hgr2 (Nat.le_refl _) hswz3
                              have hgs := hgr2.size
                              have hSx0 : (fun w' => Below nb wo w' ∧ w'.cell? ⟨nb, 3, none⟩ = some (.slice Ax x.r.length cx)) wz4 := ⟨hHeld.1.trans (hb2.mono (by omega)), cell_low hHeld.2 hb2 hnb0⟩
                              have hkq := HKQ.out.trans hb2
                              have HFIN := Lib.hid (itrow hown2 HQL.out HIT.out HITS.out HWS0.out hkq (by omega))
                              clear hown2 hgr2 hob2 hb2 hkq
                              refine hK.out _ _ hSx0 (fun hHeld => ?_)
                              clear hK K
                              try first | simp only [pS, List.set] | simp only [pN]
                              refine tkH 7 ?_
                              try first | simp only [pS, List.set] | simp only [pN]
                              refine wpAnyH_done (by kernel_rfl) ?_ _
                              have HBF2 := Lib.hid hHeld.1
                              (try go_wp2_with fail)
                              go_meet
                              obtain ⟨A9, c9, rfl, hc9, hA9, hi9⟩ := HFIN.out
                              exact ⟨NxtR.of HBF.out HN.out hc9 hA9 hi9, HBF2.out⟩
                    · refine AllReadyH.cons (o := ?_) ?_ (fun K hK => ?_) AllReadyH.nil
                      rotate_left
                      · (simp only [List.getElem?_toArray, List.getElem?_cons_succ, List.getElem?_cons_zero]; rfl)
                      · go_simp
                        obtain ⟨ad1, had1⟩ : ∃ y, wd.heap.size = y := ⟨_, rfl⟩
                        obtain ⟨wz1, hwz1⟩ : ∃ y, wd.alloc (.cells #[.slice Ax x.r.length cx] 30) = y := ⟨_, rfl⟩
                        have hba := (Below.refl wd.heap.size wd).alloc (Nat.le_refl _) (.cells #[.slice Ax x.r.length cx] 30)
                        have hnew := heap_alloc_new wd (.cells #[.slice Ax x.r.length cx] 30)
                        have hsz := World.size_alloc wd (.cells #[.slice Ax x.r.length cx] 30)
                        have hsle : s0 ≤ wd.heap.size := by rw [HS0.out]; exact Nat.le_refl _
                        have hSx0 : (fun w' => Below nb wo w' ∧ w'.cell? ⟨nb, 3, none⟩ = some (.slice Ax x.r.length cx)) (wd.alloc (.cells #[.slice Ax x.r.length cx] 30)) := ⟨hHeld.1.trans (hba.mono (by omega)), cell_below hHeld.2 hba⟩
                        rw [hwz1] at hnew hsz hSx0 hba ⊢
                        rw [had1] at hnew hsz ⊢
                        have HAD1 := Lib.hid (show s0 ≤ ad1 ∧ wz1.heap.size = ad1 + 1 from ⟨by rw [← had1]; exact hsle, hsz⟩)
                        have hswz1 : s0 ≤ wz1.heap.size := by have := HAD1.out; omega
                        have HLIT := Lib.hid hnew
                        have hkq := HKQ.out.trans (hba.mono hsle)
                        have HKQ := Lib.hid hkq
                        clear hwz1 had1 hsz hba hkq hnew
                        refine hK.out _ _ hSx0 (fun hHeld => ?_)
                        clear hK K
                        try first | simp only [pS, List.set] | simp only [pN]
                        refine wpAnyH_ready (rs := [0]) (by kernel_rfl) (by simp) ?_
                        refine AllReadyH.cons (o := ?_) ?_ (fun K hK => ?_) AllReadyH.nil
                        rotate_left
                        · (simp only [List.getElem?_toArray, List.getElem?_cons_zero]; rfl)
                        · go_simp
                          obtain ⟨ad2, had2⟩ : ∃ y, wz1.heap.size = y := ⟨_, rfl⟩
                          obtain ⟨wz2, hwz2⟩ : ∃ y, wz1.alloc (.cells #[] 30) = y := ⟨_, rfl⟩
                          have hba := (Below.refl wz1.heap.size wz1).alloc (Nat.le_refl _) (.cells #[] 30)
                          have hnew := heap_alloc_new wz1 (.cells #[] 30)
                          have hsz := World.size_alloc wz1 (.cells #[] 30)
                          have hsle : s0 ≤ wz1.heap.size := by omega
                          have hrow := World.ownsRow_lit (base := s0) (e := 30) (size := 1) wz1 #[] 0 hsle (by simp [maxLen]) rfl
                          have hlit := row_kept HLIT.out hba
                          have hSx0 : (fun w' => Below nb wo w' ∧ w'.cell? ⟨nb, 3, none⟩ = some (.slice Ax x.r.length cx)) (wz1.alloc (.cells #[] 30)) := ⟨hHeld.1.trans (hba.mono (by omega)), cell_below hHeld.2 hba⟩
                          rw [hwz2] at hnew hsz hSx0 hba hrow hlit ⊢
                          rw [had2] at hnew hsz hrow ⊢
                          have HAD2 := Lib.hid (show s0 ≤ ad2 ∧ wz2.heap.size = ad2 + 1 ∧ ad2 = wz1.heap.size from ⟨by rw [← had2]; exact hsle, hsz, had2.symm⟩)
                          have hswz2 : s0 ≤ wz2.heap.size := by have := HAD2.out; omega
                          have HROW := Lib.hid hrow
                          have HLIT := Lib.hid hlit
                          have hkq := HKQ.out.trans (hba.mono hsle)
                          have HKQ := Lib.hid hkq
                          clear hwz2 had2 hsz hba hkq hnew hrow hlit
                          refine hK.out _ _ hSx0 (fun hHeld => ?_)
                          clear hK K
                          try first | simp only [pS, List.set] | simp only [pN]
                          refine wpAnyH_ready (rs := [2]) (by kernel_rfl) (by simp) ?_
                          refine AllReadyH.cons (o := ?_) ?_ (fun K hK => ?_) AllReadyH.nil
                          rotate_left
                          · (simp only [List.getElem?_toArray, List.getElem?_cons_succ, List.getElem?_cons_zero]; rfl)
                          · refine step_append_any (by rfl) (.tmp 82) (.tmp 83) 40 (by rfl) itTy s0 _ 0 _ (by rfl) HROW.out Q _ _ (by rfl) (newsAt_its HQL.out HIT.out (HITS.out.below HKQ.out (Nat.le_refl _)) HAQ.out) (by unfold maxLen; omega) (by omega) hswz2 ?_
                            intro v3 wz3 hown2 hgr2 _ hob2
                            have hb2 : Below s0 wz2 wz3 := grown_below HROW.out hgr2 (Nat.le_refl _) hswz2
                            have hgs := hgr2.size
                            have hSx0 : (fun w' => Below nb wo w' ∧ w'.cell? ⟨nb, 3, none⟩ = some (.slice Ax x.r.length cx)) wz3 := ⟨hHeld.1.trans (hb2.mono (by omega)), cell_low hHeld.2 hb2 hnb0⟩
                            have hswz3 : s0 ≤ wz3.heap.size := by omega
                            have hlit := (hgr2.block ad1 (row_lt HLIT.out) (by intro e; have e2 : ad1 = ad2 := (by simpa [Value.ownBlock] using e); have h1 := HAD1.out; have h2 := HAD2.out; omega)).trans HLIT.out
                            have HLIT := Lib.hid hlit
                            have HROW := Lib.hid hown2
                            have hkq := HKQ.out.trans hb2
                            have HKQ := Lib.hid hkq
                            clear hown2 hgr2 hob2 hb2 hkq hlit
                            refine hK.out _ _ hSx0 (fun hHeld => ?_)
                            clear hK K
                            try first | simp only [pS, List.set] | simp only [pN]
                            refine wpAnyH_ready (rs := [6]) (by kernel_rfl) (by simp) ?_
                            refine AllReadyH.cons (o := ?_) ?_ (fun K hK => ?_) AllReadyH.nil
                            rotate_left
                            · (simp only [List.getElem?_toArray, List.getElem?_cons_succ, List.getElem?_cons_zero]; rfl)
                            · refine step_append_any (by rfl) (.tmp 84) (.tmp 87) 40 (by rfl) itTy s0 _ _ _ (by rfl) HROW.out 1 [.slice Ax x.r.length cx] _ (by rfl) (newsAt_one HLIT.out) (by unfold maxLen; omega) (by omega) hswz3 ?_
                              intro v4 wz4 hown2 hgr2 _ hob2
                              have hb2 : Below s0 wz3 wz4 := grown_below HROW.out hgr2 (Nat.le_refl _) hswz3
                              have hgs := hgr2.size
                              have hSx0 : (fun w' => Below nb wo w' ∧ w'.cell? ⟨nb, 3, none⟩ = some (.slice Ax x.r.length cx)) wz4 := ⟨hHeld.1.trans (hb2.mono (by omega)), cell_low hHeld.2 hb2 hnb0⟩
                              have hkq := HKQ.out.trans hb2
                              have HFIN := Lib.hid (itrow hown2 HQL.out HIT.out HITS.out HWS0.out hkq (by omega))
                              clear hown2 hgr2 hob2 hb2 hkq
                              refine hK.out _ _ hSx0 (fun hHeld => ?_)
                              clear hK K
                              try first | simp only [pS, List.set] | simp only [pN]
                              refine tkH 7 ?_
                              try first | simp only [pS, List.set] | simp only [pN]
                              refine wpAnyH_done (by kernel_rfl) ?_ _
                              have HBF2 := Lib.hid hHeld.1
                              (try go_wp2_with fail)
                              go_meet
                              obtain ⟨A9, c9, rfl, hc9, hA9, hi9⟩ := HFIN.out
                              exact ⟨NxtR.of HBF.out HN.out hc9 hA9 hi9, HBF2.out⟩
                · skip
                  have t0 : (x.q == 3) = true := by rw [hq]; rfl
                  have t1 : (x.c == 2) = false := by simpa using hcc
                  have tp : opn x = false := by simp [opn]; omega
                  have tf : ful x = false := by simp [ful, tp, t1]
                  have HN := Lib.hid (show nextR n x q = (if (decide ((Q : Int) < n)) = true then some (q ++ [x.r]) else none) by unfold nextR; simp [t0, tf, HQL.out])
                  clear hq tp tf hcc
                  cases bf with
                  | false =>
                    go_wp2_with fail
                    have hSd : (fun w' => Below nb wo w' ∧ w'.cell? ⟨nb, 3, none⟩ = some (.slice Ax x.r.length cx)) wy.drew := ⟨HBY.out.drew, y3⟩
                    refine wp_region_held_drew (S := (fun w' => Below nb wo w' ∧ w'.cell? ⟨nb, 3, none⟩ = some (.slice Ax x.r.length cx))) (by kernel_rfl) hSd (fun hHeld => ?_)
                    have HQD := Lib.hid (HQY.out.below ((Below.refl wy.heap.size wy).drew) (Nat.le_refl _))
                    have HWD := Lib.hid (HWSY.out.1.below ((Below.refl wy.heap.size wy).drew) (Nat.le_refl _))
                    have hnbd : nb < wy.drew.heap.size := hnby
                    have HQD2 : Hid (ItSl wy.drew wy.drew.heap.size Aq q) := HQD
                    have HWD2 : Hid (Ws wy.drew wy.drew.heap.size Ax x.r) := HWD
                    clear HQD HWD hSd
                    generalize wy.drew = wd at hHeld hnbd HQD2 HWD2 ⊢
                    have hHeld : (fun w' => Below nb wo w' ∧ w'.cell? ⟨nb, 3, none⟩ = some (.slice Ax x.r.length cx)) wd := hHeld
                    obtain ⟨s0, hs0⟩ : ∃ y, wd.heap.size = y := ⟨_, rfl⟩
                    have HS0 := Lib.hid hs0
                    have hnb0 : nb < s0 := by rw [← hs0]; exact hnbd
                    clear hs0 hnbd
                    obtain ⟨LI, hLI, hLs⟩ := ItSl.els HQD2.out
                    have HIT := Lib.hid hLI
                    have HITS := Lib.hid (its_lo hLs HS0.out)
                    have HWS0 := Lib.hid (show Ws wd s0 Ax x.r ∧ x.r.length ≤ cx ∧ cx ≤ maxLen from ⟨ws_lo HWD2.out HS0.out, hc1, hc2⟩)
                    have HKQ := Lib.hid (Below.refl s0 wd)
                    clear hLI hLs HQD2 HWD2
                    refine tkH 1 ?_
                    try first | simp only [pS, List.set] | simp only [pN]
                    refine tkH 3 ?_
                    try first | simp only [pS, List.set] | simp only [pN]
                    refine tkH 4 ?_
                    try first | simp only [pS, List.set] | simp only [pN]
                    refine wpAnyH_ready (rs := [0, 5]) (by kernel_rfl) (by simp) ?_
                    refine AllReadyH.cons (o := ?_) ?_ (fun K hK => ?_) ?_
                    rotate_left
                    · (simp only [List.getElem?_toArray, List.getElem?_cons_zero]; rfl)
                    · go_simp
                      obtain ⟨ad1, had1⟩ : ∃ y, wd.heap.size = y := ⟨_, rfl⟩
                      obtain ⟨wz1, hwz1⟩ : ∃ y, wd.alloc (.cells #[] 30) = y := ⟨_, rfl⟩
                      have hba := (Below.refl wd.heap.size wd).alloc (Nat.le_refl _) (.cells #[] 30)
                      have hnew := heap_alloc_new wd (.cells #[] 30)
                      have hsz := World.size_alloc wd (.cells #[] 30)
                      have hsle : s0 ≤ wd.heap.size := by rw [HS0.out]; exact Nat.le_refl _
                      have hrow := World.ownsRow_lit (base := s0) (e := 30) (size := 1) wd #[] 0 hsle (by simp [maxLen]) rfl
                      have hSx0 : (fun w' => Below nb wo w' ∧ w'.cell? ⟨nb, 3, none⟩ = some (.slice Ax x.r.length cx)) (wd.alloc (.cells #[] 30)) := ⟨hHeld.1.trans (hba.mono (by omega)), cell_below hHeld.2 hba⟩
                      rw [hwz1] at hnew hsz hSx0 hba hrow ⊢
                      rw [had1] at hnew hsz hrow ⊢
                      have HAD1 := Lib.hid (show s0 ≤ ad1 ∧ wz1.heap.size = ad1 + 1 from ⟨by rw [← had1]; exact hsle, hsz⟩)
                      have hswz1 : s0 ≤ wz1.heap.size := by have := HAD1.out; omega
                      have HROW := Lib.hid hrow
                      have hkq := HKQ.out.trans (hba.mono hsle)
                      have HKQ := Lib.hid hkq
                      clear hwz1 had1 hsz hba hkq hnew hrow
                      refine hK.out _ _ hSx0 (fun hHeld => ?_)
                      clear hK K
                      try first | simp only [pS, List.set] | simp only [pN]
                      refine wpAnyH_ready (rs := [2, 5]) (by kernel_rfl) (by simp) ?_
                      refine AllReadyH.cons (o := ?_) ?_ (fun K hK => ?_) ?_
                      rotate_left
                      · (simp only [List.getElem?_toArray, List.getElem?_cons_succ, List.getElem?_cons_zero]; rfl)
                      · refine step_append_any (by rfl) (.tmp 82) (.tmp 83) 40 (by rfl) itTy s0 _ 0 _ (by rfl) HROW.out Q _ _ (by rfl) (newsAt_its HQL.out HIT.out (HITS.out.below HKQ.out (Nat.le_refl _)) HAQ.out) (by unfold maxLen; omega) (by omega) hswz1 ?_
                        intro v2 wz2 hown2 hgr2 _ hob2
                        have hb2 : Below s0 wz1 wz2 := grown_below HROW.out hgr2 (Nat.le_refl _) hswz1
                        have hgs := hgr2.size
                        have hSx0 : (fun w' => Below nb wo w' ∧ w'.cell? ⟨nb, 3, none⟩ = some (.slice Ax x.r.length cx)) wz2 := ⟨hHeld.1.trans (hb2.mono (by omega)), cell_low hHeld.2 hb2 hnb0⟩
                        have hswz2 : s0 ≤ wz2.heap.size := by omega
                        have HROW := Lib.hid hown2
                        have hkq := HKQ.out.trans hb2
                        have HKQ := Lib.hid hkq
                        clear hown2 hgr2 hob2 hb2 hkq
                        refine hK.out _ _ hSx0 (fun hHeld => ?_)
                        clear hK K
                        try first | simp only [pS, List.set] | simp only [pN]
                        refine wpAnyH_ready (rs := [5]) (by kernel_rfl) (by simp) ?_
                        refine AllReadyH.cons (o := ?_) ?_ (fun K hK => ?_) AllReadyH.nil
                        rotate_left
                        · (simp only [List.getElem?_toArray, List.getElem?_cons_succ, List.getElem?_cons_zero]; rfl)
                        · go_simp
                          obtain ⟨ad3, had3⟩ : ∃ y, wz2.heap.size = y := ⟨_, rfl⟩
                          obtain ⟨wz3, hwz3⟩ : ∃ y, wz2.alloc (.cells #[.slice Ax x.r.length cx] 30) = y := ⟨_, rfl⟩
                          have hba := (Below.refl wz2.heap.size wz2).alloc (Nat.le_refl _) (.cells #[.slice Ax x.r.length cx] 30)
                          have hnew := heap_alloc_new wz2 (.cells #[.slice Ax x.r.length cx] 30)
                          have hsz := World.size_alloc wz2 (.cells #[.slice Ax x.r.length cx] 30)
                          have hsle : s0 ≤ wz2.heap.size := by omega
                          have hrow := HROW.out.alloc (.cells #[.slice Ax x.r.length cx] 30)
                          have hSx0 : (fun w' => Below nb wo w' ∧ w'.cell? ⟨nb, 3, none⟩ = some (.slice Ax x.r.length cx)) (wz2.alloc (.cells #[.slice Ax x.r.length cx] 30)) := ⟨hHeld.1.trans (hba.mono (by omega)), cell_below hHeld.2 hba⟩
                          rw [hwz3] at hnew hsz hSx0 hba hrow ⊢
                          rw [had3] at hnew hsz ⊢
                          have HAD3 := Lib.hid (show s0 ≤ ad3 ∧ wz3.heap.size = ad3 + 1 ∧ ad3 = wz2.heap.size from ⟨by rw [← had3]; exact hsle, hsz, had3.symm⟩)
                          have hswz3 : s0 ≤ wz3.heap.size := by have := HAD3.out; omega
                          have HROW := Lib.hid hrow
                          have HLIT := Lib.hid hnew
                          have hkq := HKQ.out.trans (hba.mono hsle)
                          have HKQ := Lib.hid hkq
                          clear hwz3 had3 hsz hba hkq hnew hrow
                          refine hK.out _ _ hSx0 (fun hHeld => ?_)
                          clear hK K
                          try first | simp only [pS, List.set] | simp only [pN]
                          refine wpAnyH_ready (rs := [6]) (by kernel_rfl) (by simp) ?_
                          refine AllReadyH.cons (o := ?_) ?_ (fun K hK => ?_) AllReadyH.nil
                          rotate_left
                          · (simp only [List.getElem?_toArray, List.getElem?_cons_succ, List.getElem?_cons_zero]; rfl)
                          · refine step_append_any (by rfl) (.tmp 84) (.tmp 87) 40 (by rfl) itTy s0 _ _ _ (by rfl) HROW.out 1 [.slice Ax x.r.length cx] _ (by rfl) (newsAt_one HLIT.out) (by unfold maxLen; omega) (by omega) hswz3 ?_
                            intro v4 wz4 hown2 hgr2 _ hob2
                            have hb2 : Below s0 wz3 wz4 := grown_below HROW.out hgr2 (Nat.le_refl _) hswz3
                            have hgs := hgr2.size
                            have hSx0 : (fun w' => Below nb wo w' ∧ w'.cell? ⟨nb, 3, none⟩ = some (.slice Ax x.r.length cx)) wz4 := ⟨hHeld.1.trans (hb2.mono (by omega)), cell_low hHeld.2 hb2 hnb0⟩
                            have hkq := HKQ.out.trans hb2
                            have HFIN := Lib.hid (itrow hown2 HQL.out HIT.out HITS.out HWS0.out hkq (by omega))
                            clear hown2 hgr2 hob2 hb2 hkq
                            refine hK.out _ _ hSx0 (fun hHeld => ?_)
                            clear hK K
                            try first | simp only [pS, List.set] | simp only [pN]
                            refine tkH 7 ?_
                            try first | simp only [pS, List.set] | simp only [pN]
                            refine wpAnyH_done (by kernel_rfl) ?_ _
                            have HBF2 := Lib.hid hHeld.1
                            (try go_wp2_with fail)
                            go_meet
                            obtain ⟨A9, c9, rfl, hc9, hA9, hi9⟩ := HFIN.out
                            exact ⟨NxtR.no (try_no HBF.out), HBF2.out⟩
                      · refine AllReadyH.cons (o := ?_) ?_ (fun K hK => ?_) AllReadyH.nil
                        rotate_left
                        · (simp only [List.getElem?_toArray, List.getElem?_cons_succ, List.getElem?_cons_zero]; rfl)
                        · go_simp
                          obtain ⟨ad2, had2⟩ : ∃ y, wz1.heap.size = y := ⟨_, rfl⟩
                          obtain ⟨wz2, hwz2⟩ : ∃ y, wz1.alloc (.cells #[.slice Ax x.r.length cx] 30) = y := ⟨_, rfl⟩
                          have hba := (Below.refl wz1.heap.size wz1).alloc (Nat.le_refl _) (.cells #[.slice Ax x.r.length cx] 30)
                          have hnew := heap_alloc_new wz1 (.cells #[.slice Ax x.r.length cx] 30)
                          have hsz := World.size_alloc wz1 (.cells #[.slice Ax x.r.length cx] 30)
                          have hsle : s0 ≤ wz1.heap.size := by omega
                          have hrow := HROW.out.alloc (.cells #[.slice Ax x.r.length cx] 30)
                          have hSx0 : (fun w' => Below nb wo w' ∧ w'.cell? ⟨nb, 3, none⟩ = some (.slice Ax x.r.length cx)) (wz1.alloc (.cells #[.slice Ax x.r.length cx] 30)) := ⟨hHeld.1.trans (hba.mono (by omega)), cell_below hHeld.2 hba⟩
                          rw [hwz2] at hnew hsz hSx0 hba hrow ⊢
                          rw [had2] at hnew hsz ⊢
                          have HAD2 := Lib.hid (show s0 ≤ ad2 ∧ wz2.heap.size = ad2 + 1 ∧ ad2 = wz1.heap.size from ⟨by rw [← had2]; exact hsle, hsz, had2.symm⟩)
                          have hswz2 : s0 ≤ wz2.heap.size := by have := HAD2.out; omega
                          have HROW := Lib.hid hrow
                          have HLIT := Lib.hid hnew
                          have hkq := HKQ.out.trans (hba.mono hsle)
                          have HKQ := Lib.hid hkq
                          clear hwz2 had2 hsz hba hkq hnew hrow
                          refine hK.out _ _ hSx0 (fun hHeld => ?_)
                          clear hK K
                          try first | simp only [pS, List.set] | simp only [pN]
                          refine wpAnyH_ready (rs := [2]) (by kernel_rfl) (by simp) ?_
                          refine AllReadyH.cons (o := ?_) ?_ (fun K hK => ?_) AllReadyH.nil
                          rotate_left
                          · (simp only [List.getElem?_toArray, List.getElem?_cons_succ, List.getElem?_cons_zero]; rfl)
                          · refine step_append_any (by rfl) (.tmp 82) (.tmp 83) 40 (by rfl) itTy s0 _ 0 _ (by rfl) HROW.out Q _ _ (by rfl) (newsAt_its HQL.out HIT.out (HITS.out.below HKQ.out (Nat.le_refl _)) HAQ.out) (by unfold maxLen; omega) (by omega) hswz2 ?_
                            intro v3 wz3 hown2 hgr2 _ hob2
                            have hb2 : Below s0 wz2 wz3 := grown_below HROW.out hgr2 (Nat.le_refl _) hswz2
                            have hgs := hgr2.size
                            have hSx0 : (fun w' => Below nb wo w' ∧ w'.cell? ⟨nb, 3, none⟩ = some (.slice Ax x.r.length cx)) wz3 := ⟨hHeld.1.trans (hb2.mono (by omega)), cell_low hHeld.2 hb2 hnb0⟩
                            have hswz3 : s0 ≤ wz3.heap.size := by omega
                            have hlit := (hgr2.block ad2 (row_lt HLIT.out) (by intro e; have e2 : ad2 = ad1 := (by simpa [Value.ownBlock] using e); have h1 := HAD2.out; have h2 := HAD1.out; omega)).trans HLIT.out
                            have HLIT := Lib.hid hlit
                            have HROW := Lib.hid hown2
                            have hkq := HKQ.out.trans hb2
                            have HKQ := Lib.hid hkq
                            clear hown2 hgr2 hob2 hb2 hkq hlit
                            refine hK.out _ _ hSx0 (fun hHeld => ?_)
                            clear hK K
                            try first | simp only [pS, List.set] | simp only [pN]
                            refine wpAnyH_ready (rs := [6]) (by kernel_rfl) (by simp) ?_
                            refine AllReadyH.cons (o := ?_) ?_ (fun K hK => ?_) AllReadyH.nil
                            rotate_left
                            · (simp only [List.getElem?_toArray, List.getElem?_cons_succ, List.getElem?_cons_zero]; rfl)
                            · refine step_append_any (by rfl) (.tmp 84) (.tmp 87) 40 (by rfl) itTy s0 _ _ _ (by rfl) HROW.out 1 [.slice Ax x.r.length cx] _ (by rfl) (newsAt_one HLIT.out) (by unfold maxLen; omega) (by omega) hswz3 ?_
                              intro v4 wz4 hown2 hgr2 _ hob2
                              have hb2 : Below s0 wz3 wz4 := grown_below HROW.out hgr2 (Nat.le_refl _) hswz3
                              have hgs := hgr2.size
                              have hSx0 : (fun w' => Below nb wo w' ∧ w'.cell? ⟨nb, 3, none⟩ = some (.slice Ax x.r.length cx)) wz4 := ⟨hHeld.1.trans (hb2.mono (by omega)), cell_low hHeld.2 hb2 hnb0⟩
                              have hkq := HKQ.out.trans hb2
                              have HFIN := Lib.hid (itrow hown2 HQL.out HIT.out HITS.out HWS0.out hkq (by omega))
                              clear hown2 hgr2 hob2 hb2 hkq
                              refine hK.out _ _ hSx0 (fun hHeld => ?_)
                              clear hK K
                              try first | simp only [pS, List.set] | simp only [pN]
                              refine tkH 7 ?_
                              try first | simp only [pS, List.set] | simp only [pN]
                              refine wpAnyH_done (by kernel_rfl) ?_ _
                              have HBF2 := Lib.hid hHeld.1
                              (try go_wp2_with fail)
                              go_meet
                              obtain ⟨A9, c9, rfl, hc9, hA9, hi9⟩ := HFIN.out
                              exact ⟨NxtR.no (try_no HBF.out), HBF2.out⟩
                    · refine AllReadyH.cons (o := ?_) ?_ (fun K hK => ?_) AllReadyH.nil
                      rotate_left
                      · (simp only [List.getElem?_toArray, List.getElem?_cons_succ, List.getElem?_cons_zero]; rfl)
                      · go_simp
                        obtain ⟨ad1, had1⟩ : ∃ y, wd.heap.size = y := ⟨_, rfl⟩
                        obtain ⟨wz1, hwz1⟩ : ∃ y, wd.alloc (.cells #[.slice Ax x.r.length cx] 30) = y := ⟨_, rfl⟩
                        have hba := (Below.refl wd.heap.size wd).alloc (Nat.le_refl _) (.cells #[.slice Ax x.r.length cx] 30)
                        have hnew := heap_alloc_new wd (.cells #[.slice Ax x.r.length cx] 30)
                        have hsz := World.size_alloc wd (.cells #[.slice Ax x.r.length cx] 30)
                        have hsle : s0 ≤ wd.heap.size := by rw [HS0.out]; exact Nat.le_refl _
                        have hSx0 : (fun w' => Below nb wo w' ∧ w'.cell? ⟨nb, 3, none⟩ = some (.slice Ax x.r.length cx)) (wd.alloc (.cells #[.slice Ax x.r.length cx] 30)) := ⟨hHeld.1.trans (hba.mono (by omega)), cell_below hHeld.2 hba⟩
                        rw [hwz1] at hnew hsz hSx0 hba ⊢
                        rw [had1] at hnew hsz ⊢
                        have HAD1 := Lib.hid (show s0 ≤ ad1 ∧ wz1.heap.size = ad1 + 1 from ⟨by rw [← had1]; exact hsle, hsz⟩)
                        have hswz1 : s0 ≤ wz1.heap.size := by have := HAD1.out; omega
                        have HLIT := Lib.hid hnew
                        have hkq := HKQ.out.trans (hba.mono hsle)
                        have HKQ := Lib.hid hkq
                        clear hwz1 had1 hsz hba hkq hnew
                        refine hK.out _ _ hSx0 (fun hHeld => ?_)
                        clear hK K
                        try first | simp only [pS, List.set] | simp only [pN]
                        refine wpAnyH_ready (rs := [0]) (by kernel_rfl) (by simp) ?_
                        refine AllReadyH.cons (o := ?_) ?_ (fun K hK => ?_) AllReadyH.nil
                        rotate_left
                        · (simp only [List.getElem?_toArray, List.getElem?_cons_zero]; rfl)
                        · go_simp
                          obtain ⟨ad2, had2⟩ : ∃ y, wz1.heap.size = y := ⟨_, rfl⟩
                          obtain ⟨wz2, hwz2⟩ : ∃ y, wz1.alloc (.cells #[] 30) = y := ⟨_, rfl⟩
                          have hba := (Below.refl wz1.heap.size wz1).alloc (Nat.le_refl _) (.cells #[] 30)
                          have hnew := heap_alloc_new wz1 (.cells #[] 30)
                          have hsz := World.size_alloc wz1 (.cells #[] 30)
                          have hsle : s0 ≤ wz1.heap.size := by omega
                          have hrow := World.ownsRow_lit (base := s0) (e := 30) (size := 1) wz1 #[] 0 hsle (by simp [maxLen]) rfl
                          have hlit := row_kept HLIT.out hba
                          have hSx0 : (fun w' => Below nb wo w' ∧ w'.cell? ⟨nb, 3, none⟩ = some (.slice Ax x.r.length cx)) (wz1.alloc (.cells #[] 30)) := ⟨hHeld.1.trans (hba.mono (by omega)), cell_below hHeld.2 hba⟩
                          rw [hwz2] at hnew hsz hSx0 hba hrow hlit ⊢
                          rw [had2] at hnew hsz hrow ⊢
                          have HAD2 := Lib.hid (show s0 ≤ ad2 ∧ wz2.heap.size = ad2 + 1 ∧ ad2 = wz1.heap.size from ⟨by rw [← had2]; exact hsle, hsz, had2.symm⟩)
                          have hswz2 : s0 ≤ wz2.heap.size := by have := HAD2.out; omega
                          have HROW := Lib.hid hrow
                          have HLIT := Lib.hid hlit
                          have hkq := HKQ.out.trans (hba.mono hsle)
                          have HKQ := Lib.hid hkq
                          clear hwz2 had2 hsz hba hkq hnew hrow hlit
                          refine hK.out _ _ hSx0 (fun hHeld => ?_)
                          clear hK K
                          try first | simp only [pS, List.set] | simp only [pN]
                          refine wpAnyH_ready (rs := [2]) (by kernel_rfl) (by simp) ?_
                          refine AllReadyH.cons (o := ?_) ?_ (fun K hK => ?_) AllReadyH.nil
                          rotate_left
                          · (simp only [List.getElem?_toArray, List.getElem?_cons_succ, List.getElem?_cons_zero]; rfl)
                          · refine step_append_any (by rfl) (.tmp 82) (.tmp 83) 40 (by rfl) itTy s0 _ 0 _ (by rfl) HROW.out Q _ _ (by rfl) (newsAt_its HQL.out HIT.out (HITS.out.below HKQ.out (Nat.le_refl _)) HAQ.out) (by unfold maxLen; omega) (by omega) hswz2 ?_
                            intro v3 wz3 hown2 hgr2 _ hob2
                            have hb2 : Below s0 wz2 wz3 := grown_below HROW.out hgr2 (Nat.le_refl _) hswz2
                            have hgs := hgr2.size
                            have hSx0 : (fun w' => Below nb wo w' ∧ w'.cell? ⟨nb, 3, none⟩ = some (.slice Ax x.r.length cx)) wz3 := ⟨hHeld.1.trans (hb2.mono (by omega)), cell_low hHeld.2 hb2 hnb0⟩
                            have hswz3 : s0 ≤ wz3.heap.size := by omega
                            have hlit := (hgr2.block ad1 (row_lt HLIT.out) (by intro e; have e2 : ad1 = ad2 := (by simpa [Value.ownBlock] using e); have h1 := HAD1.out; have h2 := HAD2.out; omega)).trans HLIT.out
                            have HLIT := Lib.hid hlit
                            have HROW := Lib.hid hown2
                            have hkq := HKQ.out.trans hb2
                            have HKQ := Lib.hid hkq
                            clear hown2 hgr2 hob2 hb2 hkq hlit
                            refine hK.out _ _ hSx0 (fun hHeld => ?_)
                            clear hK K
                            try first | simp only [pS, List.set] | simp only [pN]
                            refine wpAnyH_ready (rs := [6]) (by kernel_rfl) (by simp) ?_
                            refine AllReadyH.cons (o := ?_) ?_ (fun K hK => ?_) AllReadyH.nil
                            rotate_left
                            · (simp only [List.getElem?_toArray, List.getElem?_cons_succ, List.getElem?_cons_zero]; rfl)
                            · refine step_append_any (by rfl) (.tmp 84) (.tmp 87) 40 (by rfl) itTy s0 _ _ _ (by rfl) HROW.out 1 [.slice Ax x.r.length cx] _ (by rfl) (newsAt_one HLIT.out) (by unfold maxLen; omega) (by omega) hswz3 ?_
                              intro v4 wz4 hown2 hgr2 _ hob2
                              have hb2 : Below s0 wz3 wz4 := grown_below HROW.out hgr2 (Nat.le_refl _) hswz3
                              have hgs := hgr2.size
                              have hSx0 : (fun w' => Below nb wo w' ∧ w'.cell? ⟨nb, 3, none⟩ = some (.slice Ax x.r.length cx)) wz4 := ⟨hHeld.1.trans (hb2.mono (by omega)), cell_low hHeld.2 hb2 hnb0⟩
                              have hkq := HKQ.out.trans hb2
                              have HFIN := Lib.hid (itrow hown2 HQL.out HIT.out HITS.out HWS0.out hkq (by omega))
                              clear hown2 hgr2 hob2 hb2 hkq
                              refine hK.out _ _ hSx0 (fun hHeld => ?_)
                              clear hK K
                              try first | simp only [pS, List.set] | simp only [pN]
                              refine tkH 7 ?_
                              try first | simp only [pS, List.set] | simp only [pN]
                              refine wpAnyH_done (by kernel_rfl) ?_ _
                              have HBF2 := Lib.hid hHeld.1
                              (try go_wp2_with fail)
                              go_meet
                              obtain ⟨A9, c9, rfl, hc9, hA9, hi9⟩ := HFIN.out
                              exact ⟨NxtR.no (try_no HBF.out), HBF2.out⟩
                  | true =>
                    go_wp2_with fail
                    have hSd : (fun w' => Below nb wo w' ∧ w'.cell? ⟨nb, 3, none⟩ = some (.slice Ax x.r.length cx)) wy.drew := ⟨HBY.out.drew, y3⟩
                    refine wp_region_held_drew (S := (fun w' => Below nb wo w' ∧ w'.cell? ⟨nb, 3, none⟩ = some (.slice Ax x.r.length cx))) (by kernel_rfl) hSd (fun hHeld => ?_)
                    have HQD := Lib.hid (HQY.out.below ((Below.refl wy.heap.size wy).drew) (Nat.le_refl _))
                    have HWD := Lib.hid (HWSY.out.1.below ((Below.refl wy.heap.size wy).drew) (Nat.le_refl _))
                    have hnbd : nb < wy.drew.heap.size := hnby
                    have HQD2 : Hid (ItSl wy.drew wy.drew.heap.size Aq q) := HQD
                    have HWD2 : Hid (Ws wy.drew wy.drew.heap.size Ax x.r) := HWD
                    clear HQD HWD hSd
                    generalize wy.drew = wd at hHeld hnbd HQD2 HWD2 ⊢
                    have hHeld : (fun w' => Below nb wo w' ∧ w'.cell? ⟨nb, 3, none⟩ = some (.slice Ax x.r.length cx)) wd := hHeld
                    obtain ⟨s0, hs0⟩ : ∃ y, wd.heap.size = y := ⟨_, rfl⟩
                    have HS0 := Lib.hid hs0
                    have hnb0 : nb < s0 := by rw [← hs0]; exact hnbd
                    clear hs0 hnbd
                    obtain ⟨LI, hLI, hLs⟩ := ItSl.els HQD2.out
                    have HIT := Lib.hid hLI
                    have HITS := Lib.hid (its_lo hLs HS0.out)
                    have HWS0 := Lib.hid (show Ws wd s0 Ax x.r ∧ x.r.length ≤ cx ∧ cx ≤ maxLen from ⟨ws_lo HWD2.out HS0.out, hc1, hc2⟩)
                    have HKQ := Lib.hid (Below.refl s0 wd)
                    clear hLI hLs HQD2 HWD2
                    refine tkH 1 ?_
                    try first | simp only [pS, List.set] | simp only [pN]
                    refine tkH 3 ?_
                    try first | simp only [pS, List.set] | simp only [pN]
                    refine tkH 4 ?_
                    try first | simp only [pS, List.set] | simp only [pN]
                    refine wpAnyH_ready (rs := [0, 5]) (by kernel_rfl) (by simp) ?_
                    refine AllReadyH.cons (o := ?_) ?_ (fun K hK => ?_) ?_
                    rotate_left
                    · (simp only [List.getElem?_toArray, List.getElem?_cons_zero]; rfl)
                    · go_simp
                      obtain ⟨ad1, had1⟩ : ∃ y, wd.heap.size = y := ⟨_, rfl⟩
                      obtain ⟨wz1, hwz1⟩ : ∃ y, wd.alloc (.cells #[] 30) = y := ⟨_, rfl⟩
                      have hba := (Below.refl wd.heap.size wd).alloc (Nat.le_refl _) (.cells #[] 30)
                      have hnew := heap_alloc_new wd (.cells #[] 30)
                      have hsz := World.size_alloc wd (.cells #[] 30)
                      have hsle : s0 ≤ wd.heap.size := by rw [HS0.out]; exact Nat.le_refl _
                      have hrow := World.ownsRow_lit (base := s0) (e := 30) (size := 1) wd #[] 0 hsle (by simp [maxLen]) rfl
                      have hSx0 : (fun w' => Below nb wo w' ∧ w'.cell? ⟨nb, 3, none⟩ = some (.slice Ax x.r.length cx)) (wd.alloc (.cells #[] 30)) := ⟨hHeld.1.trans (hba.mono (by omega)), cell_below hHeld.2 hba⟩
                      rw [hwz1] at hnew hsz hSx0 hba hrow ⊢
                      rw [had1] at hnew hsz hrow ⊢
                      have HAD1 := Lib.hid (show s0 ≤ ad1 ∧ wz1.heap.size = ad1 + 1 from ⟨by rw [← had1]; exact hsle, hsz⟩)
                      have hswz1 : s0 ≤ wz1.heap.size := by have := HAD1.out; omega
                      have HROW := Lib.hid hrow
                      have hkq := HKQ.out.trans (hba.mono hsle)
                      have HKQ := Lib.hid hkq
                      clear hwz1 had1 hsz hba hkq hnew hrow
                      refine hK.out _ _ hSx0 (fun hHeld => ?_)
                      clear hK K
                      try first | simp only [pS, List.set] | simp only [pN]
                      refine wpAnyH_ready (rs := [2, 5]) (by kernel_rfl) (by simp) ?_
                      refine AllReadyH.cons (o := ?_) ?_ (fun K hK => ?_) ?_
                      rotate_left
                      · (simp only [List.getElem?_toArray, List.getElem?_cons_succ, List.getElem?_cons_zero]; rfl)
                      · refine step_append_any (by rfl) (.tmp 82) (.tmp 83) 40 (by rfl) itTy s0 _ 0 _ (by rfl) HROW.out Q _ _ (by rfl) (newsAt_its HQL.out HIT.out (HITS.out.below HKQ.out (Nat.le_refl _)) HAQ.out) (by unfold maxLen; omega) (by omega) hswz1 ?_
                        intro v2 wz2 hown2 hgr2 _ hob2
                        have hb2 : Below s0 wz1 wz2 := grown_below HROW.out hgr2 (Nat.le_refl _) hswz1
                        have hgs := hgr2.size
                        have hSx0 : (fun w' => Below nb wo w' ∧ w'.cell? ⟨nb, 3, none⟩ = some (.slice Ax x.r.length cx)) wz2 := ⟨hHeld.1.trans (hb2.mono (by omega)), cell_low hHeld.2 hb2 hnb0⟩
                        have hswz2 : s0 ≤ wz2.heap.size := by omega
                        have HROW := Lib.hid hown2
                        have hkq := HKQ.out.trans hb2
                        have HKQ := Lib.hid hkq
                        clear hown2 hgr2 hob2 hb2 hkq
                        refine hK.out _ _ hSx0 (fun hHeld => ?_)
                        clear hK K
                        try first | simp only [pS, List.set] | simp only [pN]
                        refine wpAnyH_ready (rs := [5]) (by kernel_rfl) (by simp) ?_
                        refine AllReadyH.cons (o := ?_) ?_ (fun K hK => ?_) AllReadyH.nil
                        rotate_left
                        · (simp only [List.getElem?_toArray, List.getElem?_cons_succ, List.getElem?_cons_zero]; rfl)
                        · go_simp
                          obtain ⟨ad3, had3⟩ : ∃ y, wz2.heap.size = y := ⟨_, rfl⟩
                          obtain ⟨wz3, hwz3⟩ : ∃ y, wz2.alloc (.cells #[.slice Ax x.r.length cx] 30) = y := ⟨_, rfl⟩
                          have hba := (Below.refl wz2.heap.size wz2).alloc (Nat.le_refl _) (.cells #[.slice Ax x.r.length cx] 30)
                          have hnew := heap_alloc_new wz2 (.cells #[.slice Ax x.r.length cx] 30)
                          have hsz := World.size_alloc wz2 (.cells #[.slice Ax x.r.length cx] 30)
                          have hsle : s0 ≤ wz2.heap.size := by omega
                          have hrow := HROW.out.alloc (.cells #[.slice Ax x.r.length cx] 30)
                          have hSx0 : (fun w' => Below nb wo w' ∧ w'.cell? ⟨nb, 3, none⟩ = some (.slice Ax x.r.length cx)) (wz2.alloc (.cells #[.slice Ax x.r.length cx] 30)) := ⟨hHeld.1.trans (hba.mono (by omega)), cell_below hHeld.2 hba⟩
                          rw [hwz3] at hnew hsz hSx0 hba hrow ⊢
                          rw [had3] at hnew hsz ⊢
                          have HAD3 := Lib.hid (show s0 ≤ ad3 ∧ wz3.heap.size = ad3 + 1 ∧ ad3 = wz2.heap.size from ⟨by rw [← had3]; exact hsle, hsz, had3.symm⟩)
                          have hswz3 : s0 ≤ wz3.heap.size := by have := HAD3.out; omega
                          have HROW := Lib.hid hrow
                          have HLIT := Lib.hid hnew
                          have hkq := HKQ.out.trans (hba.mono hsle)
                          have HKQ := Lib.hid hkq
                          clear hwz3 had3 hsz hba hkq hnew hrow
                          refine hK.out _ _ hSx0 (fun hHeld => ?_)
                          clear hK K
                          try first | simp only [pS, List.set] | simp only [pN]
                          refine wpAnyH_ready (rs := [6]) (by kernel_rfl) (by simp) ?_
                          refine AllReadyH.cons (o := ?_) ?_ (fun K hK => ?_) AllReadyH.nil
                          rotate_left
                          · (simp only [List.getElem?_toArray, List.getElem?_cons_succ, List.getElem?_cons_zero]; rfl)
                          · refine step_append_any (by rfl) (.tmp 84) (.tmp 87) 40 (by rfl) itTy s0 _ _ _ (by rfl) HROW.out 1 [.slice Ax x.r.length cx] _ (by rfl) (newsAt_one HLIT.out) (by unfold maxLen; omega) (by omega) hswz3 ?_
                            intro v4 wz4 hown2 hgr2 _ hob2
                            have hb2 : Below s0 wz3 wz4 := grown_below HROW.out hgr2 (Nat.le_refl _) hswz3
                            have hgs := hgr2.size
                            have hSx0 : (fun w' => Below nb wo w' ∧ w'.cell? ⟨nb, 3, none⟩ = some (.slice Ax x.r.length cx)) wz4 := ⟨hHeld.1.trans (hb2.mono (by omega)), cell_low hHeld.2 hb2 hnb0⟩
                            have hkq := HKQ.out.trans hb2
                            have HFIN := Lib.hid (itrow hown2 HQL.out HIT.out HITS.out HWS0.out hkq (by omega))
                            clear hown2 hgr2 hob2 hb2 hkq
                            refine hK.out _ _ hSx0 (fun hHeld => ?_)
                            clear hK K
                            try first | simp only [pS, List.set] | simp only [pN]
                            refine tkH 7 ?_
                            try first | simp only [pS, List.set] | simp only [pN]
                            refine wpAnyH_done (by kernel_rfl) ?_ _
                            have HBF2 := Lib.hid hHeld.1
                            (try go_wp2_with fail)
                            go_meet
                            obtain ⟨A9, c9, rfl, hc9, hA9, hi9⟩ := HFIN.out
                            exact ⟨NxtR.of HBF.out HN.out hc9 hA9 hi9, HBF2.out⟩
                      · refine AllReadyH.cons (o := ?_) ?_ (fun K hK => ?_) AllReadyH.nil
                        rotate_left
                        · (simp only [List.getElem?_toArray, List.getElem?_cons_succ, List.getElem?_cons_zero]; rfl)
                        · go_simp
                          obtain ⟨ad2, had2⟩ : ∃ y, wz1.heap.size = y := ⟨_, rfl⟩
                          obtain ⟨wz2, hwz2⟩ : ∃ y, wz1.alloc (.cells #[.slice Ax x.r.length cx] 30) = y := ⟨_, rfl⟩
                          have hba := (Below.refl wz1.heap.size wz1).alloc (Nat.le_refl _) (.cells #[.slice Ax x.r.length cx] 30)
                          have hnew := heap_alloc_new wz1 (.cells #[.slice Ax x.r.length cx] 30)
                          have hsz := World.size_alloc wz1 (.cells #[.slice Ax x.r.length cx] 30)
                          have hsle : s0 ≤ wz1.heap.size := by omega
                          have hrow := HROW.out.alloc (.cells #[.slice Ax x.r.length cx] 30)
                          have hSx0 : (fun w' => Below nb wo w' ∧ w'.cell? ⟨nb, 3, none⟩ = some (.slice Ax x.r.length cx)) (wz1.alloc (.cells #[.slice Ax x.r.length cx] 30)) := ⟨hHeld.1.trans (hba.mono (by omega)), cell_below hHeld.2 hba⟩
                          rw [hwz2] at hnew hsz hSx0 hba hrow ⊢
                          rw [had2] at hnew hsz ⊢
                          have HAD2 := Lib.hid (show s0 ≤ ad2 ∧ wz2.heap.size = ad2 + 1 ∧ ad2 = wz1.heap.size from ⟨by rw [← had2]; exact hsle, hsz, had2.symm⟩)
                          have hswz2 : s0 ≤ wz2.heap.size := by have := HAD2.out; omega
                          have HROW := Lib.hid hrow
                          have HLIT := Lib.hid hnew
                          have hkq := HKQ.out.trans (hba.mono hsle)
                          have HKQ := Lib.hid hkq
                          clear hwz2 had2 hsz hba hkq hnew hrow
                          refine hK.out _ _ hSx0 (fun hHeld => ?_)
                          clear hK K
                          try first | simp only [pS, List.set] | simp only [pN]
                          refine wpAnyH_ready (rs := [2]) (by kernel_rfl) (by simp) ?_
                          refine AllReadyH.cons (o := ?_) ?_ (fun K hK => ?_) AllReadyH.nil
                          rotate_left
                          · (simp only [List.getElem?_toArray, List.getElem?_cons_succ, List.getElem?_cons_zero]; rfl)
                          · refine step_append_any (by rfl) (.tmp 82) (.tmp 83) 40 (by rfl) itTy s0 _ 0 _ (by rfl) HROW.out Q _ _ (by rfl) (newsAt_its HQL.out HIT.out (HITS.out.below HKQ.out (Nat.le_refl _)) HAQ.out) (by unfold maxLen; omega) (by omega) hswz2 ?_
                            intro v3 wz3 hown2 hgr2 _ hob2
                            have hb2 : Below s0 wz2 wz3 := grown_below HROW.out hgr2 (Nat.le_refl _) hswz2
                            have hgs := hgr2.size
                            have hSx0 : (fun w' => Below nb wo w' ∧ w'.cell? ⟨nb, 3, none⟩ = some (.slice Ax x.r.length cx)) wz3 := ⟨hHeld.1.trans (hb2.mono (by omega)), cell_low hHeld.2 hb2 hnb0⟩
                            have hswz3 : s0 ≤ wz3.heap.size := by omega
                            have hlit := (hgr2.block ad2 (row_lt HLIT.out) (by intro e; have e2 : ad2 = ad1 := (by simpa [Value.ownBlock] using e); have h1 := HAD2.out; have h2 := HAD1.out; omega)).trans HLIT.out
                            have HLIT := Lib.hid hlit
                            have HROW := Lib.hid hown2
                            have hkq := HKQ.out.trans hb2
                            have HKQ := Lib.hid hkq
                            clear hown2 hgr2 hob2 hb2 hkq hlit
                            refine hK.out _ _ hSx0 (fun hHeld => ?_)
                            clear hK K
                            try first | simp only [pS, List.set] | simp only [pN]
                            refine wpAnyH_ready (rs := [6]) (by kernel_rfl) (by simp) ?_
                            refine AllReadyH.cons (o := ?_) ?_ (fun K hK => ?_) AllReadyH.nil
                            rotate_left
                            · (simp only [List.getElem?_toArray, List.getElem?_cons_succ, List.getElem?_cons_zero]; rfl)
                            · refine step_append_any (by rfl) (.tmp 84) (.tmp 87) 40 (by rfl) itTy s0 _ _ _ (by rfl) HROW.out 1 [.slice Ax x.r.length cx] _ (by rfl) (newsAt_one HLIT.out) (by unfold maxLen; omega) (by omega) hswz3 ?_
                              intro v4 wz4 hown2 hgr2 _ hob2
                              have hb2 : Below s0 wz3 wz4 := grown_below HROW.out hgr2 (Nat.le_refl _) hswz3
                              have hgs := hgr2.size
                              have hSx0 : (fun w' => Below nb wo w' ∧ w'.cell? ⟨nb, 3, none⟩ = some (.slice Ax x.r.length cx)) wz4 := ⟨hHeld.1.trans (hb2.mono (by omega)), cell_low hHeld.2 hb2 hnb0⟩
                              have hkq := HKQ.out.trans hb2
                              have HFIN := Lib.hid (itrow hown2 HQL.out HIT.out HITS.out HWS0.out hkq (by omega))
                              clear hown2 hgr2 hob2 hb2 hkq
                              refine hK.out _ _ hSx0 (fun hHeld => ?_)
                              clear hK K
                              try first | simp only [pS, List.set] | simp only [pN]
                              refine tkH 7 ?_
                              try first | simp only [pS, List.set] | simp only [pN]
                              refine wpAnyH_done (by kernel_rfl) ?_ _
                              have HBF2 := Lib.hid hHeld.1
                              (try go_wp2_with fail)
                              go_meet
                              obtain ⟨A9, c9, rfl, hc9, hA9, hi9⟩ := HFIN.out
                              exact ⟨NxtR.of HBF.out HN.out hc9 hA9 hi9, HBF2.out⟩
                    · refine AllReadyH.cons (o := ?_) ?_ (fun K hK => ?_) AllReadyH.nil
                      rotate_left
                      · (simp only [List.getElem?_toArray, List.getElem?_cons_succ, List.getElem?_cons_zero]; rfl)
                      · go_simp
                        obtain ⟨ad1, had1⟩ : ∃ y, wd.heap.size = y := ⟨_, rfl⟩
                        obtain ⟨wz1, hwz1⟩ : ∃ y, wd.alloc (.cells #[.slice Ax x.r.length cx] 30) = y := ⟨_, rfl⟩
                        have hba := (Below.refl wd.heap.size wd).alloc (Nat.le_refl _) (.cells #[.slice Ax x.r.length cx] 30)
                        have hnew := heap_alloc_new wd (.cells #[.slice Ax x.r.length cx] 30)
                        have hsz := World.size_alloc wd (.cells #[.slice Ax x.r.length cx] 30)
                        have hsle : s0 ≤ wd.heap.size := by rw [HS0.out]; exact Nat.le_refl _
                        have hSx0 : (fun w' => Below nb wo w' ∧ w'.cell? ⟨nb, 3, none⟩ = some (.slice Ax x.r.length cx)) (wd.alloc (.cells #[.slice Ax x.r.length cx] 30)) := ⟨hHeld.1.trans (hba.mono (by omega)), cell_below hHeld.2 hba⟩
                        rw [hwz1] at hnew hsz hSx0 hba ⊢
                        rw [had1] at hnew hsz ⊢
                        have HAD1 := Lib.hid (show s0 ≤ ad1 ∧ wz1.heap.size = ad1 + 1 from ⟨by rw [← had1]; exact hsle, hsz⟩)
                        have hswz1 : s0 ≤ wz1.heap.size := by have := HAD1.out; omega
                        have HLIT := Lib.hid hnew
                        have hkq := HKQ.out.trans (hba.mono hsle)
                        have HKQ := Lib.hid hkq
                        clear hwz1 had1 hsz hba hkq hnew
                        refine hK.out _ _ hSx0 (fun hHeld => ?_)
                        clear hK K
                        try first | simp only [pS, List.set] | simp only [pN]
                        refine wpAnyH_ready (rs := [0]) (by kernel_rfl) (by simp) ?_
                        refine AllReadyH.cons (o := ?_) ?_ (fun K hK => ?_) AllReadyH.nil
                        rotate_left
                        · (simp only [List.getElem?_toArray, List.getElem?_cons_zero]; rfl)
                        · go_simp
                          obtain ⟨ad2, had2⟩ : ∃ y, wz1.heap.size = y := ⟨_, rfl⟩
                          obtain ⟨wz2, hwz2⟩ : ∃ y, wz1.alloc (.cells #[] 30) = y := ⟨_, rfl⟩
                          have hba := (Below.refl wz1.heap.size wz1).alloc (Nat.le_refl _) (.cells #[] 30)
                          have hnew := heap_alloc_new wz1 (.cells #[] 30)
                          have hsz := World.size_alloc wz1 (.cells #[] 30)
                          have hsle : s0 ≤ wz1.heap.size := by omega
                          have hrow := World.ownsRow_lit (base := s0) (e := 30) (size := 1) wz1 #[] 0 hsle (by simp [maxLen]) rfl
                          have hlit := row_kept HLIT.out hba
                          have hSx0 : (fun w' => Below nb wo w' ∧ w'.cell? ⟨nb, 3, none⟩ = some (.slice Ax x.r.length cx)) (wz1.alloc (.cells #[] 30)) := ⟨hHeld.1.trans (hba.mono (by omega)), cell_below hHeld.2 hba⟩
                          rw [hwz2] at hnew hsz hSx0 hba hrow hlit ⊢
                          rw [had2] at hnew hsz hrow ⊢
                          have HAD2 := Lib.hid (show s0 ≤ ad2 ∧ wz2.heap.size = ad2 + 1 ∧ ad2 = wz1.heap.size from ⟨by rw [← had2]; exact hsle, hsz, had2.symm⟩)
                          have hswz2 : s0 ≤ wz2.heap.size := by have := HAD2.out; omega
                          have HROW := Lib.hid hrow
                          have HLIT := Lib.hid hlit
                          have hkq := HKQ.out.trans (hba.mono hsle)
                          have HKQ := Lib.hid hkq
                          clear hwz2 had2 hsz hba hkq hnew hrow hlit
                          refine hK.out _ _ hSx0 (fun hHeld => ?_)
                          clear hK K
                          try first | simp only [pS, List.set] | simp only [pN]
                          refine wpAnyH_ready (rs := [2]) (by kernel_rfl) (by simp) ?_
                          refine AllReadyH.cons (o := ?_) ?_ (fun K hK => ?_) AllReadyH.nil
                          rotate_left
                          · (simp only [List.getElem?_toArray, List.getElem?_cons_succ, List.getElem?_cons_zero]; rfl)
                          · refine step_append_any (by rfl) (.tmp 82) (.tmp 83) 40 (by rfl) itTy s0 _ 0 _ (by rfl) HROW.out Q _ _ (by rfl) (newsAt_its HQL.out HIT.out (HITS.out.below HKQ.out (Nat.le_refl _)) HAQ.out) (by unfold maxLen; omega) (by omega) hswz2 ?_
                            intro v3 wz3 hown2 hgr2 _ hob2
                            have hb2 : Below s0 wz2 wz3 := grown_below HROW.out hgr2 (Nat.le_refl _) hswz2
                            have hgs := hgr2.size
                            have hSx0 : (fun w' => Below nb wo w' ∧ w'.cell? ⟨nb, 3, none⟩ = some (.slice Ax x.r.length cx)) wz3 := ⟨hHeld.1.trans (hb2.mono (by omega)), cell_low hHeld.2 hb2 hnb0⟩
                            have hswz3 : s0 ≤ wz3.heap.size := by omega
                            have hlit := (hgr2.block ad1 (row_lt HLIT.out) (by intro e; have e2 : ad1 = ad2 := (by simpa [Value.ownBlock] using e); have h1 := HAD1.out; have h2 := HAD2.out; omega)).trans HLIT.out
                            have HLIT := Lib.hid hlit
                            have HROW := Lib.hid hown2
                            have hkq := HKQ.out.trans hb2
                            have HKQ := Lib.hid hkq
                            clear hown2 hgr2 hob2 hb2 hkq hlit
                            refine hK.out _ _ hSx0 (fun hHeld => ?_)
                            clear hK K
                            try first | simp only [pS, List.set] | simp only [pN]
                            refine wpAnyH_ready (rs := [6]) (by kernel_rfl) (by simp) ?_
                            refine AllReadyH.cons (o := ?_) ?_ (fun K hK => ?_) AllReadyH.nil
                            rotate_left
                            · (simp only [List.getElem?_toArray, List.getElem?_cons_succ, List.getElem?_cons_zero]; rfl)
                            · refine step_append_any (by rfl) (.tmp 84) (.tmp 87) 40 (by rfl) itTy s0 _ _ _ (by rfl) HROW.out 1 [.slice Ax x.r.length cx] _ (by rfl) (newsAt_one HLIT.out) (by unfold maxLen; omega) (by omega) hswz3 ?_
                              intro v4 wz4 hown2 hgr2 _ hob2
                              have hb2 : Below s0 wz3 wz4 := grown_below HROW.out hgr2 (Nat.le_refl _) hswz3
                              have hgs := hgr2.size
                              have hSx0 : (fun w' => Below nb wo w' ∧ w'.cell? ⟨nb, 3, none⟩ = some (.slice Ax x.r.length cx)) wz4 := ⟨hHeld.1.trans (hb2.mono (by omega)), cell_low hHeld.2 hb2 hnb0⟩
                              have hkq := HKQ.out.trans hb2
                              have HFIN := Lib.hid (itrow hown2 HQL.out HIT.out HITS.out HWS0.out hkq (by omega))
                              clear hown2 hgr2 hob2 hb2 hkq
                              refine hK.out _ _ hSx0 (fun hHeld => ?_)
                              clear hK K
                              try first | simp only [pS, List.set] | simp only [pN]
                              refine tkH 7 ?_
                              try first | simp only [pS, List.set] | simp only [pN]
                              refine wpAnyH_done (by kernel_rfl) ?_ _
                              have HBF2 := Lib.hid hHeld.1
                              (try go_wp2_with fail)
                              go_meet
                              obtain ⟨A9, c9, rfl, hc9, hA9, hi9⟩ := HFIN.out
                              exact ⟨NxtR.of HBF.out HN.out hc9 hA9 hi9, HBF2.out⟩
                · skip
                  have t0 : (x.q == 3) = false := by rw [hq]; rfl
                  have t1 : (x.c == 3) = true := by rw [hcc]; rfl
                  have tp : opn x = false := by simp [opn]; omega
                  have te : emp x = true := by simp [emp, tp, t1]
                  have HN := Lib.hid (show nextR n x q = (if ((Q : Int) == 0) = true then some q else none) by unfold nextR; simp [t0, te, HQL.out])
                  clear hq hcc tp te
                  cases bf with
                  | false =>
                    go_wp2_with fail
                    go_meet
                    exact ⟨NxtR.no (try_no HBF.out), HBY.out⟩
                  | true =>
                    go_wp2_with fail
                    go_meet
                    exact ⟨nxt_of HQL.out HBF.out HN.out hcq HAQ.out HQY.out, HBY.out⟩
                · skip
                  have t0 : (x.q == 3) = false := by rw [hq]; rfl
                  have tp : opn x = true := by simp [opn, he]
                  have te : emp x = false := by simp [emp, tp]
                  clear hq
                  cases q with
                  | nil =>
                      have hQ0 : Q = 0 := by have := HQL.out; simpa using this.symm
                      have g0 : ¬ 0 < Q := by omega
                      have g1 : decide ((0 : Int) < (Q : Int)) = false := by simp; omega
                      have g2 : decide (0 < Q) = false := by simp; omega
                      have HN := Lib.hid (show nextR n x [] = (if true = true then some [] else none) by unfold nextR; simp [t0, te, tp])
                      clear hQ0 tp te
                      cases bf with
                      | false =>
                        go_wp2_with fail
                        go_meet
                        exact ⟨NxtR.no (try_no HBF.out), HBY.out⟩
                      | true =>
                        go_wp2_with fail
                        go_meet
                        exact ⟨nxt_of HQL.out HBF.out HN.out hcq HAQ.out HQY.out, HBY.out⟩
                  | cons r0 tq =>
                      have hQ1 : Q = tq.length + 1 := by have := HQL.out; simpa using this.symm
                      have g0 : 0 < Q := by omega
                      have g1 : decide ((0 : Int) < (Q : Int)) = true := by simp; omega
                      have g2 : decide (0 < Q) = true := by simp; omega
                      have g3 : (0 : Int) < (Q : Int) := by omega
                      obtain ⟨qb, qo, Ar, cr, rfl, hqb, hqc, hqw, hq1, hq2⟩ := HQY.out 0 r0 rfl
                      rw [Nat.add_zero] at hqc
                      have hsl := fun W => slice_recs (some ⟨qb, qo, none⟩) Q cq 1 (by omega) W
                      have htl := HQY.out.tail (c := cq) (by omega)
                      obtain ⟨A2, hA2⟩ : ∃ y, (if cq = 1 then some (⟨qb, qo, none⟩ : Addr) else (some (⟨qb, qo, none⟩ : Addr)).map (·.add (1 * 1))) = y := ⟨_, rfl⟩
                      rw [hA2] at hsl htl
                      have hA2n : A2 ≠ none := by rw [← hA2]; split <;> simp
                      rw [show Q - 1 = tq.length by omega] at hsl
                      have hsl2 : ∀ W, (Instr.sliceAt 40 (.slice (some ⟨qb, qo, none⟩) Q cq) (some (.int .i64 1)) none none).run Try.prog W = .ok (.slice A2 tq.length (cq - 1)) W := hsl
                      have HTL := Lib.hid htl
                      have HA2N := Lib.hid hA2n
                      have HN := Lib.hid (show nextR n x (r0 :: tq) = (if true = true then some tq else none) by unfold nextR; simp [t0, te, tp])
                      have hcq1 : tq.length ≤ cq - 1 := by omega
                      have HQ1 := Lib.hid hQ1
                      clear hsl htl hA2 hA2n hQ1 tp te
                      cases bf with
                      | false =>
                        go_wp2_with fail
                        have hSd : (fun w' => Below wy.heap.size wy w' ∧ w'.cell? ⟨nb, 6, none⟩ = some (.int .i64 x.e) ∧ w'.cell? ⟨nb, 3, none⟩ = some (.slice Ax x.r.length cx) ∧ w'.cell? ⟨qb, qo, none⟩ = some (.slice Ar r0.length cr)) wy.drew := ⟨(Below.refl _ wy).drew, y6, y3, hqc⟩
                        refine wp_region_held_drew (S := (fun w' => Below wy.heap.size wy w' ∧ w'.cell? ⟨nb, 6, none⟩ = some (.int .i64 x.e) ∧ w'.cell? ⟨nb, 3, none⟩ = some (.slice Ax x.r.length cx) ∧ w'.cell? ⟨qb, qo, none⟩ = some (.slice Ar r0.length cr))) (by kernel_rfl) hSd (fun hHeld => ?_)
                        generalize wy.drew = wd at hHeld ⊢
                        have hHeld : (fun w' => Below wy.heap.size wy w' ∧ w'.cell? ⟨nb, 6, none⟩ = some (.int .i64 x.e) ∧ w'.cell? ⟨nb, 3, none⟩ = some (.slice Ax x.r.length cx) ∧ w'.cell? ⟨qb, qo, none⟩ = some (.slice Ar r0.length cr)) wd := hHeld
                        refine tkH 0 ?_
                        try first | simp only [pS, List.set] | simp only [pN]
                        refine tkH 1 ?_
                        try first | simp only [pS, List.set] | simp only [pN]
                        refine wpAnyH_take (i := 2) (oi := ?_) (v := undef) ?_ (by kernel_rfl) (by kernel_rfl) (by kernel_rfl) ?_ (Or.inr ⟨?_, rfl⟩) (by assumption) ?_
                        rotate_left 1
                        · (simp only [List.getElem?_toArray, List.getElem?_cons_succ, List.getElem?_cons_zero]; rfl)
                        · first | exact fun _ _ _ h => h | exact fun _ _ _ h => by cases h.1
                        · rfl
                        try first | simp only [pS, List.set] | simp only [pN]
                        refine wpAnyH_take (i := 3) (oi := ?_) (v := undef) ?_ (by kernel_rfl) (by kernel_rfl) (by kernel_rfl) ?_ (Or.inr ⟨?_, rfl⟩) (by assumption) ?_
                        rotate_left 1
                        · (simp only [List.getElem?_toArray, List.getElem?_cons_succ, List.getElem?_cons_zero]; rfl)
                        · first | exact fun _ _ _ h => h | exact fun _ _ _ h => by cases h.1
                        · rfl
                        try first | simp only [pS, List.set] | simp only [pN]
                        refine wpAnyH_take (i := 4) (oi := ?_) (v := undef) ?_ (by kernel_rfl) (by kernel_rfl) (by kernel_rfl) ?_ (Or.inr ⟨?_, rfl⟩) (by assumption) ?_
                        rotate_left 1
                        · (simp only [List.getElem?_toArray, List.getElem?_cons_succ, List.getElem?_cons_zero]; rfl)
                        · first | exact fun _ _ _ h => h | exact fun _ _ _ h => by cases h.1
                        · rfl
                        try first | simp only [pS, List.set] | simp only [pN]
                        refine wpAnyH_take (i := 5) (oi := ?_) (v := undef) ?_ (by kernel_rfl) (by kernel_rfl) (by kernel_rfl) ?_ (Or.inr ⟨?_, rfl⟩) (by assumption) ?_
                        rotate_left 1
                        · (simp only [List.getElem?_toArray, List.getElem?_cons_succ, List.getElem?_cons_zero]; rfl)
                        · first | exact fun _ _ _ h => h | exact fun _ _ _ h => by cases h.1
                        · rfl
                        try first | simp only [pS, List.set] | simp only [pN]
                        refine wpAnyH_take (i := 6) (oi := ?_) (v := undef) ?_ (by kernel_rfl) (by kernel_rfl) (by kernel_rfl) ?_ (Or.inr ⟨?_, rfl⟩) (by assumption) ?_
                        rotate_left 1
                        · (simp only [List.getElem?_toArray, List.getElem?_cons_succ, List.getElem?_cons_zero]; rfl)
                        · first | exact fun _ _ _ h => h | exact fun _ _ _ h => by cases h.1
                        · rfl
                        try first | simp only [pS, List.set] | simp only [pN]
                        refine wpAnyH_take (i := 7) (oi := ?_) (v := undef) ?_ (by kernel_rfl) (by kernel_rfl) (by kernel_rfl) ?_ (Or.inr ⟨?_, rfl⟩) (by assumption) ?_
                        rotate_left 1
                        · (simp only [List.getElem?_toArray, List.getElem?_cons_succ, List.getElem?_cons_zero]; rfl)
                        · first | exact fun _ _ _ h => h | exact fun _ _ _ h => by cases h.1
                        · rfl
                        try first | simp only [pS, List.set] | simp only [pN]
                        refine wpAnyH_take (i := 8) (oi := ?_) (v := undef) ?_ (by kernel_rfl) (by kernel_rfl) (by kernel_rfl) ?_ (Or.inr ⟨?_, rfl⟩) (by assumption) ?_
                        rotate_left 1
                        · (simp only [List.getElem?_toArray, List.getElem?_cons_succ, List.getElem?_cons_zero]; rfl)
                        · first | exact fun _ _ _ h => h | exact fun _ _ _ h => by cases h.1
                        · rfl
                        try first | simp only [pS, List.set] | simp only [pN]
                        refine wpAnyH_take (i := 9) (oi := ?_) (v := undef) ?_ (by kernel_rfl) (by kernel_rfl) (by kernel_rfl) ?_ (Or.inr ⟨?_, rfl⟩) (by assumption) ?_
                        rotate_left 1
                        · (simp only [List.getElem?_toArray, List.getElem?_cons_succ, List.getElem?_cons_zero]; rfl)
                        · first | exact fun _ _ _ h => h | exact fun _ _ _ h => by cases h.1
                        · rfl
                        try first | simp only [pS, List.set] | simp only [pN]
                        refine wpAnyH_take (i := 10) (oi := ?_) (v := undef) ?_ (by kernel_rfl) (by kernel_rfl) (by kernel_rfl) ?_ (Or.inr ⟨?_, rfl⟩) (by assumption) ?_
                        rotate_left 1
                        · (simp only [List.getElem?_toArray, List.getElem?_cons_succ, List.getElem?_cons_zero]; rfl)
                        · first | exact fun _ _ _ h => h | exact fun _ _ _ h => by cases h.1
                        · rfl
                        try first | simp only [pS, List.set] | simp only [pN]
                        refine wpAnyH_take (i := 11) (oi := ?_) (v := undef) ?_ (by kernel_rfl) (by kernel_rfl) (by kernel_rfl) ?_ (Or.inr ⟨?_, rfl⟩) (by assumption) ?_
                        rotate_left 1
                        · (simp only [List.getElem?_toArray, List.getElem?_cons_succ, List.getElem?_cons_zero]; rfl)
                        · first | exact fun _ _ _ h => h | exact fun _ _ _ h => by cases h.1
                        · rfl
                        try first | simp only [pS, List.set] | simp only [pN]
                        refine wpAnyH_take (i := 12) (oi := ?_) (v := undef) ?_ (by kernel_rfl) (by kernel_rfl) (by kernel_rfl) ?_ (Or.inr ⟨?_, rfl⟩) (by assumption) ?_
                        rotate_left 1
                        · (simp only [List.getElem?_toArray, List.getElem?_cons_succ, List.getElem?_cons_zero]; rfl)
                        · first | exact fun _ _ _ h => h | exact fun _ _ _ h => by cases h.1
                        · rfl
                        try first | simp only [pS, List.set] | simp only [pN]
                        refine tkH 13 ?_
                        try first | simp only [pS, List.set] | simp only [pN]
                        refine tkH 14 ?_
                        try first | simp only [pS, List.set] | simp only [pN]
                        refine wpAnyH_done (by kernel_rfl) ?_ _
                        have HBZ := Lib.hid (HBY.out.trans (hHeld.1.mono (Nat.le_of_lt hnby)))
                        have HTZ := Lib.hid (HTL.out.below hHeld.1 hHeld.1.size)
                        clear hHeld hSd
                        go_wp2_with fail
                        go_meet
                        exact ⟨NxtR.no (try_no HBF.out), HBZ.out⟩
                      | true =>
                        go_wp2_with fail
                        have hSd : (fun w' => Below wy.heap.size wy w' ∧ w'.cell? ⟨nb, 6, none⟩ = some (.int .i64 x.e) ∧ w'.cell? ⟨nb, 3, none⟩ = some (.slice Ax x.r.length cx) ∧ w'.cell? ⟨qb, qo, none⟩ = some (.slice Ar r0.length cr)) wy.drew := ⟨(Below.refl _ wy).drew, y6, y3, hqc⟩
                        refine wp_region_held_drew (S := (fun w' => Below wy.heap.size wy w' ∧ w'.cell? ⟨nb, 6, none⟩ = some (.int .i64 x.e) ∧ w'.cell? ⟨nb, 3, none⟩ = some (.slice Ax x.r.length cx) ∧ w'.cell? ⟨qb, qo, none⟩ = some (.slice Ar r0.length cr))) (by kernel_rfl) hSd (fun hHeld => ?_)
                        generalize wy.drew = wd at hHeld ⊢
                        have hHeld : (fun w' => Below wy.heap.size wy w' ∧ w'.cell? ⟨nb, 6, none⟩ = some (.int .i64 x.e) ∧ w'.cell? ⟨nb, 3, none⟩ = some (.slice Ax x.r.length cx) ∧ w'.cell? ⟨qb, qo, none⟩ = some (.slice Ar r0.length cr)) wd := hHeld
                        refine tkH 0 ?_
                        try first | simp only [pS, List.set] | simp only [pN]
                        refine tkH 1 ?_
                        try first | simp only [pS, List.set] | simp only [pN]
                        refine tkH 2 ?_
                        try first | simp only [pS, List.set] | simp only [pN]
                        refine tkH 3 ?_
                        try first | simp only [pS, List.set] | simp only [pN]
                        refine tkH 4 ?_
                        try first | simp only [pS, List.set] | simp only [pN]
                        refine tkH 5 ?_
                        try first | simp only [pS, List.set] | simp only [pN]
                        refine wpAnyH_take (i := 6) (oi := ?_) (v := undef) ?_ (by kernel_rfl) (by kernel_rfl) (by kernel_rfl) ?_ (Or.inr ⟨?_, rfl⟩) (by assumption) ?_
                        rotate_left 1
                        · (simp only [List.getElem?_toArray, List.getElem?_cons_succ, List.getElem?_cons_zero]; rfl)
                        · first | exact fun _ _ _ h => h | exact fun _ _ _ h => by cases h.1
                        · rfl
                        try first | simp only [pS, List.set] | simp only [pN]
                        refine wpAnyH_take (i := 7) (oi := ?_) (v := undef) ?_ (by kernel_rfl) (by kernel_rfl) (by kernel_rfl) ?_ (Or.inr ⟨?_, rfl⟩) (by assumption) ?_
                        rotate_left 1
                        · (simp only [List.getElem?_toArray, List.getElem?_cons_succ, List.getElem?_cons_zero]; rfl)
                        · first | exact fun _ _ _ h => h | exact fun _ _ _ h => by cases h.1
                        · rfl
                        try first | simp only [pS, List.set] | simp only [pN]
                        refine wpAnyH_take (i := 8) (oi := ?_) (v := undef) ?_ (by kernel_rfl) (by kernel_rfl) (by kernel_rfl) ?_ (Or.inr ⟨?_, rfl⟩) (by assumption) ?_
                        rotate_left 1
                        · (simp only [List.getElem?_toArray, List.getElem?_cons_succ, List.getElem?_cons_zero]; rfl)
                        · first | exact fun _ _ _ h => h | exact fun _ _ _ h => by cases h.1
                        · rfl
                        try first | simp only [pS, List.set] | simp only [pN]
                        refine wpAnyH_take (i := 9) (oi := ?_) (v := undef) ?_ (by kernel_rfl) (by kernel_rfl) (by kernel_rfl) ?_ (Or.inr ⟨?_, rfl⟩) (by assumption) ?_
                        rotate_left 1
                        · (simp only [List.getElem?_toArray, List.getElem?_cons_succ, List.getElem?_cons_zero]; rfl)
                        · first | exact fun _ _ _ h => h | exact fun _ _ _ h => by cases h.1
                        · rfl
                        try first | simp only [pS, List.set] | simp only [pN]
                        refine wpAnyH_take (i := 10) (oi := ?_) (v := undef) ?_ (by kernel_rfl) (by kernel_rfl) (by kernel_rfl) ?_ (Or.inr ⟨?_, rfl⟩) (by assumption) ?_
                        rotate_left 1
                        · (simp only [List.getElem?_toArray, List.getElem?_cons_succ, List.getElem?_cons_zero]; rfl)
                        · first | exact fun _ _ _ h => h | exact fun _ _ _ h => by cases h.1
                        · rfl
                        try first | simp only [pS, List.set] | simp only [pN]
                        refine wpAnyH_take (i := 11) (oi := ?_) (v := undef) ?_ (by kernel_rfl) (by kernel_rfl) (by kernel_rfl) ?_ (Or.inr ⟨?_, rfl⟩) (by assumption) ?_
                        rotate_left 1
                        · (simp only [List.getElem?_toArray, List.getElem?_cons_succ, List.getElem?_cons_zero]; rfl)
                        · first | exact fun _ _ _ h => h | exact fun _ _ _ h => by cases h.1
                        · rfl
                        try first | simp only [pS, List.set] | simp only [pN]
                        refine tkH 12 ?_
                        try first | simp only [pS, List.set] | simp only [pN]
                        refine tkH 13 ?_
                        try first | simp only [pS, List.set] | simp only [pN]
                        refine tkH 14 ?_
                        try first | simp only [pS, List.set] | simp only [pN]
                        refine wpAnyH_done (by kernel_rfl) ?_ _
                        have HBZ := Lib.hid (HBY.out.trans (hHeld.1.mono (Nat.le_of_lt hnby)))
                        have HTZ := Lib.hid (HTL.out.below hHeld.1 hHeld.1.size)
                        clear hHeld hSd
                        go_wp2_with fail
                        go_meet
                        exact ⟨nxt_of2 rfl HBF.out HN.out hcq1 (fun h => absurd h HA2N.out) HTZ.out, HBZ.out⟩
                · skip
                  have t0 : (x.q == 3) = false := by rw [hq]; rfl
                  have t1 : (x.c == 3) = false := by simpa using hcc
                  have tp : opn x = false := by simp [opn]; omega
                  have te : emp x = false := by simp [emp, tp, t1]
                  clear hq hcc
                  cases q with
                  | nil =>
                      have hQ0 : Q = 0 := by have := HQL.out; simpa using this.symm
                      have g0 : ¬ 0 < Q := by omega
                      have g1 : decide ((0 : Int) < (Q : Int)) = false := by simp; omega
                      have g2 : decide (0 < Q) = false := by simp; omega
                      have HN := Lib.hid (show nextR n x [] = none by unfold nextR; simp [t0, te, tp])
                      clear hQ0 tp te
                      cases bf with
                      | false =>
                        go_wp2_with fail
                        go_meet
                        exact ⟨NxtR.no (try_no HBF.out), HBY.out⟩
                      | true =>
                        go_wp2_with fail
                        go_meet
                        exact ⟨NxtR.no (by unfold tryR; rw [if_pos HBF.out, HN.out]), HBY.out⟩
                  | cons r0 tq =>
                      have hQ1 : Q = tq.length + 1 := by have := HQL.out; simpa using this.symm
                      have g0 : 0 < Q := by omega
                      have g1 : decide ((0 : Int) < (Q : Int)) = true := by simp; omega
                      have g2 : decide (0 < Q) = true := by simp; omega
                      have g3 : (0 : Int) < (Q : Int) := by omega
                      obtain ⟨qb, qo, Ar, cr, rfl, hqb, hqc, hqw, hq1, hq2⟩ := HQY.out 0 r0 rfl
                      rw [Nat.add_zero] at hqc
                      have hsl := fun W => slice_recs (some ⟨qb, qo, none⟩) Q cq 1 (by omega) W
                      have htl := HQY.out.tail (c := cq) (by omega)
                      obtain ⟨A2, hA2⟩ : ∃ y, (if cq = 1 then some (⟨qb, qo, none⟩ : Addr) else (some (⟨qb, qo, none⟩ : Addr)).map (·.add (1 * 1))) = y := ⟨_, rfl⟩
                      rw [hA2] at hsl htl
                      have hA2n : A2 ≠ none := by rw [← hA2]; split <;> simp
                      rw [show Q - 1 = tq.length by omega] at hsl
                      have hsl2 : ∀ W, (Instr.sliceAt 40 (.slice (some ⟨qb, qo, none⟩) Q cq) (some (.int .i64 1)) none none).run Try.prog W = .ok (.slice A2 tq.length (cq - 1)) W := hsl
                      have HTL := Lib.hid htl
                      have HA2N := Lib.hid hA2n
                      have HN := Lib.hid (show nextR n x (r0 :: tq) = (if (decide (x.r = r0)) = true then some tq else none) by unfold nextR; simp [t0, te, tp, show (r0 == x.r) = decide (x.r = r0) from (by rw [Bool.eq_iff_iff]; simp; exact eq_comm)])
                      have hcq1 : tq.length ≤ cq - 1 := by omega
                      have HQ1 := Lib.hid hQ1
                      clear hsl htl hA2 hA2n hQ1 tp te
                      have hen : decide (x.e < 0) = false := decide_eq_false (by omega)
                      have hsame := fun (W' : World) (hb : Below wy.heap.size wy W') => rsame_any Ax Ar cx cr x.r r0 W' (by unfold maxLen at hc2; omega) (by unfold maxLen at hq2; omega) (HWSY.out.1.below hb hb.size) (hqw.below hb hb.size)
                      obtain ⟨v, hv⟩ : ∃ v, decide (x.r = r0) = v := ⟨_, rfl⟩
                      rw [hv] at hsame
                      have HV := Lib.hid hv
                      have HSAME := Lib.hid hsame
                      clear hsame hv hqw
                      cases bf with
                      | false =>
                        go_wp2_with fail
                        have hSd : (fun w' => Below wy.heap.size wy w' ∧ w'.cell? ⟨nb, 6, none⟩ = some (.int .i64 x.e) ∧ w'.cell? ⟨nb, 3, none⟩ = some (.slice Ax x.r.length cx) ∧ w'.cell? ⟨qb, qo, none⟩ = some (.slice Ar r0.length cr)) wy.drew := ⟨(Below.refl _ wy).drew, y6, y3, hqc⟩
                        refine wp_region_held_drew (S := (fun w' => Below wy.heap.size wy w' ∧ w'.cell? ⟨nb, 6, none⟩ = some (.int .i64 x.e) ∧ w'.cell? ⟨nb, 3, none⟩ = some (.slice Ax x.r.length cx) ∧ w'.cell? ⟨qb, qo, none⟩ = some (.slice Ar r0.length cr))) (by kernel_rfl) hSd (fun hHeld => ?_)
                        generalize wy.drew = wd at hHeld ⊢
                        have hHeld : (fun w' => Below wy.heap.size wy w' ∧ w'.cell? ⟨nb, 6, none⟩ = some (.int .i64 x.e) ∧ w'.cell? ⟨nb, 3, none⟩ = some (.slice Ax x.r.length cx) ∧ w'.cell? ⟨qb, qo, none⟩ = some (.slice Ar r0.length cr)) wd := hHeld
                        refine tkH 0 ?_
                        try first | simp only [pS, List.set] | simp only [pN]
                        refine tkH 1 ?_
                        try first | simp only [pS, List.set] | simp only [pN]
                        refine wpAnyH_take (i := 2) (oi := ?_) (v := undef) ?_ (by kernel_rfl) (by kernel_rfl) (by kernel_rfl) ?_ (Or.inr ⟨?_, rfl⟩) (by assumption) ?_
                        rotate_left 1
                        · (simp only [List.getElem?_toArray, List.getElem?_cons_succ, List.getElem?_cons_zero]; rfl)
                        · first | exact fun _ _ _ h => h | exact fun _ _ _ h => by cases h.1
                        · rfl
                        try first | simp only [pS, List.set] | simp only [pN]
                        refine wpAnyH_take (i := 3) (oi := ?_) (v := undef) ?_ (by kernel_rfl) (by kernel_rfl) (by kernel_rfl) ?_ (Or.inr ⟨?_, rfl⟩) (by assumption) ?_
                        rotate_left 1
                        · (simp only [List.getElem?_toArray, List.getElem?_cons_succ, List.getElem?_cons_zero]; rfl)
                        · first | exact fun _ _ _ h => h | exact fun _ _ _ h => by cases h.1
                        · rfl
                        try first | simp only [pS, List.set] | simp only [pN]
                        refine wpAnyH_take (i := 4) (oi := ?_) (v := undef) ?_ (by kernel_rfl) (by kernel_rfl) (by kernel_rfl) ?_ (Or.inr ⟨?_, rfl⟩) (by assumption) ?_
                        rotate_left 1
                        · (simp only [List.getElem?_toArray, List.getElem?_cons_succ, List.getElem?_cons_zero]; rfl)
                        · first | exact fun _ _ _ h => h | exact fun _ _ _ h => by cases h.1
                        · rfl
                        try first | simp only [pS, List.set] | simp only [pN]
                        refine wpAnyH_take (i := 5) (oi := ?_) (v := undef) ?_ (by kernel_rfl) (by kernel_rfl) (by kernel_rfl) ?_ (Or.inr ⟨?_, rfl⟩) (by assumption) ?_
                        rotate_left 1
                        · (simp only [List.getElem?_toArray, List.getElem?_cons_succ, List.getElem?_cons_zero]; rfl)
                        · first | exact fun _ _ _ h => h | exact fun _ _ _ h => by cases h.1
                        · rfl
                        try first | simp only [pS, List.set] | simp only [pN]
                        refine wpAnyH_take (i := 6) (oi := ?_) (v := undef) ?_ (by kernel_rfl) (by kernel_rfl) (by kernel_rfl) ?_ (Or.inr ⟨?_, rfl⟩) (by assumption) ?_
                        rotate_left 1
                        · (simp only [List.getElem?_toArray, List.getElem?_cons_succ, List.getElem?_cons_zero]; rfl)
                        · first | exact fun _ _ _ h => h | exact fun _ _ _ h => by cases h.1
                        · rfl
                        try first | simp only [pS, List.set] | simp only [pN]
                        refine wpAnyH_take (i := 7) (oi := ?_) (v := undef) ?_ (by kernel_rfl) (by kernel_rfl) (by kernel_rfl) ?_ (Or.inr ⟨?_, rfl⟩) (by assumption) ?_
                        rotate_left 1
                        · (simp only [List.getElem?_toArray, List.getElem?_cons_succ, List.getElem?_cons_zero]; rfl)
                        · first | exact fun _ _ _ h => h | exact fun _ _ _ h => by cases h.1
                        · rfl
                        try first | simp only [pS, List.set] | simp only [pN]
                        refine wpAnyH_take (i := 8) (oi := ?_) (v := undef) ?_ (by kernel_rfl) (by kernel_rfl) (by kernel_rfl) ?_ (Or.inr ⟨?_, rfl⟩) (by assumption) ?_
                        rotate_left 1
                        · (simp only [List.getElem?_toArray, List.getElem?_cons_succ, List.getElem?_cons_zero]; rfl)
                        · first | exact fun _ _ _ h => h | exact fun _ _ _ h => by cases h.1
                        · rfl
                        try first | simp only [pS, List.set] | simp only [pN]
                        refine wpAnyH_take (i := 9) (oi := ?_) (v := undef) ?_ (by kernel_rfl) (by kernel_rfl) (by kernel_rfl) ?_ (Or.inr ⟨?_, rfl⟩) (by assumption) ?_
                        rotate_left 1
                        · (simp only [List.getElem?_toArray, List.getElem?_cons_succ, List.getElem?_cons_zero]; rfl)
                        · first | exact fun _ _ _ h => h | exact fun _ _ _ h => by cases h.1
                        · rfl
                        try first | simp only [pS, List.set] | simp only [pN]
                        refine wpAnyH_take (i := 10) (oi := ?_) (v := undef) ?_ (by kernel_rfl) (by kernel_rfl) (by kernel_rfl) ?_ (Or.inr ⟨?_, rfl⟩) (by assumption) ?_
                        rotate_left 1
                        · (simp only [List.getElem?_toArray, List.getElem?_cons_succ, List.getElem?_cons_zero]; rfl)
                        · first | exact fun _ _ _ h => h | exact fun _ _ _ h => by cases h.1
                        · rfl
                        try first | simp only [pS, List.set] | simp only [pN]
                        refine wpAnyH_take (i := 11) (oi := ?_) (v := undef) ?_ (by kernel_rfl) (by kernel_rfl) (by kernel_rfl) ?_ (Or.inr ⟨?_, rfl⟩) (by assumption) ?_
                        rotate_left 1
                        · (simp only [List.getElem?_toArray, List.getElem?_cons_succ, List.getElem?_cons_zero]; rfl)
                        · first | exact fun _ _ _ h => h | exact fun _ _ _ h => by cases h.1
                        · rfl
                        try first | simp only [pS, List.set] | simp only [pN]
                        refine wpAnyH_take (i := 12) (oi := ?_) (v := undef) ?_ (by kernel_rfl) (by kernel_rfl) (by kernel_rfl) ?_ (Or.inr ⟨?_, rfl⟩) (by assumption) ?_
                        rotate_left 1
                        · (simp only [List.getElem?_toArray, List.getElem?_cons_succ, List.getElem?_cons_zero]; rfl)
                        · first | exact fun _ _ _ h => h | exact fun _ _ _ h => by cases h.1
                        · rfl
                        try first | simp only [pS, List.set] | simp only [pN]
                        refine tkH 13 ?_
                        try first | simp only [pS, List.set] | simp only [pN]
                        refine tkH 14 ?_
                        try first | simp only [pS, List.set] | simp only [pN]
                        refine wpAnyH_done (by kernel_rfl) ?_ _
                        have HBZ := Lib.hid (HBY.out.trans (hHeld.1.mono (Nat.le_of_lt hnby)))
                        have HTZ := Lib.hid (HTL.out.below hHeld.1 hHeld.1.size)
                        clear hHeld hSd
                        go_wp2_with fail
                        go_meet
                        exact ⟨NxtR.no (try_no HBF.out), HBZ.out⟩
                      | true =>
                        go_wp2_with fail
                        have hSd : (fun w' => Below wy.heap.size wy w' ∧ w'.cell? ⟨nb, 6, none⟩ = some (.int .i64 x.e) ∧ w'.cell? ⟨nb, 3, none⟩ = some (.slice Ax x.r.length cx) ∧ w'.cell? ⟨qb, qo, none⟩ = some (.slice Ar r0.length cr)) wy.drew := ⟨(Below.refl _ wy).drew, y6, y3, hqc⟩
                        refine wp_region_held_drew (S := (fun w' => Below wy.heap.size wy w' ∧ w'.cell? ⟨nb, 6, none⟩ = some (.int .i64 x.e) ∧ w'.cell? ⟨nb, 3, none⟩ = some (.slice Ax x.r.length cx) ∧ w'.cell? ⟨qb, qo, none⟩ = some (.slice Ar r0.length cr))) (by kernel_rfl) hSd (fun hHeld => ?_)
                        generalize wy.drew = wd at hHeld ⊢
                        have hHeld : (fun w' => Below wy.heap.size wy w' ∧ w'.cell? ⟨nb, 6, none⟩ = some (.int .i64 x.e) ∧ w'.cell? ⟨nb, 3, none⟩ = some (.slice Ax x.r.length cx) ∧ w'.cell? ⟨qb, qo, none⟩ = some (.slice Ar r0.length cr)) wd := hHeld
                        refine tkH 0 ?_
                        try first | simp only [pS, List.set] | simp only [pN]
                        refine tkH 1 ?_
                        try first | simp only [pS, List.set] | simp only [pN]
                        refine tkH 2 ?_
                        try first | simp only [pS, List.set] | simp only [pN]
                        refine tkH 3 ?_
                        try first | simp only [pS, List.set] | simp only [pN]
                        refine tkH 4 ?_
                        try first | simp only [pS, List.set] | simp only [pN]
                        refine tkH 5 ?_
                        try first | simp only [pS, List.set] | simp only [pN]
                        refine tkH 6 ?_
                        try first | simp only [pS, List.set] | simp only [pN]
                        refine tkH 7 ?_
                        try first | simp only [pS, List.set] | simp only [pN]
                        refine tkH 8 ?_
                        try first | simp only [pS, List.set] | simp only [pN]
                        refine tkH 9 ?_
                        try first | simp only [pS, List.set] | simp only [pN]
                        refine tkH 10 ?_
                        try first | simp only [pS, List.set] | simp only [pN]
                        refine wpAnyH_ready (rs := [11]) (by kernel_rfl) (by simp) ?_
                        refine AllReadyH.cons (o := ?_) ?_ (fun K hK => ?_) AllReadyH.nil
                        rotate_left
                        · (simp only [List.getElem?_toArray, List.getElem?_cons_succ, List.getElem?_cons_zero]; rfl)
                        go_simp
                        go_at_call 27
                        refine (HSAME.out _ hHeld.1).mono ?_
                        rintro e wx ⟨rfl, hbx⟩
                        have hSx : (fun w' => Below wy.heap.size wy w' ∧ w'.cell? ⟨nb, 6, none⟩ = some (.int .i64 x.e) ∧ w'.cell? ⟨nb, 3, none⟩ = some (.slice Ax x.r.length cx) ∧ w'.cell? ⟨qb, qo, none⟩ = some (.slice Ar r0.length cr)) wx := ⟨hHeld.1.trans (hbx.mono hHeld.1.size), cell_below hHeld.2.1 hbx, cell_below hHeld.2.2.1 hbx, cell_below hHeld.2.2.2 hbx⟩
                        refine hK.out _ _ hSx (fun hHeld => ?_)
                        clear hK K
                        try first | simp only [pS, List.set] | simp only [pN]
                        refine tkH 12 ?_
                        try first | simp only [pS, List.set] | simp only [pN]
                        refine tkH 13 ?_
                        try first | simp only [pS, List.set] | simp only [pN]
                        refine tkH 14 ?_
                        try first | simp only [pS, List.set] | simp only [pN]
                        refine wpAnyH_done (by kernel_rfl) ?_ _
                        have HBZ := Lib.hid (HBY.out.trans (hHeld.1.mono (Nat.le_of_lt hnby)))
                        have HTZ := Lib.hid (HTL.out.below hHeld.1 hHeld.1.size)
                        clear hHeld hSd hSx
                        go_wp2_with fail
                        go_meet
                        exact ⟨nxt_of2 rfl HBF.out (by rw [HN.out, HV.out]) hcq1 (fun h => absurd h HA2N.out) HTZ.out, HBZ.out⟩
              case rest =>
                obtain ⟨hnx, hbz⟩ := hcut
                obtain ⟨wz, rfl⟩ : ∃ y, y = wc := ⟨_, rfl⟩
                clear y0 y1 y2 y3 y4 y5 y6
                have hBz := HB.out.trans (hbz.mono hWn)
                have HBZW := Lib.hid hBz
                have hOz := HOWN.out.below hbz (by rw [HNB.out]; exact Nat.le_refl _)
                have HOZ := Lib.hid hOz
                clear hbz hOz hBz
                rcases hnx with ⟨ho, rfl⟩ | ⟨q', A', c', ho, rfl, rfl, hc', hA', hs'⟩
                · have HG := Lib.hid (show gO n rest q (f' + 1) k = [] by rw [HGO.out, ho])
                  clear ho
                  go_wp2_with fail
                  go_roundw
                  case rel => exact ⟨k + 1, by omega, by go_num, by rw [flat_succ, HG.out, List.append_nil]; exact HOZ.out, rfl, HBZW.out⟩
                  case measure => simp [intOf]; omega
                · have HG := Lib.hid (show gO n rest q (f' + 1) k = ordersR n f' (rest.eraseIdx k) q' by rw [HGO.out, ho])
                  have hq'l : q'.length ≤ Q + 1 := by rw [← HQL.out]; exact try_len ho
                  obtain ⟨L, hLm, hLe⟩ := (HR.out.below HBZW.out HBZW.out.size).els
                  have hll : L.length = rest.length := by rw [← hLm, List.length_map]
                  have hel : (L.eraseIdx k).map (·.x) = rest.eraseIdx k := by rw [← hLm, map_erase]
                  have hell : (rest.eraseIdx k).length = rest.length - 1 := by rw [List.length_eraseIdx, if_pos hlt]
                  have hsl1 := fun W => slice_head ⟨rb, ro, none⟩ rest.length c k (by omega) (by omega) W
                  have hsl2 := fun W => slice_calls (some ⟨rb, ro, none⟩) rest.length c (k + 1) (by omega) W
                  obtain ⟨A2, hA2⟩ : ∃ y, (if c = k + 1 then some (⟨rb, ro, none⟩ : Addr) else (some (⟨rb, ro, none⟩ : Addr)).map (·.add ((k + 1) * 7))) = y := ⟨_, rfl⟩
                  rw [hA2] at hsl2
                  have hsl3 : ∀ W, (Instr.sliceAt 22 (.slice (some ⟨rb, ro, none⟩) rest.length c) (some (.int .i64 ((k : Int) + 1))) none none).run Try.prog W = .ok (.slice A2 (rest.length - (k + 1)) (c - (k + 1))) W := hsl2
                  have hwk : IntKind.i64.wrap ((k : Int) + 1) = (k : Int) + 1 := IntWalk.i64_in _ (by omega)
                  have hntl := fun (W : World) (N : Nat) (h : ElSl W N (some ⟨rb, ro, none⟩) L) => newsAt_tail h (k + 1) c (by omega) (by omega)
                  rw [hA2, hll] at hntl
                  have HNT := Lib.hid hntl
                  have HLE := Lib.hid hLe
                  have HLM := Lib.hid hLm
                  have HEL := Lib.hid hel
                  have HLL := Lib.hid hll
                  have HELL := Lib.hid hell
                  have HS' := Lib.hid hs'
                  have HA' := Lib.hid hA'
                  have hfl := HCNT.out k hk
                  have HFL := Lib.hid hfl
                  have hk7 : k ≤ 7 := by omega
                  have hr7 : rest.length ≤ 7 := by omega
                  clear ho hLm hLe hel hll hell hs' hA' hA2 hsl2 hntl hfl
                  go_wp2_with fail
                  have hSd : (fun w' => Below W.heap.size W w') wz.drew := HBZW.out.drew
                  refine wp_region_held_drew (S := (fun w' => Below W.heap.size W w')) (by kernel_rfl) hSd (fun hHeld => ?_)
                  have HLE2 : Hid (ElSl wz.drew wz.drew.heap.size (some ⟨rb, ro, none⟩) L) := Lib.hid (fun i e h => (HLE.out i e h).below (Below.refl _ wz).drew (Nat.le_refl _))
                  have HS2 : Hid (ItSl wz.drew wz.drew.heap.size A' q') := Lib.hid (HS'.out.below (Below.refl _ wz).drew (Nat.le_refl _))
                  have HO2 : Hid (Own (ints .i64) 3 W.heap.size wz.drew u7 ((List.range k).flatMap (gO n rest q (f' + 1)))) := HOZ
                  clear HLE HS' HOZ hSd
                  generalize wz.drew = wd at hHeld HLE2 HS2 HO2 ⊢
                  have hHeld : (fun w' => Below W.heap.size W w') wd := hHeld
                  obtain ⟨s0, hs0⟩ : ∃ y, wd.heap.size = y := ⟨_, rfl⟩
                  have HS0 := Lib.hid hs0
                  have hWs : W.heap.size ≤ s0 := by rw [← hs0]; exact hHeld.size
                  clear hs0
                  refine tkH 0 ?_
                  try first | simp only [pS, List.set] | simp only [pN]
                  refine tkH 1 ?_
                  try first | simp only [pS, List.set] | simp only [pN]
                  refine tkH 3 ?_
                  try first | simp only [pS, List.set] | simp only [pN]
                  refine tkH 4 ?_
                  try first | simp only [pS, List.set] | simp only [pN]
                  refine tkH 5 ?_
                  try first | simp only [pS, List.set] | simp only [pN]
                  refine tkH 7 ?_
                  try first | simp only [pS, List.set] | simp only [pN]
                  refine tkH 8 ?_
                  try first | simp only [pS, List.set] | simp only [pN]
                  refine tkH 9 ?_
                  try first | simp only [pS, List.set] | simp only [pN]
                  refine tkH 10 ?_
                  try first | simp only [pS, List.set] | simp only [pN]
                  refine tkH 12 ?_
                  try first | simp only [pS, List.set] | simp only [pN]
                  refine wpAnyH_ready (rs := [2]) (by kernel_rfl) (by simp) ?_
                  refine AllReadyH.cons (o := ?_) ?_ (fun K hK => ?_) AllReadyH.nil
                  rotate_left
                  · (simp only [List.getElem?_toArray, List.getElem?_cons_succ, List.getElem?_cons_zero]; rfl)
                  go_simp
                  have hba := (Below.refl wd.heap.size wd).alloc (Nat.le_refl _) (.cells #[] 32)
                  have hrow := World.ownsRow_lit (base := s0) (e := 32) (size := 7) wd #[] 0 (by rw [HS0.out]; exact Nat.le_refl _) (by simp [maxLen]) rfl
                  have hSx : (fun w' => Below W.heap.size W w') (wd.alloc (.cells #[] 32)) := hHeld.trans (hba.mono (by rw [HS0.out]; exact hWs))
                  obtain ⟨w0, hw0⟩ : ∃ y, wd.alloc (.cells #[] 32) = y := ⟨_, rfl⟩
                  rw [hw0] at hba hrow hSx ⊢
                  rw [HS0.out] at hba
                  have hs1 : s0 ≤ w0.heap.size := by have h := hba.size; rw [HS0.out] at h; exact h
                  have HROW := Lib.hid hrow
                  have HKQ := Lib.hid hba
                  clear hba hrow hw0
                  refine hK.out _ _ hSx (fun hHeld => ?_)
                  clear hK K
                  try first | simp only [pS, List.set] | simp only [pN]
                  refine wpAnyH_ready (rs := [6]) (by kernel_rfl) (by simp) ?_
                  refine AllReadyH.cons (o := ?_) ?_ (fun K hK => ?_) AllReadyH.nil
                  rotate_left
                  · (simp only [List.getElem?_toArray, List.getElem?_cons_succ, List.getElem?_cons_zero]; rfl)
                  refine step_append_any (by rfl) (.tmp 127) (.tmp 130) 22 (by rfl) clTy s0 _ 0 _ (by rfl) HROW.out k _ _ (by rfl) (newsAt_els (L := L) (N := w0.heap.size) (fun i e h => (HLE2.out i e h).below (by rw [HS0.out]; exact HKQ.out) (by rw [HS0.out]; exact hs1)) k c (by rw [HLL.out]; omega)) (by unfold maxLen; omega) (by omega) hs1 ?_
                  intro v1 w1 hown2 hgr2 _ hob2
                  have hb2 : Below s0 w0 w1 := grown_below HROW.out hgr2 (Nat.le_refl _) hs1
                  have hs2 : s0 ≤ w1.heap.size := Nat.le_trans hs1 hb2.size
                  have hSx : (fun w' => Below W.heap.size W w') w1 := hHeld.trans (hb2.mono hWs)
                  have HROW := Lib.hid hown2
                  have hkq := HKQ.out.trans hb2
                  have HKQ := Lib.hid hkq
                  clear hown2 hgr2 hob2 hb2 hkq
                  refine hK.out _ _ hSx (fun hHeld => ?_)
                  clear hK K
                  try first | simp only [pS, List.set] | simp only [pN]
                  refine wpAnyH_ready (rs := [11]) (by kernel_rfl) (by simp) ?_
                  refine AllReadyH.cons (o := ?_) ?_ (fun K hK => ?_) AllReadyH.nil
                  rotate_left
                  · (simp only [List.getElem?_toArray, List.getElem?_cons_succ, List.getElem?_cons_zero]; rfl)
                  refine step_append_any (by rfl) (.tmp 131) (.tmp 135) 22 (by rfl) clTy s0 _ _ _ (by rfl) HROW.out (rest.length - (k + 1)) _ _ (by rfl) (HNT.out w1 w1.heap.size (fun i e h => (HLE2.out i e h).below (by rw [HS0.out]; exact HKQ.out) (by rw [HS0.out]; exact hs2))) (by unfold maxLen; omega) (by omega) hs2 ?_
                  intro v2 w2 hown2 hgr2 _ hob2
                  have hb2 : Below s0 w1 w2 := grown_below HROW.out hgr2 (Nat.le_refl _) hs2
                  have hs3 : s0 ≤ w2.heap.size := Nat.le_trans hs2 hb2.size
                  have hSx : (fun w' => Below W.heap.size W w') w2 := hHeld.trans (hb2.mono hWs)
                  have hkq := HKQ.out.trans hb2
                  have HKQ := Lib.hid hkq
                  obtain ⟨A3, c3, rfl, hc3, hcl3⟩ := erased_sl hown2 HLM.out (fun i e h => (HLE2.out i e h)) HS0.out hkq hs3 hlt
                  have HCL3 := Lib.hid hcl3
                  clear hown2 hgr2 hob2 hb2 hkq hcl3
                  refine hK.out _ _ hSx (fun hHeld => ?_)
                  clear hK K
                  try first | simp only [pS, List.set] | simp only [pN]
                  refine wpAnyH_ready (rs := [13]) (by kernel_rfl) (by simp) ?_
                  refine AllReadyH.cons (o := ?_) ?_ (fun K hK => ?_) AllReadyH.nil
                  rotate_left
                  · (simp only [List.getElem?_toArray, List.getElem?_cons_succ, List.getElem?_cons_zero]; rfl)
                  go_simp
                  go_at_call 17
                  refine (HIH.out f' (by omega) (rest.eraseIdx k) q' A3 c3 A' c' w2 (by rw [HELL.out]; omega) (by omega) hc3 HA'.out hc' (by rw [HELL.out]; omega) (fun y hy => H34.out y ((List.eraseIdx_sublist rest k).subset hy)) HCL3.out (HS2.out.below (by rw [HS0.out]; exact HKQ.out) (by rw [HS0.out]; exact hs3))).mono ?_
                  rintro e w3 ⟨v4, rfl, hO4, hb4⟩
                  have hSx : (fun w' => Below W.heap.size W w') w3 := hHeld.trans (hb4.mono (Nat.le_trans hWs hs3))
                  have hOw := HO2.out.below (B := s0) (HKQ.out.trans (hb4.mono hs3)) (by rw [HS0.out]; exact Nat.le_refl _)
                  have hl4 : (ordersR n f' (rest.eraseIdx k) q').length ≤ 13700 := Nat.le_trans (Nat.le_trans (len_orders f' _ _ (by rw [HELL.out]; omega)) (cnt_mono (by omega : f' ≤ 7))) cnt_7
                  have HO4 := Lib.hid hO4
                  have HOW := Lib.hid hOw
                  have hs4 : W.heap.size ≤ w3.heap.size := hSx.size
                  clear hO4 hOw hb4
                  refine hK.out _ _ hSx (fun hHeld => ?_)
                  clear hK K
                  try first | simp only [pS, List.set] | simp only [pN]
                  refine wpAnyH_ready (rs := [14]) (by kernel_rfl) (by simp) ?_
                  refine AllReadyH.cons (o := ?_) ?_ (fun K hK => ?_) AllReadyH.nil
                  rotate_left
                  · (simp only [List.getElem?_toArray, List.getElem?_cons_succ, List.getElem?_cons_zero]; rfl)
                  refine step_append_any (by rfl) (.tmp 125) (.tmp 138) 26 (by rfl) intTy W.heap.size _ _ _ (by rfl) HOW.out _ _ _ (by rfl) (newsAt_own HO4.out) (by have := HFL.out; unfold maxLen; omega) (by have := HFL.out; omega) hs4 ?_
                  intro v5 w4 hown2 hgr2 _ hob2
                  have hb2 : Below W.heap.size w3 w4 := grown_below HOW.out hgr2 (Nat.le_refl _) hs4
                  have hSx : (fun w' => Below W.heap.size W w') w4 := hHeld.trans hb2
                  have HFIN := Lib.hid (Own.appN hown2)
                  clear hown2 hgr2 hob2 hb2
                  refine hK.out _ _ hSx (fun hHeld => ?_)
                  clear hK K
                  try first | simp only [pS, List.set] | simp only [pN]
                  refine tkH 15 ?_
                  try first | simp only [pS, List.set] | simp only [pN]
                  refine wpAnyH_done (by kernel_rfl) ?_ _
                  have HBF2 := Lib.hid hHeld
                  clear hHeld
                  go_wp2_with fail
                  go_roundw
                  case rel => exact ⟨k + 1, by omega, by go_num, by rw [flat_succ, HG.out]; exact HFIN.out, rfl, HBF2.out⟩
                  case measure => simp [intOf]; omega
      · obtain rfl : k = rest.length := by omega
        have HOE := Lib.hid hown
        have HBE := Lib.hid hb
        have hfl := HCNT.out rest.length (Nat.le_refl _)
        have hbase := hb.size
        rw [List.take_length]
        have hao := all_opn_cnt (l := rest)
        obtain ⟨ao, hao2⟩ : ∃ y, allOpn rest = y := ⟨_, rfl⟩
        rw [hao2] at hao
        have HEND := Lib.hid (show endR rest q = if ao = true then [(Q : Int)] else [] by unfold endR; rw [hao2, HQL.out])
        obtain ⟨oc, hoc⟩ : ∃ y, rest.countP opn = y := ⟨_, rfl⟩
        rw [hoc] at hao ⊢
        obtain ⟨fl, hfle⟩ : ∃ y, (List.range rest.length).flatMap (gO n rest q f) = y := ⟨_, rfl⟩
        rw [hfle] at HOE hfl
        have HFE := Lib.hid hfle
        clear hown hb hao2 hoc hfle
        cases ao with
        | false =>
          go_wp2_with fail
          go_ret
          exact ⟨_, rfl, by rw [HFE.out, HEND.out]; simpa using HOE.out, HBE.out⟩
        | true =>
          go_wp2_with (first
            | (at_builtin; refine wpList_app1h rfl _ _ 26 rfl intTy W.heap.size HOE.out rfl rfl rfl rfl (by unfold maxLen; omega) (by omega) hbase ?_; intro v' W4 hown4 hbel4 hgr4 hob4)
            | fail)
          go_ret
          exact ⟨_, rfl, by rw [HFE.out, HEND.out]; exact Own.app hown4 rfl, HBE.out.trans hbel4⟩

      end Go.Proofs.Ytgmmblknaeepbaa
