/- A queue's finder: all that it finds (finder.from). -/
import Derived.Test.YtgmmblknaeepbaaZlE
import Derived.Deep.DeepCutAuto
namespace Go.Proofs.Ytgmmblknaeepbaa
open Go.RowKit Go.Maps
attribute [local go_sem] Oper.semAt_some

theorem fput_any {w0 : World} {lo mid fb bm cP cT cI : Nat} {n : Int} {P T : List Cl} {AP AT AI : Option Addr} (hx : FixF w0 lo mid fb bm n P T AP cP AT cT AI cI) {M : Nat} {st : List Sp × List Int} {s : Sp} {W : World} (hs : Inv n P T s) (h : FS w0 lo mid fb bm n P T AP cP AT cT AI cI M st W) :
    Calls Try.prog 34 #[.pointer (some ⟨fb, 0, none⟩), spV s] W (PutR (stepP n P T s) W) := by
  obtain ⟨vE, hF, _⟩ := h.own
  obtain ⟨hP, hT, hcP, hcT⟩ := hx.lens
  have hlP := h.clP hx
  have hlT := h.clT hx
  by_cases h0 : s.a = P.length
  · exact fput_0 hs hP hT hcP hcT W hF hlP hlT h0
  · have ha := hs.a
    obtain ⟨c, hc⟩ := get_some (show s.a < P.length by omega)
    cases hm : mayB c (T.drop s.b) with
    | false => exact fput_1 hs hP hT hcP hcT W hF hlP hlT hc hm
    | true =>
      by_cases he : c.e < 0
      · exact fput_3 hs hP hT hcP hcT W hF hlP hlT hc hm he
      · cases h2 : (c.c == 2) with
        | true => exact fput_2 hs hP hT hcP hcT W hF hlP hlT hc hm (by omega) h2
        | false => exact fput_4 hs hP hT hcP hcT W hF hlP hlT hc hm (by omega) h2
theorem ftake_any {w0 : World} {lo mid fb bm cP cT cI : Nat} {n : Int} {P T : List Cl} {AP AT AI : Option Addr} (hx : FixF w0 lo mid fb bm n P T AP cP AT cT AI cI) {M : Nat} {st : List Sp × List Int} {s : Sp} {W : World} (hs : Inv n P T s) (h : FS w0 lo mid fb bm n P T AP cP AT cT AI cI M st W) :
    Calls Try.prog 35 #[.pointer (some ⟨fb, 0, none⟩), spV s] W (PutR (stepT P T s) W) := by
  obtain ⟨vE, hF, _⟩ := h.own
  obtain ⟨hP, hT, hcP, hcT⟩ := hx.lens
  have hlP := h.clP hx
  have hlT := h.clT hx
  have hlI := h.items hx
  by_cases h0 : s.b = T.length
  · exact ftake_0 hs hP hT hcP hcT W hF hlP hlT h0
  · have ha := hs.b
    obtain ⟨c, hc⟩ := get_some (show s.b < T.length by omega)
    cases hm : mayB c (P.drop s.a) with
    | false => exact ftake_1 hs hP hT hcP hcT W hF hlP hlT hc hm
    | true =>
      by_cases hk : s.i = s.o
      · by_cases he : c.e < 0
        · exact ftake_3 hs hP hT hcP hcT W hF hlP hlT hc hm he hk
        · cases h2 : (c.c == 3) with
          | true => exact ftake_2 hs hP hT hcP hcT W hF hlP hlT hc hm (by omega) h2
          | false => exact ftake_4 hs hP hT hcP hcT W hF hlP hlT hc hm (by omega) h2 hk
      · by_cases he : c.e < 0
        · exact ftake_5 hs hP hT hcP hcT W hF hlP hlT hc hm he hk
        · cases h2 : (c.c == 3) with
          | true => exact ftake_2 hs hP hT hcP hcT W hF hlP hlT hc hm (by omega) h2
          | false =>
            have hio := hs.oi
            have hil := putI_len hx.puts s.a
            rw [← hs.i] at hil
            obtain ⟨r0, hr0⟩ := get_some (show s.o < (putI P).length by omega)
            obtain ⟨ib, io, Ai, ci, hAI, _, hI, hri, hri1, hri2⟩ := hlI s.o r0 hr0
            exact ftake_6 hs hP hT hcP hcT W hF hlP hlT hc hm (by omega) h2 hk hAI hI hri hri1 hri2 hr0 (by omega)

/-- Spots' cells stay as they are. -/
def KeepS (W W' : World) : Prop := ∀ (b : Nat) (arr : Array Value), W.heap[b]? = some (.cells arr 48 (0, 0)) → W'.heap[b]? = some (.cells arr 48 (0, 0))
theorem KeepS.refl (W : World) : KeepS W W := fun _ _ h => h
theorem KeepS.trans {W W' W'' : World} (h : KeepS W W') (h' : KeepS W' W'') : KeepS W W'' := fun b arr hb => h' b arr (h b arr hb)
theorem KeepS.of {W W' : World} (hb : Below W.heap.size W W') : KeepS W W' := fun _ _ h => row_kept h hb
theorem KeepS.map {W W' : World} {bm : Nat} (hg : W.grownBy W' (some bm)) (hm : ∃ es clock, W.heap[bm]? = some (.map es clock)) : KeepS W W' := fun b arr h => by
  obtain ⟨es, clock, hm⟩ := hm
  refine (hg.block b (row_lt h) (fun e => ?_)).trans h
  injection e with e
  subst e
  rw [h] at hm
  cases hm
theorem KeepS.store {W : World} {fb : Nat} {arr : Array Value} (hf : W.heap[fb]? = some (.cells arr 42 (0, 0))) (j : Nat) (v : Value) : KeepS W (W.setCell ⟨fb, j, none⟩ v) := fun b a h => by
  refine row_other h fb j v (fun e => ?_)
  subst e
  rw [hf] at h
  injection h with h
  injection h with _ h
  exact absurd h (by decide)

theorem own_ne_row {base : Nat} {W : World} {v : Value} {n : Nat} {xs : List Value} (h : W.ownsRow base 3 1 v n xs) {sb : Nat} {arr : Array Value} (hs : W.heap[sb]? = some (.cells arr 48 (0, 0))) : some sb ≠ v.ownBlock := fun e => by
  rcases h.2 with ⟨q, _⟩ | ⟨g, cap, cur, hv, hgb, hh, r⟩
  · rw [q] at e; cases e
  · rw [hv] at e
    have e2 : sb = g := by simpa [Value.ownBlock] using e
    subst e2
    rw [hs] at hh
    injection hh with hh
    injection hh with _ hh
    exact absurd hh (by decide)
theorem KeepS.ofApp {W Wa W' : World} {ab : Nat} {v : Value} (hba : Below ab W Wa) (hab : W.heap.size = ab) (hk : ∀ k, k < Wa.heap.size → some k ≠ v.ownBlock → W'.heap[k]? = Wa.heap[k]?) (hne : ∀ {sb : Nat} {arr : Array Value}, Wa.heap[sb]? = some (.cells arr 48 (0, 0)) → some sb ≠ v.ownBlock) : KeepS W W' := fun b arr h => by
  have h1 : Wa.heap[b]? = some (.cells arr 48 (0, 0)) := (hba.block b (by rw [← hab]; exact row_lt h)).trans h
  exact (hk b (row_lt h1) (hne h1)).trans h1
theorem f5_below {w w' : World} {b : Nat} {v0 v1 v2 v3 v4 : Value} (h : w.cell? ⟨b, 0, none⟩ = some (v0) ∧ w.cell? ⟨b, 1, none⟩ = some (v1) ∧ w.cell? ⟨b, 2, none⟩ = some (v2) ∧ w.cell? ⟨b, 3, none⟩ = some (v3) ∧ w.cell? ⟨b, 4, none⟩ = some (v4)) (hb : Below w.heap.size w w') : w'.cell? ⟨b, 0, none⟩ = some (v0) ∧ w'.cell? ⟨b, 1, none⟩ = some (v1) ∧ w'.cell? ⟨b, 2, none⟩ = some (v2) ∧ w'.cell? ⟨b, 3, none⟩ = some (v3) ∧ w'.cell? ⟨b, 4, none⟩ = some (v4) :=
  ⟨cell_below h.1 hb, cell_below h.2.1 hb, cell_below h.2.2.1 hb, cell_below h.2.2.2.1 hb, cell_below h.2.2.2.2 hb⟩
theorem step_app2 {P : Program} {w : World} {ops : Array Oper} {o : Oper} {a : Act} {K : Act → World → Prop} {Q : Exit → Act → World → Prop} {E : Prop} (hgd : o.guard = none) (s x : Operand) (t : TypeId)
    (ho : o.op = .call { callee := .builtin .append, args := #[s, x], argTypes := #[t, t] }) {e : TypeId} {size bytes : Nat} (hT : ElemTy P t e size bytes) (base : Nat)
    {v : Value} {n : Nat} {xs : List Value} (hown : w.ownsRow base e size v n xs) (hs : a.eval s = v) {ad : Addr} {m c : Nat} {news : List Value} (hnews : ∀ j u, news[j]? = some u → w.cell? (ad.add j) = some u) (hx : a.eval x = .slice (some ad) m c) (hl : news.length = m * size) (h1 : ∀ u ∈ news, u.oneCell' = true)
    (h63 : n + m ≤ maxLen) (hbytes : (n + m) * bytes ≤ 140737488355328) (hbase : base ≤ w.heap.size)
    (h : ∀ v' w', w'.ownsRow base e size v' (n + m) (xs ++ news) → Below base w w' → (∀ k, k < w.heap.size → some k ≠ v.ownBlock → w'.heap[k]? = w.heap[k]?) → (v'.ownBlock = v.ownBlock ∨ v'.ownBlock = some w.heap.size) → K (a.put o.dst v') w') : if Region.wanted o (yielded ops a.tmps) = true then Oper.wp P o a w K Q else E := by
  have hw : Region.wanted o (yielded ops a.tmps) = true := by simp [Region.wanted, hgd]
  rw [if_pos hw]
  obtain ⟨ht, i, z, hi, hz, hsize, hby, hzs, hsz⟩ := hT
  obtain ⟨v', w', hr, h2, h3, h4, h5⟩ := run_append_own_at (P := P) w base t o.type e i z size bytes ht hi hz hsize hby hzs hsz v n xs hown ad m c news hl hnews h1 h63 hbytes hbase
  unfold Oper.wp execOp
  simp only [ho, resolve, invoke, builtin, Sem.run_bind, Sem.run_pure, Result.andThen_ok, List.map_toArray, List.map_cons, List.map_nil, hs, hx, hr]
  exact h v' w' h2 (grown_below hown h3 (Nat.le_refl _) hbase) h3.block h5

def callsN : Nat → Nat
  | 0 => 0
  | f + 1 => 1 + 2 * callsN f
theorem own_ne {base : Nat} {W : World} {v : Value} {l : List Int} (h : Own (ints .i64) 3 base W v l) {sb : Nat} {arr : Array Value} (hs : W.heap[sb]? = some (.cells arr 48 (0, 0))) : some sb ≠ v.ownBlock := fun e => by
  rcases h.2 with ⟨q, _⟩ | ⟨g, cap, cur, hv, hgb, hh, r⟩
  · rw [q] at e; cases e
  · rw [hv] at e
    have e2 : sb = g := by simpa [Value.ownBlock] using e
    subst e2
    rw [hs] at hh
    injection hh with hh
    injection hh with _ hh
    exact absurd hh (by decide)

set_option maxRecDepth 100000 in
set_option maxHeartbeats 8000000 in
theorem from_any {w0 : World} {lo mid fb bm cP cT cI : Nat} {n : Int} {P T : List Cl} {AP AT AI : Option Addr} (hx : FixF w0 lo mid fb bm n P T AP cP AT cT AI cI) : ∀ (f : Nat) (s : Sp) (st : List Sp × List Int) (M : Nat) (W : World), Inv n P T s → left P T s < f → M + callsN f ≤ 8796093022208 → FS w0 lo mid fb bm n P T AP cP AT cT AI cI M st W →
    Calls Try.prog 22 #[.pointer (some ⟨fb, 0, none⟩), spV s] W fun e w' => e = .returned (.tuple #[]) ∧ FS w0 lo mid fb bm n P T AP cP AT cT AI cI (M + callsN f) (dfs n P T f s st) w' ∧ KeepS W w' := by
  intro f
  induction f with
  | zero => intro s st M W hs hl; omega
  | succ f ih =>
    intro s st M W hs hl hM hfs
    obtain ⟨hP, hT, hcP, hcT⟩ := hx.lens
    have s1 := hs.a
    have s2 := hs.b
    have s3 := hs.oi
    have s4 : s.i ≤ 60 := by rw [hs.i]; exact Nat.le_trans List.countP_le_length (by rw [List.length_take]; omega)
    have sok : s.Ok := ⟨by omega, by omega, by omega, by omega⟩
    have hcn : callsN (f + 1) = 1 + 2 * callsN f := rfl
    rw [hcn] at hM ⊢
    have hlen := hfs.len
    obtain ⟨g1, g2, g3, g4, g5, g6⟩ := hx.fbm
    have hb1 := (Below.refl W.heap.size W).alloc (Nat.le_refl _) (.cells #[.int .i64 (s.a : Int), .int .i64 (s.b : Int), .int .i64 (s.i : Int), .int .i64 (s.o : Int)] 48)
    have hsp := heap_alloc_new W (.cells #[.int .i64 (s.a : Int), .int .i64 (s.b : Int), .int .i64 (s.i : Int), .int .i64 (s.o : Int)] 48)
    have hfs1 := hfs.go hx hb1
    obtain ⟨sb, hsb⟩ : ∃ x, W.heap.size = x := ⟨_, rfl⟩
    have hmsb : mid ≤ sb := by rw [← hsb]; exact hfs.kept.1
    rw [hsb] at hsp
    -- what comes of the map
    obtain ⟨D, cnt, hown, hsn⟩ := hfs1.seen
    have hownd := hown.drew
    have hfsd := hfs1.go hx (Below.refl _ _).drew
    obtain ⟨wd, hwd⟩ : ∃ x, (W.alloc (.cells #[.int .i64 (s.a : Int), .int .i64 (s.b : Int), .int .i64 (s.i : Int), .int .i64 (s.o : Int)] 48)).drew = x := ⟨_, rfl⟩
    rw [hwd] at hownd hfsd
    have hspd : SpBox wd sb s := by rw [← hwd]; exact hsp
    obtain ⟨c, st', wm, wz, hi, hat, hownz⟩ := incr_all hownd (by omega) sok (fun c hc => by
      rw [hsn.at_ s sok] at hc
      injection hc with hc
      injection hc with _ hc
      have := hsn.le s
      omega)
    have hc : c = (cnt s : Int) := by
      rw [hsn.at_ s sok] at hat
      injection hat with hc
      injection hc with _ hc
      exact hc.symm
    have hcle := hsn.le s
    have hspz : SpBox wz sb s := (hi.grown2.block sb (row_lt hspd) (by simp; omega)).trans hspd
    have hspm : SpBox wm sb s := (hi.grown.block sb (row_lt hspd) (by simp; omega)).trans hspd
    have hseen := fun (seen' : List Sp) (h : ∀ q, q ∈ seen' ↔ q = s ∨ q ∈ st.1) => hfsd.turned hx hi.grown2 (seen' := seen') ⟨_, _, hownz, hsn.put hown.isMap sok hc h⟩
    have hlz : (Instr.lookup 39 (.map (some bm)) (spV s) false).run Try.prog wz.drew = .ok (.int .i64 (c + 1)) wz.drew := by
      obtain ⟨c2, hrun2, hat2, _⟩ := hownz.drew.lookup_int lawS Try.underlying39 Try.underlying3 (zeroF wz.drew) (spKey sok)
      rw [atKey_put_same hown.isMap (spK_key s)] at hat2
      injection hat2 with h
      injection h with _ h
      rw [h]
      exact hrun2
    obtain ⟨vE, hFd, -⟩ := hfsd.own
    obtain ⟨d0, d1, d2, d3, d4, d5⟩ := hFd.cells
    have hmF : ∀ (W' : World), wd.grownBy W' (some bm) → W'.heap[fb]? = wd.heap[fb]? := fun W' hg => hg.block fb (row_lt hFd) (by simp [g3])
    have hFm := FBox.cells ((hmF wm hi.grown).trans hFd)
    have hFz := FBox.cells ((hmF wz hi.grown2).trans hFd)
    have hBd := hfsd.below
    have hBm := hBd.grown hi.grown (Nat.le_trans g6 hfsd.kept.1) (fun j hj => by cases hj; exact g5)
    have hBz := hBd.grown hi.grown2 (Nat.le_trans g6 hfsd.kept.1) (fun j hj => by cases hj; exact g5)
    obtain ⟨look, entry, look2, store, -, hi2⟩ := hi
    unfold spV at look entry look2 hlz ⊢
    obtain ⟨c1, hc1⟩ : ∃ x, c + 1 = x := ⟨_, rfl⟩
    have hwr : IntKind.i64.wrap (c + 1) = c1 := (IntWalk.i64_in _ (by omega)).trans hc1
    have hcc : c1 = (cnt s : Int) + 1 := by omega
    rw [hc1] at store hlz
    have hSd : (fun w' => Below lo w0 w' ∧ (w'.cell? ⟨fb, 0, none⟩ = some (.int .i64 n) ∧ w'.cell? ⟨fb, 1, none⟩ = some (.slice AP P.length cP) ∧ w'.cell? ⟨fb, 2, none⟩ = some (.slice AT T.length cT) ∧ w'.cell? ⟨fb, 3, none⟩ = some (.slice AI (putI P).length cI) ∧ w'.cell? ⟨fb, 4, none⟩ = some (.map (some bm))) ∧ (w'.cell? ⟨sb, 0, none⟩ = some (.int .i64 (s.a : Int)) ∧ w'.cell? ⟨sb, 1, none⟩ = some (.int .i64 (s.b : Int)) ∧ w'.cell? ⟨sb, 2, none⟩ = some (.int .i64 (s.i : Int)) ∧ w'.cell? ⟨sb, 3, none⟩ = some (.int .i64 (s.o : Int)))) wd := ⟨hBd, ⟨d0, d1, d2, d3, d4⟩, hspd.cells⟩
    have hSm : (fun w' => Below lo w0 w' ∧ (w'.cell? ⟨fb, 0, none⟩ = some (.int .i64 n) ∧ w'.cell? ⟨fb, 1, none⟩ = some (.slice AP P.length cP) ∧ w'.cell? ⟨fb, 2, none⟩ = some (.slice AT T.length cT) ∧ w'.cell? ⟨fb, 3, none⟩ = some (.slice AI (putI P).length cI) ∧ w'.cell? ⟨fb, 4, none⟩ = some (.map (some bm))) ∧ (w'.cell? ⟨sb, 0, none⟩ = some (.int .i64 (s.a : Int)) ∧ w'.cell? ⟨sb, 1, none⟩ = some (.int .i64 (s.b : Int)) ∧ w'.cell? ⟨sb, 2, none⟩ = some (.int .i64 (s.i : Int)) ∧ w'.cell? ⟨sb, 3, none⟩ = some (.int .i64 (s.o : Int)))) wm := ⟨hBm, ⟨hFm.1, hFm.2.1, hFm.2.2.1, hFm.2.2.2.1, hFm.2.2.2.2.1⟩, hspm.cells⟩
    have hSz : (fun w' => Below lo w0 w' ∧ (w'.cell? ⟨fb, 0, none⟩ = some (.int .i64 n) ∧ w'.cell? ⟨fb, 1, none⟩ = some (.slice AP P.length cP) ∧ w'.cell? ⟨fb, 2, none⟩ = some (.slice AT T.length cT) ∧ w'.cell? ⟨fb, 3, none⟩ = some (.slice AI (putI P).length cI) ∧ w'.cell? ⟨fb, 4, none⟩ = some (.map (some bm))) ∧ (w'.cell? ⟨sb, 0, none⟩ = some (.int .i64 (s.a : Int)) ∧ w'.cell? ⟨sb, 1, none⟩ = some (.int .i64 (s.b : Int)) ∧ w'.cell? ⟨sb, 2, none⟩ = some (.int .i64 (s.i : Int)) ∧ w'.cell? ⟨sb, 3, none⟩ = some (.int .i64 (s.o : Int)))) wz := ⟨hBz, ⟨hFz.1, hFz.2.1, hFz.2.2.1, hFz.2.2.2.1, hFz.2.2.2.2.1⟩, hspz.cells⟩
    have hkz : KeepS wd wz := KeepS.map hi2 (by obtain ⟨es, clock, hh, _⟩ := hownd; exact ⟨es, clock, hh⟩)
    have hkw : KeepS W wd := fun b arr h => row_kept h (by rw [← hwd]; exact hb1.drew)
    have HKZ := Lib.hid hkz
    have HKW := Lib.hid hkw
    have HSPD := Lib.hid hspd
    clear hkz hkw hi2
    have HLZ := Lib.hid hlz
    have HSEEN := Lib.hid hseen
    have HHS := Lib.hid hs
    have HIH := Lib.hid ih
    have HSPZ := Lib.hid hspz
    have HSN := Lib.hid hsn
    have HSZ := Lib.hid hSz
    have HCC := Lib.hid hcc
    clear hlz hseen hs ih hspz hsn hown hownd hownz hat hfs hfs1 hfsd hFd hmF hFm hFz hBd hBm hBz hc hcc d0 d1 d2 d3 d4 d5 hb1 hspm hspd hsp hcn hc1
    go_enter Try.func22, Try.ntmps22
    go_upto_region 1 with fail
    go_cut [14] (fun _ wx => wx = wz)
    case first =>
      refine wp_region_held_drew (S := (fun w' => Below lo w0 w' ∧ (w'.cell? ⟨fb, 0, none⟩ = some (.int .i64 n) ∧ w'.cell? ⟨fb, 1, none⟩ = some (.slice AP P.length cP) ∧ w'.cell? ⟨fb, 2, none⟩ = some (.slice AT T.length cT) ∧ w'.cell? ⟨fb, 3, none⟩ = some (.slice AI (putI P).length cI) ∧ w'.cell? ⟨fb, 4, none⟩ = some (.map (some bm))) ∧ (w'.cell? ⟨sb, 0, none⟩ = some (.int .i64 (s.a : Int)) ∧ w'.cell? ⟨sb, 1, none⟩ = some (.int .i64 (s.b : Int)) ∧ w'.cell? ⟨sb, 2, none⟩ = some (.int .i64 (s.i : Int)) ∧ w'.cell? ⟨sb, 3, none⟩ = some (.int .i64 (s.o : Int))))) (by kernel_rfl) (by rw [hwd]; exact hSd) (fun hHeld => ?_)
      rw [hwd] at hHeld ⊢
      clear hwd
      refine tkH 0 ?_
      try first | simp only [pS, List.set] | simp only [pN]
      refine tkH 1 ?_
      try first | simp only [pS, List.set] | simp only [pN]
      refine tkH 2 ?_
      try first | simp only [pS, List.set] | simp only [pN]
      refine tkH 3 ?_
      try first | simp only [pS, List.set] | simp only [pN]
      refine tkH 4 ?_
      try first | simp only [pS, List.set] | simp only [pN]
      refine wpAnyH_ready (rs := [5, 7]) (by kernel_rfl) (by simp) ?_
      refine AllReadyH.cons (o := ?_) ?_ (fun K hK => ?_) ?_
      rotate_left
      · (simp only [List.getElem?_toArray, List.getElem?_cons_succ, List.getElem?_cons_zero]; rfl)
      · go_simp
        refine hK.out _ _ hSd (fun hHeld => ?_)
        clear hK K
        try first | simp only [pS, List.set] | simp only [pN]
        refine tkH 6 ?_
        try first | simp only [pS, List.set] | simp only [pN]
        refine wpAnyH_ready (rs := [7]) (by kernel_rfl) (by simp) ?_
        refine AllReadyH.cons (o := ?_) ?_ (fun K hK => ?_) AllReadyH.nil
        rotate_left
        · (simp only [List.getElem?_toArray, List.getElem?_cons_succ, List.getElem?_cons_zero]; rfl)
        · go_simp
          refine hK.out _ _ hSm (fun hHeld => ?_)
          clear hK K
          try first | simp only [pS, List.set] | simp only [pN]
          refine tkH 8 ?_
          try first | simp only [pS, List.set] | simp only [pN]
          refine wpAnyH_ready (rs := [9]) (by kernel_rfl) (by simp) ?_
          refine AllReadyH.cons (o := ?_) ?_ (fun K hK => ?_) AllReadyH.nil
          rotate_left
          · (simp only [List.getElem?_toArray, List.getElem?_cons_succ, List.getElem?_cons_zero]; rfl)
          · go_simp
            refine hK.out _ _ HSZ.out (fun hHeld => ?_)
            clear hK K
            try first | simp only [pS, List.set] | simp only [pN]
            refine wpAnyH_done (by kernel_rfl) ?_ _
            (try go_wp2_with fail)
            go_meet
            exact rfl
      · refine AllReadyH.cons (o := ?_) ?_ (fun K hK => ?_) AllReadyH.nil
        rotate_left
        · (simp only [List.getElem?_toArray, List.getElem?_cons_succ, List.getElem?_cons_zero]; rfl)
        · go_simp
          refine hK.out _ _ hSm (fun hHeld => ?_)
          clear hK K
          try first | simp only [pS, List.set] | simp only [pN]
          refine tkH 8 ?_
          try first | simp only [pS, List.set] | simp only [pN]
          refine wpAnyH_ready (rs := [5]) (by kernel_rfl) (by simp) ?_
          refine AllReadyH.cons (o := ?_) ?_ (fun K hK => ?_) AllReadyH.nil
          rotate_left
          · (simp only [List.getElem?_toArray, List.getElem?_cons_succ, List.getElem?_cons_zero]; rfl)
          · go_simp
            refine hK.out _ _ hSm (fun hHeld => ?_)
            clear hK K
            try first | simp only [pS, List.set] | simp only [pN]
            refine tkH 6 ?_
            try first | simp only [pS, List.set] | simp only [pN]
            refine wpAnyH_ready (rs := [9]) (by kernel_rfl) (by simp) ?_
            refine AllReadyH.cons (o := ?_) ?_ (fun K hK => ?_) AllReadyH.nil
            rotate_left
            · (simp only [List.getElem?_toArray, List.getElem?_cons_succ, List.getElem?_cons_zero]; rfl)
            · go_simp
              refine hK.out _ _ HSZ.out (fun hHeld => ?_)
              clear hK K
              try first | simp only [pS, List.set] | simp only [pN]
              refine wpAnyH_done (by kernel_rfl) ?_ _
              (try go_wp2_with fail)
              go_meet
              exact rfl
    case rest =>
      rw [hcut]
      clear hcut
      clear hSd hSm look entry look2 store hwd wm
      by_cases hin : s ∈ st.1
      · have hgt : (1 : Int) < c1 := by
          have h1 := (HSN.out.iff s sok).1 hin
          have h2 := HCC.out
          omega
        have HDF := Lib.hid (show dfs n P T (f + 1) s st = st by rw [dfs, if_pos hin])
        have HF := Lib.hid (HSEEN.out st.1 (fun q => ⟨Or.inr, fun h => h.elim (fun e => e ▸ hin) id⟩))
        clear hin
        go_wp2_with fail
        have hSd2 : (fun w' => Below wz.heap.size wz w' ∧ (w'.cell? ⟨fb, 0, none⟩ = some (.int .i64 n) ∧ w'.cell? ⟨fb, 1, none⟩ = some (.slice AP P.length cP) ∧ w'.cell? ⟨fb, 2, none⟩ = some (.slice AT T.length cT) ∧ w'.cell? ⟨fb, 3, none⟩ = some (.slice AI (putI P).length cI) ∧ w'.cell? ⟨fb, 4, none⟩ = some (.map (some bm))) ∧ (w'.cell? ⟨sb, 0, none⟩ = some (.int .i64 (s.a : Int)) ∧ w'.cell? ⟨sb, 1, none⟩ = some (.int .i64 (s.b : Int)) ∧ w'.cell? ⟨sb, 2, none⟩ = some (.int .i64 (s.i : Int)) ∧ w'.cell? ⟨sb, 3, none⟩ = some (.int .i64 (s.o : Int))) ∧ (Instr.lookup 39 (.map (some bm)) (.agg #[.int .i64 (s.a : Int), .int .i64 (s.b : Int), .int .i64 (s.i : Int), .int .i64 (s.o : Int)]) false).run Try.prog w' = .ok (.int .i64 c1) w') wz.drew := ⟨(Below.refl _ _).drew, HSZ.out.2.1, HSZ.out.2.2, HLZ.out⟩
        refine wp_region_held_drew (S := (fun w' => Below wz.heap.size wz w' ∧ (w'.cell? ⟨fb, 0, none⟩ = some (.int .i64 n) ∧ w'.cell? ⟨fb, 1, none⟩ = some (.slice AP P.length cP) ∧ w'.cell? ⟨fb, 2, none⟩ = some (.slice AT T.length cT) ∧ w'.cell? ⟨fb, 3, none⟩ = some (.slice AI (putI P).length cI) ∧ w'.cell? ⟨fb, 4, none⟩ = some (.map (some bm))) ∧ (w'.cell? ⟨sb, 0, none⟩ = some (.int .i64 (s.a : Int)) ∧ w'.cell? ⟨sb, 1, none⟩ = some (.int .i64 (s.b : Int)) ∧ w'.cell? ⟨sb, 2, none⟩ = some (.int .i64 (s.i : Int)) ∧ w'.cell? ⟨sb, 3, none⟩ = some (.int .i64 (s.o : Int))) ∧ (Instr.lookup 39 (.map (some bm)) (.agg #[.int .i64 (s.a : Int), .int .i64 (s.b : Int), .int .i64 (s.i : Int), .int .i64 (s.o : Int)]) false).run Try.prog w' = .ok (.int .i64 c1) w')) (by kernel_rfl) hSd2 (fun hHeld => ?_)
        generalize wz.drew = we at hHeld ⊢
        have hHeld : (fun w' => Below wz.heap.size wz w' ∧ (w'.cell? ⟨fb, 0, none⟩ = some (.int .i64 n) ∧ w'.cell? ⟨fb, 1, none⟩ = some (.slice AP P.length cP) ∧ w'.cell? ⟨fb, 2, none⟩ = some (.slice AT T.length cT) ∧ w'.cell? ⟨fb, 3, none⟩ = some (.slice AI (putI P).length cI) ∧ w'.cell? ⟨fb, 4, none⟩ = some (.map (some bm))) ∧ (w'.cell? ⟨sb, 0, none⟩ = some (.int .i64 (s.a : Int)) ∧ w'.cell? ⟨sb, 1, none⟩ = some (.int .i64 (s.b : Int)) ∧ w'.cell? ⟨sb, 2, none⟩ = some (.int .i64 (s.i : Int)) ∧ w'.cell? ⟨sb, 3, none⟩ = some (.int .i64 (s.o : Int))) ∧ (Instr.lookup 39 (.map (some bm)) (.agg #[.int .i64 (s.a : Int), .int .i64 (s.b : Int), .int .i64 (s.i : Int), .int .i64 (s.o : Int)]) false).run Try.prog w' = .ok (.int .i64 c1) w') we := hHeld
        refine tkH 0 ?_
        try first | simp only [pS, List.set] | simp only [pN]
        refine tkH 1 ?_
        try first | simp only [pS, List.set] | simp only [pN]
        refine tkH 2 ?_
        try first | simp only [pS, List.set] | simp only [pN]
        refine tkH 3 ?_
        try first | simp only [pS, List.set] | simp only [pN]
        refine tkH 4 ?_
        try first | simp only [pS, List.set] | simp only [pN]
        refine tkH 5 ?_
        try first | simp only [pS, List.set] | simp only [pN]
        refine tkH 6 ?_
        try first | simp only [pS, List.set] | simp only [pN]
        refine wpAnyH_done (by kernel_rfl) ?_ _
        have hB := hHeld.1
        clear hHeld hSd2
        go_wp2_with fail
        (try simp only [Exit.inBlock, Exit.then])
        refine bodyPost_ret (results_none rfl _ _ _) rfl ?_
        exact ⟨rfl, by rw [HDF.out]; exact (HF.out.go hx hB).mono (by omega), HKW.out.trans (HKZ.out.trans (KeepS.of hB))⟩
      · have hc1 : ¬ (1 : Int) < c1 := by
          have h1 := mt (HSN.out.iff s sok).2 hin
          have h2 := HCC.out
          omega
        have HDF := Lib.hid (show dfs n P T (f + 1) s st = onto (dfs n P T f) (stepT P T s) (onto (dfs n P T f) (stepP n P T s) (begun P T s st)) by rw [dfs, if_neg hin])
        have HF := Lib.hid (HSEEN.out (s :: st.1) (fun q => by simp))
        clear hin
        go_wp2_with fail
        have hSd2 : (fun w' => Below wz.heap.size wz w' ∧ (w'.cell? ⟨fb, 0, none⟩ = some (.int .i64 n) ∧ w'.cell? ⟨fb, 1, none⟩ = some (.slice AP P.length cP) ∧ w'.cell? ⟨fb, 2, none⟩ = some (.slice AT T.length cT) ∧ w'.cell? ⟨fb, 3, none⟩ = some (.slice AI (putI P).length cI) ∧ w'.cell? ⟨fb, 4, none⟩ = some (.map (some bm))) ∧ (w'.cell? ⟨sb, 0, none⟩ = some (.int .i64 (s.a : Int)) ∧ w'.cell? ⟨sb, 1, none⟩ = some (.int .i64 (s.b : Int)) ∧ w'.cell? ⟨sb, 2, none⟩ = some (.int .i64 (s.i : Int)) ∧ w'.cell? ⟨sb, 3, none⟩ = some (.int .i64 (s.o : Int))) ∧ (Instr.lookup 39 (.map (some bm)) (.agg #[.int .i64 (s.a : Int), .int .i64 (s.b : Int), .int .i64 (s.i : Int), .int .i64 (s.o : Int)]) false).run Try.prog w' = .ok (.int .i64 c1) w') wz.drew := ⟨(Below.refl _ _).drew, HSZ.out.2.1, HSZ.out.2.2, HLZ.out⟩
        refine wp_region_held_drew (S := (fun w' => Below wz.heap.size wz w' ∧ (w'.cell? ⟨fb, 0, none⟩ = some (.int .i64 n) ∧ w'.cell? ⟨fb, 1, none⟩ = some (.slice AP P.length cP) ∧ w'.cell? ⟨fb, 2, none⟩ = some (.slice AT T.length cT) ∧ w'.cell? ⟨fb, 3, none⟩ = some (.slice AI (putI P).length cI) ∧ w'.cell? ⟨fb, 4, none⟩ = some (.map (some bm))) ∧ (w'.cell? ⟨sb, 0, none⟩ = some (.int .i64 (s.a : Int)) ∧ w'.cell? ⟨sb, 1, none⟩ = some (.int .i64 (s.b : Int)) ∧ w'.cell? ⟨sb, 2, none⟩ = some (.int .i64 (s.i : Int)) ∧ w'.cell? ⟨sb, 3, none⟩ = some (.int .i64 (s.o : Int))) ∧ (Instr.lookup 39 (.map (some bm)) (.agg #[.int .i64 (s.a : Int), .int .i64 (s.b : Int), .int .i64 (s.i : Int), .int .i64 (s.o : Int)]) false).run Try.prog w' = .ok (.int .i64 c1) w')) (by kernel_rfl) hSd2 (fun hHeld => ?_)
        generalize wz.drew = we at hHeld ⊢
        have hHeld : (fun w' => Below wz.heap.size wz w' ∧ (w'.cell? ⟨fb, 0, none⟩ = some (.int .i64 n) ∧ w'.cell? ⟨fb, 1, none⟩ = some (.slice AP P.length cP) ∧ w'.cell? ⟨fb, 2, none⟩ = some (.slice AT T.length cT) ∧ w'.cell? ⟨fb, 3, none⟩ = some (.slice AI (putI P).length cI) ∧ w'.cell? ⟨fb, 4, none⟩ = some (.map (some bm))) ∧ (w'.cell? ⟨sb, 0, none⟩ = some (.int .i64 (s.a : Int)) ∧ w'.cell? ⟨sb, 1, none⟩ = some (.int .i64 (s.b : Int)) ∧ w'.cell? ⟨sb, 2, none⟩ = some (.int .i64 (s.i : Int)) ∧ w'.cell? ⟨sb, 3, none⟩ = some (.int .i64 (s.o : Int))) ∧ (Instr.lookup 39 (.map (some bm)) (.agg #[.int .i64 (s.a : Int), .int .i64 (s.b : Int), .int .i64 (s.i : Int), .int .i64 (s.o : Int)]) false).run Try.prog w' = .ok (.int .i64 c1) w') we := hHeld
        refine tkH 0 ?_
        try first | simp only [pS, List.set] | simp only [pN]
        refine tkH 1 ?_
        try first | simp only [pS, List.set] | simp only [pN]
        refine tkH 2 ?_
        try first | simp only [pS, List.set] | simp only [pN]
        refine tkH 3 ?_
        try first | simp only [pS, List.set] | simp only [pN]
        refine tkH 4 ?_
        try first | simp only [pS, List.set] | simp only [pN]
        refine tkH 5 ?_
        try first | simp only [pS, List.set] | simp only [pN]
        refine tkH 6 ?_
        try first | simp only [pS, List.set] | simp only [pN]
        refine wpAnyH_done (by kernel_rfl) ?_ _
        have hB := hHeld.1
        have hfs3 := HF.out.go hx hB
        have hk3 := HKZ.out.trans (KeepS.of hB)
        have HFS3 := Lib.hid hfs3
        have HK3 := Lib.hid hk3
        obtain ⟨b, hb⟩ : ∃ b, finS P T s = b := ⟨_, rfl⟩
        have HBB := Lib.hid hb
        clear hHeld hSd2 hB hfs3 hk3 hb HSZ HLZ
        go_upto_region 3 with fail
        go_cut [39] (fun v w3 => v = .bool b ∧ FS w0 lo mid fb bm n P T AP cP AT cT AI cI (M + 1) (s :: st.1, st.2) w3 ∧ KeepS wd w3)
        case first =>
          have hspx := HK3.out sb _ HSPD.out
          have hsx := SpBox.cells hspx
          obtain ⟨vE, hFx, -⟩ := HFS3.out.own
          have hcx := FBox.cells hFx
          have hdP := fun (W' : World) (hb : Below we.heap.size we W') => done_any AP cP P s.a W' (by omega) hcP s1 ((HFS3.out.clP hx).below hb hb.size)
          have hdT := fun (W' : World) (hb : Below we.heap.size we W') => done_any AT cT T s.b W' (by omega) hcT s2 ((HFS3.out.clT hx).below hb hb.size)
          obtain ⟨b1, hb1⟩ : ∃ b, allOpn (P.drop s.a) = b := ⟨_, rfl⟩
          obtain ⟨b2, hb2⟩ : ∃ b, allOpn (T.drop s.b) = b := ⟨_, rfl⟩
          have hbb : (b1 && b2) = b := by rw [← hb1, ← hb2]; exact HBB.out
          rw [hb1] at hdP
          rw [hb2] at hdT
          have HDP := Lib.hid hdP
          have HDT := Lib.hid hdT
          have HBQ := Lib.hid hbb
          clear hdP hdT hb1 hb2 hbb hspx hFx
          have hSd3 : (fun w' => Below we.heap.size we w' ∧ (w'.cell? ⟨fb, 0, none⟩ = some (.int .i64 n) ∧ w'.cell? ⟨fb, 1, none⟩ = some (.slice AP P.length cP) ∧ w'.cell? ⟨fb, 2, none⟩ = some (.slice AT T.length cT) ∧ w'.cell? ⟨fb, 3, none⟩ = some (.slice AI (putI P).length cI) ∧ w'.cell? ⟨fb, 4, none⟩ = some (.map (some bm))) ∧ (w'.cell? ⟨sb, 0, none⟩ = some (.int .i64 (s.a : Int)) ∧ w'.cell? ⟨sb, 1, none⟩ = some (.int .i64 (s.b : Int)) ∧ w'.cell? ⟨sb, 2, none⟩ = some (.int .i64 (s.i : Int)) ∧ w'.cell? ⟨sb, 3, none⟩ = some (.int .i64 (s.o : Int)))) we.drew := ⟨(Below.refl _ _).drew, ⟨hcx.1, hcx.2.1, hcx.2.2.1, hcx.2.2.2.1, hcx.2.2.2.2.1⟩, hsx⟩
          clear hcx hsx
          cases b1 with
          | false =>
            refine wp_region_held_drew (S := (fun w' => Below we.heap.size we w' ∧ (w'.cell? ⟨fb, 0, none⟩ = some (.int .i64 n) ∧ w'.cell? ⟨fb, 1, none⟩ = some (.slice AP P.length cP) ∧ w'.cell? ⟨fb, 2, none⟩ = some (.slice AT T.length cT) ∧ w'.cell? ⟨fb, 3, none⟩ = some (.slice AI (putI P).length cI) ∧ w'.cell? ⟨fb, 4, none⟩ = some (.map (some bm))) ∧ (w'.cell? ⟨sb, 0, none⟩ = some (.int .i64 (s.a : Int)) ∧ w'.cell? ⟨sb, 1, none⟩ = some (.int .i64 (s.b : Int)) ∧ w'.cell? ⟨sb, 2, none⟩ = some (.int .i64 (s.i : Int)) ∧ w'.cell? ⟨sb, 3, none⟩ = some (.int .i64 (s.o : Int))))) (by kernel_rfl) hSd3 (fun hHeld => ?_)
            generalize we.drew = wg at hHeld ⊢
            have hHeld : (fun w' => Below we.heap.size we w' ∧ (w'.cell? ⟨fb, 0, none⟩ = some (.int .i64 n) ∧ w'.cell? ⟨fb, 1, none⟩ = some (.slice AP P.length cP) ∧ w'.cell? ⟨fb, 2, none⟩ = some (.slice AT T.length cT) ∧ w'.cell? ⟨fb, 3, none⟩ = some (.slice AI (putI P).length cI) ∧ w'.cell? ⟨fb, 4, none⟩ = some (.map (some bm))) ∧ (w'.cell? ⟨sb, 0, none⟩ = some (.int .i64 (s.a : Int)) ∧ w'.cell? ⟨sb, 1, none⟩ = some (.int .i64 (s.b : Int)) ∧ w'.cell? ⟨sb, 2, none⟩ = some (.int .i64 (s.i : Int)) ∧ w'.cell? ⟨sb, 3, none⟩ = some (.int .i64 (s.o : Int)))) wg := hHeld
            refine tkH 0 ?_
            try first | simp only [pS, List.set] | simp only [pN]
            refine tkH 1 ?_
            try first | simp only [pS, List.set] | simp only [pN]
            refine tkH 2 ?_
            try first | simp only [pS, List.set] | simp only [pN]
            refine tkH 3 ?_
            try first | simp only [pS, List.set] | simp only [pN]
            refine tkH 4 ?_
            try first | simp only [pS, List.set] | simp only [pN]
            refine tkH 5 ?_
            try first | simp only [pS, List.set] | simp only [pN]
            refine wpAnyH_ready (rs := [6]) (by kernel_rfl) (by simp) ?_
            refine AllReadyH.cons (o := ?_) ?_ (fun K hK => ?_) AllReadyH.nil
            rotate_left
            · (simp only [List.getElem?_toArray, List.getElem?_cons_succ, List.getElem?_cons_zero]; rfl)
            go_simp
            go_at_call 33
            refine (HDP.out _ hHeld.1).mono ?_
            rintro e wx ⟨rfl, hbx⟩
            have hSx : (fun w' => Below we.heap.size we w' ∧ (w'.cell? ⟨fb, 0, none⟩ = some (.int .i64 n) ∧ w'.cell? ⟨fb, 1, none⟩ = some (.slice AP P.length cP) ∧ w'.cell? ⟨fb, 2, none⟩ = some (.slice AT T.length cT) ∧ w'.cell? ⟨fb, 3, none⟩ = some (.slice AI (putI P).length cI) ∧ w'.cell? ⟨fb, 4, none⟩ = some (.map (some bm))) ∧ (w'.cell? ⟨sb, 0, none⟩ = some (.int .i64 (s.a : Int)) ∧ w'.cell? ⟨sb, 1, none⟩ = some (.int .i64 (s.b : Int)) ∧ w'.cell? ⟨sb, 2, none⟩ = some (.int .i64 (s.i : Int)) ∧ w'.cell? ⟨sb, 3, none⟩ = some (.int .i64 (s.o : Int)))) wx := ⟨hHeld.1.trans (hbx.mono hHeld.1.size), f5_below hHeld.2.1 hbx, f4_below hHeld.2.2 hbx⟩
            refine hK.out _ _ hSx (fun hHeld => ?_)
            clear hK K
            try first | simp only [pS, List.set] | simp only [pN]
            refine tkH 7 ?_
            try first | simp only [pS, List.set] | simp only [pN]
            refine wpAnyH_take (i := 8) (oi := ?_) (v := undef) ?_ (by kernel_rfl) (by kernel_rfl) (by kernel_rfl) ?_ (Or.inr ⟨?_, rfl⟩) (by assumption) ?_
            rotate_left 1
            · (simp only [List.getElem?_toArray, List.getElem?_cons_succ, List.getElem?_cons_zero]; rfl)
            · first | exact fun _ _ _ h => h | exact fun _ _ _ h => by cases h.1
            · rfl
            try first | simp only [pS, List.set] | simp only [pN]
            refine wpAnyH_take (i := 9) (oi := ?_) (v := undef) ?_ (by kernel_rfl) (by kernel_rfl) (by kernel_rfl) ?_ (Or.inr ⟨?_, rfl⟩) (by assumption) ?_
            rotate_left 1
            · (simp only [List.getElem?_toArray, List.getElem?_cons_succ, List.getElem?_cons_zero]; rfl)
            · first | exact fun _ _ _ h => h | exact fun _ _ _ h => by cases h.1
            · rfl
            try first | simp only [pS, List.set] | simp only [pN]
            refine wpAnyH_take (i := 10) (oi := ?_) (v := undef) ?_ (by kernel_rfl) (by kernel_rfl) (by kernel_rfl) ?_ (Or.inr ⟨?_, rfl⟩) (by assumption) ?_
            rotate_left 1
            · (simp only [List.getElem?_toArray, List.getElem?_cons_succ, List.getElem?_cons_zero]; rfl)
            · first | exact fun _ _ _ h => h | exact fun _ _ _ h => by cases h.1
            · rfl
            try first | simp only [pS, List.set] | simp only [pN]
            refine wpAnyH_take (i := 11) (oi := ?_) (v := undef) ?_ (by kernel_rfl) (by kernel_rfl) (by kernel_rfl) ?_ (Or.inr ⟨?_, rfl⟩) (by assumption) ?_
            rotate_left 1
            · (simp only [List.getElem?_toArray, List.getElem?_cons_succ, List.getElem?_cons_zero]; rfl)
            · first | exact fun _ _ _ h => h | exact fun _ _ _ h => by cases h.1
            · rfl
            try first | simp only [pS, List.set] | simp only [pN]
            refine wpAnyH_take (i := 12) (oi := ?_) (v := undef) ?_ (by kernel_rfl) (by kernel_rfl) (by kernel_rfl) ?_ (Or.inr ⟨?_, rfl⟩) (by assumption) ?_
            rotate_left 1
            · (simp only [List.getElem?_toArray, List.getElem?_cons_succ, List.getElem?_cons_zero]; rfl)
            · first | exact fun _ _ _ h => h | exact fun _ _ _ h => by cases h.1
            · rfl
            try first | simp only [pS, List.set] | simp only [pN]
            refine wpAnyH_take (i := 13) (oi := ?_) (v := undef) ?_ (by kernel_rfl) (by kernel_rfl) (by kernel_rfl) ?_ (Or.inr ⟨?_, rfl⟩) (by assumption) ?_
            rotate_left 1
            · (simp only [List.getElem?_toArray, List.getElem?_cons_succ, List.getElem?_cons_zero]; rfl)
            · first | exact fun _ _ _ h => h | exact fun _ _ _ h => by cases h.1
            · rfl
            try first | simp only [pS, List.set] | simp only [pN]
            refine wpAnyH_take (i := 14) (oi := ?_) (v := undef) ?_ (by kernel_rfl) (by kernel_rfl) (by kernel_rfl) ?_ (Or.inr ⟨?_, rfl⟩) (by assumption) ?_
            rotate_left 1
            · (simp only [List.getElem?_toArray, List.getElem?_cons_succ, List.getElem?_cons_zero]; rfl)
            · first | exact fun _ _ _ h => h | exact fun _ _ _ h => by cases h.1
            · rfl
            try first | simp only [pS, List.set] | simp only [pN]
            refine tkH 15 ?_
            try first | simp only [pS, List.set] | simp only [pN]
            refine wpAnyH_done (by kernel_rfl) ?_ _
            (try go_wp2_with fail)
            go_meet
            exact ⟨by rw [← HBQ.out]; simp, HFS3.out.go hx hHeld.1, HK3.out.trans (KeepS.of hHeld.1)⟩
          | true =>
            refine wp_region_held_drew (S := (fun w' => Below we.heap.size we w' ∧ (w'.cell? ⟨fb, 0, none⟩ = some (.int .i64 n) ∧ w'.cell? ⟨fb, 1, none⟩ = some (.slice AP P.length cP) ∧ w'.cell? ⟨fb, 2, none⟩ = some (.slice AT T.length cT) ∧ w'.cell? ⟨fb, 3, none⟩ = some (.slice AI (putI P).length cI) ∧ w'.cell? ⟨fb, 4, none⟩ = some (.map (some bm))) ∧ (w'.cell? ⟨sb, 0, none⟩ = some (.int .i64 (s.a : Int)) ∧ w'.cell? ⟨sb, 1, none⟩ = some (.int .i64 (s.b : Int)) ∧ w'.cell? ⟨sb, 2, none⟩ = some (.int .i64 (s.i : Int)) ∧ w'.cell? ⟨sb, 3, none⟩ = some (.int .i64 (s.o : Int))))) (by kernel_rfl) hSd3 (fun hHeld => ?_)
            generalize we.drew = wg at hHeld ⊢
            have hHeld : (fun w' => Below we.heap.size we w' ∧ (w'.cell? ⟨fb, 0, none⟩ = some (.int .i64 n) ∧ w'.cell? ⟨fb, 1, none⟩ = some (.slice AP P.length cP) ∧ w'.cell? ⟨fb, 2, none⟩ = some (.slice AT T.length cT) ∧ w'.cell? ⟨fb, 3, none⟩ = some (.slice AI (putI P).length cI) ∧ w'.cell? ⟨fb, 4, none⟩ = some (.map (some bm))) ∧ (w'.cell? ⟨sb, 0, none⟩ = some (.int .i64 (s.a : Int)) ∧ w'.cell? ⟨sb, 1, none⟩ = some (.int .i64 (s.b : Int)) ∧ w'.cell? ⟨sb, 2, none⟩ = some (.int .i64 (s.i : Int)) ∧ w'.cell? ⟨sb, 3, none⟩ = some (.int .i64 (s.o : Int)))) wg := hHeld
            refine tkH 0 ?_
            try first | simp only [pS, List.set] | simp only [pN]
            refine tkH 1 ?_
            try first | simp only [pS, List.set] | simp only [pN]
            refine tkH 2 ?_
            try first | simp only [pS, List.set] | simp only [pN]
            refine tkH 3 ?_
            try first | simp only [pS, List.set] | simp only [pN]
            refine tkH 4 ?_
            try first | simp only [pS, List.set] | simp only [pN]
            refine tkH 5 ?_
            try first | simp only [pS, List.set] | simp only [pN]
            refine wpAnyH_ready (rs := [6]) (by kernel_rfl) (by simp) ?_
            refine AllReadyH.cons (o := ?_) ?_ (fun K hK => ?_) AllReadyH.nil
            rotate_left
            · (simp only [List.getElem?_toArray, List.getElem?_cons_succ, List.getElem?_cons_zero]; rfl)
            go_simp
            go_at_call 33
            refine (HDP.out _ hHeld.1).mono ?_
            rintro e wx ⟨rfl, hbx⟩
            have hSx : (fun w' => Below we.heap.size we w' ∧ (w'.cell? ⟨fb, 0, none⟩ = some (.int .i64 n) ∧ w'.cell? ⟨fb, 1, none⟩ = some (.slice AP P.length cP) ∧ w'.cell? ⟨fb, 2, none⟩ = some (.slice AT T.length cT) ∧ w'.cell? ⟨fb, 3, none⟩ = some (.slice AI (putI P).length cI) ∧ w'.cell? ⟨fb, 4, none⟩ = some (.map (some bm))) ∧ (w'.cell? ⟨sb, 0, none⟩ = some (.int .i64 (s.a : Int)) ∧ w'.cell? ⟨sb, 1, none⟩ = some (.int .i64 (s.b : Int)) ∧ w'.cell? ⟨sb, 2, none⟩ = some (.int .i64 (s.i : Int)) ∧ w'.cell? ⟨sb, 3, none⟩ = some (.int .i64 (s.o : Int)))) wx := ⟨hHeld.1.trans (hbx.mono hHeld.1.size), f5_below hHeld.2.1 hbx, f4_below hHeld.2.2 hbx⟩
            refine hK.out _ _ hSx (fun hHeld => ?_)
            clear hK K
            try first | simp only [pS, List.set] | simp only [pN]
            refine tkH 7 ?_
            try first | simp only [pS, List.set] | simp only [pN]
            refine tkH 8 ?_
            try first | simp only [pS, List.set] | simp only [pN]
            refine tkH 9 ?_
            try first | simp only [pS, List.set] | simp only [pN]
            refine tkH 10 ?_
            try first | simp only [pS, List.set] | simp only [pN]
            refine tkH 11 ?_
            try first | simp only [pS, List.set] | simp only [pN]
            refine tkH 12 ?_
            try first | simp only [pS, List.set] | simp only [pN]
            refine tkH 13 ?_
            try first | simp only [pS, List.set] | simp only [pN]
            refine wpAnyH_ready (rs := [14]) (by kernel_rfl) (by simp) ?_
            refine AllReadyH.cons (o := ?_) ?_ (fun K hK => ?_) AllReadyH.nil
            rotate_left
            · (simp only [List.getElem?_toArray, List.getElem?_cons_succ, List.getElem?_cons_zero]; rfl)
            go_simp
            go_at_call 33
            refine (HDT.out _ hHeld.1).mono ?_
            rintro e wx ⟨rfl, hbx⟩
            have hSx : (fun w' => Below we.heap.size we w' ∧ (w'.cell? ⟨fb, 0, none⟩ = some (.int .i64 n) ∧ w'.cell? ⟨fb, 1, none⟩ = some (.slice AP P.length cP) ∧ w'.cell? ⟨fb, 2, none⟩ = some (.slice AT T.length cT) ∧ w'.cell? ⟨fb, 3, none⟩ = some (.slice AI (putI P).length cI) ∧ w'.cell? ⟨fb, 4, none⟩ = some (.map (some bm))) ∧ (w'.cell? ⟨sb, 0, none⟩ = some (.int .i64 (s.a : Int)) ∧ w'.cell? ⟨sb, 1, none⟩ = some (.int .i64 (s.b : Int)) ∧ w'.cell? ⟨sb, 2, none⟩ = some (.int .i64 (s.i : Int)) ∧ w'.cell? ⟨sb, 3, none⟩ = some (.int .i64 (s.o : Int)))) wx := ⟨hHeld.1.trans (hbx.mono hHeld.1.size), f5_below hHeld.2.1 hbx, f4_below hHeld.2.2 hbx⟩
            refine hK.out _ _ hSx (fun hHeld => ?_)
            clear hK K
            try first | simp only [pS, List.set] | simp only [pN]
            refine tkH 15 ?_
            try first | simp only [pS, List.set] | simp only [pN]
            refine wpAnyH_done (by kernel_rfl) ?_ _
            (try go_wp2_with fail)
            go_meet
            exact ⟨by rw [← HBQ.out]; simp, HFS3.out.go hx hHeld.1, HK3.out.trans (KeepS.of hHeld.1)⟩
        case rest =>
          obtain ⟨rfl, hfs4, hk4⟩ := hcut
          obtain ⟨w3, rfl⟩ : ∃ x, x = wc := ⟨_, rfl⟩
          have HFS4 := Lib.hid hfs4
          have HK4 := Lib.hid hk4
          clear hfs4 hk4 HFS3 HK3
          go_upto_if 39 with fail
          go_cut [] (fun w4 => FS w0 lo mid fb bm n P T AP cP AT cT AI cI (M + 1) (begun P T s st) w4 ∧ KeepS wd w4)
          case first =>
            cases b with
            | false =>
              (try go_wp2_with fail)
              go_meet
              exact ⟨by unfold begun; rw [HBB.out]; exact HFS4.out, HK4.out⟩
            | true =>
              obtain ⟨vE, hF4, hO4⟩ := HFS4.out.own
              have hsp4 := HK4.out sb _ HSPD.out
              obtain ⟨wg, hwg⟩ : ∃ x, w3.drew = x := ⟨_, rfl⟩
              have hFg : FBox wg fb n AP P.length cP AT T.length cT AI (putI P).length cI bm vE := by rw [← hwg]; exact hF4
              have hOg : Own (ints .i64) 3 mid wg vE st.2 := by rw [← hwg]; exact hO4
              have hfsg := HFS4.out.go hx (Below.refl _ w3).drew
              have hspg : SpBox wg sb s := by rw [← hwg]; exact hsp4
              have hKg : KeepS wd wg := by rw [← hwg]; exact HK4.out
              rw [hwg] at hfsg
              obtain ⟨kk, hkk⟩ : ∃ x, (s.i : Int) - (s.o : Int) = x := ⟨_, rfl⟩
              have hwk : IntKind.i64.wrap ((s.i : Int) - (s.o : Int)) = kk := (IntWalk.i64_in _ (by omega)).trans hkk
              have hba := (Below.refl wg.heap.size wg).alloc (Nat.le_refl _) (.cells #[.int .i64 kk] 3)
              have hFa := row_kept hFg hba
              have hspa := row_kept hspg hba
              have hna := cells_new' wg [.int .i64 kk] #[.int .i64 kk] 3 rfl
              have hoa := hOg.alloc (.cells #[.int .i64 kk] 3)
              have hne4 := own_ne hOg hspg
              have hmg := hfsg.kept.1
              have hBg := hfsg.below
              have hBa := hBg.trans (hba.mono (Nat.le_trans g6 hmg))
              have hnoted := fun (v' : Value) (W' : World) ho hb hk => hfsg.noted hx (W' := W') (v' := v') (k := kk) hFg hOg ho hb (by show st.2.length + 1 ≤ M + 1; omega) hk
              have HNO := Lib.hid hnoted
              have HKK := Lib.hid hkk
              have HHO := Lib.hid hoa
              have HFA := Lib.hid hFa
              have HSA := Lib.hid hspa
              have HKG := Lib.hid hKg
              have e5 := (FBox.cells hFg).2.2.2.2.2
              have e5a := (FBox.cells hFa).2.2.2.2.2
              have hne4' := Lib.hid hne4
              have hlt4 := row_lt hspg
              have hfl4 := row_lt hFg
              have HL := Lib.hid (show ∀ j, j < wg.heap.size → some j ≠ vE.ownBlock → True from fun _ _ _ => trivial)
              have hvb : some fb ≠ vE.ownBlock := fun e => by have := (hOg.blk' e.symm).1; omega
              have HVB := Lib.hid hvb
              have hSg : (fun w' => Below lo w0 w' ∧ (w'.cell? ⟨sb, 0, none⟩ = some (.int .i64 (s.a : Int)) ∧ w'.cell? ⟨sb, 1, none⟩ = some (.int .i64 (s.b : Int)) ∧ w'.cell? ⟨sb, 2, none⟩ = some (.int .i64 (s.i : Int)) ∧ w'.cell? ⟨sb, 3, none⟩ = some (.int .i64 (s.o : Int)))) wg := ⟨hBg, SpBox.cells hspg⟩
              have hSa : (fun w' => Below lo w0 w' ∧ (w'.cell? ⟨sb, 0, none⟩ = some (.int .i64 (s.a : Int)) ∧ w'.cell? ⟨sb, 1, none⟩ = some (.int .i64 (s.b : Int)) ∧ w'.cell? ⟨sb, 2, none⟩ = some (.int .i64 (s.i : Int)) ∧ w'.cell? ⟨sb, 3, none⟩ = some (.int .i64 (s.o : Int)))) (wg.alloc (.cells #[.int .i64 kk] 3)) := ⟨hBa, SpBox.cells hspa⟩
              obtain ⟨ab, hab⟩ : ∃ x, wg.heap.size = x := ⟨_, rfl⟩
              obtain ⟨wa, hwa⟩ : ∃ x, wg.alloc (.cells #[.int .i64 kk] 3) = x := ⟨_, rfl⟩
              have hsza : wa.heap.size = ab + 1 := by rw [← hwa, World.size_alloc, hab]
              rw [hwa] at HNO HHO HFA HSA e5a hSa hna
              have hba2 : Below wg.heap.size wg wa := by rw [← hwa]; exact hba
              rw [hab] at hna hba2 hmg hlt4 hfl4
              have HSZA := Lib.hid hsza
              have HBA2 := Lib.hid hba2
              have HNA := Lib.hid hna
              clear hF4 hO4 hsp4 hFg hOg hfsg hspg hKg hkk hba hFa hspa hna hoa hne4 hBg hBa hnoted hsza hba2 hvb HL
              go_wp2_with fail
              refine wp_region_held_drew (S := (fun w' => Below lo w0 w' ∧ (w'.cell? ⟨sb, 0, none⟩ = some (.int .i64 (s.a : Int)) ∧ w'.cell? ⟨sb, 1, none⟩ = some (.int .i64 (s.b : Int)) ∧ w'.cell? ⟨sb, 2, none⟩ = some (.int .i64 (s.i : Int)) ∧ w'.cell? ⟨sb, 3, none⟩ = some (.int .i64 (s.o : Int))))) (by kernel_rfl) (by rw [hwg]; exact hSg) (fun hHeld => ?_)
              rw [hwg] at hHeld ⊢
              clear hwg
              refine tkH 0 ?_
              try first | simp only [pS, List.set] | simp only [pN]
              refine tkH 1 ?_
              try first | simp only [pS, List.set] | simp only [pN]
              refine tkH 2 ?_
              try first | simp only [pS, List.set] | simp only [pN]
              refine tkH 3 ?_
              try first | simp only [pS, List.set] | simp only [pN]
              refine tkH 5 ?_
              try first | simp only [pS, List.set] | simp only [pN]
              refine tkH 6 ?_
              try first | simp only [pS, List.set] | simp only [pN]
              refine tkH 7 ?_
              try first | simp only [pS, List.set] | simp only [pN]
              refine tkH 8 ?_
              try first | simp only [pS, List.set] | simp only [pN]
              refine tkH 9 ?_
              try first | simp only [pS, List.set] | simp only [pN]
              refine wpAnyH_ready (rs := [4, 10]) (by kernel_rfl) (by simp) ?_
              refine AllReadyH.cons (o := ?_) ?_ (fun K hK => ?_) ?_
              rotate_left
              · (simp only [List.getElem?_toArray, List.getElem?_cons_succ, List.getElem?_cons_zero]; rfl)
              · go_simp
                refine hK.out _ _ hSg (fun hHeld => ?_)
                clear hK K
                try first | simp only [pS, List.set] | simp only [pN]
                refine wpAnyH_ready (rs := [10]) (by kernel_rfl) (by simp) ?_
                refine AllReadyH.cons (o := ?_) ?_ (fun K hK => ?_) AllReadyH.nil
                rotate_left
                · (simp only [List.getElem?_toArray, List.getElem?_cons_succ, List.getElem?_cons_zero]; rfl)
                · go_simp
                  refine hK.out _ _ hSa (fun hHeld => ?_)
                  clear hK K
                  try first | simp only [pS, List.set] | simp only [pN]
                  refine wpAnyH_ready (rs := [11]) (by kernel_rfl) (by simp) ?_
                  refine AllReadyH.cons (o := ?_) ?_ (fun K hK => ?_) AllReadyH.nil
                  rotate_left
                  · (simp only [List.getElem?_toArray, List.getElem?_cons_succ, List.getElem?_cons_zero]; rfl)
                  · refine step_app2 (by rfl) (.tmp 44) (.tmp 50) 26 (by rfl) intTy mid HHO.out (by rfl) HNA.out (by rfl) (by rfl) (by simp [Value.oneCell']) (by unfold maxLen; omega) (by omega) (by rw [HSZA.out]; omega) ?_
                    intro v' w9 hown9 hb9 hblk9 _
                    obtain ⟨A9, n9, c9, rfl⟩ : ∃ A n c, v' = .slice A n c := (by obtain ⟨A, c, h, _⟩ := (Own.app (E := ints .i64) (l := st.2) (x := kk) hown9 rfl).sl; exact ⟨A, _, c, h⟩)
                    have hF9 := (hblk9 fb (by rw [HSZA.out]; omega) HVB.out).trans HFA.out
                    have hs9 := (hblk9 sb (by rw [HSZA.out]; omega) hne4'.out).trans HSA.out
                    have hS9 : (fun w' => Below lo w0 w' ∧ (w'.cell? ⟨sb, 0, none⟩ = some (.int .i64 (s.a : Int)) ∧ w'.cell? ⟨sb, 1, none⟩ = some (.int .i64 (s.b : Int)) ∧ w'.cell? ⟨sb, 2, none⟩ = some (.int .i64 (s.i : Int)) ∧ w'.cell? ⟨sb, 3, none⟩ = some (.int .i64 (s.o : Int)))) w9 := ⟨hSa.1.trans (hb9.mono g6), SpBox.cells hs9⟩
                    have q5 := (FBox.cells hF9).2.2.2.2.2
                    have r5 := row_frozen hF9 5
                    have HF9 := Lib.hid hF9
                    have HS9 := Lib.hid hs9
                    have HN9 := Lib.hid (HNO.out _ w9 hown9 hb9 hblk9)
                    have HBK := Lib.hid hblk9
                    clear hF9 hs9 hown9 hblk9
                    refine hK.out _ _ hS9 (fun hHeld => ?_)
                    clear hK K
                    try first | simp only [pS, List.set] | simp only [pN]
                    refine tkH 12 ?_
                    try first | simp only [pS, List.set] | simp only [pN]
                    refine tkH 13 ?_
                    try first | simp only [pS, List.set] | simp only [pN]
                    refine wpAnyH_ready (rs := [14]) (by kernel_rfl) (by simp) ?_
                    refine AllReadyH.cons (o := ?_) ?_ (fun K hK => ?_) AllReadyH.nil
                    rotate_left
                    · (simp only [List.getElem?_toArray, List.getElem?_cons_succ, List.getElem?_cons_zero]; rfl)
                    · go_simp
                      have hSx : (fun w' => Below lo w0 w' ∧ (w'.cell? ⟨sb, 0, none⟩ = some (.int .i64 (s.a : Int)) ∧ w'.cell? ⟨sb, 1, none⟩ = some (.int .i64 (s.b : Int)) ∧ w'.cell? ⟨sb, 2, none⟩ = some (.int .i64 (s.i : Int)) ∧ w'.cell? ⟨sb, 3, none⟩ = some (.int .i64 (s.o : Int)))) (w9.setCell ⟨fb, 5, none⟩ (.slice A9 n9 c9)) := ⟨hS9.1.setCell (p := ⟨fb, 5, none⟩) g4 _, f4_other hS9.2 (by omega)⟩
                      refine hK.out _ _ hSx (fun hHeld => ?_)
                      clear hK K
                      try first | simp only [pS, List.set] | simp only [pN]
                      refine wpAnyH_done (by kernel_rfl) ?_ _
                      (try go_wp2_with fail)
                      go_meet
                      exact ⟨by unfold begun; rw [HBB.out]; unfold kOf; rw [HKK.out]; exact HN9.out, HKG.out.trans ((KeepS.ofApp HBA2.out hab HBK.out (own_ne_row HHO.out)).trans (KeepS.store HF9.out 5 _))⟩
              · refine AllReadyH.cons (o := ?_) ?_ (fun K hK => ?_) AllReadyH.nil
                rotate_left
                · (simp only [List.getElem?_toArray, List.getElem?_cons_succ, List.getElem?_cons_zero]; rfl)
                · go_simp
                  refine hK.out _ _ hSa (fun hHeld => ?_)
                  clear hK K
                  try first | simp only [pS, List.set] | simp only [pN]
                  refine wpAnyH_ready (rs := [4]) (by kernel_rfl) (by simp) ?_
                  refine AllReadyH.cons (o := ?_) ?_ (fun K hK => ?_) AllReadyH.nil
                  rotate_left
                  · (simp only [List.getElem?_toArray, List.getElem?_cons_succ, List.getElem?_cons_zero]; rfl)
                  · go_simp
                    refine hK.out _ _ hSa (fun hHeld => ?_)
                    clear hK K
                    try first | simp only [pS, List.set] | simp only [pN]
                    refine wpAnyH_ready (rs := [11]) (by kernel_rfl) (by simp) ?_
                    refine AllReadyH.cons (o := ?_) ?_ (fun K hK => ?_) AllReadyH.nil
                    rotate_left
                    · (simp only [List.getElem?_toArray, List.getElem?_cons_succ, List.getElem?_cons_zero]; rfl)
                    · refine step_app2 (by rfl) (.tmp 44) (.tmp 50) 26 (by rfl) intTy mid HHO.out (by rfl) HNA.out (by rfl) (by rfl) (by simp [Value.oneCell']) (by unfold maxLen; omega) (by omega) (by rw [HSZA.out]; omega) ?_
                      intro v' w9 hown9 hb9 hblk9 _
                      obtain ⟨A9, n9, c9, rfl⟩ : ∃ A n c, v' = .slice A n c := (by obtain ⟨A, c, h, _⟩ := (Own.app (E := ints .i64) (l := st.2) (x := kk) hown9 rfl).sl; exact ⟨A, _, c, h⟩)
                      have hF9 := (hblk9 fb (by rw [HSZA.out]; omega) HVB.out).trans HFA.out
                      have hs9 := (hblk9 sb (by rw [HSZA.out]; omega) hne4'.out).trans HSA.out
                      have hS9 : (fun w' => Below lo w0 w' ∧ (w'.cell? ⟨sb, 0, none⟩ = some (.int .i64 (s.a : Int)) ∧ w'.cell? ⟨sb, 1, none⟩ = some (.int .i64 (s.b : Int)) ∧ w'.cell? ⟨sb, 2, none⟩ = some (.int .i64 (s.i : Int)) ∧ w'.cell? ⟨sb, 3, none⟩ = some (.int .i64 (s.o : Int)))) w9 := ⟨hSa.1.trans (hb9.mono g6), SpBox.cells hs9⟩
                      have q5 := (FBox.cells hF9).2.2.2.2.2
                      have r5 := row_frozen hF9 5
                      have HF9 := Lib.hid hF9
                      have HS9 := Lib.hid hs9
                      have HN9 := Lib.hid (HNO.out _ w9 hown9 hb9 hblk9)
                      have HBK := Lib.hid hblk9
                      clear hF9 hs9 hown9 hblk9
                      refine hK.out _ _ hS9 (fun hHeld => ?_)
                      clear hK K
                      try first | simp only [pS, List.set] | simp only [pN]
                      refine tkH 12 ?_
                      try first | simp only [pS, List.set] | simp only [pN]
                      refine tkH 13 ?_
                      try first | simp only [pS, List.set] | simp only [pN]
                      refine wpAnyH_ready (rs := [14]) (by kernel_rfl) (by simp) ?_
                      refine AllReadyH.cons (o := ?_) ?_ (fun K hK => ?_) AllReadyH.nil
                      rotate_left
                      · (simp only [List.getElem?_toArray, List.getElem?_cons_succ, List.getElem?_cons_zero]; rfl)
                      · go_simp
                        have hSx : (fun w' => Below lo w0 w' ∧ (w'.cell? ⟨sb, 0, none⟩ = some (.int .i64 (s.a : Int)) ∧ w'.cell? ⟨sb, 1, none⟩ = some (.int .i64 (s.b : Int)) ∧ w'.cell? ⟨sb, 2, none⟩ = some (.int .i64 (s.i : Int)) ∧ w'.cell? ⟨sb, 3, none⟩ = some (.int .i64 (s.o : Int)))) (w9.setCell ⟨fb, 5, none⟩ (.slice A9 n9 c9)) := ⟨hS9.1.setCell (p := ⟨fb, 5, none⟩) g4 _, f4_other hS9.2 (by omega)⟩
                        refine hK.out _ _ hSx (fun hHeld => ?_)
                        clear hK K
                        try first | simp only [pS, List.set] | simp only [pN]
                        refine wpAnyH_done (by kernel_rfl) ?_ _
                        (try go_wp2_with fail)
                        go_meet
                        exact ⟨by unfold begun; rw [HBB.out]; unfold kOf; rw [HKK.out]; exact HN9.out, HKG.out.trans ((KeepS.ofApp HBA2.out hab HBK.out (own_ne_row HHO.out)).trans (KeepS.store HF9.out 5 _))⟩
          case rest =>
            obtain ⟨hfs5, hk5⟩ := hcut
            obtain ⟨w5, rfl⟩ : ∃ x, x = wc := ⟨_, rfl⟩
            obtain ⟨p0, p1, p2, p3⟩ := SpBox.cells (hk5 sb _ HSPD.out)
            have hput := fput_any hx HHS.out hfs5
            unfold spV at hput
            have HPUT := Lib.hid hput
            have HFS5 := Lib.hid hfs5
            have HK5 := Lib.hid hk5
            clear hput hfs5 hk5 HFS4 HK4
            go_upto_if 60 with (go_at_call 34; refine HPUT.out.mono ?_; rintro e w6 ⟨t, ok, rfl, hr, hb6⟩; have HR := Lib.hid hr; clear hr; unfold spV)
            go_cut [] (fun w4 => FS w0 lo mid fb bm n P T AP cP AT cT AI cI (M + 1 + callsN f) (onto (dfs n P T f) (stepP n P T s) (begun P T s st)) w4 ∧ KeepS wd w4)
            case first =>
              have hba := (Below.refl w6.heap.size w6).alloc (Nat.le_refl _) (.cells #[.int .i64 (t.a : Int), .int .i64 (t.b : Int), .int .i64 (t.i : Int), .int .i64 (t.o : Int)] 48)
              have hb7 := hb6.trans (hba.mono hb6.size)
              have hfs7 := HFS5.out.go hx hb7
              have hk7 := HK5.out.trans (KeepS.of hb7)
              have hst := heap_alloc_new w6 (.cells #[.int .i64 (t.a : Int), .int .i64 (t.b : Int), .int .i64 (t.i : Int), .int .i64 (t.o : Int)] 48)
              cases ok with
              | false =>
                (try go_wp2_with fail)
                go_meet
                exact ⟨by rw [HR.out]; exact hfs7.mono (by omega), hk7⟩
              | true =>
                have hstep : stepP n P T s = some t := HR.out
                have hi := HIH.out t (begun P T s st) (M + 1) _ (HHS.out.put hstep) (by have := left_put hstep; omega) (by omega) hfs7
                unfold spV at hi
                obtain ⟨t0, t1, t2, t3⟩ := SpBox.cells hst
                have HI := Lib.hid hi
                have HK7 := Lib.hid hk7
                have HST := Lib.hid hstep
                clear hi hba hb7 hfs7 hk7 hst hstep
                go_wp2_with (go_at_call 22; refine HI.out.mono ?_; rintro e w8 ⟨rfl, hfs8, hk8⟩)
                go_meet
                exact ⟨by rw [HST.out]; exact hfs8, HK7.out.trans hk8⟩
            case rest =>
              obtain ⟨hfs5, hk5⟩ := hcut
              obtain ⟨w9, rfl⟩ : ∃ x, x = wc := ⟨_, rfl⟩
              clear p0 p1 p2 p3
              obtain ⟨p0, p1, p2, p3⟩ := SpBox.cells (hk5 sb _ HSPD.out)
              have htake := ftake_any hx HHS.out hfs5
              unfold spV at htake
              have HTAKE := Lib.hid htake
              have HFS9 := Lib.hid hfs5
              have HK9 := Lib.hid hk5
              clear htake hfs5 hk5 HFS5 HK5
              go_upto_if 70 with (go_at_call 35; refine HTAKE.out.mono ?_; rintro e w6 ⟨t, ok, rfl, hr, hb6⟩; have HR := Lib.hid hr; clear hr; unfold spV)
              have hba := (Below.refl w6.heap.size w6).alloc (Nat.le_refl _) (.cells #[.int .i64 (t.a : Int), .int .i64 (t.b : Int), .int .i64 (t.i : Int), .int .i64 (t.o : Int)] 48)
              have hb7 := hb6.trans (hba.mono hb6.size)
              have hfs7 := HFS9.out.go hx hb7
              have hk7 := HK9.out.trans (KeepS.of hb7)
              have hst := heap_alloc_new w6 (.cells #[.int .i64 (t.a : Int), .int .i64 (t.b : Int), .int .i64 (t.i : Int), .int .i64 (t.o : Int)] 48)
              cases ok with
              | false =>
                have HF7 := Lib.hid hfs7
                have HK7 := Lib.hid hk7
                clear hba hb7 hfs7 hk7 hst
                go_wp2_with fail
                (try simp only [Exit.inBlock, Exit.then])
                refine bodyPost_end (results_none rfl _ _ _) rfl ?_
                exact ⟨rfl, by rw [HDF.out, HR.out]; exact HF7.out.mono (by omega), HKW.out.trans HK7.out⟩
              | true =>
                have hstep : stepT P T s = some t := HR.out
                have hi := HIH.out t (onto (dfs n P T f) (stepP n P T s) (begun P T s st)) (M + 1 + callsN f) _ (HHS.out.take hstep) (by have := left_take hstep; omega) (by omega) hfs7
                unfold spV at hi
                obtain ⟨t0, t1, t2, t3⟩ := SpBox.cells hst
                have HI := Lib.hid hi
                have HK7 := Lib.hid hk7
                have HST := Lib.hid hstep
                clear hi hba hb7 hfs7 hk7 hst hstep
                go_wp2_with (go_at_call 22; refine HI.out.mono ?_; rintro e w8 ⟨rfl, hfs8, hk8⟩)
                (try simp only [Exit.inBlock, Exit.then])
                refine bodyPost_end (results_none rfl _ _ _) rfl ?_
                exact ⟨rfl, by rw [HDF.out, HST.out]; exact hfs8.mono (by omega), HKW.out.trans (HK7.out.trans hk8)⟩

end Go.Proofs.Ytgmmblknaeepbaa
