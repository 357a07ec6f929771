/- A queue's finder: what it holds while it goes on: the spots that were seen, the ends. -/
import Derived.Test.YtgmmblknaeepbaaZlI
import Derived.Test.YtgmmblknaeepbaaZlD
import Derived.WideKeyEntry
import Derived.DeepKeys4
namespace Go.Proofs.Ytgmmblknaeepbaa
open Go.RowKit Go.Maps

/-! ### a map keyed by spots -/
def spK (s : Sp) : Lit := .string (keyBytes [.int .i64 (s.a : Int), .int .i64 (s.b : Int), .int .i64 (s.i : Int), .int .i64 (s.o : Int)])
def Sp.Ok (s : Sp) : Prop := s.a ≤ 1000 ∧ s.b ≤ 1000 ∧ s.i ≤ 1000 ∧ s.o ≤ 1000
theorem laidOut : laidOutB Try.prog = true := by kernel_rfl
theorem wideS : (match Try.prog.underlying 48 with | some (.array _ _) | some (.struct _) => true | _ => false) = true := by kernel_rfl
theorem lawK : WideMaps.KeyLaw Try.prog 48 := deep_law_laid laidOut (m := 2) (by omega) (of_decide_eq_true (by kernel_rfl)) (by kernel_rfl) wideS
theorem lawS : Keyed Try.prog 48 := Keyed.of_law lawK
theorem wf_nat {n : Nat} (h : n ≤ 1000) : (Lit.int .i64 (n : Int)).wf = true := WalkArith.wf_i64 (by omega)
theorem spKey {s : Sp} (h : s.Ok) : keyOf Try.prog 48 (spV s) = some (spK s) := by
  obtain ⟨h1, h2, h3, h4⟩ := h
  have w1 := wf_nat h1
  have w2 := wf_nat h2
  have w3 := wf_nat h3
  have w4 := wf_nat h4
  have hk : Try.prog.keyType 48 = true := by kernel_rfl
  have hc : Try.prog.cellsOf 48 = 4 := by kernel_rfl
  have hci : Try.prog.cellsOf 3 = 1 := by kernel_rfl
  have hl : ∃ m, Try.prog.types.size = m + 1 := ⟨Try.prog.types.size - 1, by kernel_rfl⟩
  obtain ⟨m, hm⟩ := hl
  unfold keyOf spV
  rw [Try.underlying48]
  simp only [hk, Value.formed, Try.underlying48, hc, hm]
  simp [Value.cells, Program.keyLits, Try.underlying48, Try.underlying3, hc, hci, w1, w2, w3, w4, spK]

theorem spK_inj {s t : Sp} (hs : s.Ok) (ht : t.Ok) (h : spK s = spK t) : s = t := by
  have h1 := spKey hs
  rw [h] at h1
  have h2 := lawS.inj h1 (spKey ht)
  obtain ⟨a, b, i, o⟩ := s
  obtain ⟨a', b', i', o'⟩ := t
  unfold spV at h2
  simp only [Value.agg.injEq, Array.mk.injEq, List.cons.injEq, Value.int.injEq, true_and, and_true] at h2
  obtain ⟨q1, q2, q3, q4⟩ := h2
  simp only [Sp.mk.injEq]
  omega
theorem spK_key (s : Sp) : WideAt.IsKeyLit (spK s) := True.intro

/-- How often each spot was seen. -/
structure SeenD (D : D0) (M : Nat) (seen : List Sp) (cnt : Sp → Nat) : Prop where
  at_ : ∀ q : Sp, q.Ok → D.atKey (spK q) (.lit (.int .i64 0)) = .lit (.int .i64 (cnt q : Int))
  le : ∀ q, cnt q ≤ M
  iff : ∀ q : Sp, q.Ok → (q ∈ seen ↔ 0 < cnt q)
theorem SeenD.zero : SeenD (.map []) 0 [] fun _ => 0 := ⟨fun q _ => rfl, fun _ => Nat.le_refl _, fun q _ => by simp⟩
theorem SeenD.mono {D : D0} {M M' : Nat} {seen : List Sp} {cnt : Sp → Nat} (h : SeenD D M seen cnt) (hM : M ≤ M') : SeenD D M' seen cnt := ⟨h.at_, fun q => Nat.le_trans (h.le q) hM, h.iff⟩
theorem SeenD.put {D : D0} {M : Nat} {seen : List Sp} {cnt : Sp → Nat} (h : SeenD D M seen cnt) (hD : IsMap D) {s : Sp} (hs : s.Ok) {c : Int} (hc : c = (cnt s : Int)) {seen' : List Sp} (hseen : ∀ q, q ∈ seen' ↔ q = s ∨ q ∈ seen) :
    SeenD (D.put (spK s) (.lit (.int .i64 (c + 1)))) (M + 1) seen' fun q => if q = s then cnt s + 1 else cnt q := by
  subst hc
  refine ⟨fun q hq => ?_, fun q => ?_, fun q hq => ?_⟩
  · by_cases e : q = s
    · subst e
      rw [atKey_put_same hD (spK_key q)]
      simp
    · rw [atKey_put_other (fun h2 => e (spK_inj hq hs h2)), h.at_ q hq, if_neg e]
  · have := h.le q
    have := h.le s
    split <;> omega
  · rw [hseen q]
    by_cases e : q = s
    · simp [e]
    · simp [e, h.iff q hq]

/-! ### an entry of a map, and what is stored in it -/
section
open Go.MapKept Go.WideElems Go.ChangeMaps
variable {H : Type} {P : Program} {w : World} {t k e : TypeId} {R : Value → Option (DataW H × List MemPlace)} {b : Nat} {es : Array MapEntry} {clock : Nat}
theorem entry_all (K : WideMaps.KeyLaw P k) (ht : P.underlying t = some (.map k e)) {z : Value} (hz : ∀ u : World, (zeroValue e).run P u = .ok z u) (hb : w.heap[b]? = some (.map es clock)) (F : Fit P k R es clock)
    {key : Value} {kl : Lit} (hkey : keyOf P k key = some kl) : ∃ (v0 : Value) (es1 : Array MapEntry) (clock1 : Nat) (st : Nat), (Instr.lookup t (.map (some b)) key false).run P w = .ok v0 w ∧
      (Instr.mapEntry t (.map (some b)) key).run P w = .ok (.tuple #[v0, goInt st]) (setBlock w b (.map es1 clock1)) ∧ (Instr.mapUpdate t (.map (some b)) key v0).run P w = .ok () (setBlock w b (.map es1 clock1)) := by
  rcases K.find w hkey es.toList F.keys with ⟨h1, h2⟩ | ⟨j, e0, h1, h2, h3⟩
  · refine ⟨z, es.push ⟨key, z, clock⟩, clock + 1, clock, ?_, ?_, ?_⟩
    · simp [Instr.lookup, run_underlying ht, MapKept.run_getObj_map hb, K.check w _ hkey, h1, hz, Result.andThen]
    · simp [Instr.mapEntry, run_underlying ht, MapKept.run_getObj_map hb, K.check w false hkey, h1, hz, MapKept.run_setObj_map _ hb, Result.andThen, setBlock]
    · simp [Instr.mapUpdate, run_underlying ht, MapKept.run_getObj_map hb, K.check w false hkey, h1, MapKept.run_setObj_map _ hb, Result.andThen, setBlock]
  · have hj : es[j]? = some e0 := by simpa using h2
    have hsame : es.modify j (fun e => { e with key := key }) = es := by
      apply Array.ext'
      rw [Array.toList_modify, modify_eq_set _ _ _ _ h2]
      have : ({ e0 with key := key } : MapEntry) = e0 := by rw [← h3]
      rw [this]
      exact set_self _ _ _ h2
    have hsame2 : es.modify j (fun e' => { e' with key := key, val := e0.val }) = es := by
      apply Array.ext'
      rw [Array.toList_modify, modify_eq_set _ _ _ _ h2]
      have : ({ e0 with key := key, val := e0.val } : MapEntry) = e0 := by rw [← h3]
      rw [this]
      exact set_self _ _ _ h2
    refine ⟨e0.val, es, clock, e0.born, ?_, ?_, ?_⟩
    · simp [Instr.lookup, run_underlying ht, MapKept.run_getObj_map hb, K.check w _ hkey, h1, Result.andThen]
    · simp [Instr.mapEntry, run_underlying ht, MapKept.run_getObj_map hb, K.check w false hkey, h1, hj, h3, K.stays w hkey, hsame, MapKept.run_setObj_map _ hb, Result.andThen, setBlock]
    · simp [Instr.mapUpdate, run_underlying ht, MapKept.run_getObj_map hb, K.check w false hkey, h1, hj, h3, K.stays w hkey, hsame2, MapKept.run_setObj_map _ hb, Result.andThen, setBlock]
theorem setBlock_twice {w : World} {b : Nat} {x y : Obj} : setBlock (setBlock w b x) b y = setBlock w b y := by simp [setBlock]
end
theorem zeroF (w : World) : (zeroValue 3).run Try.prog w = .ok (.int .i64 0) w := by kernel_rfl

/-- 'seen[s]++', step by step, on a map of one's own. -/
structure IncrR (bm : Nat) (key : Value) (c : Int) (st : Int) (w wm wz : World) : Prop where
  look : (Instr.lookup 39 (.map (some bm)) key false).run Try.prog w = .ok (.int .i64 c) w
  entry : (Instr.mapEntry 39 (.map (some bm)) key).run Try.prog w = .ok (.tuple #[.int .i64 c, .int .i64 st]) wm
  look2 : (Instr.lookup 39 (.map (some bm)) key false).run Try.prog wm = .ok (.int .i64 c) wm
  store : (Instr.entryStore 39 (.map (some bm)) (.int .i64 st) (.int .i64 (c + 1))).run Try.prog wm = .ok () wz
  grown : w.grownBy wm (some bm)
  grown2 : w.grownBy wz (some bm)
theorem incr_all {w : World} {bm M : Nat} {D : D0} (hown : w.ownsMap Try.prog 48 (plainElem Try.prog 3) bm M D) (hM : M < 4611686018427387904) {s : Sp} (hs : s.Ok) (hb0 : ∀ c : Int, D.atKey (spK s) (.lit (.int .i64 0)) = .lit (.int .i64 c) → 0 ≤ c ∧ c ≤ 4611686018427387904) :
    ∃ c st wm wz, IncrR bm (spV s) c st w wm wz ∧ D.atKey (spK s) (.lit (.int .i64 0)) = .lit (.int .i64 c) ∧ wz.ownsMap Try.prog 48 (plainElem Try.prog 3) bm (M + 1) (D.put (spK s) (.lit (.int .i64 (c + 1)))) := by
  have hkey := spKey hs
  have hMm : M < maxLen := by unfold maxLen; omega
  obtain ⟨c, hrun, hat, hwc⟩ := hown.lookup_int lawS Try.underlying39 Try.underlying3 (zeroF w) hkey
  obtain ⟨c0, c1⟩ := hb0 c hat
  have hwc1 : (Lit.int .i64 (c + 1)).wf = true := WalkArith.wf_i64 (by omega)
  obtain ⟨w1, hu1, hown1, ht1⟩ := hown.store (val := .int .i64 c) lawS Try.underlying39 hMm hkey (plainElem_int Try.underlying3 hwc)
  obtain ⟨w2, hu2, hown2, ht2⟩ := hown.store (val := .int .i64 (c + 1)) lawS Try.underlying39 hMm hkey (plainElem_int Try.underlying3 hwc1)
  obtain ⟨c2, hrun2, hat2, _⟩ := hown1.lookup_int lawS Try.underlying39 Try.underlying3 (zeroF w1) hkey
  obtain ⟨es, clock, hb, F, _, hD⟩ := hown
  have hc2 : c2 = c := by
    rw [atKey_put_same (show IsMap D from ⟨_, hD⟩) (spK_key s)] at hat2
    injection hat2 with h
    injection h with _ h
    exact h.symm
  subst hc2
  obtain ⟨v0, es1, clock1, st, l1, l2, l3⟩ := entry_all lawK Try.underlying39 (z := .int .i64 0) zeroF hb F hkey
  obtain ⟨v0', st', es1', clock1', m1, _, m3⟩ := Go.WideElems.entry_then_store lawK Try.underlying39 (z := .int .i64 0) zeroF hb F hkey
  have e0 : v0 = .int .i64 c2 := by
    have := l1.symm.trans hrun
    injection this
  subst e0
  have e1 := l2.symm.trans m1
  injection e1 with e1 e2
  have e3 := l3.symm.trans hu1
  injection e3 with _ e3
  have hmid : w1.heap[bm]? = some (.map es1' clock1') := by
    rw [← e3, e2]
    exact Go.ChangeMaps.heap_setBlock_same hb _
  obtain ⟨es', clock', n1, n2⟩ := m3 w1 (.int .i64 (c2 + 1)) hmid
  have e4 := n2.symm.trans hu2
  injection e4 with _ e4
  have e5 : Go.ChangeMaps.setBlock w1 bm (.map es' clock') = w2 := by
    rw [← e3, e2, setBlock_twice] at *
    exact e4
  have e6 : goInt st' = .int .i64 (st' : Int) := rfl
  rw [e5] at n1
  refine ⟨c2, (st' : Int), w1, w2, ⟨l1, ?_, hrun2, n1, ht1.grown, ht2.grown⟩, hat, hown2⟩
  rw [m1, ← e1, ← e2, e3]
  injection e1 with e1
  have e7 := congrArg (fun a : Array Value => a[1]?) e1
  have e8 : goInt st = goInt st' := by simpa using e7
  rw [← e6, ← e8]

/-! ### what is kept while the finder goes on -/
def Kept2 (mid fb bm : Nat) (w0 W : World) : Prop := mid ≤ W.heap.size ∧ ∀ b, b < mid → b ≠ fb → b ≠ bm → W.heap[b]? = w0.heap[b]?
def FRow (n : Int) (vP vT vI : Value) (bm : Nat) (vE : Value) : Array Value := #[.int .i64 n, vP, vT, vI, .map (some bm), vE]
section
variable {w0 W : World} {mid fb bm bm' : Nat} {n : Int} {AP AT AI : Option Addr} {lP cP lT cT lI cI : Nat} {es : Array MapEntry} {clock : Nat}
theorem cell_kp {b o : Nat} {v : Value} (hk : Kept2 mid fb bm w0 W) (h : w0.cell? ⟨b, o, none⟩ = some v) (hb : b < mid) (h1 : b ≠ fb) (h2 : b ≠ bm) : W.cell? ⟨b, o, none⟩ = some v := by
  unfold World.cell? at *
  rw [hk.2 b hb h1 h2]
  exact h
theorem not_map {b o : Nat} {v : Value} (hm : w0.heap[bm]? = some (.map es clock)) (h : w0.cell? ⟨b, o, none⟩ = some v) : b ≠ bm := fun e => by
  subst e
  simp [World.cell?, hm] at h
theorem ws_kp (hF : FBox w0 fb n AP lP cP AT lT cT AI lI cI bm' (.slice none 0 0)) (hm : w0.heap[bm]? = some (.map es clock)) (hk : Kept2 mid fb bm w0 W) {A : Option Addr} {l : List Int} (h : Ws w0 mid A l) : Ws W mid A l := by
  refine ⟨fun k z hz => ?_, h.2⟩
  obtain ⟨b, off, hA, hlt, hc⟩ := h.1 k z hz
  refine ⟨b, off, hA, hlt, fun j u hu => ?_⟩
  have h1 := hc j u hu
  refine cell_kp hk h1 hlt (fun e => ?_) (not_map hm h1)
  subst e
  rw [row_cell hF] at h1
  have hj : u = .int .u32 z := by
    cases j with
    | zero => simpa [ints, Enc.of1] using hu.symm
    | succ j => simp [ints, Enc.of1] at hu
  subst hj
  generalize off + (k * (ints IntKind.u32).size + j) = o at h1
  rcases o with _ | _ | _ | _ | _ | _ | o <;> simp at h1
theorem clsl_kp (hF : FBox w0 fb n AP lP cP AT lT cT AI lI cI bm' (.slice none 0 0)) (hm : w0.heap[bm]? = some (.map es clock)) (hk : Kept2 mid fb bm w0 W) {A : Option Addr} {l : List Cl} (h : ClSl w0 mid A l) : ClSl W W.heap.size A l := by
  intro k x hx
  obtain ⟨b, off, Ar, c, hA, hlt, ⟨h0, h1, h2, h3, h4, h5, h6⟩, hr, hc⟩ := h k x hx
  have hne : b ≠ fb := fun e => by
    subst e
    rw [row_cell hF] at h0 h1
    generalize off + k * 7 = o at h0 h1
    rcases o with _ | _ | _ | _ | _ | _ | o <;> simp at h0 h1
  have hg : ∀ {o : Nat} {v : Value}, w0.cell? ⟨b, o, none⟩ = some v → W.cell? ⟨b, o, none⟩ = some v := fun {o v} q => cell_kp hk q hlt hne (not_map hm q)
  have hw := ws_kp hF hm hk hr
  refine ⟨b, off, Ar, c, hA, Nat.lt_of_lt_of_le hlt hk.1, ⟨hg h0, hg h1, hg h2, hg h3, hg h4, hg h5, hg h6⟩, hw.below (Below.refl _ W) hk.1, hc⟩
theorem itsl_kp (hF : FBox w0 fb n AP lP cP AT lT cT AI lI cI bm' (.slice none 0 0)) (hm : w0.heap[bm]? = some (.map es clock)) (hk : Kept2 mid fb bm w0 W) {A : Option Addr} {l : List (List Int)} (hne : ∀ b off, A = some ⟨b, off, none⟩ → b ≠ fb) (h : ItSl w0 mid A l) : ItSl W W.heap.size A l := by
  intro k r hr
  obtain ⟨b, off, Ar, c, hA, hlt, h0, hw, hc⟩ := h k r hr
  exact ⟨b, off, Ar, c, hA, Nat.lt_of_lt_of_le hlt hk.1, cell_kp hk h0 hlt (hne b off hA) (not_map hm h0), (ws_kp hF hm hk hw).below (Below.refl _ W) hk.1, hc⟩
end

/-- What is fixed while the finder goes on. -/
structure FixF (w0 : World) (lo mid fb bm : Nat) (n : Int) (P T : List Cl) (AP : Option Addr) (cP : Nat) (AT : Option Addr) (cT : Nat) (AI : Option Addr) (cI : Nat) : Prop where
  row : FBox w0 fb n AP P.length cP AT T.length cT AI (putI P).length cI bm (.slice none 0 0)
  map : ∃ es clock, w0.heap[bm]? = some (.map es clock)
  fbm : fb < mid ∧ bm < mid ∧ fb ≠ bm ∧ lo ≤ fb ∧ lo ≤ bm ∧ lo ≤ mid
  lens : P.length ≤ 60 ∧ T.length ≤ 60 ∧ P.length ≤ cP ∧ T.length ≤ cT
  clP : ClSl w0 mid AP P
  clT : ClSl w0 mid AT T
  its : ItSl w0 mid AI (putI P)
  itn : ∀ b off, AI = some ⟨b, off, none⟩ → b ≠ fb
  puts : ∀ x ∈ P, lfB x = true ∧ x.q = 3
/-- What turns while the finder goes on. -/
structure FS (w0 : World) (lo mid fb bm : Nat) (n : Int) (P T : List Cl) (AP : Option Addr) (cP : Nat) (AT : Option Addr) (cT : Nat) (AI : Option Addr) (cI M : Nat) (st : List Sp × List Int) (W : World) : Prop where
  own : ∃ vE, FBox W fb n AP P.length cP AT T.length cT AI (putI P).length cI bm vE ∧ Own (ints .i64) 3 mid W vE st.2
  seen : ∃ (D : D0) (cnt : Sp → Nat), W.ownsMap Try.prog 48 (plainElem Try.prog 3) bm M D ∧ SeenD D M st.1 cnt
  len : st.2.length ≤ M
  below : Below lo w0 W
  kept : Kept2 mid fb bm w0 W
section
variable {w0 W W' : World} {lo mid fb bm cP cT cI M M' : Nat} {n : Int} {P T : List Cl} {AP AT AI : Option Addr} {st : List Sp × List Int}
theorem FS.mono (h : FS w0 lo mid fb bm n P T AP cP AT cT AI cI M st W) (hM : M ≤ M') : FS w0 lo mid fb bm n P T AP cP AT cT AI cI M' st W := by
  obtain ⟨D, cnt, h1, h2⟩ := h.seen
  exact ⟨h.own, ⟨D, cnt, h1.mono hM, h2.mono hM⟩, Nat.le_trans h.len hM, h.below, h.kept⟩
theorem FS.go (h : FS w0 lo mid fb bm n P T AP cP AT cT AI cI M st W) (hx : FixF w0 lo mid fb bm n P T AP cP AT cT AI cI) (hb : Below W.heap.size W W') : FS w0 lo mid fb bm n P T AP cP AT cT AI cI M st W' := by
  obtain ⟨vE, f1, f2⟩ := h.own
  obtain ⟨D, cnt, h1, h2⟩ := h.seen
  have hk := h.kept
  exact ⟨⟨vE, row_kept f1 hb, f2.below hb (Nat.le_refl _)⟩, ⟨D, cnt, h1.kept (row := none) ⟨hb.os, hb.tape, hb.output, hb.size, fun i hi _ => hb.block i hi⟩ (by simp), h2⟩, h.len, h.below.trans (hb.mono (Nat.le_trans hx.fbm.2.2.2.2.2 h.kept.1)),
    ⟨Nat.le_trans hk.1 hb.size, fun b h1 h2 h3 => (hb.block b (by have := hk.1; omega)).trans (hk.2 b h1 h2 h3)⟩⟩
theorem FS.clP (h : FS w0 lo mid fb bm n P T AP cP AT cT AI cI M st W) (hx : FixF w0 lo mid fb bm n P T AP cP AT cT AI cI) : ClSl W W.heap.size AP P := by
  obtain ⟨es, clock, hm⟩ := hx.map
  exact clsl_kp hx.row hm h.kept hx.clP
theorem FS.clT (h : FS w0 lo mid fb bm n P T AP cP AT cT AI cI M st W) (hx : FixF w0 lo mid fb bm n P T AP cP AT cT AI cI) : ClSl W W.heap.size AT T := by
  obtain ⟨es, clock, hm⟩ := hx.map
  exact clsl_kp hx.row hm h.kept hx.clT
theorem FS.items (h : FS w0 lo mid fb bm n P T AP cP AT cT AI cI M st W) (hx : FixF w0 lo mid fb bm n P T AP cP AT cT AI cI) : ItSl W W.heap.size AI (putI P) := by
  obtain ⟨es, clock, hm⟩ := hx.map
  exact itsl_kp hx.row hm h.kept hx.itn hx.its
/-- The map has turned. -/
theorem FS.turned (h : FS w0 lo mid fb bm n P T AP cP AT cT AI cI M st W) (hx : FixF w0 lo mid fb bm n P T AP cP AT cT AI cI) (hg : W.grownBy W' (some bm)) {seen' : List Sp} (hs : ∃ (D : D0) (cnt : Sp → Nat), W'.ownsMap Try.prog 48 (plainElem Try.prog 3) bm (M + 1) D ∧ SeenD D (M + 1) seen' cnt) :
    FS w0 lo mid fb bm n P T AP cP AT cT AI cI (M + 1) (seen', st.2) W' := by
  obtain ⟨vE, f1, f2⟩ := h.own
  obtain ⟨g1, g2, g3, g4, g5, g6⟩ := hx.fbm
  have hk := h.kept
  have hl1 := row_lt f1
  refine ⟨⟨vE, (hg.block fb hl1 (by simp [g3])).trans f1, f2.1, ?_⟩, hs, Nat.le_succ_of_le h.len, h.below.grown hg (Nat.le_trans hx.fbm.2.2.2.2.2 h.kept.1) (fun j hj => by cases hj; exact g5), ⟨Nat.le_trans hk.1 hg.size, fun b h1 h2 h3 => (hg.block b (by have := hk.1; omega) (by simp [h3])).trans (hk.2 b h1 h2 h3)⟩⟩
  rcases f2.2 with q | ⟨g, cap, cur, hv, hgb, hh, r⟩
  · exact .inl q
  · exact .inr ⟨g, cap, cur, hv, hgb, (hg.block g (Array.getElem?_eq_some_iff.1 hh).1 (by simp; omega)).trans hh, r⟩
/-- An end has been noted. -/
theorem FS.noted (h : FS w0 lo mid fb bm n P T AP cP AT cT AI cI M st W) (hx : FixF w0 lo mid fb bm n P T AP cP AT cT AI cI) {vE v' : Value} {k : Int} (f1 : FBox W fb n AP P.length cP AT T.length cT AI (putI P).length cI bm vE) (_f2 : Own (ints .i64) 3 mid W vE st.2)
    (ho : W'.ownsRow mid 3 1 v' (st.2.length + 1) ((ints .i64).all st.2 ++ [.int .i64 k])) (hb : Below mid (W.alloc (.cells #[.int .i64 k] 3)) W') (hl : st.2.length + 1 ≤ M)
    (_hk : ∀ j, j < (W.alloc (.cells #[.int .i64 k] 3)).heap.size → some j ≠ vE.ownBlock → W'.heap[j]? = (W.alloc (.cells #[.int .i64 k] 3)).heap[j]?) :
    FS w0 lo mid fb bm n P T AP cP AT cT AI cI M (st.1, st.2 ++ [k]) (W'.setCell ⟨fb, 5, none⟩ v') := by
  obtain ⟨g1, g2, g3, g4, g5, g6⟩ := hx.fbm
  have hk0 := h.kept
  have hba := (Below.refl mid W).alloc hk0.1 (.cells #[.int .i64 k] 3)
  have hbm := hba.trans hb
  have f1' : FBox W' fb n AP P.length cP AT T.length cT AI (putI P).length cI bm vE := (hbm.block fb g1).trans f1
  have ho' : Own (ints .i64) 3 mid W' v' (st.2 ++ [k]) := Own.app ho rfl
  obtain ⟨D, cnt, h1, h2⟩ := h.seen
  have hsz := hbm.size
  have hk1 := hk0.1
  refine ⟨⟨v', by simpa [FBox] using lrow_set W' fb _ _ 5 v' f1', ho'.1, ?_⟩, ⟨D, cnt, ?_, h2⟩, by rw [List.length_append]; exact hl, (h.below.trans (hbm.mono g6)).setCell (p := ⟨fb, 5, none⟩) g4 v', ⟨by rw [lsize_set]; omega, fun b h1 h2 h3 => ?_⟩⟩
  · rcases ho'.2 with q | ⟨g, cap, cur, hv, hgb, hh, r⟩
    · exact .inl q
    · exact .inr ⟨g, cap, cur, hv, hgb, row_other hh fb 5 v' (by omega), r⟩
  · refine World.ownsMap.setCell ?_ (a := ⟨fb, 5, none⟩) (fun e => g3 e.symm) v'
    obtain ⟨es, clock, hb2, r⟩ := h1
    exact ⟨es, clock, (hbm.block bm g2).trans hb2, r⟩
  · rw [lheap_set W' fb 5 v' b h2, hbm.block b h1]
    exact hk0.2 b h1 h2 h3
end

end Go.Proofs.Ytgmmblknaeepbaa
