/- Texts joined: A call's line, and what is read of a line: of no program. Histories: words alike, calls alike. coxswainplain.Calls of the same calls; history.Sort, Of, By; what sorting twice brings. The reference's Before. Histories: the reference's Right. -/
import Derived.Test.YtgmmblknaeepbaaZa
import Derived.Test.YtgmmblknaeepbaaZh4
import Derived.Deep.QuietTactic
import Derived.BigQuiet
namespace Go.Proofs.Ytgmmblknaeepbaa
open Go.RowKit

def opsW : List (List UInt8) := [[], [114, 101, 97, 100], [119, 114, 105, 116, 101], [112, 117, 116], [116, 97, 107, 101]]
def codesW : List (List UInt8) := [[103, 111, 111, 100], [114, 101, 116, 114, 121], [102, 117, 108, 108], [101, 109, 112, 116, 121]]
def opW (q : Int) : List UInt8 := opsW.getD q.toNat []
def codeW (c : Int) : List UInt8 := codesW.getD c.toNat []
def endW (e : Int) : List UInt8 := if 0 ≤ e then Lib.decDigits e.toNat else [45]
def six (x : Cl) : List (List UInt8) := [Lib.decDigits x.p.toNat, Lib.decDigits x.o.toNat, opW x.q, Lib.decDigits x.b.toNat, endW x.e, codeW x.c]
def recW (x : Cl) : List (List UInt8) := x.r.map fun z => Lib.decDigits z.toNat
def partsH (x : Cl) : List (List UInt8) := six x ++ recW x
def lineH (x : Cl) : List UInt8 := Lib.join (partsH x) [32]
def lineHS (x : Cl) : ByteArray := ⟨(lineH x).toArray⟩

/-- history's number of a word. -/
def numH (l : List UInt8) : Int := if l.all digB = true ∧ l ≠ [] ∧ l.length ≤ 13 then (dv l : Int) else -2
/-- where a word stands -/
def idxW (ws : List (List UInt8)) (w : List UInt8) : Int := match ws.findIdx? fun x => x == w with
  | some k => k
  | none => -1
structure RecIn (x : Cl) : Prop where
  r0 : ∀ z ∈ x.r, 0 ≤ z ∧ z < 4294967296
structure ClR (x : Cl) : Prop where
  p : 0 ≤ x.p ∧ x.p ≤ 1099511627776
  o : 0 ≤ x.o ∧ x.o ≤ 1099511627776
  b : 0 ≤ x.b ∧ x.b ≤ 1099511627776
  q : 1 ≤ x.q ∧ x.q ≤ 4
  c : 0 ≤ x.c ∧ x.c ≤ 3
  e : x.e = -1 ∨ (x.b ≤ x.e ∧ 0 ≤ x.e ∧ x.e ≤ 1099511627776)
  r : x.r.length ≤ 8
theorem clB_iff {x : Cl} : clB x = true ↔ ClR x := by
  unfold clB inT
  simp only [Bool.and_eq_true, Bool.or_eq_true, decide_eq_true_iff, beq_iff_eq]
  constructor
  · rintro ⟨⟨⟨⟨⟨⟨⟨⟨h1, h2⟩, h3⟩, h4⟩, h5⟩, h6⟩, h7⟩, h8⟩, h9⟩
    exact ⟨h1, h2, h3, ⟨h4, h5⟩, ⟨h6, h7⟩, h8, h9⟩
  · rintro ⟨h1, h2, h3, ⟨h4, h5⟩, ⟨h6, h7⟩, h8, h9⟩
    exact ⟨⟨⟨⟨⟨⟨⟨⟨h1, h2⟩, h3⟩, h4⟩, h5⟩, h6⟩, h7⟩, h8⟩, h9⟩

theorem ddh_no (c : UInt8) (hc : digB c = false) (u : Nat) : ∀ b ∈ Lib.decDigits u, b ≠ c := fun b hb e => by
  have := List.all_eq_true.1 (dd_all (u + 1) u (by omega)) b hb
  rw [e, hc] at this
  cases this
theorem wordsH_no (ws : List (List UInt8)) (c : UInt8) (h : (ws.all fun w => w.all fun b => b != c) = true) (k : Nat) : ∀ b ∈ ws.getD k [], b ≠ c := fun b hb e => by
  rw [List.getD_eq_getElem?_getD] at hb
  cases hw : ws[k]? with
  | none => rw [hw] at hb; cases hb
  | some x =>
    rw [hw] at hb
    have := List.all_eq_true.1 (List.all_eq_true.1 h x (List.mem_of_getElem? hw)) b hb
    rw [e] at this
    simp at this
theorem endW_no (c : UInt8) (hc : digB c = false) (h45 : c ≠ 45) (e : Int) : ∀ b ∈ endW e, b ≠ c := fun b hb h => by
  unfold endW at hb
  split at hb
  · exact ddh_no c hc _ b hb h
  · rw [List.mem_singleton.1 hb] at h
    exact h45 h.symm
theorem partsH_no (x : Cl) : ∀ p ∈ partsH x, ∀ b ∈ p, b ≠ 32 := by
  intro p hp
  unfold partsH six recW at hp
  rcases List.mem_append.1 hp with hp | hp
  · simp only [List.mem_cons, List.not_mem_nil, or_false] at hp
    rcases hp with rfl | rfl | rfl | rfl | rfl | rfl
    · exact ddh_no 32 (by decide) _
    · exact ddh_no 32 (by decide) _
    · exact wordsH_no opsW 32 (by decide) _
    · exact ddh_no 32 (by decide) _
    · exact endW_no 32 (by decide) (by decide) _
    · exact wordsH_no codesW 32 (by decide) _
  · obtain ⟨z, _, rfl⟩ := List.mem_map.1 hp
    exact ddh_no 32 (by decide) _
theorem lineH_pcs (x : Cl) : pcs 32 (lineH x) = partsH x := pcs_join _ (by simp [partsH, six]) (partsH_no x)

theorem numH_dd {z : Int} (h : 0 ≤ z ∧ z ≤ 1099511627776) : numH (Lib.decDigits z.toNat) = z := by
  unfold numH
  rw [if_pos ⟨dd_all (z.toNat + 1) _ (by omega), dd_ne _, dd_len 12 _ (by omega)⟩, dd_dv (z.toNat + 1) _ (by omega)]
  omega
theorem digNV_dd {z : Int} (h : 0 ≤ z ∧ z ≤ 1099511627776) : digNV (Lib.decDigits z.toNat) = z := by
  rw [digNV_yes (dd_all (z.toNat + 1) _ (by omega)) (by have := dd_len 12 z.toNat (by omega); omega), dd_dv (z.toNat + 1) _ (by omega)]
  omega
theorem idx_op {q : Int} (h : 1 ≤ q ∧ q ≤ 4) : idxW opsW (opW q) = q := by
  have : q = 1 ∨ q = 2 ∨ q = 3 ∨ q = 4 := by omega
  rcases this with rfl | rfl | rfl | rfl <;> decide
theorem idx_code {c : Int} (h : 0 ≤ c ∧ c ≤ 3) : idxW codesW (codeW c) = c := by
  have : c = 0 ∨ c = 1 ∨ c = 2 ∨ c = 3 := by omega
  rcases this with rfl | rfl | rfl | rfl <;> decide
theorem endW_back {e : Int} (h : e = -1 ∨ 0 ≤ e) : (endW e = [45] ↔ e = -1) ∧ (0 ≤ e → endW e = Lib.decDigits e.toNat) := by
  constructor
  · unfold endW
    constructor
    · intro hh
      split at hh
      · exfalso
        have := ddh_no 45 (by decide) e.toNat 45 (by rw [hh]; simp)
        exact this rfl
      · omega
    · intro hh
      rw [if_neg (by omega)]
  · intro hh
    unfold endW
    rw [if_pos hh]

/-- What a line may be of: the numbers by num, the rest by rest. -/
def candH (num : List UInt8 → Int) (rest : List (List UInt8) → List Int) (ps : List (List UInt8)) : Cl :=
  ⟨num (ps.getD 0 []), num (ps.getD 1 []), idxW opsW (ps.getD 2 []), rest (ps.drop 6), idxW codesW (ps.getD 5 []), num (ps.getD 3 []), if ps.getD 4 [] = [45] then -1 else num (ps.getD 4 [])⟩
theorem candH_line {num : List UInt8 → Int} {rest : List (List UInt8) → List Int} (hn : ∀ z : Int, 0 ≤ z ∧ z ≤ 1099511627776 → num (Lib.decDigits z.toNat) = z) {x : Cl} (hr : rest (recW x) = x.r) (h : ClR x) : candH num rest (partsH x) = x := by
  obtain ⟨p, o, q, r, c, b, e⟩ := x
  obtain ⟨hp, ho, hb, hq, hc, he, _⟩ := h
  simp only at hp ho hb hq hc he hr
  have hd : (partsH ⟨p, o, q, r, c, b, e⟩).drop 6 = recW ⟨p, o, q, r, c, b, e⟩ := rfl
  have g0 : (partsH ⟨p, o, q, r, c, b, e⟩).getD 0 [] = Lib.decDigits p.toNat := rfl
  have g1 : (partsH ⟨p, o, q, r, c, b, e⟩).getD 1 [] = Lib.decDigits o.toNat := rfl
  have g2 : (partsH ⟨p, o, q, r, c, b, e⟩).getD 2 [] = opW q := rfl
  have g3 : (partsH ⟨p, o, q, r, c, b, e⟩).getD 3 [] = Lib.decDigits b.toNat := rfl
  have g4 : (partsH ⟨p, o, q, r, c, b, e⟩).getD 4 [] = endW e := rfl
  have g5 : (partsH ⟨p, o, q, r, c, b, e⟩).getD 5 [] = codeW c := rfl
  unfold candH
  rw [hd, g0, g1, g2, g3, g4, g5, hn p hp, hn o ho, hn b hb, idx_op hq, idx_code hc, hr]
  obtain ⟨e1, e2⟩ := endW_back (e := e) (by rcases he with he | he; exact .inl he; exact .inr he.2.1)
  rcases he with he | he
  · rw [if_pos (e1.2 he), he]
  · rw [if_neg (fun hh => by have := e1.1 hh; omega), e2 he.2.1, hn e ⟨he.2.1, he.2.2⟩]
/-- The call of a line, if there is one. -/
def readHBy (f : List (List UInt8) → Cl) (s : List UInt8) : Option Cl := if 6 ≤ (pcs 32 s).length ∧ clB (f (pcs 32 s)) = true ∧ lineH (f (pcs 32 s)) = s then some (f (pcs 32 s)) else none
theorem readHBy_line {f : List (List UInt8) → Cl} {x : Cl} (hf : f (partsH x) = x) (h : clB x = true) : readHBy f (lineH x) = some x := by
  unfold readHBy
  rw [lineH_pcs, hf, if_pos ⟨by simp [partsH, six], h, rfl⟩]
theorem readHBy_some {f : List (List UInt8) → Cl} {s : List UInt8} {x : Cl} (h : readHBy f s = some x) : clB x = true ∧ lineH x = s ∧ x = f (pcs 32 s) := by
  unfold readHBy at h
  split at h
  · rename_i hc
    injection h with h
    subst h
    exact ⟨hc.2.1, hc.2.2, rfl⟩
  · cases h

/-- Both ways to read give the same, if both give the numbers back. -/
theorem readH_both {f g : List (List UInt8) → Cl} (hf : ∀ x, clB x = true → (∀ z ∈ x.r, 0 ≤ z ∧ z < 4294967296) → f (partsH x) = x) (hg : ∀ x, clB x = true → (∀ z ∈ x.r, 0 ≤ z ∧ z < 4294967296) → g (partsH x) = x)
    (hfr : ∀ ps, ∀ z ∈ (f ps).r, 0 ≤ z ∧ z < 4294967296) (hgr : ∀ ps, ∀ z ∈ (g ps).r, 0 ≤ z ∧ z < 4294967296) (s : List UInt8) : readHBy f s = readHBy g s := by
  cases h : readHBy f s with
  | some x =>
    obtain ⟨h1, h2, h3⟩ := readHBy_some h
    have hr : ∀ z ∈ x.r, 0 ≤ z ∧ z < 4294967296 := by rw [h3]; exact hfr _
    rw [← h2, readHBy_line (hg x h1 hr) h1]
  | none =>
    cases h' : readHBy g s with
    | none => rfl
    | some x =>
      obtain ⟨h1, h2, h3⟩ := readHBy_some h'
      have hr : ∀ z ∈ x.r, 0 ≤ z ∧ z < 4294967296 := by rw [h3]; exact hgr _
      rw [← h2, readHBy_line (hf x h1 hr) h1] at h
      cases h

end Go.Proofs.Ytgmmblknaeepbaa

namespace Go.Proofs.Ytgmmblknaeepbaa
open Go.RowKit

def clEq (x y : Cl) : Bool := x.p == y.p && (x.o == y.o && (x.q == y.q && (decide (x.r = y.r) && (x.c == y.c && (x.b == y.b && x.e == y.e)))))
theorem clEq_self (x : Cl) : clEq x x = true := by simp [clEq]
end Go.Proofs.Ytgmmblknaeepbaa

namespace Go.Proofs.Ytgmmblknaeepbaa
open Go.RowKit
attribute [local go_sem] Oper.semAt_some

/-! ### sorted twice -/
def ltP (e f : Cl × Nat) : Prop := e.1.b < f.1.b ∨ (e.1.b = f.1.b ∧ (e.1.p < f.1.p ∨ (e.1.p = f.1.p ∧ e.2 < f.2)))
def El.pr (e : El) : Cl × Nat := (e.x, e.t)
theorem srt_pr {L : List El} (h : Srt ltE L) : Srt ltP (L.map El.pr) := List.pairwise_map.2 (List.Pairwise.imp (fun h => h) h)
def Tagged (L : List El) : Prop := ∀ (k : Nat) (e : El), L[k]? = some e → e.t = k
theorem Tagged.pairs {L M : List El} (hL : Tagged L) (hM : Tagged M) (h : L.map (·.x) = M.map (·.x)) : L.map El.pr = M.map El.pr := by
  apply List.ext_getElem?
  intro k
  have hk := congrArg (·[k]?) h
  simp only [List.getElem?_map] at hk ⊢
  rcases h1 : L[k]? with _ | e <;> rcases h2 : M[k]? with _ | f <;> simp only [h1, h2, Option.map_none, Option.map_some, reduceCtorEq] at hk ⊢
  · have hx : e.x = f.x := by simpa using hk
    show some (e.x, e.t) = some (f.x, f.t)
    rw [hx, hL k e h1, hM k f h2]
theorem Tagged.lt {L : List El} (h : Tagged L) : L.Pairwise fun e f => e.t < f.t := by
  rw [List.pairwise_iff_getElem]
  intro i j hi hj hij
  rw [h i _ (List.getElem?_eq_getElem hi), h j _ (List.getElem?_eq_getElem hj)]
  exact hij
theorem sort_same {L L0 M M0 : List El} (t1 : Tagged L0) (t2 : Tagged M0) (he : L0.map (·.x) = M0.map (·.x)) (p1 : L.Perm L0) (p2 : M.Perm M0) (s1 : Srt ltE L) (s2 : Srt ltE M) : L.map (·.x) = M.map (·.x) := by
  have hp : (L.map El.pr).Perm (M.map El.pr) := by
    refine (p1.map El.pr).trans ?_
    rw [t1.pairs t2 he]
    exact (p2.map El.pr).symm
  have := Srt.unique (lt := ltP) (fun x => by unfold ltP; omega) (fun x y z => by unfold ltP; omega) (srt_pr s1) (srt_pr s2) hp
  have h2 := congrArg (List.map (·.1)) this
  simpa [List.map_map, El.pr, Function.comp_def] using h2

/-! ### Sort, Of, By -/
theorem OwnC.sl {base : Nat} {w : World} {v : Value} {L : List El} (h : OwnC base w v L) : ∃ A c, v = .slice A L.length c ∧ L.length ≤ c ∧ ClSl w w.heap.size A (L.map (·.x)) := by
  rcases h.rows with ⟨rfl, rfl⟩ | ⟨g, cap, rfl, hg, hr, h1, h2⟩
  · exact ⟨none, 0, rfl, Nat.le_refl _, fun k x hx => by simp at hx⟩
  · exact ⟨_, cap, rfl, h1, hr.sl h.2⟩
set_option maxHeartbeats 1000000 in
theorem hsort_any (A : Option Addr) (c : Nat) (l : List Cl) (w : World) (hn : l.length ≤ 60) (hr : ∀ x ∈ l, x.r.length ≤ 100) (hl : ClSl w w.heap.size A l) :
    Calls Try.prog 32 #[.slice A l.length c] w fun e w' => ∃ A' c' L M, e = .returned (.slice A' l.length c') ∧ ClSl w' w'.heap.size A' (M.map (·.x)) ∧ L.map (·.x) = l ∧ Tagged L ∧ M.Perm L ∧ Srt ltE M ∧ Below w.heap.size w w' := by
  have hp := Lib.hid (pickAll_any A c l w hn hr hl)
  go_enter Try.func32, Try.ntmps32
  go_wp2_with fail
  refine hp.out.mono ?_
  rintro e w1 ⟨v, L, rfl, ⟨hown, heq, htg⟩, hb⟩
  have heq : L.map (·.x) = l := by rw [heq]; simp
  have hll : L.length = l.length := by rw [← heq, List.length_map]
  rcases hown.rows with ⟨rfl, rfl⟩ | ⟨g, cap, rfl, hg, hrow, h1, h2⟩
  · have h0 : l = [] := by rw [← heq]; rfl
    subst h0
    go_wp2_with fail
    refine (sort_none w1).mono ?_
    rintro e w2 ⟨rfl, rfl⟩
    go_wp2_with fail
    go_ret
    exact ⟨none, 0, [], [], rfl, (fun k x hx => by simp at hx), rfl, htg, List.Perm.refl _, List.Pairwise.nil, hb⟩
  · have hs := Lib.hid (sort_any g cap L.length L w1 hrow (Tagged.lt htg) rfl h1 (by omega))
    have hrec := Lib.hid hown.2
    have hrow' := Lib.hid hrow
    clear hrow hown
    rw [hll]
    rw [hll] at hs
    go_wp2_with fail
    refine hs.out.mono ?_
    rintro e w2 ⟨rfl, M, hr2, hp2, hs2, hk2⟩
    have hku := KeepU.kpg hk2 hrow'.out
    go_wp2_with fail
    go_ret
    exact ⟨_, cap, L, M, rfl, hr2.sl (fun e he => (hrec.out e (hp2.subset he)).keep hku), heq, htg, hp2, hs2, hb.trans (hk2.below _ hg hb.size)⟩
end Go.Proofs.Ytgmmblknaeepbaa

namespace Go.Proofs.Ytgmmblknaeepbaa
open Go.RowKit

theorem rbefore_any (x y : Cl) (A A' : Option Addr) (c c' : Nat) (w : World) : Calls Try.prog 28 #[clV x A c, clV y A' c'] w fun r w' => r = .returned (.bool (befB x y)) ∧ Below w.heap.size w w' := by
  obtain ⟨p, o, q, r, cc, b, e⟩ := x
  obtain ⟨p2, o2, q2, r2, cc2, b2, e2⟩ := y
  unfold clV
  simp only
  have hr : befB ⟨p, o, q, r, cc, b, e⟩ ⟨p2, o2, q2, r2, cc2, b2, e2⟩ = (decide (0 ≤ e) && decide (e < b2)) := rfl
  rw [hr]
  rcases h1 : decide (0 ≤ e) with _ | _ <;> rcases h2 : decide (e < b2) with _ | _
  all_goals
    go_enter Try.func28, Try.ntmps28
    go_wp2_with fail
    go_ret
    exact ⟨rfl, ((Below.refl _ w).alloc (Nat.le_refl _) _).alloc (by simp) _⟩

end Go.Proofs.Ytgmmblknaeepbaa

namespace Go.Proofs.Ytgmmblknaeepbaa
open Go.RowKit

/-- What the region of the reference's Right keeps. -/
def RhSt (w : World) (b off i k : Nat) (x y : Cl) (Ax Ay : Option Addr) (cx cy : Nat) (w' : World) : Prop := Below w.heap.size w w' ∧ w'.cell? ⟨b, off + i * 7, none⟩ = some (.int .i64 x.p) ∧ w'.cell? ⟨b, off + i * 7 + 1, none⟩ = some (.int .i64 x.o) ∧ w'.cell? ⟨b, off + i * 7 + 2, none⟩ = some (.int .i64 x.q) ∧ w'.cell? ⟨b, off + i * 7 + 3, none⟩ = some (.slice Ax x.r.length cx) ∧ w'.cell? ⟨b, off + i * 7 + 4, none⟩ = some (.int .i64 x.c) ∧ w'.cell? ⟨b, off + i * 7 + 5, none⟩ = some (.int .i64 x.b) ∧ w'.cell? ⟨b, off + i * 7 + 6, none⟩ = some (.int .i64 x.e) ∧ w'.cell? ⟨b, off + k * 7, none⟩ = some (.int .i64 y.p) ∧ w'.cell? ⟨b, off + k * 7 + 1, none⟩ = some (.int .i64 y.o) ∧ w'.cell? ⟨b, off + k * 7 + 2, none⟩ = some (.int .i64 y.q) ∧ w'.cell? ⟨b, off + k * 7 + 3, none⟩ = some (.slice Ay y.r.length cy) ∧ w'.cell? ⟨b, off + k * 7 + 4, none⟩ = some (.int .i64 y.c) ∧ w'.cell? ⟨b, off + k * 7 + 5, none⟩ = some (.int .i64 y.b) ∧ w'.cell? ⟨b, off + k * 7 + 6, none⟩ = some (.int .i64 y.e)
theorem RhSt.below {w w1 w' : World} {b off i k : Nat} {x y : Cl} {Ax Ay : Option Addr} {cx cy : Nat} (h : RhSt w b off i k x y Ax Ay cx cy w1) (hb : Below w1.heap.size w1 w') : RhSt w b off i k x y Ax Ay cx cy w' := by
  obtain ⟨h1, a0, a1, a2, a3, a4, a5, a6, b0, b1, b2, b3, b4, b5, b6⟩ := h
  have hk : ∀ {i : Nat} {u : Value}, w1.cell? ⟨b, i, none⟩ = some u → w'.cell? ⟨b, i, none⟩ = some u := fun {i u} hc => (hb.cell (p := ⟨b, i, none⟩) (cell_lt hc)).trans hc
  exact ⟨h1.trans (hb.mono h1.size), hk a0, hk a1, hk a2, hk a3, hk a4, hk a5, hk a6, hk b0, hk b1, hk b2, hk b3, hk b4, hk b5, hk b6⟩
theorem rightH_all {l : List Cl} (h : ∀ (i : Nat) (x : Cl), l[i]? = some x → clB x = true ∧ ∀ (k : Nat) (y : Cl), i ≠ k → l[k]? = some y → pairB x y = true) : rightH l = true :=
  rightH_yes fun i _ x hx => ⟨(h i x hx).1, fun k y hk hy => (h i x hx).2 k y (by omega) hy⟩

set_option maxRecDepth 100000 in
set_option maxHeartbeats 8000000 in
theorem rhistRight_any (A : Option Addr) (c : Nat) (l : List Cl) (w : World) (hn : l.length ≤ 1000) (hl : ClSl w w.heap.size A l) :
    Calls Try.prog 16 #[.slice A l.length c] w fun e w' => e = .returned (.bool (rightH l)) ∧ Below w.heap.size w w' := by
  go_enter Try.func16, Try.ntmps16
  go_wp2_with fail
  go_loopw [7] (fun j wr => ∃ i : Nat, i ≤ l.length ∧ j = .int .i64 i ∧ (∀ (n : Nat) (x : Cl), n < i → l[n]? = some x → clB x = true ∧ ∀ (k : Nat) (y : Cl), n ≠ k → l[k]? = some y → pairB x y = true) ∧ Below w.heap.size w wr) (fun j _ => l.length - (intOf j).toNat)
  case atStart => exact ⟨0, Nat.zero_le _, rfl, fun n x h => by omega, Below.refl _ _⟩
  case round =>
    obtain ⟨i, hi, rfl, hall, hb⟩ := hrel
    by_cases hlt : i < l.length
    · obtain ⟨x, hx⟩ := get_some hlt
      obtain ⟨b, off, Ax, cx, rfl, hlb, _, _, _, _⟩ := (hl.below hb (Nat.le_refl _)) i x hx
      have hx' := Lib.hid hx
      have hall' := Lib.hid hall
      clear hx hall
      have i0 : (0 : Int) ≤ (i : Int) := by omega
      have i1 : (i : Int) < (l.length : Int) := by omega
      go_wp2_with fail
      go_loopw [12] (fun j wr => ∃ k : Nat, k ≤ l.length ∧ j = .int .i64 k ∧ (∀ (n : Nat) (y : Cl), n < k → i ≠ n → l[n]? = some y → pairB x y = true) ∧ Below w.heap.size w wr) (fun j _ => l.length - (intOf j).toNat)
      case atStart => exact ⟨0, Nat.zero_le _, rfl, fun n y h => by omega, hb⟩
      case round =>
        obtain ⟨k, hk, rfl, hpm, hbq⟩ := hrel
        by_cases hlm : k < l.length
        · obtain ⟨y, hy⟩ := get_some hlm
          obtain ⟨b', off', Ay, cy, hA, _, ⟨g0, g1, g2, g3, g4, g5, g6⟩, _, hd1, hd2⟩ := (hl.below hbq (Nat.le_refl _)) k y hy
          injection hA with hA
          injection hA with hA1 hA2
          subst hA1 hA2
          obtain ⟨b', off', Ax2, cx2, hA, _, ⟨a0, a1, a2, a3, a4, a5, a6⟩, _, _, _⟩ := (hl.below hbq (Nat.le_refl _)) i x hx'.out
          injection hA with hA
          injection hA with hA1 hA2
          subst hA1 hA2
          have hSd : RhSt w b off i k x y Ax2 Ay cx2 cy wr.drew := (show RhSt w b off i k x y Ax2 Ay cx2 cy wr from ⟨hbq, a0, a1, a2, a3, a4, a5, a6, g0, g1, g2, g3, g4, g5, g6⟩).below (Below.refl _ wr).drew
          have k0 : (0 : Int) ≤ (k : Int) := by omega
          have k1 : (k : Int) < (l.length : Int) := by omega
          have hb1 := Lib.hid (fun W => rbefore_any x y Ax2 Ay cx2 cy W)
          have hb2 := Lib.hid (fun W => rbefore_any y x Ay Ax2 cy cx2 W)
          have hy' := Lib.hid hy
          have hpm' := Lib.hid hpm
          have hP := pairB_cases x y
          clear hy hpm a0 a1 a2 a3 a4 a5 a6 g0 g1 g2 g3 g4 g5 g6 hbq
          by_cases hik : i = k
          · have t1 : ((i : Int) != (k : Int)) = false := by simp [hik]
            have hik' := Lib.hid hik
            clear hik hP
            go_wp2_with fail
            refine wp_region_held_drew (S := fun w' => Below w.heap.size w w' ∧ w'.cell? ⟨b, off + i * 7, none⟩ = some (.int .i64 x.p) ∧ w'.cell? ⟨b, off + i * 7 + 1, none⟩ = some (.int .i64 x.o) ∧ w'.cell? ⟨b, off + i * 7 + 2, none⟩ = some (.int .i64 x.q) ∧ w'.cell? ⟨b, off + i * 7 + 3, none⟩ = some (.slice Ax2 x.r.length cx2) ∧ w'.cell? ⟨b, off + i * 7 + 4, none⟩ = some (.int .i64 x.c) ∧ w'.cell? ⟨b, off + i * 7 + 5, none⟩ = some (.int .i64 x.b) ∧ w'.cell? ⟨b, off + i * 7 + 6, none⟩ = some (.int .i64 x.e) ∧ w'.cell? ⟨b, off + k * 7, none⟩ = some (.int .i64 y.p) ∧ w'.cell? ⟨b, off + k * 7 + 1, none⟩ = some (.int .i64 y.o) ∧ w'.cell? ⟨b, off + k * 7 + 2, none⟩ = some (.int .i64 y.q) ∧ w'.cell? ⟨b, off + k * 7 + 3, none⟩ = some (.slice Ay y.r.length cy) ∧ w'.cell? ⟨b, off + k * 7 + 4, none⟩ = some (.int .i64 y.c) ∧ w'.cell? ⟨b, off + k * 7 + 5, none⟩ = some (.int .i64 y.b) ∧ w'.cell? ⟨b, off + k * 7 + 6, none⟩ = some (.int .i64 y.e)) (by kernel_rfl) hSd (fun hHeld => ?_)
            refine wpAnyH_take (i := 0) (oi := ?_) (v := ?_) ?_ (by kernel_rfl) (by kernel_rfl) (by kernel_rfl) ?_ (Or.inl ⟨?_, ?_⟩) (by assumption) ?_
            rotate_left 2
            · (simp only [List.getElem?_toArray, List.getElem?_cons_zero]; rfl)
            · first | exact fun _ _ _ h => h | exact fun _ _ _ h => by cases h.1
            · rfl
            · ((intro wq hSq; (try dsimp only at hSq); go_simp); (try with_reducible rfl))
            try simp only [Act.put, List.setIfInBounds_toArray, List.set_cons_zero, List.set_cons_succ]
            refine wpAnyH_take (i := 1) (oi := ?_) (v := ?_) ?_ (by kernel_rfl) (by kernel_rfl) (by kernel_rfl) ?_ (Or.inl ⟨?_, ?_⟩) (by assumption) ?_
            rotate_left 2
            · (simp only [List.getElem?_toArray, List.getElem?_cons_succ, List.getElem?_cons_zero]; rfl)
            · first | exact fun _ _ _ h => h | exact fun _ _ _ h => by cases h.1
            · rfl
            · ((intro wq hSq; (try dsimp only at hSq); go_simp); (try with_reducible rfl))
            try simp only [Act.put, List.setIfInBounds_toArray, List.set_cons_zero, List.set_cons_succ]
            refine wpAnyH_take (i := 2) (oi := ?_) (v := ?_) ?_ (by kernel_rfl) (by kernel_rfl) (by kernel_rfl) ?_ (Or.inl ⟨?_, ?_⟩) (by assumption) ?_
            rotate_left 2
            · (simp only [List.getElem?_toArray, List.getElem?_cons_succ, List.getElem?_cons_zero]; rfl)
            · first | exact fun _ _ _ h => h | exact fun _ _ _ h => by cases h.1
            · rfl
            · ((intro wq hSq; (try dsimp only at hSq); go_simp); (try with_reducible rfl))
            try simp only [Act.put, List.setIfInBounds_toArray, List.set_cons_zero, List.set_cons_succ]
            refine wpAnyH_take (i := 3) (oi := ?_) (v := ?_) ?_ (by kernel_rfl) (by kernel_rfl) (by kernel_rfl) ?_ (Or.inl ⟨?_, ?_⟩) (by assumption) ?_
            rotate_left 2
            · (simp only [List.getElem?_toArray, List.getElem?_cons_succ, List.getElem?_cons_zero]; rfl)
            · first | exact fun _ _ _ h => h | exact fun _ _ _ h => by cases h.1
            · rfl
            · ((intro wq hSq; (try dsimp only at hSq); go_simp); (try with_reducible rfl))
            try simp only [Act.put, List.setIfInBounds_toArray, List.set_cons_zero, List.set_cons_succ]
            refine wpAnyH_take (i := 4) (oi := ?_) (v := undef) ?_ (by kernel_rfl) (by kernel_rfl) (by kernel_rfl) ?_ (Or.inr ⟨?_, rfl⟩) (by assumption) ?_
            rotate_left 1
            · (simp only [List.getElem?_toArray, List.getElem?_cons_succ, List.getElem?_cons_zero]; rfl)
            · first | exact fun _ _ _ h => h | exact fun _ _ _ h => by cases h.1
            · rfl
            try simp only [Act.put, List.setIfInBounds_toArray, List.set_cons_zero, List.set_cons_succ]
            refine wpAnyH_take (i := 5) (oi := ?_) (v := undef) ?_ (by kernel_rfl) (by kernel_rfl) (by kernel_rfl) ?_ (Or.inr ⟨?_, rfl⟩) (by assumption) ?_
            rotate_left 1
            · (simp only [List.getElem?_toArray, List.getElem?_cons_succ, List.getElem?_cons_zero]; rfl)
            · first | exact fun _ _ _ h => h | exact fun _ _ _ h => by cases h.1
            · rfl
            try simp only [Act.put, List.setIfInBounds_toArray, List.set_cons_zero, List.set_cons_succ]
            refine wpAnyH_take (i := 6) (oi := ?_) (v := undef) ?_ (by kernel_rfl) (by kernel_rfl) (by kernel_rfl) ?_ (Or.inr ⟨?_, rfl⟩) (by assumption) ?_
            rotate_left 1
            · (simp only [List.getElem?_toArray, List.getElem?_cons_succ, List.getElem?_cons_zero]; rfl)
            · first | exact fun _ _ _ h => h | exact fun _ _ _ h => by cases h.1
            · rfl
            try simp only [Act.put, List.setIfInBounds_toArray, List.set_cons_zero, List.set_cons_succ]
            refine wpAnyH_take (i := 7) (oi := ?_) (v := undef) ?_ (by kernel_rfl) (by kernel_rfl) (by kernel_rfl) ?_ (Or.inr ⟨?_, rfl⟩) (by assumption) ?_
            rotate_left 1
            · (simp only [List.getElem?_toArray, List.getElem?_cons_succ, List.getElem?_cons_zero]; rfl)
            · first | exact fun _ _ _ h => h | exact fun _ _ _ h => by cases h.1
            · rfl
            try simp only [Act.put, List.setIfInBounds_toArray, List.set_cons_zero, List.set_cons_succ]
            refine wpAnyH_take (i := 8) (oi := ?_) (v := undef) ?_ (by kernel_rfl) (by kernel_rfl) (by kernel_rfl) ?_ (Or.inr ⟨?_, rfl⟩) (by assumption) ?_
            rotate_left 1
            · (simp only [List.getElem?_toArray, List.getElem?_cons_succ, List.getElem?_cons_zero]; rfl)
            · first | exact fun _ _ _ h => h | exact fun _ _ _ h => by cases h.1
            · rfl
            try simp only [Act.put, List.setIfInBounds_toArray, List.set_cons_zero, List.set_cons_succ]
            refine wpAnyH_take (i := 9) (oi := ?_) (v := undef) ?_ (by kernel_rfl) (by kernel_rfl) (by kernel_rfl) ?_ (Or.inr ⟨?_, rfl⟩) (by assumption) ?_
            rotate_left 1
            · (simp only [List.getElem?_toArray, List.getElem?_cons_succ, List.getElem?_cons_zero]; rfl)
            · first | exact fun _ _ _ h => h | exact fun _ _ _ h => by cases h.1
            · rfl
            try simp only [Act.put, List.setIfInBounds_toArray, List.set_cons_zero, List.set_cons_succ]
            refine wpAnyH_take (i := 10) (oi := ?_) (v := undef) ?_ (by kernel_rfl) (by kernel_rfl) (by kernel_rfl) ?_ (Or.inr ⟨?_, rfl⟩) (by assumption) ?_
            rotate_left 1
            · (simp only [List.getElem?_toArray, List.getElem?_cons_succ, List.getElem?_cons_zero]; rfl)
            · first | exact fun _ _ _ h => h | exact fun _ _ _ h => by cases h.1
            · rfl
            try simp only [Act.put, List.setIfInBounds_toArray, List.set_cons_zero, List.set_cons_succ]
            refine wpAnyH_take (i := 11) (oi := ?_) (v := undef) ?_ (by kernel_rfl) (by kernel_rfl) (by kernel_rfl) ?_ (Or.inr ⟨?_, rfl⟩) (by assumption) ?_
            rotate_left 1
            · (simp only [List.getElem?_toArray, List.getElem?_cons_succ, List.getElem?_cons_zero]; rfl)
            · first | exact fun _ _ _ h => h | exact fun _ _ _ h => by cases h.1
            · rfl
            try simp only [Act.put, List.setIfInBounds_toArray, List.set_cons_zero, List.set_cons_succ]
            refine wpAnyH_take (i := 12) (oi := ?_) (v := undef) ?_ (by kernel_rfl) (by kernel_rfl) (by kernel_rfl) ?_ (Or.inr ⟨?_, rfl⟩) (by assumption) ?_
            rotate_left 1
            · (simp only [List.getElem?_toArray, List.getElem?_cons_succ, List.getElem?_cons_zero]; rfl)
            · first | exact fun _ _ _ h => h | exact fun _ _ _ h => by cases h.1
            · rfl
            try simp only [Act.put, List.setIfInBounds_toArray, List.set_cons_zero, List.set_cons_succ]
            refine wpAnyH_take (i := 13) (oi := ?_) (v := undef) ?_ (by kernel_rfl) (by kernel_rfl) (by kernel_rfl) ?_ (Or.inr ⟨?_, rfl⟩) (by assumption) ?_
            rotate_left 1
            · (simp only [List.getElem?_toArray, List.getElem?_cons_succ, List.getElem?_cons_zero]; rfl)
            · first | exact fun _ _ _ h => h | exact fun _ _ _ h => by cases h.1
            · rfl
            try simp only [Act.put, List.setIfInBounds_toArray, List.set_cons_zero, List.set_cons_succ]
            refine wpAnyH_take (i := 14) (oi := ?_) (v := undef) ?_ (by kernel_rfl) (by kernel_rfl) (by kernel_rfl) ?_ (Or.inr ⟨?_, rfl⟩) (by assumption) ?_
            rotate_left 1
            · (simp only [List.getElem?_toArray, List.getElem?_cons_succ, List.getElem?_cons_zero]; rfl)
            · first | exact fun _ _ _ h => h | exact fun _ _ _ h => by cases h.1
            · rfl
            try simp only [Act.put, List.setIfInBounds_toArray, List.set_cons_zero, List.set_cons_succ]
            refine wpAnyH_take (i := 15) (oi := ?_) (v := ?_) ?_ (by kernel_rfl) (by kernel_rfl) (by kernel_rfl) ?_ (Or.inl ⟨?_, ?_⟩) (by assumption) ?_
            rotate_left 2
            · (simp only [List.getElem?_toArray, List.getElem?_cons_succ, List.getElem?_cons_zero]; rfl)
            · first | exact fun _ _ _ h => h | exact fun _ _ _ h => by cases h.1
            · rfl
            · ((intro wq hSq; (try dsimp only at hSq); go_simp); (try with_reducible rfl))
            try simp only [Act.put, List.setIfInBounds_toArray, List.set_cons_zero, List.set_cons_succ]
            refine wpAnyH_take (i := 16) (oi := ?_) (v := ?_) ?_ (by kernel_rfl) (by kernel_rfl) (by kernel_rfl) ?_ (Or.inl ⟨?_, ?_⟩) (by assumption) ?_
            rotate_left 2
            · (simp only [List.getElem?_toArray, List.getElem?_cons_succ, List.getElem?_cons_zero]; rfl)
            · first | exact fun _ _ _ h => h | exact fun _ _ _ h => by cases h.1
            · rfl
            · ((intro wq hSq; (try dsimp only at hSq); go_simp); (try with_reducible rfl))
            try simp only [Act.put, List.setIfInBounds_toArray, List.set_cons_zero, List.set_cons_succ]
            refine wpAnyH_take (i := 17) (oi := ?_) (v := undef) ?_ (by kernel_rfl) (by kernel_rfl) (by kernel_rfl) ?_ (Or.inr ⟨?_, rfl⟩) (by assumption) ?_
            rotate_left 1
            · (simp only [List.getElem?_toArray, List.getElem?_cons_succ, List.getElem?_cons_zero]; rfl)
            · first | exact fun _ _ _ h => h | exact fun _ _ _ h => by cases h.1
            · rfl
            try simp only [Act.put, List.setIfInBounds_toArray, List.set_cons_zero, List.set_cons_succ]
            refine wpAnyH_take (i := 18) (oi := ?_) (v := undef) ?_ (by kernel_rfl) (by kernel_rfl) (by kernel_rfl) ?_ (Or.inr ⟨?_, rfl⟩) (by assumption) ?_
            rotate_left 1
            · (simp only [List.getElem?_toArray, List.getElem?_cons_succ, List.getElem?_cons_zero]; rfl)
            · first | exact fun _ _ _ h => h | exact fun _ _ _ h => by cases h.1
            · rfl
            try simp only [Act.put, List.setIfInBounds_toArray, List.set_cons_zero, List.set_cons_succ]
            refine wpAnyH_take (i := 19) (oi := ?_) (v := undef) ?_ (by kernel_rfl) (by kernel_rfl) (by kernel_rfl) ?_ (Or.inr ⟨?_, rfl⟩) (by assumption) ?_
            rotate_left 1
            · (simp only [List.getElem?_toArray, List.getElem?_cons_succ, List.getElem?_cons_zero]; rfl)
            · first | exact fun _ _ _ h => h | exact fun _ _ _ h => by cases h.1
            · rfl
            try simp only [Act.put, List.setIfInBounds_toArray, List.set_cons_zero, List.set_cons_succ]
            refine wpAnyH_take (i := 20) (oi := ?_) (v := undef) ?_ (by kernel_rfl) (by kernel_rfl) (by kernel_rfl) ?_ (Or.inr ⟨?_, rfl⟩) (by assumption) ?_
            rotate_left 1
            · (simp only [List.getElem?_toArray, List.getElem?_cons_succ, List.getElem?_cons_zero]; rfl)
            · first | exact fun _ _ _ h => h | exact fun _ _ _ h => by cases h.1
            · rfl
            try simp only [Act.put, List.setIfInBounds_toArray, List.set_cons_zero, List.set_cons_succ]
            refine wpAnyH_take (i := 21) (oi := ?_) (v := undef) ?_ (by kernel_rfl) (by kernel_rfl) (by kernel_rfl) ?_ (Or.inr ⟨?_, rfl⟩) (by assumption) ?_
            rotate_left 1
            · (simp only [List.getElem?_toArray, List.getElem?_cons_succ, List.getElem?_cons_zero]; rfl)
            · first | exact fun _ _ _ h => h | exact fun _ _ _ h => by cases h.1
            · rfl
            try simp only [Act.put, List.setIfInBounds_toArray, List.set_cons_zero, List.set_cons_succ]
            refine wpAnyH_take (i := 22) (oi := ?_) (v := undef) ?_ (by kernel_rfl) (by kernel_rfl) (by kernel_rfl) ?_ (Or.inr ⟨?_, rfl⟩) (by assumption) ?_
            rotate_left 1
            · (simp only [List.getElem?_toArray, List.getElem?_cons_succ, List.getElem?_cons_zero]; rfl)
            · first | exact fun _ _ _ h => h | exact fun _ _ _ h => by cases h.1
            · rfl
            try simp only [Act.put, List.setIfInBounds_toArray, List.set_cons_zero, List.set_cons_succ]
            refine wpAnyH_take (i := 23) (oi := ?_) (v := undef) ?_ (by kernel_rfl) (by kernel_rfl) (by kernel_rfl) ?_ (Or.inr ⟨?_, rfl⟩) (by assumption) ?_
            rotate_left 1
            · (simp only [List.getElem?_toArray, List.getElem?_cons_succ, List.getElem?_cons_zero]; rfl)
            · first | exact fun _ _ _ h => h | exact fun _ _ _ h => by cases h.1
            · rfl
            try simp only [Act.put, List.setIfInBounds_toArray, List.set_cons_zero, List.set_cons_succ]
            refine wpAnyH_take (i := 24) (oi := ?_) (v := undef) ?_ (by kernel_rfl) (by kernel_rfl) (by kernel_rfl) ?_ (Or.inr ⟨?_, rfl⟩) (by assumption) ?_
            rotate_left 1
            · (simp only [List.getElem?_toArray, List.getElem?_cons_succ, List.getElem?_cons_zero]; rfl)
            · first | exact fun _ _ _ h => h | exact fun _ _ _ h => by cases h.1
            · rfl
            try simp only [Act.put, List.setIfInBounds_toArray, List.set_cons_zero, List.set_cons_succ]
            refine wpAnyH_take (i := 25) (oi := ?_) (v := undef) ?_ (by kernel_rfl) (by kernel_rfl) (by kernel_rfl) ?_ (Or.inr ⟨?_, rfl⟩) (by assumption) ?_
            rotate_left 1
            · (simp only [List.getElem?_toArray, List.getElem?_cons_succ, List.getElem?_cons_zero]; rfl)
            · first | exact fun _ _ _ h => h | exact fun _ _ _ h => by cases h.1
            · rfl
            try simp only [Act.put, List.setIfInBounds_toArray, List.set_cons_zero, List.set_cons_succ]
            refine wpAnyH_take (i := 26) (oi := ?_) (v := undef) ?_ (by kernel_rfl) (by kernel_rfl) (by kernel_rfl) ?_ (Or.inr ⟨?_, rfl⟩) (by assumption) ?_
            rotate_left 1
            · (simp only [List.getElem?_toArray, List.getElem?_cons_succ, List.getElem?_cons_zero]; rfl)
            · first | exact fun _ _ _ h => h | exact fun _ _ _ h => by cases h.1
            · rfl
            try simp only [Act.put, List.setIfInBounds_toArray, List.set_cons_zero, List.set_cons_succ]
            refine wpAnyH_take (i := 27) (oi := ?_) (v := ?_) ?_ (by kernel_rfl) (by kernel_rfl) (by kernel_rfl) ?_ (Or.inl ⟨?_, ?_⟩) (by assumption) ?_
            rotate_left 2
            · (simp only [List.getElem?_toArray, List.getElem?_cons_succ, List.getElem?_cons_zero]; rfl)
            · first | exact fun _ _ _ h => h | exact fun _ _ _ h => by cases h.1
            · rfl
            · ((intro wq hSq; (try dsimp only at hSq); go_simp); (try with_reducible rfl))
            try simp only [Act.put, List.setIfInBounds_toArray, List.set_cons_zero, List.set_cons_succ]
            refine wpAnyH_take (i := 28) (oi := ?_) (v := ?_) ?_ (by kernel_rfl) (by kernel_rfl) (by kernel_rfl) ?_ (Or.inl ⟨?_, ?_⟩) (by assumption) ?_
            rotate_left 2
            · (simp only [List.getElem?_toArray, List.getElem?_cons_succ, List.getElem?_cons_zero]; rfl)
            · first | exact fun _ _ _ h => h | exact fun _ _ _ h => by cases h.1
            · rfl
            · ((intro wq hSq; (try dsimp only at hSq); go_simp); (try with_reducible rfl))
            try simp only [Act.put, List.setIfInBounds_toArray, List.set_cons_zero, List.set_cons_succ]
            refine wpAnyH_take (i := 29) (oi := ?_) (v := undef) ?_ (by kernel_rfl) (by kernel_rfl) (by kernel_rfl) ?_ (Or.inr ⟨?_, rfl⟩) (by assumption) ?_
            rotate_left 1
            · (simp only [List.getElem?_toArray, List.getElem?_cons_succ, List.getElem?_cons_zero]; rfl)
            · first | exact fun _ _ _ h => h | exact fun _ _ _ h => by cases h.1
            · rfl
            try simp only [Act.put, List.setIfInBounds_toArray, List.set_cons_zero, List.set_cons_succ]
            refine wpAnyH_take (i := 30) (oi := ?_) (v := undef) ?_ (by kernel_rfl) (by kernel_rfl) (by kernel_rfl) ?_ (Or.inr ⟨?_, rfl⟩) (by assumption) ?_
            rotate_left 1
            · (simp only [List.getElem?_toArray, List.getElem?_cons_succ, List.getElem?_cons_zero]; rfl)
            · first | exact fun _ _ _ h => h | exact fun _ _ _ h => by cases h.1
            · rfl
            try simp only [Act.put, List.setIfInBounds_toArray, List.set_cons_zero, List.set_cons_succ]
            refine wpAnyH_take (i := 31) (oi := ?_) (v := undef) ?_ (by kernel_rfl) (by kernel_rfl) (by kernel_rfl) ?_ (Or.inr ⟨?_, rfl⟩) (by assumption) ?_
            rotate_left 1
            · (simp only [List.getElem?_toArray, List.getElem?_cons_succ, List.getElem?_cons_zero]; rfl)
            · first | exact fun _ _ _ h => h | exact fun _ _ _ h => by cases h.1
            · rfl
            try simp only [Act.put, List.setIfInBounds_toArray, List.set_cons_zero, List.set_cons_succ]
            refine wpAnyH_take (i := 32) (oi := ?_) (v := undef) ?_ (by kernel_rfl) (by kernel_rfl) (by kernel_rfl) ?_ (Or.inr ⟨?_, rfl⟩) (by assumption) ?_
            rotate_left 1
            · (simp only [List.getElem?_toArray, List.getElem?_cons_succ, List.getElem?_cons_zero]; rfl)
            · first | exact fun _ _ _ h => h | exact fun _ _ _ h => by cases h.1
            · rfl
            try simp only [Act.put, List.setIfInBounds_toArray, List.set_cons_zero, List.set_cons_succ]
            refine wpAnyH_take (i := 33) (oi := ?_) (v := undef) ?_ (by kernel_rfl) (by kernel_rfl) (by kernel_rfl) ?_ (Or.inr ⟨?_, rfl⟩) (by assumption) ?_
            rotate_left 1
            · (simp only [List.getElem?_toArray, List.getElem?_cons_succ, List.getElem?_cons_zero]; rfl)
            · first | exact fun _ _ _ h => h | exact fun _ _ _ h => by cases h.1
            · rfl
            try simp only [Act.put, List.setIfInBounds_toArray, List.set_cons_zero, List.set_cons_succ]
            refine wpAnyH_take (i := 34) (oi := ?_) (v := undef) ?_ (by kernel_rfl) (by kernel_rfl) (by kernel_rfl) ?_ (Or.inr ⟨?_, rfl⟩) (by assumption) ?_
            rotate_left 1
            · (simp only [List.getElem?_toArray, List.getElem?_cons_succ, List.getElem?_cons_zero]; rfl)
            · first | exact fun _ _ _ h => h | exact fun _ _ _ h => by cases h.1
            · rfl
            try simp only [Act.put, List.setIfInBounds_toArray, List.set_cons_zero, List.set_cons_succ]
            refine wpAnyH_take (i := 35) (oi := ?_) (v := undef) ?_ (by kernel_rfl) (by kernel_rfl) (by kernel_rfl) ?_ (Or.inr ⟨?_, rfl⟩) (by assumption) ?_
            rotate_left 1
            · (simp only [List.getElem?_toArray, List.getElem?_cons_succ, List.getElem?_cons_zero]; rfl)
            · first | exact fun _ _ _ h => h | exact fun _ _ _ h => by cases h.1
            · rfl
            try simp only [Act.put, List.setIfInBounds_toArray, List.set_cons_zero, List.set_cons_succ]
            refine wpAnyH_take (i := 36) (oi := ?_) (v := undef) ?_ (by kernel_rfl) (by kernel_rfl) (by kernel_rfl) ?_ (Or.inr ⟨?_, rfl⟩) (by assumption) ?_
            rotate_left 1
            · (simp only [List.getElem?_toArray, List.getElem?_cons_succ, List.getElem?_cons_zero]; rfl)
            · first | exact fun _ _ _ h => h | exact fun _ _ _ h => by cases h.1
            · rfl
            try simp only [Act.put, List.setIfInBounds_toArray, List.set_cons_zero, List.set_cons_succ]
            refine wpAnyH_take (i := 37) (oi := ?_) (v := undef) ?_ (by kernel_rfl) (by kernel_rfl) (by kernel_rfl) ?_ (Or.inr ⟨?_, rfl⟩) (by assumption) ?_
            rotate_left 1
            · (simp only [List.getElem?_toArray, List.getElem?_cons_succ, List.getElem?_cons_zero]; rfl)
            · first | exact fun _ _ _ h => h | exact fun _ _ _ h => by cases h.1
            · rfl
            try simp only [Act.put, List.setIfInBounds_toArray, List.set_cons_zero, List.set_cons_succ]
            refine wpAnyH_take (i := 38) (oi := ?_) (v := undef) ?_ (by kernel_rfl) (by kernel_rfl) (by kernel_rfl) ?_ (Or.inr ⟨?_, rfl⟩) (by assumption) ?_
            rotate_left 1
            · (simp only [List.getElem?_toArray, List.getElem?_cons_succ, List.getElem?_cons_zero]; rfl)
            · first | exact fun _ _ _ h => h | exact fun _ _ _ h => by cases h.1
            · rfl
            try simp only [Act.put, List.setIfInBounds_toArray, List.set_cons_zero, List.set_cons_succ]
            refine wpAnyH_take (i := 39) (oi := ?_) (v := ?_) ?_ (by kernel_rfl) (by kernel_rfl) (by kernel_rfl) ?_ (Or.inl ⟨?_, ?_⟩) (by assumption) ?_
            rotate_left 2
            · (simp only [List.getElem?_toArray, List.getElem?_cons_succ, List.getElem?_cons_zero]; rfl)
            · first | exact fun _ _ _ h => h | exact fun _ _ _ h => by cases h.1
            · rfl
            · ((intro wq hSq; (try dsimp only at hSq); go_simp); (try with_reducible rfl))
            try simp only [Act.put, List.setIfInBounds_toArray, List.set_cons_zero, List.set_cons_succ]
            refine wpAnyH_done (by kernel_rfl) ?_ _
            go_wp2_with fail
            go_roundw
            case rel => exact ⟨k + 1, by omega, by go_num, fun n z hi hne hz => hpm'.out n z (by have := hik'.out; omega) hne hz, hHeld.1⟩
            case measure => simp [intOf]; omega
          · have t1 : ((i : Int) != (k : Int)) = true := by simp; omega
            rcases hP with ⟨p1, p2⟩ | ⟨p1, p2, p3⟩ | ⟨p1, p2, p3, p4⟩ | ⟨p1, p2, p3, p4⟩
            · have pp := Lib.hid p2
              clear p2
              go_wp2_with fail
              refine wp_region_held_drew (S := fun w' => Below w.heap.size w w' ∧ w'.cell? ⟨b, off + i * 7, none⟩ = some (.int .i64 x.p) ∧ w'.cell? ⟨b, off + i * 7 + 1, none⟩ = some (.int .i64 x.o) ∧ w'.cell? ⟨b, off + i * 7 + 2, none⟩ = some (.int .i64 x.q) ∧ w'.cell? ⟨b, off + i * 7 + 3, none⟩ = some (.slice Ax2 x.r.length cx2) ∧ w'.cell? ⟨b, off + i * 7 + 4, none⟩ = some (.int .i64 x.c) ∧ w'.cell? ⟨b, off + i * 7 + 5, none⟩ = some (.int .i64 x.b) ∧ w'.cell? ⟨b, off + i * 7 + 6, none⟩ = some (.int .i64 x.e) ∧ w'.cell? ⟨b, off + k * 7, none⟩ = some (.int .i64 y.p) ∧ w'.cell? ⟨b, off + k * 7 + 1, none⟩ = some (.int .i64 y.o) ∧ w'.cell? ⟨b, off + k * 7 + 2, none⟩ = some (.int .i64 y.q) ∧ w'.cell? ⟨b, off + k * 7 + 3, none⟩ = some (.slice Ay y.r.length cy) ∧ w'.cell? ⟨b, off + k * 7 + 4, none⟩ = some (.int .i64 y.c) ∧ w'.cell? ⟨b, off + k * 7 + 5, none⟩ = some (.int .i64 y.b) ∧ w'.cell? ⟨b, off + k * 7 + 6, none⟩ = some (.int .i64 y.e)) (by kernel_rfl) hSd (fun hHeld => ?_)
              refine wpAnyH_take (i := 0) (oi := ?_) (v := ?_) ?_ (by kernel_rfl) (by kernel_rfl) (by kernel_rfl) ?_ (Or.inl ⟨?_, ?_⟩) (by assumption) ?_
              rotate_left 2
              · (simp only [List.getElem?_toArray, List.getElem?_cons_zero]; rfl)
              · first | exact fun _ _ _ h => h | exact fun _ _ _ h => by cases h.1
              · rfl
              · ((intro wq hSq; (try dsimp only at hSq); go_simp); (try with_reducible rfl))
              try simp only [Act.put, List.setIfInBounds_toArray, List.set_cons_zero, List.set_cons_succ]
              refine wpAnyH_take (i := 1) (oi := ?_) (v := ?_) ?_ (by kernel_rfl) (by kernel_rfl) (by kernel_rfl) ?_ (Or.inl ⟨?_, ?_⟩) (by assumption) ?_
              rotate_left 2
              · (simp only [List.getElem?_toArray, List.getElem?_cons_succ, List.getElem?_cons_zero]; rfl)
              · first | exact fun _ _ _ h => h | exact fun _ _ _ h => by cases h.1
              · rfl
              · ((intro wq hSq; (try dsimp only at hSq); go_simp); (try with_reducible rfl))
              try simp only [Act.put, List.setIfInBounds_toArray, List.set_cons_zero, List.set_cons_succ]
              refine wpAnyH_take (i := 2) (oi := ?_) (v := ?_) ?_ (by kernel_rfl) (by kernel_rfl) (by kernel_rfl) ?_ (Or.inl ⟨?_, ?_⟩) (by assumption) ?_
              rotate_left 2
              · (simp only [List.getElem?_toArray, List.getElem?_cons_succ, List.getElem?_cons_zero]; rfl)
              · first | exact fun _ _ _ h => h | exact fun _ _ _ h => by cases h.1
              · rfl
              · ((intro wq hSq; (try dsimp only at hSq); go_simp); (try with_reducible rfl))
              try simp only [Act.put, List.setIfInBounds_toArray, List.set_cons_zero, List.set_cons_succ]
              refine wpAnyH_take (i := 3) (oi := ?_) (v := ?_) ?_ (by kernel_rfl) (by kernel_rfl) (by kernel_rfl) ?_ (Or.inl ⟨?_, ?_⟩) (by assumption) ?_
              rotate_left 2
              · (simp only [List.getElem?_toArray, List.getElem?_cons_succ, List.getElem?_cons_zero]; rfl)
              · first | exact fun _ _ _ h => h | exact fun _ _ _ h => by cases h.1
              · rfl
              · ((intro wq hSq; (try dsimp only at hSq); go_simp); (try with_reducible rfl))
              try simp only [Act.put, List.setIfInBounds_toArray, List.set_cons_zero, List.set_cons_succ]
              refine wpAnyH_take (i := 4) (oi := ?_) (v := ?_) ?_ (by kernel_rfl) (by kernel_rfl) (by kernel_rfl) ?_ (Or.inl ⟨?_, ?_⟩) (by assumption) ?_
              rotate_left 2
              · (simp only [List.getElem?_toArray, List.getElem?_cons_succ, List.getElem?_cons_zero]; rfl)
              · first | exact fun _ _ _ h => h | exact fun _ _ _ h => by cases h.1
              · rfl
              · ((intro wq hSq; (try dsimp only at hSq); go_simp); (try with_reducible rfl))
              try simp only [Act.put, List.setIfInBounds_toArray, List.set_cons_zero, List.set_cons_succ]
              refine wpAnyH_take (i := 5) (oi := ?_) (v := ?_) ?_ (by kernel_rfl) (by kernel_rfl) (by kernel_rfl) ?_ (Or.inl ⟨?_, ?_⟩) (by assumption) ?_
              rotate_left 2
              · (simp only [List.getElem?_toArray, List.getElem?_cons_succ, List.getElem?_cons_zero]; rfl)
              · first | exact fun _ _ _ h => h | exact fun _ _ _ h => by cases h.1
              · rfl
              · ((intro wq hSq; (try dsimp only at hSq); go_simp); (try with_reducible rfl))
              try simp only [Act.put, List.setIfInBounds_toArray, List.set_cons_zero, List.set_cons_succ]
              refine wpAnyH_take (i := 6) (oi := ?_) (v := ?_) ?_ (by kernel_rfl) (by kernel_rfl) (by kernel_rfl) ?_ (Or.inl ⟨?_, ?_⟩) (by assumption) ?_
              rotate_left 2
              · (simp only [List.getElem?_toArray, List.getElem?_cons_succ, List.getElem?_cons_zero]; rfl)
              · first | exact fun _ _ _ h => h | exact fun _ _ _ h => by cases h.1
              · rfl
              · ((intro wq hSq; (try dsimp only at hSq); go_simp); (try with_reducible rfl))
              try simp only [Act.put, List.setIfInBounds_toArray, List.set_cons_zero, List.set_cons_succ]
              refine wpAnyH_take (i := 7) (oi := ?_) (v := ?_) ?_ (by kernel_rfl) (by kernel_rfl) (by kernel_rfl) ?_ (Or.inl ⟨?_, ?_⟩) (by assumption) ?_
              rotate_left 2
              · (simp only [List.getElem?_toArray, List.getElem?_cons_succ, List.getElem?_cons_zero]; rfl)
              · first | exact fun _ _ _ h => h | exact fun _ _ _ h => by cases h.1
              · rfl
              · ((intro wq hSq; (try dsimp only at hSq); go_simp); (try with_reducible rfl))
              try simp only [Act.put, List.setIfInBounds_toArray, List.set_cons_zero, List.set_cons_succ]
              refine wpAnyH_take (i := 8) (oi := ?_) (v := ?_) ?_ (by kernel_rfl) (by kernel_rfl) (by kernel_rfl) ?_ (Or.inl ⟨?_, ?_⟩) (by assumption) ?_
              rotate_left 2
              · (simp only [List.getElem?_toArray, List.getElem?_cons_succ, List.getElem?_cons_zero]; rfl)
              · first | exact fun _ _ _ h => h | exact fun _ _ _ h => by cases h.1
              · rfl
              · ((intro wq hSq; (try dsimp only at hSq); go_simp); (try with_reducible rfl))
              try simp only [Act.put, List.setIfInBounds_toArray, List.set_cons_zero, List.set_cons_succ]
              refine wpAnyH_take (i := 9) (oi := ?_) (v := ?_) ?_ (by kernel_rfl) (by kernel_rfl) (by kernel_rfl) ?_ (Or.inl ⟨?_, ?_⟩) (by assumption) ?_
              rotate_left 2
              · (simp only [List.getElem?_toArray, List.getElem?_cons_succ, List.getElem?_cons_zero]; rfl)
              · first | exact fun _ _ _ h => h | exact fun _ _ _ h => by cases h.1
              · rfl
              · ((intro wq hSq; (try dsimp only at hSq); go_simp); (try with_reducible rfl))
              try simp only [Act.put, List.setIfInBounds_toArray, List.set_cons_zero, List.set_cons_succ]
              refine wpAnyH_take (i := 10) (oi := ?_) (v := ?_) ?_ (by kernel_rfl) (by kernel_rfl) (by kernel_rfl) ?_ (Or.inl ⟨?_, ?_⟩) (by assumption) ?_
              rotate_left 2
              · (simp only [List.getElem?_toArray, List.getElem?_cons_succ, List.getElem?_cons_zero]; rfl)
              · first | exact fun _ _ _ h => h | exact fun _ _ _ h => by cases h.1
              · rfl
              · ((intro wq hSq; (try dsimp only at hSq); go_simp); (try with_reducible rfl))
              try simp only [Act.put, List.setIfInBounds_toArray, List.set_cons_zero, List.set_cons_succ]
              refine wpAnyH_take (i := 11) (oi := ?_) (v := ?_) ?_ (by kernel_rfl) (by kernel_rfl) (by kernel_rfl) ?_ (Or.inl ⟨?_, ?_⟩) (by assumption) ?_
              rotate_left 2
              · (simp only [List.getElem?_toArray, List.getElem?_cons_succ, List.getElem?_cons_zero]; rfl)
              · first | exact fun _ _ _ h => h | exact fun _ _ _ h => by cases h.1
              · rfl
              · ((intro wq hSq; (try dsimp only at hSq); go_simp); (try with_reducible rfl))
              try simp only [Act.put, List.setIfInBounds_toArray, List.set_cons_zero, List.set_cons_succ]
              refine wpAnyH_take (i := 12) (oi := ?_) (v := ?_) ?_ (by kernel_rfl) (by kernel_rfl) (by kernel_rfl) ?_ (Or.inl ⟨?_, ?_⟩) (by assumption) ?_
              rotate_left 2
              · (simp only [List.getElem?_toArray, List.getElem?_cons_succ, List.getElem?_cons_zero]; rfl)
              · first | exact fun _ _ _ h => h | exact fun _ _ _ h => by cases h.1
              · rfl
              · ((intro wq hSq; (try dsimp only at hSq); go_simp); (try with_reducible rfl))
              try simp only [Act.put, List.setIfInBounds_toArray, List.set_cons_zero, List.set_cons_succ]
              refine wpAnyH_take (i := 13) (oi := ?_) (v := ?_) ?_ (by kernel_rfl) (by kernel_rfl) (by kernel_rfl) ?_ (Or.inl ⟨?_, ?_⟩) (by assumption) ?_
              rotate_left 2
              · (simp only [List.getElem?_toArray, List.getElem?_cons_succ, List.getElem?_cons_zero]; rfl)
              · first | exact fun _ _ _ h => h | exact fun _ _ _ h => by cases h.1
              · rfl
              · ((intro wq hSq; (try dsimp only at hSq); go_simp); (try with_reducible rfl))
              try simp only [Act.put, List.setIfInBounds_toArray, List.set_cons_zero, List.set_cons_succ]
              refine wpAnyH_take (i := 14) (oi := ?_) (v := ?_) ?_ (by kernel_rfl) (by kernel_rfl) (by kernel_rfl) ?_ (Or.inl ⟨?_, ?_⟩) (by assumption) ?_
              rotate_left 2
              · (simp only [List.getElem?_toArray, List.getElem?_cons_succ, List.getElem?_cons_zero]; rfl)
              · first | exact fun _ _ _ h => h | exact fun _ _ _ h => by cases h.1
              · rfl
              · ((intro wq hSq; (try dsimp only at hSq); go_simp); (try with_reducible rfl))
              try simp only [Act.put, List.setIfInBounds_toArray, List.set_cons_zero, List.set_cons_succ]
              refine wpAnyH_take (i := 15) (oi := ?_) (v := ?_) ?_ (by kernel_rfl) (by kernel_rfl) (by kernel_rfl) ?_ (Or.inl ⟨?_, ?_⟩) (by assumption) ?_
              rotate_left 2
              · (simp only [List.getElem?_toArray, List.getElem?_cons_succ, List.getElem?_cons_zero]; rfl)
              · first | exact fun _ _ _ h => h | exact fun _ _ _ h => by cases h.1
              · rfl
              · ((intro wq hSq; (try dsimp only at hSq); go_simp); (try with_reducible rfl))
              try simp only [Act.put, List.setIfInBounds_toArray, List.set_cons_zero, List.set_cons_succ]
              refine wpAnyH_take (i := 16) (oi := ?_) (v := ?_) ?_ (by kernel_rfl) (by kernel_rfl) (by kernel_rfl) ?_ (Or.inl ⟨?_, ?_⟩) (by assumption) ?_
              rotate_left 2
              · (simp only [List.getElem?_toArray, List.getElem?_cons_succ, List.getElem?_cons_zero]; rfl)
              · first | exact fun _ _ _ h => h | exact fun _ _ _ h => by cases h.1
              · rfl
              · ((intro wq hSq; (try dsimp only at hSq); go_simp); (try with_reducible rfl))
              try simp only [Act.put, List.setIfInBounds_toArray, List.set_cons_zero, List.set_cons_succ]
              refine wpAnyH_take (i := 17) (oi := ?_) (v := undef) ?_ (by kernel_rfl) (by kernel_rfl) (by kernel_rfl) ?_ (Or.inr ⟨?_, rfl⟩) (by assumption) ?_
              rotate_left 1
              · (simp only [List.getElem?_toArray, List.getElem?_cons_succ, List.getElem?_cons_zero]; rfl)
              · first | exact fun _ _ _ h => h | exact fun _ _ _ h => by cases h.1
              · rfl
              try simp only [Act.put, List.setIfInBounds_toArray, List.set_cons_zero, List.set_cons_succ]
              refine wpAnyH_take (i := 18) (oi := ?_) (v := undef) ?_ (by kernel_rfl) (by kernel_rfl) (by kernel_rfl) ?_ (Or.inr ⟨?_, rfl⟩) (by assumption) ?_
              rotate_left 1
              · (simp only [List.getElem?_toArray, List.getElem?_cons_succ, List.getElem?_cons_zero]; rfl)
              · first | exact fun _ _ _ h => h | exact fun _ _ _ h => by cases h.1
              · rfl
              try simp only [Act.put, List.setIfInBounds_toArray, List.set_cons_zero, List.set_cons_succ]
              refine wpAnyH_take (i := 19) (oi := ?_) (v := undef) ?_ (by kernel_rfl) (by kernel_rfl) (by kernel_rfl) ?_ (Or.inr ⟨?_, rfl⟩) (by assumption) ?_
              rotate_left 1
              · (simp only [List.getElem?_toArray, List.getElem?_cons_succ, List.getElem?_cons_zero]; rfl)
              · first | exact fun _ _ _ h => h | exact fun _ _ _ h => by cases h.1
              · rfl
              try simp only [Act.put, List.setIfInBounds_toArray, List.set_cons_zero, List.set_cons_succ]
              refine wpAnyH_take (i := 20) (oi := ?_) (v := undef) ?_ (by kernel_rfl) (by kernel_rfl) (by kernel_rfl) ?_ (Or.inr ⟨?_, rfl⟩) (by assumption) ?_
              rotate_left 1
              · (simp only [List.getElem?_toArray, List.getElem?_cons_succ, List.getElem?_cons_zero]; rfl)
              · first | exact fun _ _ _ h => h | exact fun _ _ _ h => by cases h.1
              · rfl
              try simp only [Act.put, List.setIfInBounds_toArray, List.set_cons_zero, List.set_cons_succ]
              refine wpAnyH_take (i := 21) (oi := ?_) (v := undef) ?_ (by kernel_rfl) (by kernel_rfl) (by kernel_rfl) ?_ (Or.inr ⟨?_, rfl⟩) (by assumption) ?_
              rotate_left 1
              · (simp only [List.getElem?_toArray, List.getElem?_cons_succ, List.getElem?_cons_zero]; rfl)
              · first | exact fun _ _ _ h => h | exact fun _ _ _ h => by cases h.1
              · rfl
              try simp only [Act.put, List.setIfInBounds_toArray, List.set_cons_zero, List.set_cons_succ]
              refine wpAnyH_take (i := 22) (oi := ?_) (v := undef) ?_ (by kernel_rfl) (by kernel_rfl) (by kernel_rfl) ?_ (Or.inr ⟨?_, rfl⟩) (by assumption) ?_
              rotate_left 1
              · (simp only [List.getElem?_toArray, List.getElem?_cons_succ, List.getElem?_cons_zero]; rfl)
              · first | exact fun _ _ _ h => h | exact fun _ _ _ h => by cases h.1
              · rfl
              try simp only [Act.put, List.setIfInBounds_toArray, List.set_cons_zero, List.set_cons_succ]
              refine wpAnyH_take (i := 23) (oi := ?_) (v := undef) ?_ (by kernel_rfl) (by kernel_rfl) (by kernel_rfl) ?_ (Or.inr ⟨?_, rfl⟩) (by assumption) ?_
              rotate_left 1
              · (simp only [List.getElem?_toArray, List.getElem?_cons_succ, List.getElem?_cons_zero]; rfl)
              · first | exact fun _ _ _ h => h | exact fun _ _ _ h => by cases h.1
              · rfl
              try simp only [Act.put, List.setIfInBounds_toArray, List.set_cons_zero, List.set_cons_succ]
              refine wpAnyH_take (i := 24) (oi := ?_) (v := undef) ?_ (by kernel_rfl) (by kernel_rfl) (by kernel_rfl) ?_ (Or.inr ⟨?_, rfl⟩) (by assumption) ?_
              rotate_left 1
              · (simp only [List.getElem?_toArray, List.getElem?_cons_succ, List.getElem?_cons_zero]; rfl)
              · first | exact fun _ _ _ h => h | exact fun _ _ _ h => by cases h.1
              · rfl
              try simp only [Act.put, List.setIfInBounds_toArray, List.set_cons_zero, List.set_cons_succ]
              refine wpAnyH_take (i := 25) (oi := ?_) (v := undef) ?_ (by kernel_rfl) (by kernel_rfl) (by kernel_rfl) ?_ (Or.inr ⟨?_, rfl⟩) (by assumption) ?_
              rotate_left 1
              · (simp only [List.getElem?_toArray, List.getElem?_cons_succ, List.getElem?_cons_zero]; rfl)
              · first | exact fun _ _ _ h => h | exact fun _ _ _ h => by cases h.1
              · rfl
              try simp only [Act.put, List.setIfInBounds_toArray, List.set_cons_zero, List.set_cons_succ]
              refine wpAnyH_take (i := 26) (oi := ?_) (v := undef) ?_ (by kernel_rfl) (by kernel_rfl) (by kernel_rfl) ?_ (Or.inr ⟨?_, rfl⟩) (by assumption) ?_
              rotate_left 1
              · (simp only [List.getElem?_toArray, List.getElem?_cons_succ, List.getElem?_cons_zero]; rfl)
              · first | exact fun _ _ _ h => h | exact fun _ _ _ h => by cases h.1
              · rfl
              try simp only [Act.put, List.setIfInBounds_toArray, List.set_cons_zero, List.set_cons_succ]
              refine wpAnyH_take (i := 27) (oi := ?_) (v := ?_) ?_ (by kernel_rfl) (by kernel_rfl) (by kernel_rfl) ?_ (Or.inl ⟨?_, ?_⟩) (by assumption) ?_
              rotate_left 2
              · (simp only [List.getElem?_toArray, List.getElem?_cons_succ, List.getElem?_cons_zero]; rfl)
              · first | exact fun _ _ _ h => h | exact fun _ _ _ h => by cases h.1
              · rfl
              · ((intro wq hSq; (try dsimp only at hSq); go_simp); (try with_reducible rfl))
              try simp only [Act.put, List.setIfInBounds_toArray, List.set_cons_zero, List.set_cons_succ]
              refine wpAnyH_take (i := 28) (oi := ?_) (v := ?_) ?_ (by kernel_rfl) (by kernel_rfl) (by kernel_rfl) ?_ (Or.inl ⟨?_, ?_⟩) (by assumption) ?_
              rotate_left 2
              · (simp only [List.getElem?_toArray, List.getElem?_cons_succ, List.getElem?_cons_zero]; rfl)
              · first | exact fun _ _ _ h => h | exact fun _ _ _ h => by cases h.1
              · rfl
              · ((intro wq hSq; (try dsimp only at hSq); go_simp); (try with_reducible rfl))
              try simp only [Act.put, List.setIfInBounds_toArray, List.set_cons_zero, List.set_cons_succ]
              refine wpAnyH_take (i := 29) (oi := ?_) (v := undef) ?_ (by kernel_rfl) (by kernel_rfl) (by kernel_rfl) ?_ (Or.inr ⟨?_, rfl⟩) (by assumption) ?_
              rotate_left 1
              · (simp only [List.getElem?_toArray, List.getElem?_cons_succ, List.getElem?_cons_zero]; rfl)
              · first | exact fun _ _ _ h => h | exact fun _ _ _ h => by cases h.1
              · rfl
              try simp only [Act.put, List.setIfInBounds_toArray, List.set_cons_zero, List.set_cons_succ]
              refine wpAnyH_take (i := 30) (oi := ?_) (v := undef) ?_ (by kernel_rfl) (by kernel_rfl) (by kernel_rfl) ?_ (Or.inr ⟨?_, rfl⟩) (by assumption) ?_
              rotate_left 1
              · (simp only [List.getElem?_toArray, List.getElem?_cons_succ, List.getElem?_cons_zero]; rfl)
              · first | exact fun _ _ _ h => h | exact fun _ _ _ h => by cases h.1
              · rfl
              try simp only [Act.put, List.setIfInBounds_toArray, List.set_cons_zero, List.set_cons_succ]
              refine wpAnyH_take (i := 31) (oi := ?_) (v := undef) ?_ (by kernel_rfl) (by kernel_rfl) (by kernel_rfl) ?_ (Or.inr ⟨?_, rfl⟩) (by assumption) ?_
              rotate_left 1
              · (simp only [List.getElem?_toArray, List.getElem?_cons_succ, List.getElem?_cons_zero]; rfl)
              · first | exact fun _ _ _ h => h | exact fun _ _ _ h => by cases h.1
              · rfl
              try simp only [Act.put, List.setIfInBounds_toArray, List.set_cons_zero, List.set_cons_succ]
              refine wpAnyH_take (i := 32) (oi := ?_) (v := undef) ?_ (by kernel_rfl) (by kernel_rfl) (by kernel_rfl) ?_ (Or.inr ⟨?_, rfl⟩) (by assumption) ?_
              rotate_left 1
              · (simp only [List.getElem?_toArray, List.getElem?_cons_succ, List.getElem?_cons_zero]; rfl)
              · first | exact fun _ _ _ h => h | exact fun _ _ _ h => by cases h.1
              · rfl
              try simp only [Act.put, List.setIfInBounds_toArray, List.set_cons_zero, List.set_cons_succ]
              refine wpAnyH_take (i := 33) (oi := ?_) (v := undef) ?_ (by kernel_rfl) (by kernel_rfl) (by kernel_rfl) ?_ (Or.inr ⟨?_, rfl⟩) (by assumption) ?_
              rotate_left 1
              · (simp only [List.getElem?_toArray, List.getElem?_cons_succ, List.getElem?_cons_zero]; rfl)
              · first | exact fun _ _ _ h => h | exact fun _ _ _ h => by cases h.1
              · rfl
              try simp only [Act.put, List.setIfInBounds_toArray, List.set_cons_zero, List.set_cons_succ]
              refine wpAnyH_take (i := 34) (oi := ?_) (v := undef) ?_ (by kernel_rfl) (by kernel_rfl) (by kernel_rfl) ?_ (Or.inr ⟨?_, rfl⟩) (by assumption) ?_
              rotate_left 1
              · (simp only [List.getElem?_toArray, List.getElem?_cons_succ, List.getElem?_cons_zero]; rfl)
              · first | exact fun _ _ _ h => h | exact fun _ _ _ h => by cases h.1
              · rfl
              try simp only [Act.put, List.setIfInBounds_toArray, List.set_cons_zero, List.set_cons_succ]
              refine wpAnyH_take (i := 35) (oi := ?_) (v := undef) ?_ (by kernel_rfl) (by kernel_rfl) (by kernel_rfl) ?_ (Or.inr ⟨?_, rfl⟩) (by assumption) ?_
              rotate_left 1
              · (simp only [List.getElem?_toArray, List.getElem?_cons_succ, List.getElem?_cons_zero]; rfl)
              · first | exact fun _ _ _ h => h | exact fun _ _ _ h => by cases h.1
              · rfl
              try simp only [Act.put, List.setIfInBounds_toArray, List.set_cons_zero, List.set_cons_succ]
              refine wpAnyH_take (i := 36) (oi := ?_) (v := undef) ?_ (by kernel_rfl) (by kernel_rfl) (by kernel_rfl) ?_ (Or.inr ⟨?_, rfl⟩) (by assumption) ?_
              rotate_left 1
              · (simp only [List.getElem?_toArray, List.getElem?_cons_succ, List.getElem?_cons_zero]; rfl)
              · first | exact fun _ _ _ h => h | exact fun _ _ _ h => by cases h.1
              · rfl
              try simp only [Act.put, List.setIfInBounds_toArray, List.set_cons_zero, List.set_cons_succ]
              refine wpAnyH_take (i := 37) (oi := ?_) (v := undef) ?_ (by kernel_rfl) (by kernel_rfl) (by kernel_rfl) ?_ (Or.inr ⟨?_, rfl⟩) (by assumption) ?_
              rotate_left 1
              · (simp only [List.getElem?_toArray, List.getElem?_cons_succ, List.getElem?_cons_zero]; rfl)
              · first | exact fun _ _ _ h => h | exact fun _ _ _ h => by cases h.1
              · rfl
              try simp only [Act.put, List.setIfInBounds_toArray, List.set_cons_zero, List.set_cons_succ]
              refine wpAnyH_take (i := 38) (oi := ?_) (v := undef) ?_ (by kernel_rfl) (by kernel_rfl) (by kernel_rfl) ?_ (Or.inr ⟨?_, rfl⟩) (by assumption) ?_
              rotate_left 1
              · (simp only [List.getElem?_toArray, List.getElem?_cons_succ, List.getElem?_cons_zero]; rfl)
              · first | exact fun _ _ _ h => h | exact fun _ _ _ h => by cases h.1
              · rfl
              try simp only [Act.put, List.setIfInBounds_toArray, List.set_cons_zero, List.set_cons_succ]
              refine wpAnyH_take (i := 39) (oi := ?_) (v := ?_) ?_ (by kernel_rfl) (by kernel_rfl) (by kernel_rfl) ?_ (Or.inl ⟨?_, ?_⟩) (by assumption) ?_
              rotate_left 2
              · (simp only [List.getElem?_toArray, List.getElem?_cons_succ, List.getElem?_cons_zero]; rfl)
              · first | exact fun _ _ _ h => h | exact fun _ _ _ h => by cases h.1
              · rfl
              · ((intro wq hSq; (try dsimp only at hSq); go_simp); (try with_reducible rfl))
              try simp only [Act.put, List.setIfInBounds_toArray, List.set_cons_zero, List.set_cons_succ]
              refine wpAnyH_done (by kernel_rfl) ?_ _
              go_wp2_with fail
              go_roundw
              case rel => exact ⟨k + 1, by omega, by go_num, fun n z hi hne hz => by
                  by_cases e : n = k
                  · subst e; have := hy'.out; rw [hz] at this; cases this; exact pp.out
                  · exact hpm'.out n z (by omega) hne hz, hHeld.1⟩
              case measure => simp [intOf]; omega
            · have pp := Lib.hid p3
              have hb1' := hb1.out
              rw [p2] at hb1'
              have hb1'' := Lib.hid hb1'
              clear p3 p2 hb1' hb1 hb2
              go_wp2_with fail
              refine wp_region_held_drew (S := fun w' => Below w.heap.size w w' ∧ w'.cell? ⟨b, off + i * 7, none⟩ = some (.int .i64 x.p) ∧ w'.cell? ⟨b, off + i * 7 + 1, none⟩ = some (.int .i64 x.o) ∧ w'.cell? ⟨b, off + i * 7 + 2, none⟩ = some (.int .i64 x.q) ∧ w'.cell? ⟨b, off + i * 7 + 3, none⟩ = some (.slice Ax2 x.r.length cx2) ∧ w'.cell? ⟨b, off + i * 7 + 4, none⟩ = some (.int .i64 x.c) ∧ w'.cell? ⟨b, off + i * 7 + 5, none⟩ = some (.int .i64 x.b) ∧ w'.cell? ⟨b, off + i * 7 + 6, none⟩ = some (.int .i64 x.e) ∧ w'.cell? ⟨b, off + k * 7, none⟩ = some (.int .i64 y.p) ∧ w'.cell? ⟨b, off + k * 7 + 1, none⟩ = some (.int .i64 y.o) ∧ w'.cell? ⟨b, off + k * 7 + 2, none⟩ = some (.int .i64 y.q) ∧ w'.cell? ⟨b, off + k * 7 + 3, none⟩ = some (.slice Ay y.r.length cy) ∧ w'.cell? ⟨b, off + k * 7 + 4, none⟩ = some (.int .i64 y.c) ∧ w'.cell? ⟨b, off + k * 7 + 5, none⟩ = some (.int .i64 y.b) ∧ w'.cell? ⟨b, off + k * 7 + 6, none⟩ = some (.int .i64 y.e)) (by kernel_rfl) hSd (fun hHeld => ?_)
              refine wpAnyH_take (i := 0) (oi := ?_) (v := ?_) ?_ (by kernel_rfl) (by kernel_rfl) (by kernel_rfl) ?_ (Or.inl ⟨?_, ?_⟩) (by assumption) ?_
              rotate_left 2
              · (simp only [List.getElem?_toArray, List.getElem?_cons_zero]; rfl)
              · first | exact fun _ _ _ h => h | exact fun _ _ _ h => by cases h.1
              · rfl
              · ((intro wq hSq; (try dsimp only at hSq); go_simp); (try with_reducible rfl))
              try simp only [Act.put, List.setIfInBounds_toArray, List.set_cons_zero, List.set_cons_succ]
              refine wpAnyH_take (i := 1) (oi := ?_) (v := ?_) ?_ (by kernel_rfl) (by kernel_rfl) (by kernel_rfl) ?_ (Or.inl ⟨?_, ?_⟩) (by assumption) ?_
              rotate_left 2
              · (simp only [List.getElem?_toArray, List.getElem?_cons_succ, List.getElem?_cons_zero]; rfl)
              · first | exact fun _ _ _ h => h | exact fun _ _ _ h => by cases h.1
              · rfl
              · ((intro wq hSq; (try dsimp only at hSq); go_simp); (try with_reducible rfl))
              try simp only [Act.put, List.setIfInBounds_toArray, List.set_cons_zero, List.set_cons_succ]
              refine wpAnyH_take (i := 2) (oi := ?_) (v := ?_) ?_ (by kernel_rfl) (by kernel_rfl) (by kernel_rfl) ?_ (Or.inl ⟨?_, ?_⟩) (by assumption) ?_
              rotate_left 2
              · (simp only [List.getElem?_toArray, List.getElem?_cons_succ, List.getElem?_cons_zero]; rfl)
              · first | exact fun _ _ _ h => h | exact fun _ _ _ h => by cases h.1
              · rfl
              · ((intro wq hSq; (try dsimp only at hSq); go_simp); (try with_reducible rfl))
              try simp only [Act.put, List.setIfInBounds_toArray, List.set_cons_zero, List.set_cons_succ]
              refine wpAnyH_take (i := 3) (oi := ?_) (v := ?_) ?_ (by kernel_rfl) (by kernel_rfl) (by kernel_rfl) ?_ (Or.inl ⟨?_, ?_⟩) (by assumption) ?_
              rotate_left 2
              · (simp only [List.getElem?_toArray, List.getElem?_cons_succ, List.getElem?_cons_zero]; rfl)
              · first | exact fun _ _ _ h => h | exact fun _ _ _ h => by cases h.1
              · rfl
              · ((intro wq hSq; (try dsimp only at hSq); go_simp); (try with_reducible rfl))
              try simp only [Act.put, List.setIfInBounds_toArray, List.set_cons_zero, List.set_cons_succ]
              refine wpAnyH_take (i := 4) (oi := ?_) (v := ?_) ?_ (by kernel_rfl) (by kernel_rfl) (by kernel_rfl) ?_ (Or.inl ⟨?_, ?_⟩) (by assumption) ?_
              rotate_left 2
              · (simp only [List.getElem?_toArray, List.getElem?_cons_succ, List.getElem?_cons_zero]; rfl)
              · first | exact fun _ _ _ h => h | exact fun _ _ _ h => by cases h.1
              · rfl
              · ((intro wq hSq; (try dsimp only at hSq); go_simp); (try with_reducible rfl))
              try simp only [Act.put, List.setIfInBounds_toArray, List.set_cons_zero, List.set_cons_succ]
              refine wpAnyH_take (i := 5) (oi := ?_) (v := ?_) ?_ (by kernel_rfl) (by kernel_rfl) (by kernel_rfl) ?_ (Or.inl ⟨?_, ?_⟩) (by assumption) ?_
              rotate_left 2
              · (simp only [List.getElem?_toArray, List.getElem?_cons_succ, List.getElem?_cons_zero]; rfl)
              · first | exact fun _ _ _ h => h | exact fun _ _ _ h => by cases h.1
              · rfl
              · ((intro wq hSq; (try dsimp only at hSq); go_simp); (try with_reducible rfl))
              try simp only [Act.put, List.setIfInBounds_toArray, List.set_cons_zero, List.set_cons_succ]
              refine wpAnyH_take (i := 6) (oi := ?_) (v := ?_) ?_ (by kernel_rfl) (by kernel_rfl) (by kernel_rfl) ?_ (Or.inl ⟨?_, ?_⟩) (by assumption) ?_
              rotate_left 2
              · (simp only [List.getElem?_toArray, List.getElem?_cons_succ, List.getElem?_cons_zero]; rfl)
              · first | exact fun _ _ _ h => h | exact fun _ _ _ h => by cases h.1
              · rfl
              · ((intro wq hSq; (try dsimp only at hSq); go_simp); (try with_reducible rfl))
              try simp only [Act.put, List.setIfInBounds_toArray, List.set_cons_zero, List.set_cons_succ]
              refine wpAnyH_take (i := 7) (oi := ?_) (v := ?_) ?_ (by kernel_rfl) (by kernel_rfl) (by kernel_rfl) ?_ (Or.inl ⟨?_, ?_⟩) (by assumption) ?_
              rotate_left 2
              · (simp only [List.getElem?_toArray, List.getElem?_cons_succ, List.getElem?_cons_zero]; rfl)
              · first | exact fun _ _ _ h => h | exact fun _ _ _ h => by cases h.1
              · rfl
              · ((intro wq hSq; (try dsimp only at hSq); go_simp); (try with_reducible rfl))
              try simp only [Act.put, List.setIfInBounds_toArray, List.set_cons_zero, List.set_cons_succ]
              refine wpAnyH_take (i := 8) (oi := ?_) (v := ?_) ?_ (by kernel_rfl) (by kernel_rfl) (by kernel_rfl) ?_ (Or.inl ⟨?_, ?_⟩) (by assumption) ?_
              rotate_left 2
              · (simp only [List.getElem?_toArray, List.getElem?_cons_succ, List.getElem?_cons_zero]; rfl)
              · first | exact fun _ _ _ h => h | exact fun _ _ _ h => by cases h.1
              · rfl
              · ((intro wq hSq; (try dsimp only at hSq); go_simp); (try with_reducible rfl))
              try simp only [Act.put, List.setIfInBounds_toArray, List.set_cons_zero, List.set_cons_succ]
              refine wpAnyH_take (i := 9) (oi := ?_) (v := ?_) ?_ (by kernel_rfl) (by kernel_rfl) (by kernel_rfl) ?_ (Or.inl ⟨?_, ?_⟩) (by assumption) ?_
              rotate_left 2
              · (simp only [List.getElem?_toArray, List.getElem?_cons_succ, List.getElem?_cons_zero]; rfl)
              · first | exact fun _ _ _ h => h | exact fun _ _ _ h => by cases h.1
              · rfl
              · ((intro wq hSq; (try dsimp only at hSq); go_simp); (try with_reducible rfl))
              try simp only [Act.put, List.setIfInBounds_toArray, List.set_cons_zero, List.set_cons_succ]
              refine wpAnyH_take (i := 10) (oi := ?_) (v := ?_) ?_ (by kernel_rfl) (by kernel_rfl) (by kernel_rfl) ?_ (Or.inl ⟨?_, ?_⟩) (by assumption) ?_
              rotate_left 2
              · (simp only [List.getElem?_toArray, List.getElem?_cons_succ, List.getElem?_cons_zero]; rfl)
              · first | exact fun _ _ _ h => h | exact fun _ _ _ h => by cases h.1
              · rfl
              · ((intro wq hSq; (try dsimp only at hSq); go_simp); (try with_reducible rfl))
              try simp only [Act.put, List.setIfInBounds_toArray, List.set_cons_zero, List.set_cons_succ]
              refine wpAnyH_take (i := 11) (oi := ?_) (v := ?_) ?_ (by kernel_rfl) (by kernel_rfl) (by kernel_rfl) ?_ (Or.inl ⟨?_, ?_⟩) (by assumption) ?_
              rotate_left 2
              · (simp only [List.getElem?_toArray, List.getElem?_cons_succ, List.getElem?_cons_zero]; rfl)
              · first | exact fun _ _ _ h => h | exact fun _ _ _ h => by cases h.1
              · rfl
              · ((intro wq hSq; (try dsimp only at hSq); go_simp); (try with_reducible rfl))
              try simp only [Act.put, List.setIfInBounds_toArray, List.set_cons_zero, List.set_cons_succ]
              refine wpAnyH_take (i := 12) (oi := ?_) (v := ?_) ?_ (by kernel_rfl) (by kernel_rfl) (by kernel_rfl) ?_ (Or.inl ⟨?_, ?_⟩) (by assumption) ?_
              rotate_left 2
              · (simp only [List.getElem?_toArray, List.getElem?_cons_succ, List.getElem?_cons_zero]; rfl)
              · first | exact fun _ _ _ h => h | exact fun _ _ _ h => by cases h.1
              · rfl
              · ((intro wq hSq; (try dsimp only at hSq); go_simp); (try with_reducible rfl))
              try simp only [Act.put, List.setIfInBounds_toArray, List.set_cons_zero, List.set_cons_succ]
              refine wpAnyH_take (i := 13) (oi := ?_) (v := ?_) ?_ (by kernel_rfl) (by kernel_rfl) (by kernel_rfl) ?_ (Or.inl ⟨?_, ?_⟩) (by assumption) ?_
              rotate_left 2
              · (simp only [List.getElem?_toArray, List.getElem?_cons_succ, List.getElem?_cons_zero]; rfl)
              · first | exact fun _ _ _ h => h | exact fun _ _ _ h => by cases h.1
              · rfl
              · ((intro wq hSq; (try dsimp only at hSq); go_simp); (try with_reducible rfl))
              try simp only [Act.put, List.setIfInBounds_toArray, List.set_cons_zero, List.set_cons_succ]
              refine wpAnyH_take (i := 14) (oi := ?_) (v := ?_) ?_ (by kernel_rfl) (by kernel_rfl) (by kernel_rfl) ?_ (Or.inl ⟨?_, ?_⟩) (by assumption) ?_
              rotate_left 2
              · (simp only [List.getElem?_toArray, List.getElem?_cons_succ, List.getElem?_cons_zero]; rfl)
              · first | exact fun _ _ _ h => h | exact fun _ _ _ h => by cases h.1
              · rfl
              · ((intro wq hSq; (try dsimp only at hSq); go_simp); (try with_reducible rfl))
              try simp only [Act.put, List.setIfInBounds_toArray, List.set_cons_zero, List.set_cons_succ]
              refine wpAnyH_take (i := 15) (oi := ?_) (v := ?_) ?_ (by kernel_rfl) (by kernel_rfl) (by kernel_rfl) ?_ (Or.inl ⟨?_, ?_⟩) (by assumption) ?_
              rotate_left 2
              · (simp only [List.getElem?_toArray, List.getElem?_cons_succ, List.getElem?_cons_zero]; rfl)
              · first | exact fun _ _ _ h => h | exact fun _ _ _ h => by cases h.1
              · rfl
              · ((intro wq hSq; (try dsimp only at hSq); go_simp); (try with_reducible rfl))
              try simp only [Act.put, List.setIfInBounds_toArray, List.set_cons_zero, List.set_cons_succ]
              refine wpAnyH_take (i := 16) (oi := ?_) (v := ?_) ?_ (by kernel_rfl) (by kernel_rfl) (by kernel_rfl) ?_ (Or.inl ⟨?_, ?_⟩) (by assumption) ?_
              rotate_left 2
              · (simp only [List.getElem?_toArray, List.getElem?_cons_succ, List.getElem?_cons_zero]; rfl)
              · first | exact fun _ _ _ h => h | exact fun _ _ _ h => by cases h.1
              · rfl
              · ((intro wq hSq; (try dsimp only at hSq); go_simp); (try with_reducible rfl))
              try simp only [Act.put, List.setIfInBounds_toArray, List.set_cons_zero, List.set_cons_succ]
              refine wpAnyH_take (i := 17) (oi := ?_) (v := ?_) ?_ (by kernel_rfl) (by kernel_rfl) (by kernel_rfl) ?_ (Or.inl ⟨?_, ?_⟩) (by assumption) ?_
              rotate_left 2
              · (simp only [List.getElem?_toArray, List.getElem?_cons_succ, List.getElem?_cons_zero]; rfl)
              · first | exact fun _ _ _ h => h | exact fun _ _ _ h => by cases h.1
              · rfl
              · ((intro wq hSq; (try dsimp only at hSq); go_simp); (try with_reducible rfl))
              try simp only [Act.put, List.setIfInBounds_toArray, List.set_cons_zero, List.set_cons_succ]
              refine wpAnyH_take (i := 18) (oi := ?_) (v := ?_) ?_ (by kernel_rfl) (by kernel_rfl) (by kernel_rfl) ?_ (Or.inl ⟨?_, ?_⟩) (by assumption) ?_
              rotate_left 2
              · (simp only [List.getElem?_toArray, List.getElem?_cons_succ, List.getElem?_cons_zero]; rfl)
              · first | exact fun _ _ _ h => h | exact fun _ _ _ h => by cases h.1
              · rfl
              · ((intro wq hSq; (try dsimp only at hSq); go_simp); (try with_reducible rfl))
              try simp only [Act.put, List.setIfInBounds_toArray, List.set_cons_zero, List.set_cons_succ]
              refine wpAnyH_take (i := 19) (oi := ?_) (v := ?_) ?_ (by kernel_rfl) (by kernel_rfl) (by kernel_rfl) ?_ (Or.inl ⟨?_, ?_⟩) (by assumption) ?_
              rotate_left 2
              · (simp only [List.getElem?_toArray, List.getElem?_cons_succ, List.getElem?_cons_zero]; rfl)
              · first | exact fun _ _ _ h => h | exact fun _ _ _ h => by cases h.1
              · rfl
              · ((intro wq hSq; (try dsimp only at hSq); go_simp); (try with_reducible rfl))
              try simp only [Act.put, List.setIfInBounds_toArray, List.set_cons_zero, List.set_cons_succ]
              refine wpAnyH_take (i := 20) (oi := ?_) (v := ?_) ?_ (by kernel_rfl) (by kernel_rfl) (by kernel_rfl) ?_ (Or.inl ⟨?_, ?_⟩) (by assumption) ?_
              rotate_left 2
              · (simp only [List.getElem?_toArray, List.getElem?_cons_succ, List.getElem?_cons_zero]; rfl)
              · first | exact fun _ _ _ h => h | exact fun _ _ _ h => by cases h.1
              · rfl
              · ((intro wq hSq; (try dsimp only at hSq); go_simp); (try with_reducible rfl))
              try simp only [Act.put, List.setIfInBounds_toArray, List.set_cons_zero, List.set_cons_succ]
              refine wpAnyH_take (i := 21) (oi := ?_) (v := ?_) ?_ (by kernel_rfl) (by kernel_rfl) (by kernel_rfl) ?_ (Or.inl ⟨?_, ?_⟩) (by assumption) ?_
              rotate_left 2
              · (simp only [List.getElem?_toArray, List.getElem?_cons_succ, List.getElem?_cons_zero]; rfl)
              · first | exact fun _ _ _ h => h | exact fun _ _ _ h => by cases h.1
              · rfl
              · ((intro wq hSq; (try dsimp only at hSq); go_simp); (try with_reducible rfl))
              try simp only [Act.put, List.setIfInBounds_toArray, List.set_cons_zero, List.set_cons_succ]
              refine wpAnyH_take (i := 22) (oi := ?_) (v := ?_) ?_ (by kernel_rfl) (by kernel_rfl) (by kernel_rfl) ?_ (Or.inl ⟨?_, ?_⟩) (by assumption) ?_
              rotate_left 2
              · (simp only [List.getElem?_toArray, List.getElem?_cons_succ, List.getElem?_cons_zero]; rfl)
              · first | exact fun _ _ _ h => h | exact fun _ _ _ h => by cases h.1
              · rfl
              · ((intro wq hSq; (try dsimp only at hSq); go_simp); (try with_reducible rfl))
              try simp only [Act.put, List.setIfInBounds_toArray, List.set_cons_zero, List.set_cons_succ]
              refine wpAnyH_take (i := 23) (oi := ?_) (v := ?_) ?_ (by kernel_rfl) (by kernel_rfl) (by kernel_rfl) ?_ (Or.inl ⟨?_, ?_⟩) (by assumption) ?_
              rotate_left 2
              · (simp only [List.getElem?_toArray, List.getElem?_cons_succ, List.getElem?_cons_zero]; rfl)
              · first | exact fun _ _ _ h => h | exact fun _ _ _ h => by cases h.1
              · rfl
              · ((intro wq hSq; (try dsimp only at hSq); go_simp); (try with_reducible rfl))
              try simp only [Act.put, List.setIfInBounds_toArray, List.set_cons_zero, List.set_cons_succ]
              refine wpAnyH_take (i := 24) (oi := ?_) (v := ?_) ?_ (by kernel_rfl) (by kernel_rfl) (by kernel_rfl) ?_ (Or.inl ⟨?_, ?_⟩) (by assumption) ?_
              rotate_left 2
              · (simp only [List.getElem?_toArray, List.getElem?_cons_succ, List.getElem?_cons_zero]; rfl)
              · first | exact fun _ _ _ h => h | exact fun _ _ _ h => by cases h.1
              · rfl
              · ((intro wq hSq; (try dsimp only at hSq); go_simp); (try with_reducible rfl))
              try simp only [Act.put, List.setIfInBounds_toArray, List.set_cons_zero, List.set_cons_succ]
              refine wpAnyH_ready (rs := [25]) (by kernel_rfl) (by simp) ?_
              refine AllReadyH.cons (o := ?_) ?_ (fun K hK => ?_) AllReadyH.nil
              rotate_left
              · (simp only [List.getElem?_toArray, List.getElem?_cons_succ, List.getElem?_cons_zero]; rfl)
              go_simp
              go_at_call 28
              refine (hb1''.out _).mono ?_
              rintro e wx ⟨rfl, hbx⟩
              have hSx := RhSt.below (w := w) (b := b) (off := off) (i := i) (k := k) (x := x) (y := y) (Ax := Ax2) (Ay := Ay) (cx := cx2) (cy := cy) hHeld hbx
              refine hK.out _ _ hSx (fun hHeld => ?_)
              clear hK K
              try simp only [Act.put, List.setIfInBounds_toArray, List.set_cons_zero, List.set_cons_succ]
              refine wpAnyH_take (i := 26) (oi := ?_) (v := ?_) ?_ (by kernel_rfl) (by kernel_rfl) (by kernel_rfl) ?_ (Or.inl ⟨?_, ?_⟩) (by assumption) ?_
              rotate_left 2
              · (simp only [List.getElem?_toArray, List.getElem?_cons_succ, List.getElem?_cons_zero]; rfl)
              · first | exact fun _ _ _ h => h | exact fun _ _ _ h => by cases h.1
              · rfl
              · ((intro wq hSq; (try dsimp only at hSq); go_simp); (try with_reducible rfl))
              try simp only [Act.put, List.setIfInBounds_toArray, List.set_cons_zero, List.set_cons_succ]
              refine wpAnyH_take (i := 27) (oi := ?_) (v := ?_) ?_ (by kernel_rfl) (by kernel_rfl) (by kernel_rfl) ?_ (Or.inl ⟨?_, ?_⟩) (by assumption) ?_
              rotate_left 2
              · (simp only [List.getElem?_toArray, List.getElem?_cons_succ, List.getElem?_cons_zero]; rfl)
              · first | exact fun _ _ _ h => h | exact fun _ _ _ h => by cases h.1
              · rfl
              · ((intro wq hSq; (try dsimp only at hSq); go_simp); (try with_reducible rfl))
              try simp only [Act.put, List.setIfInBounds_toArray, List.set_cons_zero, List.set_cons_succ]
              refine wpAnyH_take (i := 28) (oi := ?_) (v := ?_) ?_ (by kernel_rfl) (by kernel_rfl) (by kernel_rfl) ?_ (Or.inl ⟨?_, ?_⟩) (by assumption) ?_
              rotate_left 2
              · (simp only [List.getElem?_toArray, List.getElem?_cons_succ, List.getElem?_cons_zero]; rfl)
              · first | exact fun _ _ _ h => h | exact fun _ _ _ h => by cases h.1
              · rfl
              · ((intro wq hSq; (try dsimp only at hSq); go_simp); (try with_reducible rfl))
              try simp only [Act.put, List.setIfInBounds_toArray, List.set_cons_zero, List.set_cons_succ]
              refine wpAnyH_take (i := 29) (oi := ?_) (v := undef) ?_ (by kernel_rfl) (by kernel_rfl) (by kernel_rfl) ?_ (Or.inr ⟨?_, rfl⟩) (by assumption) ?_
              rotate_left 1
              · (simp only [List.getElem?_toArray, List.getElem?_cons_succ, List.getElem?_cons_zero]; rfl)
              · first | exact fun _ _ _ h => h | exact fun _ _ _ h => by cases h.1
              · rfl
              try simp only [Act.put, List.setIfInBounds_toArray, List.set_cons_zero, List.set_cons_succ]
              refine wpAnyH_take (i := 30) (oi := ?_) (v := undef) ?_ (by kernel_rfl) (by kernel_rfl) (by kernel_rfl) ?_ (Or.inr ⟨?_, rfl⟩) (by assumption) ?_
              rotate_left 1
              · (simp only [List.getElem?_toArray, List.getElem?_cons_succ, List.getElem?_cons_zero]; rfl)
              · first | exact fun _ _ _ h => h | exact fun _ _ _ h => by cases h.1
              · rfl
              try simp only [Act.put, List.setIfInBounds_toArray, List.set_cons_zero, List.set_cons_succ]
              refine wpAnyH_take (i := 31) (oi := ?_) (v := undef) ?_ (by kernel_rfl) (by kernel_rfl) (by kernel_rfl) ?_ (Or.inr ⟨?_, rfl⟩) (by assumption) ?_
              rotate_left 1
              · (simp only [List.getElem?_toArray, List.getElem?_cons_succ, List.getElem?_cons_zero]; rfl)
              · first | exact fun _ _ _ h => h | exact fun _ _ _ h => by cases h.1
              · rfl
              try simp only [Act.put, List.setIfInBounds_toArray, List.set_cons_zero, List.set_cons_succ]
              refine wpAnyH_take (i := 32) (oi := ?_) (v := undef) ?_ (by kernel_rfl) (by kernel_rfl) (by kernel_rfl) ?_ (Or.inr ⟨?_, rfl⟩) (by assumption) ?_
              rotate_left 1
              · (simp only [List.getElem?_toArray, List.getElem?_cons_succ, List.getElem?_cons_zero]; rfl)
              · first | exact fun _ _ _ h => h | exact fun _ _ _ h => by cases h.1
              · rfl
              try simp only [Act.put, List.setIfInBounds_toArray, List.set_cons_zero, List.set_cons_succ]
              refine wpAnyH_take (i := 33) (oi := ?_) (v := undef) ?_ (by kernel_rfl) (by kernel_rfl) (by kernel_rfl) ?_ (Or.inr ⟨?_, rfl⟩) (by assumption) ?_
              rotate_left 1
              · (simp only [List.getElem?_toArray, List.getElem?_cons_succ, List.getElem?_cons_zero]; rfl)
              · first | exact fun _ _ _ h => h | exact fun _ _ _ h => by cases h.1
              · rfl
              try simp only [Act.put, List.setIfInBounds_toArray, List.set_cons_zero, List.set_cons_succ]
              refine wpAnyH_take (i := 34) (oi := ?_) (v := undef) ?_ (by kernel_rfl) (by kernel_rfl) (by kernel_rfl) ?_ (Or.inr ⟨?_, rfl⟩) (by assumption) ?_
              rotate_left 1
              · (simp only [List.getElem?_toArray, List.getElem?_cons_succ, List.getElem?_cons_zero]; rfl)
              · first | exact fun _ _ _ h => h | exact fun _ _ _ h => by cases h.1
              · rfl
              try simp only [Act.put, List.setIfInBounds_toArray, List.set_cons_zero, List.set_cons_succ]
              refine wpAnyH_take (i := 35) (oi := ?_) (v := undef) ?_ (by kernel_rfl) (by kernel_rfl) (by kernel_rfl) ?_ (Or.inr ⟨?_, rfl⟩) (by assumption) ?_
              rotate_left 1
              · (simp only [List.getElem?_toArray, List.getElem?_cons_succ, List.getElem?_cons_zero]; rfl)
              · first | exact fun _ _ _ h => h | exact fun _ _ _ h => by cases h.1
              · rfl
              try simp only [Act.put, List.setIfInBounds_toArray, List.set_cons_zero, List.set_cons_succ]
              refine wpAnyH_take (i := 36) (oi := ?_) (v := undef) ?_ (by kernel_rfl) (by kernel_rfl) (by kernel_rfl) ?_ (Or.inr ⟨?_, rfl⟩) (by assumption) ?_
              rotate_left 1
              · (simp only [List.getElem?_toArray, List.getElem?_cons_succ, List.getElem?_cons_zero]; rfl)
              · first | exact fun _ _ _ h => h | exact fun _ _ _ h => by cases h.1
              · rfl
              try simp only [Act.put, List.setIfInBounds_toArray, List.set_cons_zero, List.set_cons_succ]
              refine wpAnyH_take (i := 37) (oi := ?_) (v := undef) ?_ (by kernel_rfl) (by kernel_rfl) (by kernel_rfl) ?_ (Or.inr ⟨?_, rfl⟩) (by assumption) ?_
              rotate_left 1
              · (simp only [List.getElem?_toArray, List.getElem?_cons_succ, List.getElem?_cons_zero]; rfl)
              · first | exact fun _ _ _ h => h | exact fun _ _ _ h => by cases h.1
              · rfl
              try simp only [Act.put, List.setIfInBounds_toArray, List.set_cons_zero, List.set_cons_succ]
              refine wpAnyH_take (i := 38) (oi := ?_) (v := undef) ?_ (by kernel_rfl) (by kernel_rfl) (by kernel_rfl) ?_ (Or.inr ⟨?_, rfl⟩) (by assumption) ?_
              rotate_left 1
              · (simp only [List.getElem?_toArray, List.getElem?_cons_succ, List.getElem?_cons_zero]; rfl)
              · first | exact fun _ _ _ h => h | exact fun _ _ _ h => by cases h.1
              · rfl
              try simp only [Act.put, List.setIfInBounds_toArray, List.set_cons_zero, List.set_cons_succ]
              refine wpAnyH_take (i := 39) (oi := ?_) (v := ?_) ?_ (by kernel_rfl) (by kernel_rfl) (by kernel_rfl) ?_ (Or.inl ⟨?_, ?_⟩) (by assumption) ?_
              rotate_left 2
              · (simp only [List.getElem?_toArray, List.getElem?_cons_succ, List.getElem?_cons_zero]; rfl)
              · first | exact fun _ _ _ h => h | exact fun _ _ _ h => by cases h.1
              · rfl
              · ((intro wq hSq; (try dsimp only at hSq); go_simp); (try with_reducible rfl))
              try simp only [Act.put, List.setIfInBounds_toArray, List.set_cons_zero, List.set_cons_succ]
              refine wpAnyH_done (by kernel_rfl) ?_ _
              go_wp2_with fail
              go_roundw
              case rel => exact ⟨k + 1, by omega, by go_num, fun n z hi hne hz => by
                  by_cases e : n = k
                  · subst e; have := hy'.out; rw [hz] at this; cases this; exact pp.out
                  · exact hpm'.out n z (by omega) hne hz, hHeld.1⟩
              case measure => simp [intOf]; omega
            all_goals
              have pp := Lib.hid p4
              have hb1' := hb1.out
              have hb2' := hb2.out
              rw [p2] at hb1'
              rw [p3] at hb2'
              have hb1'' := Lib.hid hb1'
              have hb2'' := Lib.hid hb2'
              clear p4 p3 p2 hb1' hb1 hb2 hb2'
              go_wp2_with fail
              refine wp_region_held_drew (S := fun w' => Below w.heap.size w w' ∧ w'.cell? ⟨b, off + i * 7, none⟩ = some (.int .i64 x.p) ∧ w'.cell? ⟨b, off + i * 7 + 1, none⟩ = some (.int .i64 x.o) ∧ w'.cell? ⟨b, off + i * 7 + 2, none⟩ = some (.int .i64 x.q) ∧ w'.cell? ⟨b, off + i * 7 + 3, none⟩ = some (.slice Ax2 x.r.length cx2) ∧ w'.cell? ⟨b, off + i * 7 + 4, none⟩ = some (.int .i64 x.c) ∧ w'.cell? ⟨b, off + i * 7 + 5, none⟩ = some (.int .i64 x.b) ∧ w'.cell? ⟨b, off + i * 7 + 6, none⟩ = some (.int .i64 x.e) ∧ w'.cell? ⟨b, off + k * 7, none⟩ = some (.int .i64 y.p) ∧ w'.cell? ⟨b, off + k * 7 + 1, none⟩ = some (.int .i64 y.o) ∧ w'.cell? ⟨b, off + k * 7 + 2, none⟩ = some (.int .i64 y.q) ∧ w'.cell? ⟨b, off + k * 7 + 3, none⟩ = some (.slice Ay y.r.length cy) ∧ w'.cell? ⟨b, off + k * 7 + 4, none⟩ = some (.int .i64 y.c) ∧ w'.cell? ⟨b, off + k * 7 + 5, none⟩ = some (.int .i64 y.b) ∧ w'.cell? ⟨b, off + k * 7 + 6, none⟩ = some (.int .i64 y.e)) (by kernel_rfl) hSd (fun hHeld => ?_)
              refine wpAnyH_take (i := 0) (oi := ?_) (v := ?_) ?_ (by kernel_rfl) (by kernel_rfl) (by kernel_rfl) ?_ (Or.inl ⟨?_, ?_⟩) (by assumption) ?_
              rotate_left 2
              · (simp only [List.getElem?_toArray, List.getElem?_cons_zero]; rfl)
              · first | exact fun _ _ _ h => h | exact fun _ _ _ h => by cases h.1
              · rfl
              · ((intro wq hSq; (try dsimp only at hSq); go_simp); (try with_reducible rfl))
              try simp only [Act.put, List.setIfInBounds_toArray, List.set_cons_zero, List.set_cons_succ]
              refine wpAnyH_take (i := 1) (oi := ?_) (v := ?_) ?_ (by kernel_rfl) (by kernel_rfl) (by kernel_rfl) ?_ (Or.inl ⟨?_, ?_⟩) (by assumption) ?_
              rotate_left 2
              · (simp only [List.getElem?_toArray, List.getElem?_cons_succ, List.getElem?_cons_zero]; rfl)
              · first | exact fun _ _ _ h => h | exact fun _ _ _ h => by cases h.1
              · rfl
              · ((intro wq hSq; (try dsimp only at hSq); go_simp); (try with_reducible rfl))
              try simp only [Act.put, List.setIfInBounds_toArray, List.set_cons_zero, List.set_cons_succ]
              refine wpAnyH_take (i := 2) (oi := ?_) (v := ?_) ?_ (by kernel_rfl) (by kernel_rfl) (by kernel_rfl) ?_ (Or.inl ⟨?_, ?_⟩) (by assumption) ?_
              rotate_left 2
              · (simp only [List.getElem?_toArray, List.getElem?_cons_succ, List.getElem?_cons_zero]; rfl)
              · first | exact fun _ _ _ h => h | exact fun _ _ _ h => by cases h.1
              · rfl
              · ((intro wq hSq; (try dsimp only at hSq); go_simp); (try with_reducible rfl))
              try simp only [Act.put, List.setIfInBounds_toArray, List.set_cons_zero, List.set_cons_succ]
              refine wpAnyH_take (i := 3) (oi := ?_) (v := ?_) ?_ (by kernel_rfl) (by kernel_rfl) (by kernel_rfl) ?_ (Or.inl ⟨?_, ?_⟩) (by assumption) ?_
              rotate_left 2
              · (simp only [List.getElem?_toArray, List.getElem?_cons_succ, List.getElem?_cons_zero]; rfl)
              · first | exact fun _ _ _ h => h | exact fun _ _ _ h => by cases h.1
              · rfl
              · ((intro wq hSq; (try dsimp only at hSq); go_simp); (try with_reducible rfl))
              try simp only [Act.put, List.setIfInBounds_toArray, List.set_cons_zero, List.set_cons_succ]
              refine wpAnyH_take (i := 4) (oi := ?_) (v := ?_) ?_ (by kernel_rfl) (by kernel_rfl) (by kernel_rfl) ?_ (Or.inl ⟨?_, ?_⟩) (by assumption) ?_
              rotate_left 2
              · (simp only [List.getElem?_toArray, List.getElem?_cons_succ, List.getElem?_cons_zero]; rfl)
              · first | exact fun _ _ _ h => h | exact fun _ _ _ h => by cases h.1
              · rfl
              · ((intro wq hSq; (try dsimp only at hSq); go_simp); (try with_reducible rfl))
              try simp only [Act.put, List.setIfInBounds_toArray, List.set_cons_zero, List.set_cons_succ]
              refine wpAnyH_take (i := 5) (oi := ?_) (v := ?_) ?_ (by kernel_rfl) (by kernel_rfl) (by kernel_rfl) ?_ (Or.inl ⟨?_, ?_⟩) (by assumption) ?_
              rotate_left 2
              · (simp only [List.getElem?_toArray, List.getElem?_cons_succ, List.getElem?_cons_zero]; rfl)
              · first | exact fun _ _ _ h => h | exact fun _ _ _ h => by cases h.1
              · rfl
              · ((intro wq hSq; (try dsimp only at hSq); go_simp); (try with_reducible rfl))
              try simp only [Act.put, List.setIfInBounds_toArray, List.set_cons_zero, List.set_cons_succ]
              refine wpAnyH_take (i := 6) (oi := ?_) (v := ?_) ?_ (by kernel_rfl) (by kernel_rfl) (by kernel_rfl) ?_ (Or.inl ⟨?_, ?_⟩) (by assumption) ?_
              rotate_left 2
              · (simp only [List.getElem?_toArray, List.getElem?_cons_succ, List.getElem?_cons_zero]; rfl)
              · first | exact fun _ _ _ h => h | exact fun _ _ _ h => by cases h.1
              · rfl
              · ((intro wq hSq; (try dsimp only at hSq); go_simp); (try with_reducible rfl))
              try simp only [Act.put, List.setIfInBounds_toArray, List.set_cons_zero, List.set_cons_succ]
              refine wpAnyH_take (i := 7) (oi := ?_) (v := ?_) ?_ (by kernel_rfl) (by kernel_rfl) (by kernel_rfl) ?_ (Or.inl ⟨?_, ?_⟩) (by assumption) ?_
              rotate_left 2
              · (simp only [List.getElem?_toArray, List.getElem?_cons_succ, List.getElem?_cons_zero]; rfl)
              · first | exact fun _ _ _ h => h | exact fun _ _ _ h => by cases h.1
              · rfl
              · ((intro wq hSq; (try dsimp only at hSq); go_simp); (try with_reducible rfl))
              try simp only [Act.put, List.setIfInBounds_toArray, List.set_cons_zero, List.set_cons_succ]
              refine wpAnyH_take (i := 8) (oi := ?_) (v := ?_) ?_ (by kernel_rfl) (by kernel_rfl) (by kernel_rfl) ?_ (Or.inl ⟨?_, ?_⟩) (by assumption) ?_
              rotate_left 2
              · (simp only [List.getElem?_toArray, List.getElem?_cons_succ, List.getElem?_cons_zero]; rfl)
              · first | exact fun _ _ _ h => h | exact fun _ _ _ h => by cases h.1
              · rfl
              · ((intro wq hSq; (try dsimp only at hSq); go_simp); (try with_reducible rfl))
              try simp only [Act.put, List.setIfInBounds_toArray, List.set_cons_zero, List.set_cons_succ]
              refine wpAnyH_take (i := 9) (oi := ?_) (v := ?_) ?_ (by kernel_rfl) (by kernel_rfl) (by kernel_rfl) ?_ (Or.inl ⟨?_, ?_⟩) (by assumption) ?_
              rotate_left 2
              · (simp only [List.getElem?_toArray, List.getElem?_cons_succ, List.getElem?_cons_zero]; rfl)
              · first | exact fun _ _ _ h => h | exact fun _ _ _ h => by cases h.1
              · rfl
              · ((intro wq hSq; (try dsimp only at hSq); go_simp); (try with_reducible rfl))
              try simp only [Act.put, List.setIfInBounds_toArray, List.set_cons_zero, List.set_cons_succ]
              refine wpAnyH_take (i := 10) (oi := ?_) (v := ?_) ?_ (by kernel_rfl) (by kernel_rfl) (by kernel_rfl) ?_ (Or.inl ⟨?_, ?_⟩) (by assumption) ?_
              rotate_left 2
              · (simp only [List.getElem?_toArray, List.getElem?_cons_succ, List.getElem?_cons_zero]; rfl)
              · first | exact fun _ _ _ h => h | exact fun _ _ _ h => by cases h.1
              · rfl
              · ((intro wq hSq; (try dsimp only at hSq); go_simp); (try with_reducible rfl))
              try simp only [Act.put, List.setIfInBounds_toArray, List.set_cons_zero, List.set_cons_succ]
              refine wpAnyH_take (i := 11) (oi := ?_) (v := ?_) ?_ (by kernel_rfl) (by kernel_rfl) (by kernel_rfl) ?_ (Or.inl ⟨?_, ?_⟩) (by assumption) ?_
              rotate_left 2
              · (simp only [List.getElem?_toArray, List.getElem?_cons_succ, List.getElem?_cons_zero]; rfl)
              · first | exact fun _ _ _ h => h | exact fun _ _ _ h => by cases h.1
              · rfl
              · ((intro wq hSq; (try dsimp only at hSq); go_simp); (try with_reducible rfl))
              try simp only [Act.put, List.setIfInBounds_toArray, List.set_cons_zero, List.set_cons_succ]
              refine wpAnyH_take (i := 12) (oi := ?_) (v := ?_) ?_ (by kernel_rfl) (by kernel_rfl) (by kernel_rfl) ?_ (Or.inl ⟨?_, ?_⟩) (by assumption) ?_
              rotate_left 2
              · (simp only [List.getElem?_toArray, List.getElem?_cons_succ, List.getElem?_cons_zero]; rfl)
              · first | exact fun _ _ _ h => h | exact fun _ _ _ h => by cases h.1
              · rfl
              · ((intro wq hSq; (try dsimp only at hSq); go_simp); (try with_reducible rfl))
              try simp only [Act.put, List.setIfInBounds_toArray, List.set_cons_zero, List.set_cons_succ]
              refine wpAnyH_take (i := 13) (oi := ?_) (v := ?_) ?_ (by kernel_rfl) (by kernel_rfl) (by kernel_rfl) ?_ (Or.inl ⟨?_, ?_⟩) (by assumption) ?_
              rotate_left 2
              · (simp only [List.getElem?_toArray, List.getElem?_cons_succ, List.getElem?_cons_zero]; rfl)
              · first | exact fun _ _ _ h => h | exact fun _ _ _ h => by cases h.1
              · rfl
              · ((intro wq hSq; (try dsimp only at hSq); go_simp); (try with_reducible rfl))
              try simp only [Act.put, List.setIfInBounds_toArray, List.set_cons_zero, List.set_cons_succ]
              refine wpAnyH_take (i := 14) (oi := ?_) (v := ?_) ?_ (by kernel_rfl) (by kernel_rfl) (by kernel_rfl) ?_ (Or.inl ⟨?_, ?_⟩) (by assumption) ?_
              rotate_left 2
              · (simp only [List.getElem?_toArray, List.getElem?_cons_succ, List.getElem?_cons_zero]; rfl)
              · first | exact fun _ _ _ h => h | exact fun _ _ _ h => by cases h.1
              · rfl
              · ((intro wq hSq; (try dsimp only at hSq); go_simp); (try with_reducible rfl))
              try simp only [Act.put, List.setIfInBounds_toArray, List.set_cons_zero, List.set_cons_succ]
              refine wpAnyH_take (i := 15) (oi := ?_) (v := ?_) ?_ (by kernel_rfl) (by kernel_rfl) (by kernel_rfl) ?_ (Or.inl ⟨?_, ?_⟩) (by assumption) ?_
              rotate_left 2
              · (simp only [List.getElem?_toArray, List.getElem?_cons_succ, List.getElem?_cons_zero]; rfl)
              · first | exact fun _ _ _ h => h | exact fun _ _ _ h => by cases h.1
              · rfl
              · ((intro wq hSq; (try dsimp only at hSq); go_simp); (try with_reducible rfl))
              try simp only [Act.put, List.setIfInBounds_toArray, List.set_cons_zero, List.set_cons_succ]
              refine wpAnyH_take (i := 16) (oi := ?_) (v := ?_) ?_ (by kernel_rfl) (by kernel_rfl) (by kernel_rfl) ?_ (Or.inl ⟨?_, ?_⟩) (by assumption) ?_
              rotate_left 2
              · (simp only [List.getElem?_toArray, List.getElem?_cons_succ, List.getElem?_cons_zero]; rfl)
              · first | exact fun _ _ _ h => h | exact fun _ _ _ h => by cases h.1
              · rfl
              · ((intro wq hSq; (try dsimp only at hSq); go_simp); (try with_reducible rfl))
              try simp only [Act.put, List.setIfInBounds_toArray, List.set_cons_zero, List.set_cons_succ]
              refine wpAnyH_take (i := 17) (oi := ?_) (v := ?_) ?_ (by kernel_rfl) (by kernel_rfl) (by kernel_rfl) ?_ (Or.inl ⟨?_, ?_⟩) (by assumption) ?_
              rotate_left 2
              · (simp only [List.getElem?_toArray, List.getElem?_cons_succ, List.getElem?_cons_zero]; rfl)
              · first | exact fun _ _ _ h => h | exact fun _ _ _ h => by cases h.1
              · rfl
              · ((intro wq hSq; (try dsimp only at hSq); go_simp); (try with_reducible rfl))
              try simp only [Act.put, List.setIfInBounds_toArray, List.set_cons_zero, List.set_cons_succ]
              refine wpAnyH_take (i := 18) (oi := ?_) (v := ?_) ?_ (by kernel_rfl) (by kernel_rfl) (by kernel_rfl) ?_ (Or.inl ⟨?_, ?_⟩) (by assumption) ?_
              rotate_left 2
              · (simp only [List.getElem?_toArray, List.getElem?_cons_succ, List.getElem?_cons_zero]; rfl)
              · first | exact fun _ _ _ h => h | exact fun _ _ _ h => by cases h.1
              · rfl
              · ((intro wq hSq; (try dsimp only at hSq); go_simp); (try with_reducible rfl))
              try simp only [Act.put, List.setIfInBounds_toArray, List.set_cons_zero, List.set_cons_succ]
              refine wpAnyH_take (i := 19) (oi := ?_) (v := ?_) ?_ (by kernel_rfl) (by kernel_rfl) (by kernel_rfl) ?_ (Or.inl ⟨?_, ?_⟩) (by assumption) ?_
              rotate_left 2
              · (simp only [List.getElem?_toArray, List.getElem?_cons_succ, List.getElem?_cons_zero]; rfl)
              · first | exact fun _ _ _ h => h | exact fun _ _ _ h => by cases h.1
              · rfl
              · ((intro wq hSq; (try dsimp only at hSq); go_simp); (try with_reducible rfl))
              try simp only [Act.put, List.setIfInBounds_toArray, List.set_cons_zero, List.set_cons_succ]
              refine wpAnyH_take (i := 20) (oi := ?_) (v := ?_) ?_ (by kernel_rfl) (by kernel_rfl) (by kernel_rfl) ?_ (Or.inl ⟨?_, ?_⟩) (by assumption) ?_
              rotate_left 2
              · (simp only [List.getElem?_toArray, List.getElem?_cons_succ, List.getElem?_cons_zero]; rfl)
              · first | exact fun _ _ _ h => h | exact fun _ _ _ h => by cases h.1
              · rfl
              · ((intro wq hSq; (try dsimp only at hSq); go_simp); (try with_reducible rfl))
              try simp only [Act.put, List.setIfInBounds_toArray, List.set_cons_zero, List.set_cons_succ]
              refine wpAnyH_take (i := 21) (oi := ?_) (v := ?_) ?_ (by kernel_rfl) (by kernel_rfl) (by kernel_rfl) ?_ (Or.inl ⟨?_, ?_⟩) (by assumption) ?_
              rotate_left 2
              · (simp only [List.getElem?_toArray, List.getElem?_cons_succ, List.getElem?_cons_zero]; rfl)
              · first | exact fun _ _ _ h => h | exact fun _ _ _ h => by cases h.1
              · rfl
              · ((intro wq hSq; (try dsimp only at hSq); go_simp); (try with_reducible rfl))
              try simp only [Act.put, List.setIfInBounds_toArray, List.set_cons_zero, List.set_cons_succ]
              refine wpAnyH_take (i := 22) (oi := ?_) (v := ?_) ?_ (by kernel_rfl) (by kernel_rfl) (by kernel_rfl) ?_ (Or.inl ⟨?_, ?_⟩) (by assumption) ?_
              rotate_left 2
              · (simp only [List.getElem?_toArray, List.getElem?_cons_succ, List.getElem?_cons_zero]; rfl)
              · first | exact fun _ _ _ h => h | exact fun _ _ _ h => by cases h.1
              · rfl
              · ((intro wq hSq; (try dsimp only at hSq); go_simp); (try with_reducible rfl))
              try simp only [Act.put, List.setIfInBounds_toArray, List.set_cons_zero, List.set_cons_succ]
              refine wpAnyH_take (i := 23) (oi := ?_) (v := ?_) ?_ (by kernel_rfl) (by kernel_rfl) (by kernel_rfl) ?_ (Or.inl ⟨?_, ?_⟩) (by assumption) ?_
              rotate_left 2
              · (simp only [List.getElem?_toArray, List.getElem?_cons_succ, List.getElem?_cons_zero]; rfl)
              · first | exact fun _ _ _ h => h | exact fun _ _ _ h => by cases h.1
              · rfl
              · ((intro wq hSq; (try dsimp only at hSq); go_simp); (try with_reducible rfl))
              try simp only [Act.put, List.setIfInBounds_toArray, List.set_cons_zero, List.set_cons_succ]
              refine wpAnyH_take (i := 24) (oi := ?_) (v := ?_) ?_ (by kernel_rfl) (by kernel_rfl) (by kernel_rfl) ?_ (Or.inl ⟨?_, ?_⟩) (by assumption) ?_
              rotate_left 2
              · (simp only [List.getElem?_toArray, List.getElem?_cons_succ, List.getElem?_cons_zero]; rfl)
              · first | exact fun _ _ _ h => h | exact fun _ _ _ h => by cases h.1
              · rfl
              · ((intro wq hSq; (try dsimp only at hSq); go_simp); (try with_reducible rfl))
              try simp only [Act.put, List.setIfInBounds_toArray, List.set_cons_zero, List.set_cons_succ]
              refine wpAnyH_ready (rs := [25]) (by kernel_rfl) (by simp) ?_
              refine AllReadyH.cons (o := ?_) ?_ (fun K hK => ?_) AllReadyH.nil
              rotate_left
              · (simp only [List.getElem?_toArray, List.getElem?_cons_succ, List.getElem?_cons_zero]; rfl)
              go_simp
              go_at_call 28
              refine (hb1''.out _).mono ?_
              rintro e wx ⟨rfl, hbx⟩
              have hSx := RhSt.below (w := w) (b := b) (off := off) (i := i) (k := k) (x := x) (y := y) (Ax := Ax2) (Ay := Ay) (cx := cx2) (cy := cy) hHeld hbx
              refine hK.out _ _ hSx (fun hHeld => ?_)
              clear hK K
              try simp only [Act.put, List.setIfInBounds_toArray, List.set_cons_zero, List.set_cons_succ]
              refine wpAnyH_take (i := 26) (oi := ?_) (v := ?_) ?_ (by kernel_rfl) (by kernel_rfl) (by kernel_rfl) ?_ (Or.inl ⟨?_, ?_⟩) (by assumption) ?_
              rotate_left 2
              · (simp only [List.getElem?_toArray, List.getElem?_cons_succ, List.getElem?_cons_zero]; rfl)
              · first | exact fun _ _ _ h => h | exact fun _ _ _ h => by cases h.1
              · rfl
              · ((intro wq hSq; (try dsimp only at hSq); go_simp); (try with_reducible rfl))
              try simp only [Act.put, List.setIfInBounds_toArray, List.set_cons_zero, List.set_cons_succ]
              refine wpAnyH_take (i := 27) (oi := ?_) (v := ?_) ?_ (by kernel_rfl) (by kernel_rfl) (by kernel_rfl) ?_ (Or.inl ⟨?_, ?_⟩) (by assumption) ?_
              rotate_left 2
              · (simp only [List.getElem?_toArray, List.getElem?_cons_succ, List.getElem?_cons_zero]; rfl)
              · first | exact fun _ _ _ h => h | exact fun _ _ _ h => by cases h.1
              · rfl
              · ((intro wq hSq; (try dsimp only at hSq); go_simp); (try with_reducible rfl))
              try simp only [Act.put, List.setIfInBounds_toArray, List.set_cons_zero, List.set_cons_succ]
              refine wpAnyH_take (i := 28) (oi := ?_) (v := ?_) ?_ (by kernel_rfl) (by kernel_rfl) (by kernel_rfl) ?_ (Or.inl ⟨?_, ?_⟩) (by assumption) ?_
              rotate_left 2
              · (simp only [List.getElem?_toArray, List.getElem?_cons_succ, List.getElem?_cons_zero]; rfl)
              · first | exact fun _ _ _ h => h | exact fun _ _ _ h => by cases h.1
              · rfl
              · ((intro wq hSq; (try dsimp only at hSq); go_simp); (try with_reducible rfl))
              try simp only [Act.put, List.setIfInBounds_toArray, List.set_cons_zero, List.set_cons_succ]
              refine wpAnyH_take (i := 29) (oi := ?_) (v := ?_) ?_ (by kernel_rfl) (by kernel_rfl) (by kernel_rfl) ?_ (Or.inl ⟨?_, ?_⟩) (by assumption) ?_
              rotate_left 2
              · (simp only [List.getElem?_toArray, List.getElem?_cons_succ, List.getElem?_cons_zero]; rfl)
              · first | exact fun _ _ _ h => h | exact fun _ _ _ h => by cases h.1
              · rfl
              · ((intro wq hSq; (try dsimp only at hSq); go_simp); (try with_reducible rfl))
              try simp only [Act.put, List.setIfInBounds_toArray, List.set_cons_zero, List.set_cons_succ]
              refine wpAnyH_take (i := 30) (oi := ?_) (v := ?_) ?_ (by kernel_rfl) (by kernel_rfl) (by kernel_rfl) ?_ (Or.inl ⟨?_, ?_⟩) (by assumption) ?_
              rotate_left 2
              · (simp only [List.getElem?_toArray, List.getElem?_cons_succ, List.getElem?_cons_zero]; rfl)
              · first | exact fun _ _ _ h => h | exact fun _ _ _ h => by cases h.1
              · rfl
              · ((intro wq hSq; (try dsimp only at hSq); go_simp); (try with_reducible rfl))
              try simp only [Act.put, List.setIfInBounds_toArray, List.set_cons_zero, List.set_cons_succ]
              refine wpAnyH_take (i := 31) (oi := ?_) (v := ?_) ?_ (by kernel_rfl) (by kernel_rfl) (by kernel_rfl) ?_ (Or.inl ⟨?_, ?_⟩) (by assumption) ?_
              rotate_left 2
              · (simp only [List.getElem?_toArray, List.getElem?_cons_succ, List.getElem?_cons_zero]; rfl)
              · first | exact fun _ _ _ h => h | exact fun _ _ _ h => by cases h.1
              · rfl
              · ((intro wq hSq; (try dsimp only at hSq); go_simp); (try with_reducible rfl))
              try simp only [Act.put, List.setIfInBounds_toArray, List.set_cons_zero, List.set_cons_succ]
              refine wpAnyH_take (i := 32) (oi := ?_) (v := ?_) ?_ (by kernel_rfl) (by kernel_rfl) (by kernel_rfl) ?_ (Or.inl ⟨?_, ?_⟩) (by assumption) ?_
              rotate_left 2
              · (simp only [List.getElem?_toArray, List.getElem?_cons_succ, List.getElem?_cons_zero]; rfl)
              · first | exact fun _ _ _ h => h | exact fun _ _ _ h => by cases h.1
              · rfl
              · ((intro wq hSq; (try dsimp only at hSq); go_simp); (try with_reducible rfl))
              try simp only [Act.put, List.setIfInBounds_toArray, List.set_cons_zero, List.set_cons_succ]
              refine wpAnyH_take (i := 33) (oi := ?_) (v := ?_) ?_ (by kernel_rfl) (by kernel_rfl) (by kernel_rfl) ?_ (Or.inl ⟨?_, ?_⟩) (by assumption) ?_
              rotate_left 2
              · (simp only [List.getElem?_toArray, List.getElem?_cons_succ, List.getElem?_cons_zero]; rfl)
              · first | exact fun _ _ _ h => h | exact fun _ _ _ h => by cases h.1
              · rfl
              · ((intro wq hSq; (try dsimp only at hSq); go_simp); (try with_reducible rfl))
              try simp only [Act.put, List.setIfInBounds_toArray, List.set_cons_zero, List.set_cons_succ]
              refine wpAnyH_take (i := 34) (oi := ?_) (v := ?_) ?_ (by kernel_rfl) (by kernel_rfl) (by kernel_rfl) ?_ (Or.inl ⟨?_, ?_⟩) (by assumption) ?_
              rotate_left 2
              · (simp only [List.getElem?_toArray, List.getElem?_cons_succ, List.getElem?_cons_zero]; rfl)
              · first | exact fun _ _ _ h => h | exact fun _ _ _ h => by cases h.1
              · rfl
              · ((intro wq hSq; (try dsimp only at hSq); go_simp); (try with_reducible rfl))
              try simp only [Act.put, List.setIfInBounds_toArray, List.set_cons_zero, List.set_cons_succ]
              refine wpAnyH_take (i := 35) (oi := ?_) (v := ?_) ?_ (by kernel_rfl) (by kernel_rfl) (by kernel_rfl) ?_ (Or.inl ⟨?_, ?_⟩) (by assumption) ?_
              rotate_left 2
              · (simp only [List.getElem?_toArray, List.getElem?_cons_succ, List.getElem?_cons_zero]; rfl)
              · first | exact fun _ _ _ h => h | exact fun _ _ _ h => by cases h.1
              · rfl
              · ((intro wq hSq; (try dsimp only at hSq); go_simp); (try with_reducible rfl))
              try simp only [Act.put, List.setIfInBounds_toArray, List.set_cons_zero, List.set_cons_succ]
              refine wpAnyH_take (i := 36) (oi := ?_) (v := ?_) ?_ (by kernel_rfl) (by kernel_rfl) (by kernel_rfl) ?_ (Or.inl ⟨?_, ?_⟩) (by assumption) ?_
              rotate_left 2
              · (simp only [List.getElem?_toArray, List.getElem?_cons_succ, List.getElem?_cons_zero]; rfl)
              · first | exact fun _ _ _ h => h | exact fun _ _ _ h => by cases h.1
              · rfl
              · ((intro wq hSq; (try dsimp only at hSq); go_simp); (try with_reducible rfl))
              try simp only [Act.put, List.setIfInBounds_toArray, List.set_cons_zero, List.set_cons_succ]
              refine wpAnyH_ready (rs := [37]) (by kernel_rfl) (by simp) ?_
              refine AllReadyH.cons (o := ?_) ?_ (fun K hK => ?_) AllReadyH.nil
              rotate_left
              · (simp only [List.getElem?_toArray, List.getElem?_cons_succ, List.getElem?_cons_zero]; rfl)
              go_simp
              go_at_call 28
              refine (hb2''.out _).mono ?_
              rintro e wx ⟨rfl, hbx⟩
              have hSx := RhSt.below (w := w) (b := b) (off := off) (i := i) (k := k) (x := x) (y := y) (Ax := Ax2) (Ay := Ay) (cx := cx2) (cy := cy) hHeld hbx
              refine hK.out _ _ hSx (fun hHeld => ?_)
              clear hK K
              try simp only [Act.put, List.setIfInBounds_toArray, List.set_cons_zero, List.set_cons_succ]
              refine wpAnyH_take (i := 38) (oi := ?_) (v := ?_) ?_ (by kernel_rfl) (by kernel_rfl) (by kernel_rfl) ?_ (Or.inl ⟨?_, ?_⟩) (by assumption) ?_
              rotate_left 2
              · (simp only [List.getElem?_toArray, List.getElem?_cons_succ, List.getElem?_cons_zero]; rfl)
              · first | exact fun _ _ _ h => h | exact fun _ _ _ h => by cases h.1
              · rfl
              · ((intro wq hSq; (try dsimp only at hSq); go_simp); (try with_reducible rfl))
              try simp only [Act.put, List.setIfInBounds_toArray, List.set_cons_zero, List.set_cons_succ]
              refine wpAnyH_take (i := 39) (oi := ?_) (v := ?_) ?_ (by kernel_rfl) (by kernel_rfl) (by kernel_rfl) ?_ (Or.inl ⟨?_, ?_⟩) (by assumption) ?_
              rotate_left 2
              · (simp only [List.getElem?_toArray, List.getElem?_cons_succ, List.getElem?_cons_zero]; rfl)
              · first | exact fun _ _ _ h => h | exact fun _ _ _ h => by cases h.1
              · rfl
              · ((intro wq hSq; (try dsimp only at hSq); go_simp); (try with_reducible rfl))
              try simp only [Act.put, List.setIfInBounds_toArray, List.set_cons_zero, List.set_cons_succ]
              refine wpAnyH_done (by kernel_rfl) ?_ _
              go_wp2_with fail
              first
                | (go_roundw
                   case rel => exact ⟨k + 1, by omega, by go_num, fun n z hi hne hz => by
                      by_cases e : n = k
                      · subst e; have := hy'.out; rw [hz] at this; cases this; exact pp.out
                      · exact hpm'.out n z (by omega) hne hz, hHeld.1⟩
                   case measure => simp [intOf]; omega)
                | (go_ret
                   exact ⟨ret_bool (by rw [rightH_no2 hx'.out hy'.out hik pp.out]), hHeld.1⟩)
        · have hpm' := Lib.hid hpm
          obtain ⟨b', off', Ax2, cx2, hA, _, ⟨a0, a1, a2, a3, a4, a5, a6⟩, _, _, _⟩ := (hl.below hbq (Nat.le_refl _)) i x hx'.out
          injection hA with hA
          injection hA with hA1 hA2
          subst hA1 hA2
          have ho := rone_any x Ax2 cx2 wr
          clear hpm
          rcases hq : clB x with _ | _
          · rw [hq] at ho
            have ho' := Lib.hid ho
            have hno := Lib.hid (rightH_no hlt (fun h => by
              have := (h x hx'.out).1
              rw [hq] at this
              cases this))
            clear ho hq
            go_wp2_with fail
            refine ho'.out.mono ?_
            rintro e w2 ⟨rfl, hb2⟩
            go_wp2_with fail
            go_ret
            exact ⟨ret_bool (by rw [hno.out]), hbq.trans (hb2.mono hbq.size)⟩
          · rw [hq] at ho
            have ho' := Lib.hid ho
            have hq' := Lib.hid hq
            clear ho hq
            go_wp2_with fail
            refine ho'.out.mono ?_
            rintro e w2 ⟨rfl, hb2⟩
            go_wp2_with fail
            go_roundw
            case rel => exact ⟨i + 1, by omega, by go_num, fun n z hni hz => by
                by_cases e : n = i
                · subst e
                  have := hx'.out
                  rw [hz] at this
                  cases this
                  exact ⟨hq'.out, fun k y hne hy => hpm'.out k y (by have := get_lt hy; omega) hne hy⟩
                · exact hall'.out n z (by omega) hz, hbq.trans (hb2.mono hbq.size)⟩
            case measure => simp [intOf]; omega
    · have hr := Lib.hid (rightH_all (l := l) (fun n x hx => hall n x (by have := get_lt hx; omega) hx))
      clear hall
      go_wp2_with fail
      go_ret
      exact ⟨ret_bool (by rw [hr.out]), hb⟩

end Go.Proofs.Ytgmmblknaeepbaa
