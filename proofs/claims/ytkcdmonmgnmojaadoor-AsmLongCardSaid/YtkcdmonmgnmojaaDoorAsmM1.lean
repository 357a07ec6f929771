/- Lines of a text: of no program. Instructions as text, and back: of no program. Rows of instructions: owned, and held against each other. -/
import Derived.Test.YtkcdmonmgnmojaaDoorDig
import Derived.Test.YtkcdmonmgnmojaaDoorAsmDef
import Derived.Test.YtkcdmonmgnmojaaDoorInBox
import Derived.Test.YtkcdmonmgnmojaaDoorAsm1
import Derived.Lib.Hide
import Derived.Deep.QuietTactic
import Derived.BigQuiet
import Derived.Laws.IdiomStrings
import Derived.IntWalk
import Derived.OpenShut
namespace Go.Proofs.YtkcdmonmgnmojaaDoor
open Go.RowKit


/-- A text's lines, each with its end, as strings.Lines goes through them. -/
def lns : List UInt8 → List (List UInt8)
  | [] => []
  | x :: l => if x = 10 then [10] :: lns l else (x :: (lns l).headD []) :: (lns l).tail
theorem lns_none (l : List UInt8) (hl : l ≠ []) (h : ∀ k : Nat, l[k]? ≠ some 10) : lns l = [l] := by
  induction l with
  | nil => exact (hl rfl).elim
  | cons x l ih =>
    have hx : x ≠ 10 := fun e => h 0 (by simp [e])
    unfold lns
    rw [if_neg hx]
    by_cases h0 : l = []
    · subst h0; rfl
    · rw [ih h0 (fun k hk => h (k + 1) (by simpa using hk))]
      rfl
theorem lns_some (l : List UInt8) (o : Nat) (h : l[o]? = some 10) (h2 : ∀ k : Nat, k < o → l[k]? ≠ some 10) : lns l = l.take (o + 1) :: lns (l.drop (o + 1)) := by
  induction l generalizing o with
  | nil => simp at h
  | cons x l ih =>
    cases o with
    | zero =>
      have hx : x = 10 := by simpa using h
      simp [lns, hx]
    | succ o =>
      have hx : x ≠ 10 := fun e => h2 0 (by omega) (by simp [e])
      have := ih o (by simpa using h) (fun k hk hk' => h2 (k + 1) (by omega) (by simpa using hk'))
      simp [lns, hx, this]
theorem first_or {c : UInt8} (l : List UInt8) : (∀ k : Nat, l[k]? ≠ some c) ∨ ∃ o : Nat, l[o]? = some c ∧ ∀ k : Nat, k < o → l[k]? ≠ some c := by
  induction l with
  | nil => exact .inl fun k h => by simp at h
  | cons x l ih =>
    by_cases hx : x = c
    · exact .inr ⟨0, by simp [hx], fun k hk => by omega⟩
    · rcases ih with h | ⟨o, h1, h2⟩
      · refine .inl fun k hk => ?_
        cases k with
        | zero => exact hx (by simpa using hk)
        | succ k => exact h k (by simpa using hk)
      · refine .inr ⟨o + 1, by simpa using h1, fun k hk hk' => ?_⟩
        cases k with
        | zero => exact hx (by simpa using hk')
        | succ k => exact h2 k (by omega) (by simpa using hk')

theorem suffix_no (x : List UInt8) (h : ∀ k : Nat, x[k]? ≠ some 10) : Lib.hasSuffix x [10] = false := by
  cases hh : Lib.hasSuffix x [10] with
  | false => rfl
  | true =>
    exfalso
    obtain ⟨t, ht⟩ := List.isSuffixOf_iff_suffix.1 hh
    refine h t.length ?_
    rw [← ht]
    simp
theorem suffix_yes (x : List UInt8) : Lib.hasSuffix (x ++ [10]) [10] = true ∧ Lib.trimSuffix (x ++ [10]) [10] = x := by
  have h : Lib.hasSuffix (x ++ [10]) [10] = true := List.isSuffixOf_iff_suffix.2 ⟨x, rfl⟩
  refine ⟨h, ?_⟩
  unfold Lib.trimSuffix
  rw [if_pos h]
  simp
theorem take_at {l : List UInt8} {o : Nat} {c : UInt8} (h : l[o]? = some c) : l.take (o + 1) = l.take o ++ [c] := by
  rw [List.take_add_one, h]; rfl
theorem lns_line (p r : List UInt8) (h : ∀ k : Nat, p[k]? ≠ some 10) : lns (p ++ [10] ++ r) = (p ++ [10]) :: lns r := by
  rw [lns_some _ p.length (by simp) (fun k hk => by
    rw [List.append_assoc, List.getElem?_append_left hk]
    exact h k)]
  have e : p.length + 1 = (p ++ [10]).length := by simp
  rw [e, List.take_left, List.drop_left]
theorem lns_all (n : Nat) : ∀ s : List UInt8, s.length < n → (lns s).flatten = s := by
  induction n with
  | zero => intro s h; omega
  | succ n ih =>
    intro s hn
    rcases first_or (c := 10) s with h | ⟨o, h1, h2⟩
    · by_cases h0 : s = []
      · subst h0; rfl
      · rw [lns_none s h0 h]; simp
    · have := get_lt h1
      rw [lns_some s o h1 h2, List.flatten_cons, ih _ (by rw [List.length_drop]; omega), List.take_append_drop]

theorem lns_len (l : List UInt8) : (lns l).length ≤ l.length := by
  induction l with
  | nil => simp [lns]
  | cons x l ih =>
    unfold lns
    split
    · simp; omega
    · simp only [List.length_cons, List.length_tail]; omega

end Go.Proofs.YtkcdmonmgnmojaaDoor

namespace Go.Proofs.YtkcdmonmgnmojaaDoor
open Go.RowKit

/-! ### parsed -/
structure Got where
  evs : List Ins
  at_ : Int
  err : Int

/-- As the program parses: line for line. -/
def parseL : List (List UInt8) → List Ins → Got
  | [], out => ⟨out, 0, 0⟩
  | x :: r, out => if Lib.hasSuffix x [10] = true then
      match readI (Lib.trimSuffix x [10]) with
      | none => ⟨[], out.length + 1, 4⟩
      | some e => parseL r (out ++ [e])
    else ⟨[], out.length + 1, 2⟩
/-- As the reference parses: piece for piece. -/
def parseR : List (List UInt8) → List Ins → Got
  | [], out => ⟨out, 0, 0⟩
  | x :: r, out => if r = [] then (if x = [] then ⟨out, 0, 0⟩ else ⟨[], out.length + 1, 2⟩) else
      match readI x with
      | none => ⟨[], out.length + 1, 4⟩
      | some e => parseR r (out ++ [e])
def parseE (s : List UInt8) : Got := parseL (lns s) []

theorem parse_both (n : Nat) : ∀ (s : List UInt8) (out : List Ins), s.length < n → parseR (pcs 10 s) out = parseL (lns s) out := by
  induction n with
  | zero => intro s out h; omega
  | succ n ih =>
    intro s out hn
    rcases first_or (c := 10) s with h | ⟨o, h1, h2⟩
    · rw [pcs_none 10 s h]
      by_cases h0 : s = []
      · subst h0; rfl
      · rw [lns_none s h0 h]
        unfold parseL parseR
        rw [suffix_no s h, if_pos rfl, if_neg h0, if_neg (by decide)]
    · have hlt := get_lt h1
      rw [pcs_some 10 s o h1 h2, lns_some s o h1 h2, take_at h1]
      obtain ⟨e1, e2⟩ := suffix_yes (s.take o)
      unfold parseL parseR
      rw [e1, e2, if_neg (pcs_ne _ _), if_pos rfl]
      cases readI (s.take o) with
      | none => rfl
      | some e => exact ih _ _ (by rw [List.length_drop]; omega)
theorem parseR_E (s : List UInt8) : parseR (pcs 10 s) [] = parseE s := parse_both (s.length + 1) s [] (by omega)

/-! ### printed -/
def textOf (l : List Ins) : List UInt8 := l.flatMap fun e => lineL e ++ [10]
def okAll (l : List Ins) : Bool := l.all insB
theorem textOf_snoc (l : List Ins) (e : Ins) : textOf (l ++ [e]) = textOf l ++ (lineL e ++ [10]) := by simp [textOf]
theorem join_mem (ps : List (List UInt8)) (b : UInt8) (h : b ∈ Lib.join ps [32]) : b = 32 ∨ ∃ p ∈ ps, b ∈ p := by
  cases ps with
  | nil => cases h
  | cons x xs =>
    rw [Lib.join_cons] at h
    rcases List.mem_append.1 h with h | h
    · exact .inr ⟨x, by simp, h⟩
    · unfold Lib.joinTail at h
      obtain ⟨q, hq, hb⟩ := List.mem_flatten.1 h
      obtain ⟨p, hp, rfl⟩ := List.mem_map.1 hq
      rcases List.mem_append.1 hb with hb | hb
      · exact .inl (List.mem_singleton.1 hb)
      · exact .inr ⟨p, by simp [hp], hb⟩
theorem lineL_no (i : Ins) : ∀ k : Nat, (lineL i)[k]? ≠ some 10 := by
  intro k hk
  rcases join_mem _ _ (List.mem_of_getElem? hk) with h | ⟨p, hp, h⟩
  · cases h
  · exact parts_not 10 (by decide) (by decide) (by decide) (by decide) i p hp 10 h rfl
theorem parse_text (l : List Ins) (h : okAll l = true) (hk : ∀ e ∈ l, e.ok) : ∀ out, parseL (lns (textOf l)) out = ⟨out ++ l, 0, 0⟩ := by
  induction l with
  | nil => intro out; simp [textOf, lns, parseL]
  | cons e l ih =>
    intro out
    unfold okAll at h
    rw [List.all_cons, Bool.and_eq_true] at h
    have ht : textOf (e :: l) = lineL e ++ [10] ++ textOf l := by simp [textOf]
    obtain ⟨e1, e2⟩ := suffix_yes (lineL e)
    rw [ht, lns_line _ _ (lineL_no e)]
    unfold parseL
    rw [e1, e2, if_pos rfl, read_line h.1 (hk e (by simp))]
    simp only
    rw [ih h.2 (fun x hx => hk x (by simp [hx]))]
    simp
theorem parsed (ls : List (List UInt8)) : ∀ out, okAll out = true →
    ((parseL ls out).err = 0 ∧ (parseL ls out).at_ = 0 ∧ okAll (parseL ls out).evs = true ∧ textOf (parseL ls out).evs = textOf out ++ ls.flatten) ∨ ((parseL ls out).err ≠ 0 ∧ (parseL ls out).evs = []) := by
  induction ls with
  | nil => intro out h; exact .inl ⟨rfl, rfl, h, by simp [parseL]⟩
  | cons x r ih =>
    intro out h
    unfold parseL
    by_cases hs : Lib.hasSuffix x [10] = true
    · rw [if_pos hs]
      cases hr : readI (Lib.trimSuffix x [10]) with
      | none => exact .inr ⟨by simp, rfl⟩
      | some e =>
        obtain ⟨h1, h2, _⟩ := readI_some hr
        have hx : x = lineL e ++ [10] := by
          obtain ⟨t, ht⟩ := List.isSuffixOf_iff_suffix.1 hs
          rw [← ht] at h2 ⊢
          rw [(suffix_yes t).2] at h2
          rw [h2]
        have hok : okAll (out ++ [e]) = true := by
          unfold okAll at h ⊢
          rw [List.all_append, h, List.all_cons, h1]
          rfl
        rcases ih (out ++ [e]) hok with ⟨g1, g2, g3, g4⟩ | g
        · refine .inl ⟨g1, g2, g3, ?_⟩
          simp only
          rw [g4, textOf_snoc, hx]
          simp
        · exact .inr g
    · rw [if_neg hs]
      exact .inr ⟨by simp, rfl⟩
/-- What is parsed is printed so; where there is an error nothing was parsed. -/
theorem parse_back (s : List UInt8) : ((parseE s).err = 0 ∧ okAll (parseE s).evs = true ∧ textOf (parseE s).evs = s) ∨ ((parseE s).err ≠ 0 ∧ (parseE s).evs = []) := by
  rcases parsed (lns s) [] rfl with ⟨h1, _, h2, h3⟩ | h
  · refine .inl ⟨h1, h2, ?_⟩
    unfold parseE
    rw [h3, lns_all (s.length + 1) s (by omega)]
    rfl
  · exact .inr h
/-- Right events come back from their text. -/
theorem text_back (l : List Ins) (h : okAll l = true) (hk : ∀ e ∈ l, e.ok) : parseE (textOf l) = ⟨l, 0, 0⟩ := by
  unfold parseE
  rw [parse_text l h hk]
  rfl

end Go.Proofs.YtkcdmonmgnmojaaDoor

namespace Go.Proofs.YtkcdmonmgnmojaaDoor
open Go.RowKit
theorem InSl.nil (w : World) (B : Nat) (A : Option Addr) : InSl w B A [] := ⟨SlOf.nil, fun e h => by cases h⟩
theorem insTy : ElemTy Tryd.prog 33 24 5 40 := ElemTy.of (z := insV Ins.zero) Tryd.underlying33 (by kernel_rfl) rfl (by omega)

def OwnI (base : Nat) (w : World) (v : Value) (l : List Ins) : Prop := Own insE 24 base w v l ∧ ∀ e ∈ l, e.ok
theorem OwnI.nil (base : Nat) (w : World) : OwnI base w (.slice none 0 0) [] := ⟨Own.nil _ _, fun e h => by cases h⟩
theorem OwnI.sl {base : Nat} {w : World} {v : Value} {l : List Ins} (h : OwnI base w v l) : ∃ A c, v = .slice A l.length c ∧ (l.length ≤ c ∧ c ≤ maxLen) ∧ InSl w w.heap.size A l := by
  obtain ⟨A, c, e, hc, _, hs⟩ := h.1.sl
  exact ⟨A, c, e, hc, hs, h.2⟩
theorem OwnI.below {base B : Nat} {w w' : World} {v : Value} {l : List Ins} (h : OwnI base w v l) (hb : Below B w w') (hB : w.heap.size ≤ B) : OwnI base w' v l := ⟨h.1.below hb hB, h.2⟩
theorem OwnI.snoc {base : Nat} {w w1 : World} {v v' : Value} {l : List Ins} {e : Ins} (h : OwnI base w v l) (he : e.ok) (h2 : w1.ownsRow base 24 insE.size v' (l.length + 1) (insE.all l ++ e.cells)) : OwnI base w1 v' (l ++ [e]) :=
  ⟨Own.app h2 rfl, fun x hx => by
    rcases List.mem_append.1 hx with hx | hx
    · exact h.2 x hx
    · rw [List.mem_singleton.1 hx]; exact he⟩

/-! ### two rows of events -/
set_option maxHeartbeats 1000000 in
theorem code_any (A A' : Option Addr) (c c' : Nat) (l m : List Ins) (w : World) (hn : l.length ≤ 100000) (_hm : m.length ≤ 100000) (hl : InSl w w.heap.size A l) (hm' : InSl w w.heap.size A' m) :
    Calls Tryd.prog 19 #[.slice A l.length c, .slice A' m.length c'] w fun e w' => e = .returned (.bool (decide (l = m))) ∧ Below w.heap.size w w' := by
  by_cases hlen : l.length = m.length
  · have x0 : ((l.length : Int) != (m.length : Int)) = false := by simp [hlen]
    have hlen' := Lib.hid hlen
    clear hlen
    go_enter Tryd.func19, Tryd.ntmps19
    go_wp2
    go_loopw [5, 13] (fun i j wr => ∃ k : Nat, k ≤ l.length ∧ j = .int .i64 k ∧ l.take k = m.take k ∧ Below w.heap.size w wr) (fun _ j _ => l.length - (intOf j).toNat)
    case atStart => exact ⟨0, Nat.zero_le _, rfl, rfl, Below.refl _ _⟩
    case round =>
      obtain ⟨k, hk, rfl, heq, hb⟩ := hrel
      by_cases hlt : k < l.length
      · obtain ⟨x, hx⟩ := get_some hlt
        obtain ⟨y, hy⟩ := get_some (show k < m.length by have := hlen'.out; omega)
        obtain ⟨_, b, off, rfl, hlb, h0, h1, h2, h3, h4⟩ := (hl.below hb (Nat.le_refl _)).get hx
        obtain ⟨_, b2, off2, rfl, hlb2, g0, g1, g2, g3, g4⟩ := (hm'.below hb (Nat.le_refl _)).get hy
        have hmk : (k : Int) < m.length := by have := hlen'.out; omega
        have heq' := Lib.hid heq
        have hx' := Lib.hid hx
        have hy' := Lib.hid hy
        clear heq hx hy
        by_cases hxy : x = y
        · subst hxy
          go_wp2
          go_quiet (fail)
          go_wp2
          go_roundw
          case rel => exact ⟨k + 1, by omega, by go_num, by rw [take_snoc hx'.out, take_snoc hy'.out, heq'.out], drewN_below hb _⟩
          case measure => simp [intOf]; omega
        · have hxy' := Lib.hid hxy
          have hd : ((x.op == y.op) = false) ∨ ((x.op == y.op) = true ∧ (x.a == y.a) = false) ∨ ((x.op == y.op) = true ∧ (x.a == y.a) = true ∧ (x.b == y.b) = false) ∨ ((x.op == y.op) = true ∧ (x.a == y.a) = true ∧ (x.b == y.b) = true ∧ (x.c == y.c) = false) ∨ ((x.op == y.op) = true ∧ (x.a == y.a) = true ∧ (x.b == y.b) = true ∧ (x.c == y.c) = true ∧ (x.n == y.n) = false) := by
            obtain ⟨xt, xk, xp, xa, xb⟩ := x
            obtain ⟨yt, yk, yp, ya, yb⟩ := y
            simp only [Ins.mk.injEq] at hxy
            simp only [beq_eq_false_iff_ne, beq_iff_eq]
            by_cases e1 : xt = yt <;> by_cases e2 : xk = yk <;> by_cases e3 : xp = yp <;> by_cases e4 : xa = ya <;> by_cases e5 : xb = yb <;> simp_all
          clear hxy
          rcases hd with d1 | ⟨d1, d2⟩ | ⟨d1, d2, d3⟩ | ⟨d1, d2, d3, d4⟩ | ⟨d1, d2, d3, d4, d5⟩
          all_goals
            go_wp2
            go_quiet (fail)
            go_wp2
            go_ret
            refine ⟨ret_bool ?_, drewN_below hb _⟩
            symm
            rw [decide_eq_false_iff_not]
            intro e
            have := hx'.out
            rw [e, hy'.out] at this
            exact hxy'.out (by injection this with h; exact h.symm)
      · have h1 := take_all hlt
        have h2 : m.take k = m := take_all (by have := hlen'.out; omega)
        have h3 := Lib.hid (show l = m by rw [← h1, heq, h2])
        clear h1 h2 heq
        go_wp2
        go_ret
        exact ⟨ret_bool (by simpa using h3.out), hb⟩
  · have x0 : ((l.length : Int) != (m.length : Int)) = true := by simp; omega
    go_enter Tryd.func19, Tryd.ntmps19
    go_wp2
    go_ret
    exact ⟨ret_bool (by symm; rw [decide_eq_false_iff_not]; exact fun e => hlen (by rw [e])), Below.refl _ _⟩

end Go.Proofs.YtkcdmonmgnmojaaDoor
