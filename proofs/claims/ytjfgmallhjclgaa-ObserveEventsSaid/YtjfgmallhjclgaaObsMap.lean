/- observe.Preempts: a map from jobs' numbers to places. -/
import Derived.Test.YtjfgmallhjclgaaObsLib
import Derived.Maps.OwnSet
namespace Go.Proofs.Ytjfgmallhjclgaa
open Go.RowKit Go.Maps

structure PSt where
  n : Nat
  at_ : Nat
  last : Int → Option Nat

def preF (i : Int) (s : PSt) (e : Ev) : PSt :=
  if e.k = 5 ∨ e.k = 6 then
    if e.k = 5 ∧ e.p = i then
      { n := match s.last e.a with | some x => if x = s.at_ then s.n else s.n + 1 | none => s.n, at_ := s.at_ + 1, last := fun q => if q = e.a then some (s.at_ + 1) else s.last q }
    else { s with at_ := s.at_ + 1 }
  else s
def preN (i : Int) (l : List Ev) : PSt := l.foldl (preF i) ⟨0, 0, fun _ => none⟩

theorem preN_le (i : Int) : ∀ (l : List Ev) (s : PSt), (l.foldl (preF i) s).n ≤ s.n + l.length ∧ (l.foldl (preF i) s).at_ ≤ s.at_ + l.length
  | [], s => by simp
  | e :: l, s => by
    have h := preN_le i l (preF i s e)
    have h1 : (preF i s e).n ≤ s.n + 1 := by unfold preF; split; (split; (dsimp only; split; (split <;> omega); omega); (dsimp only; omega)); omega
    have h2 : (preF i s e).at_ ≤ s.at_ + 1 := by unfold preF; split; (split; (dsimp only; omega); (dsimp only; omega)); omega
    simp only [List.foldl_cons, List.length_cons]
    omega

abbrev D0 := DataW Unit
def IMap (D : D0) (f : Int → Option Nat) : Prop :=
  ∀ q : Int, Maps.has D (.int .i64 q) = (f q).isSome ∧ ∀ x, f q = some x → D.atKey (.int .i64 q) (.lit (.int .i64 0)) = .lit (.int .i64 x)

theorem IMap.empty : IMap (.map []) fun _ => none := fun q => ⟨rfl, fun x h => by cases h⟩
theorem IMap.put {D : D0} {f : Int → Option Nat} (h : IMap D f) (hD : IsMap D) (key : Int) (x : Nat) : IMap (D.put (.int .i64 key) (.lit (.int .i64 x))) fun q => if q = key then some x else f q := by
  intro q
  by_cases e : q = key
  · subst e
    refine ⟨by rw [has_put_same hD (show WideAt.IsKeyLit (Lit.int _ _) from True.intro)]; simp, fun y hy => ?_⟩
    rw [atKey_put_same hD (show WideAt.IsKeyLit (Lit.int _ _) from True.intro)]
    simp at hy
    rw [hy]
  · have hne : (Lit.int .i64 q) ≠ Lit.int .i64 key := fun h => e (by injection h)
    rw [has_put_other hne, atKey_put_other hne]
    simp only [if_neg e]
    exact h q

theorem pre_hit {i : Int} {e : Ev} {n a : Nat} {f : Int → Option Nat} (c1 : e.k = 5) (c2 : e.p = i) :
    preF i ⟨n, a, f⟩ e = { n := match f e.a with | some x => if x = a then n else n + 1 | none => n, at_ := a + 1, last := fun q => if q = e.a then some (a + 1) else f q } := by
  simp [preF, c1, c2]
theorem pre_val {D : D0} {f : Int → Option Nat} {q c : Int} (him : IMap D f) (hat : D.atKey (.int .i64 q) (.lit (.int .i64 0)) = .lit (.int .i64 c)) : ∀ x, f q = some x → c = x := by
  intro x hx
  have := (him q).2 x hx
  rw [this] at hat
  injection hat with h
  injection h with _ h
  exact h.symm

theorem pre_a {f : Int → Option Nat} {q c : Int} {n a : Nat} (hx : ∀ x, f q = some x → c = x) (h : (f q).isSome = true) (h2 : (c != (a : Int)) = true) :
    Value.int .i64 ((n : Int) + 1) = .int .i64 ((match f q with | some x => if x = a then n else n + 1 | none => n : Nat) : Int) := by
  obtain ⟨x, hf⟩ := Option.isSome_iff_exists.1 h
  have := hx x hf
  subst this
  simp at h2
  rw [hf]
  dsimp only
  rw [if_neg (by omega)]
  rfl
theorem pre_b {f : Int → Option Nat} {q c : Int} {n a : Nat} (hx : ∀ x, f q = some x → c = x) (h : (f q).isSome = true) (h2 : (c != (a : Int)) = false) :
    Value.int .i64 (n : Int) = .int .i64 ((match f q with | some x => if x = a then n else n + 1 | none => n : Nat) : Int) := by
  obtain ⟨x, hf⟩ := Option.isSome_iff_exists.1 h
  have := hx x hf
  subst this
  simp at h2
  rw [hf]
  dsimp only
  rw [if_pos (by omega)]
theorem pre_c {f : Int → Option Nat} {q : Int} {n a : Nat} (h : ¬ (f q).isSome = true) :
    Value.int .i64 (n : Int) = .int .i64 ((match f q with | some x => if x = a then n else n + 1 | none => n : Nat) : Int) := by
  simp at h
  simp [h]

theorem lawI : Keyed Try.prog 3 := int_keyed Try.underlying3
theorem zeroI (w : World) : (zeroValue 3).run Try.prog w = .ok (.int .i64 0) w := by kernel_rfl

set_option maxHeartbeats 1000000 in
theorem preempts_any (A : Option Addr) (c : Nat) (l : List Ev) (i : Int) (w : World) (hn : l.length ≤ 300) (hl : EvSl w w.heap.size A l) :
    Calls Try.prog 9 #[.slice A l.length c, .int .i64 i] w fun e w' => e = .returned (.int .i64 (preN i l).n) ∧ Below w.heap.size w w' := by
  have hmm := @run_makeMap Try.prog
  go_enter Try.func9, Try.ntmps9
  go_wp2
  go_loopw [5, 6, 15] (fun n a j wr => ∃ (k : Nat) (D : D0), k ≤ l.length ∧ j = .int .i64 k ∧ n = .int .i64 (preN i (l.take k)).n ∧ a = .int .i64 (preN i (l.take k)).at_ ∧
      wr.ownsMap Try.prog 3 (plainElem Try.prog 3) w.heap.size k D ∧ IMap D (preN i (l.take k)).last ∧ Below w.heap.size w wr) (fun _ _ j _ => l.length - (intOf j).toNat)
  case atStart => exact ⟨0, .map [], Nat.zero_le _, rfl, rfl, rfl, World.ownsMap_made _ _ _ _, IMap.empty, (Below.refl _ _).alloc (Nat.le_refl _) _⟩
  case round =>
    obtain ⟨k, D, hk, rfl, rfl, rfl, hown, him, hb⟩ := hrel
    by_cases hlt : k < l.length
    · obtain ⟨e, he⟩ := get_some hlt
      obtain ⟨⟨_, _, _, wa, _⟩, b, off, rfl, hlb, h0, h1, h2, h3, h4⟩ := (hl.below hb (Nat.le_refl _)).get he
      have hs : Hid (preN i (l.take (k + 1)) = preF i (preN i (l.take k)) e) := foldl_snoc _ _ he
      have hle := preN_le i (l.take k) ⟨0, 0, fun _ => none⟩
      simp only [List.length_take, Nat.zero_add] at hle
      change (preN i (l.take k)).n ≤ _ ∧ (preN i (l.take k)).at_ ≤ _ at hle
      generalize preN i (l.take k) = s at *
      obtain ⟨n, a, f⟩ := s
      dsimp only at hle him
      have hn1 : n ≤ 300 := by omega
      have ha1 : a ≤ 300 := by omega
      clear he hle
      have hkey : keyOf Try.prog 3 (.int .i64 e.a) = some (.int .i64 e.a) := keyOf_int_mk Try.underlying3 wa
      obtain ⟨hi1, hi2⟩ := him e.a
      by_cases c1 : e.k = 5
      · by_cases c2 : e.p = i
        · go_wp2_with (first
            | (at_lookup; refine wpList_lookup_own_ok_int _ rfl _ _ 36 rfl 3 3 .i64 lawI Try.underlying36 Try.underlying3 (zeroI _) w.heap.size k D rfl (hown.alloc _) _ _ rfl hkey ?_; intro c hat hwc)
            | (at_mapUpdate; refine wpList_mapUpdate_own _ rfl _ _ _ 36 rfl 3 3 lawI Try.underlying36 _ w.heap.size k _ rfl (hown.alloc _) (by unfold maxLen; omega) _ _ _ rfl rfl hkey _ [] (plainElem_int Try.underlying3 (WalkArith.wf_i64 (by omega))) ?_; intro w1 hown1 hgrow1)
            | go_in)
          all_goals
            have hb1 : Below w.heap.size w w1 := (hb.alloc hb.size _).grown hgrow1 (by have := hb.size; simp; omega) (fun j hj => by cases hj; exact Nat.le_refl _)
            have him1 := IMap.put him hown.isMap e.a (a + 1)
            go_roundw
            case rel =>
              refine ⟨k + 1, _, by omega, by go_num, ?_, ?_, hown1, ?_, hb1⟩
              · rw [hs.out, pre_hit c1 c2]
                have hx := pre_val him hat
                first
                  | exact pre_a hx ‹_› ‹_›
                  | exact pre_b hx ‹_› ‹_›
                  | exact pre_c ‹_›
              · rw [hs.out, pre_hit c1 c2]; go_num
              · rw [hs.out, pre_hit c1 c2]; exact him1
            case measure => simp [intOf]; omega
        · go_wp2
          go_roundw
          case rel => exact ⟨k + 1, D, by omega, by go_num, by rw [hs.out]; simp [preF, c1, c2], by rw [hs.out]; simp [preF, c1, c2], (hown.alloc _).mono (by omega), by rw [hs.out]; simpa [preF, c1, c2] using him, hb.alloc hb.size _⟩
          case measure => simp [intOf]; omega
      · by_cases c3 : e.k = 6
        · go_wp2
          go_roundw
          case rel => exact ⟨k + 1, D, by omega, by go_num, by rw [hs.out]; simp [preF, c1, c3], by rw [hs.out]; simp [preF, c1, c3], (hown.alloc _).mono (by omega), by rw [hs.out]; simpa [preF, c1, c3] using him, hb.alloc hb.size _⟩
          case measure => simp [intOf]; omega
        · have c1b : (e.k != 5) = true := by simp [c1]
          have c3b : (e.k != 6) = true := by simp [c3]
          go_wp2
          all_goals
            go_roundw
            case rel => exact ⟨k + 1, D, by omega, by go_num, by rw [hs.out]; simp [preF, c1, c3], by rw [hs.out]; simp [preF, c1, c3], (hown.alloc _).mono (by omega), by rw [hs.out]; simpa [preF, c1, c3] using him, hb.alloc hb.size _⟩
            case measure => simp [intOf]; omega
    · have ht := take_all hlt
      rw [ht]
      go_wp2
      go_ret
      exact ⟨rfl, hb⟩

end Go.Proofs.Ytjfgmallhjclgaa
