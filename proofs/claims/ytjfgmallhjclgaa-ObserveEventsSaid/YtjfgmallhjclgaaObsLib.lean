/- Words for memory: slices of events; lists walked by index. -/
import Derived.Test.YtjfgmallhjclgaaWalk
namespace Go.Proofs.Ytjfgmallhjclgaa
open Go.RowKit

structure Ev where
  t : Int
  k : Int
  p : Int
  a : Int
  b : Int
  deriving DecidableEq

def Ev.ok (e : Ev) : Prop := (Lit.int .i64 e.t).wf = true ∧ (Lit.int .i64 e.k).wf = true ∧ (Lit.int .i64 e.p).wf = true ∧ (Lit.int .i64 e.a).wf = true ∧ (Lit.int .i64 e.b).wf = true

def Ev.cells (e : Ev) : List Value := [.int .i64 e.t, .int .i64 e.k, .int .i64 e.p, .int .i64 e.a, .int .i64 e.b]
def evE : Enc Ev := ⟨Ev.cells, 5, fun _ => rfl, fun x u hu => by
  simp only [Ev.cells, List.mem_cons, List.not_mem_nil, or_false] at hu
  rcases hu with rfl | rfl | rfl | rfl | rfl <;> rfl, by omega⟩

def EvSl (w : World) (B : Nat) (A : Option Addr) (l : List Ev) : Prop := SlOf evE w B A l ∧ ∀ e ∈ l, e.ok

theorem EvSl.below {w w' : World} {B B' : Nat} {A : Option Addr} {l : List Ev} (h : EvSl w B A l) (hb : Below B w w') (hB : B ≤ B') : EvSl w' B' A l := ⟨h.1.below hb hB, h.2⟩
theorem EvSl.get {w : World} {B : Nat} {A : Option Addr} {l : List Ev} (h : EvSl w B A l) {k : Nat} {e : Ev} (hk : l[k]? = some e) : e.ok ∧ ∃ b off, A = some ⟨b, off, none⟩ ∧ b < B ∧
    w.cell? ⟨b, off + k * 5, none⟩ = some (.int .i64 e.t) ∧
    w.cell? ⟨b, off + k * 5 + 1, none⟩ = some (.int .i64 e.k) ∧
    w.cell? ⟨b, off + k * 5 + 2, none⟩ = some (.int .i64 e.p) ∧
    w.cell? ⟨b, off + k * 5 + 3, none⟩ = some (.int .i64 e.a) ∧
    w.cell? ⟨b, off + k * 5 + 4, none⟩ = some (.int .i64 e.b) := by
  obtain ⟨b, off, hA, hlt, hc⟩ := h.1 k e hk
  exact ⟨h.2 e (List.mem_of_getElem? hk), b, off, hA, hlt, hc 0 _ rfl, hc 1 _ rfl, hc 2 _ rfl, hc 3 _ rfl, hc 4 _ rfl⟩

/-! The plain functions. -/
def busyF (i : Int) (n : Nat) (e : Ev) : Nat := if e.k = 5 ∧ e.p = i then n + 1 else n
def busyN (i : Int) (l : List Ev) : Nat := l.foldl (busyF i) 0
def idleF (n : Nat) (e : Ev) : Nat := if e.k = 6 then n + 1 else n
def idleN (l : List Ev) : Nat := l.foldl idleF 0

theorem fold_le {f : Nat → Ev → Nat} (hf : ∀ n e, f n e ≤ n + 1) : ∀ (l : List Ev) (s : Nat), l.foldl f s ≤ s + l.length
  | [], s => by simp
  | e :: l, s => by have := fold_le hf l (f s e); have := hf s e; simp only [List.foldl_cons, List.length_cons]; omega
theorem busyN_le (i : Int) (l : List Ev) : busyN i l ≤ l.length := by
  have := fold_le (f := busyF i) (by intro n e; unfold busyF; split <;> omega) l 0; unfold busyN; omega
theorem idleN_le (l : List Ev) : idleN l ≤ l.length := by
  have := fold_le (f := idleF) (by intro n e; unfold idleF; split <;> omega) l 0; unfold idleN; omega

set_option maxHeartbeats 400000 in
theorem busy_any (A : Option Addr) (c : Nat) (l : List Ev) (i : Int) (w : World) (hn : l.length ≤ 300) (hl : EvSl w w.heap.size A l) :
    Calls Try.prog 7 #[.slice A l.length c, .int .i64 i] w fun e w' => e = .returned (.int .i64 (busyN i l)) ∧ Below w.heap.size w w' := by
  go_enter Try.func7, Try.ntmps7
  go_wp2
  go_loopw [5, 10] (fun n j wr => ∃ k : Nat, k ≤ l.length ∧ j = .int .i64 k ∧ n = .int .i64 (busyN i (l.take k)) ∧ Below w.heap.size w wr) (fun _ j _ => l.length - (intOf j).toNat)
  case atStart => exact ⟨0, Nat.zero_le _, rfl, rfl, Below.refl _ _⟩
  case round =>
    obtain ⟨k, hk, rfl, rfl, hb⟩ := hrel
    by_cases hlt : k < l.length
    · obtain ⟨e, he⟩ := get_some hlt
      obtain ⟨_, b, off, rfl, hlb, h0, h1, h2, h3, h4⟩ := (hl.below hb (Nat.le_refl _)).get he
      have hs : Hid (busyN i (l.take (k + 1)) = busyF i (busyN i (l.take k)) e) := foldl_snoc _ _ he
      have hle : busyN i (l.take k) ≤ 300 := by have := busyN_le i (l.take k); simp at this; omega
      clear he
      by_cases c1 : e.k = 5
      · by_cases c2 : e.p = i
        all_goals
          go_wp2
          go_roundw
          case rel => exact ⟨k + 1, by omega, by go_num, by rw [hs.out]; simp [busyF, c1, c2], hb.alloc hb.size _⟩
          case measure => simp [intOf]; omega
      · go_wp2
        go_roundw
        case rel => exact ⟨k + 1, by omega, by go_num, by rw [hs.out]; simp [busyF, c1], hb.alloc hb.size _⟩
        case measure => simp [intOf]; omega
    · have ht := take_all hlt
      rw [ht]
      go_wp2
      go_ret
      exact ⟨rfl, hb⟩

set_option maxHeartbeats 400000 in
theorem idle_any (A : Option Addr) (c : Nat) (l : List Ev) (w : World) (hn : l.length ≤ 300) (hl : EvSl w w.heap.size A l) :
    Calls Try.prog 8 #[.slice A l.length c] w fun e w' => e = .returned (.int .i64 (idleN l)) ∧ Below w.heap.size w w' := by
  go_enter Try.func8, Try.ntmps8
  go_wp2
  go_loopw [3, 8] (fun n j wr => ∃ k : Nat, k ≤ l.length ∧ j = .int .i64 k ∧ n = .int .i64 (idleN (l.take k)) ∧ Below w.heap.size w wr) (fun _ j _ => l.length - (intOf j).toNat)
  case atStart => exact ⟨0, Nat.zero_le _, rfl, rfl, Below.refl _ _⟩
  case round =>
    obtain ⟨k, hk, rfl, rfl, hb⟩ := hrel
    by_cases hlt : k < l.length
    · obtain ⟨e, he⟩ := get_some hlt
      obtain ⟨_, b, off, rfl, hlb, h0, h1, h2, h3, h4⟩ := (hl.below hb (Nat.le_refl _)).get he
      have hs : Hid (idleN (l.take (k + 1)) = idleF (idleN (l.take k)) e) := foldl_snoc _ _ he
      have hle : idleN (l.take k) ≤ 300 := by have := idleN_le (l.take k); simp at this; omega
      clear he
      by_cases c1 : e.k = 6
      all_goals
        go_wp2
        go_roundw
        case rel => exact ⟨k + 1, by omega, by go_num, by rw [hs.out]; simp [idleF, c1], hb.alloc hb.size _⟩
        case measure => simp [intOf]; omega
    · have ht := take_all hlt
      rw [ht]
      go_wp2
      go_ret
      exact ⟨rfl, hb⟩

end Go.Proofs.Ytjfgmallhjclgaa
