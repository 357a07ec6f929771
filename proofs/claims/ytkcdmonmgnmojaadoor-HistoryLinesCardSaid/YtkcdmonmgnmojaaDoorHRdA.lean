/- What history.Read stands on: the cut line, its words' places. -/
import Derived.Test.YtkcdmonmgnmojaaDoorHBox
import Derived.Test.YtkcdmonmgnmojaaDoorHNum
import Derived.Test.YtkcdmonmgnmojaaDoorHLn1
import Derived.Test.YtkcdmonmgnmojaaDoorHRl
import Derived.Test.YtkcdmonmgnmojaaDoorSplitC
import Derived.Test.YtkcdmonmgnmojaaDoorHeld
namespace Go.Proofs.YtkcdmonmgnmojaaDoor
open Go.RowKit

theorem idx_from (ws : List (List UInt8)) (x : List UInt8) : ∀ (l : List (List UInt8)) (i : Nat), Lib.idxFromS (l.map fun p => (⟨p.toArray⟩ : ByteArray)) ⟨x.toArray⟩ i = match l.findIdx? fun z => z == x with
    | some k => ((i + k : Nat) : Int)
    | none => -1
  | [], i => rfl
  | z :: l, i => by
    rw [List.map_cons, Lib.idxFromS, List.findIdx?_cons, idx_from ws x l (i + 1)]
    by_cases h : z = x
    · subst h
      rw [if_pos rfl, if_pos (by simp)]
      simp
    · rw [if_neg (fun e => h (by injection e with e; exact congrArg Array.toList e)), if_neg (by simp [h])]
      cases l.findIdx? fun z => z == x with
      | none => rfl
      | some k =>
        show ((i + 1 + k : Nat) : Int) = ((i + (k + 1) : Nat) : Int)
        rw [show i + 1 + k = i + (k + 1) by omega]
theorem idx_ops (x : List UInt8) : Lib.idxOfS opsB ⟨x.toArray⟩ = idxW opsW x := by
  have := idx_from opsW x opsW 0
  rw [show (opsW.map fun p => (⟨p.toArray⟩ : ByteArray)) = opsB from rfl] at this
  unfold Lib.idxOfS idxW
  rw [this]
  cases opsW.findIdx? fun z => z == x with
  | none => rfl
  | some k => simp
theorem idx_codes (x : List UInt8) : Lib.idxOfS codesB ⟨x.toArray⟩ = idxW codesW x := by
  have := idx_from codesW x codesW 0
  rw [show (codesW.map fun p => (⟨p.toArray⟩ : ByteArray)) = codesB from rfl] at this
  unfold Lib.idxOfS idxW
  rw [this]
  cases codesW.findIdx? fun z => z == x with
  | none => rfl
  | some k => simp
theorem hops_index (b : Nat) (x : List UInt8) (w : World) (hc : ∀ (j : Nat) z, opsB[j]? = some z → w.cell? ⟨b, j, none⟩ = some (.string z)) :
    Calls Tryd.prog 67 #[.slice (some ⟨b, 0, none⟩) 5 5, .string ⟨x.toArray⟩] w fun e w' => e = .returned (.int .i64 (idxW opsW x)) ∧ w' = w := by
  rw [← idx_ops]
  exact index_any b 5 opsB ⟨x.toArray⟩ w rfl (by decide) hc
theorem hcodes_index (b : Nat) (x : List UInt8) (w : World) (hc : ∀ (j : Nat) z, codesB[j]? = some z → w.cell? ⟨b, j, none⟩ = some (.string z)) :
    Calls Tryd.prog 67 #[.slice (some ⟨b, 0, none⟩) 4 4, .string ⟨x.toArray⟩] w fun e w' => e = .returned (.int .i64 (idxW codesW x)) ∧ w' = w := by
  rw [← idx_codes]
  exact index_any b 4 codesB ⟨x.toArray⟩ w rfl (by decide) hc

theorem splitn_any (s : ByteArray) (w : World) (hM : Mx w) (hs : s.size ≤ 1000000) :
    Calls Tryd.prog 65 #[.string s, .string ⟨#[32]⟩, .int .i64 7] w fun e w' => ∃ C, e = .returned (.slice (some ⟨w.heap.size, 0, none⟩) (pk 6 s.data.toList).length C) ∧
      (∀ (j : Nat) x, (pk 6 s.data.toList)[j]? = some x → w'.cell? ⟨w.heap.size, j, none⟩ = some (.string ⟨x.toArray⟩)) ∧ Below w.heap.size w w' ∧ (pk 6 s.data.toList).length ≤ C ∧ C ≤ 7 := by
  obtain ⟨m, hm⟩ := hM
  have hlen : (pk 6 s.data.toList).length ≤ min 7 (s.size + 1) := by
    have h1 := Lib.splitB_length_le ⟨#[32]⟩ 0 (min 7 (s.size + 1) - 1) s
    rw [splitB_pk, List.length_map] at h1
    omega
  refine (Tryd.strings_SplitN s ⟨#[32]⟩ 7 m w (by omega) hm (Nat.le_refl 1) (by omega) (by omega)).mono ?_
  rintro e w' ⟨rfl, rfl⟩
  refine ⟨min 7 (s.size + 1), by rw [splitB_pk, List.length_map], fun j x hx => ?_, (Below.refl _ w).alloc (Nat.le_refl _) _, hlen, by omega⟩
  have h1 := cells_new w (Lib.cellsOf (Lib.splitB ⟨#[32]⟩ 0 (min 7 (s.size + 1) - 1) s) (min 7 (s.size + 1))) 9 j
  rw [Addr.add_lit, Nat.zero_add] at h1
  rw [h1, splitB_pk]
  unfold Lib.cellsOf
  rw [List.getElem?_toArray, List.getElem?_append_left (by rw [List.length_map, List.length_map]; exact get_lt hx), List.getElem?_map, List.getElem?_map, hx]
  rfl
theorem hnumA (x : List UInt8) (W : World) (h : x.length ≤ 1000) : Calls Tryd.prog 66 #[.string ⟨x.toArray⟩] W fun e w' => e = .returned (.int .i64 (numH x)) ∧ Below W.heap.size W w' :=
  hnumber_any ⟨x.toArray⟩ W (by simp [ByteArray.size]; omega)

/-! ### what is read, as the walk says it -/
def hreadX (s : List UInt8) : Cl := (readP s).getD cl0
def hreadOk (s : List UInt8) : Bool := (readP s).isSome
theorem hread_no {s : List UInt8} (h : ¬(6 ≤ (pcs 32 s).length ∧ clB (candP (pcs 32 s)) = true ∧ lineH (candP (pcs 32 s)) = s)) : hreadX s = cl0 ∧ hreadOk s = false := by
  have : readP s = none := by unfold readP readHBy; rw [if_neg h]
  unfold hreadX hreadOk
  rw [this]
  exact ⟨rfl, rfl⟩
theorem hread_yes {s : List UInt8} (h : 6 ≤ (pcs 32 s).length ∧ clB (candP (pcs 32 s)) = true ∧ lineH (candP (pcs 32 s)) = s) : hreadX s = candP (pcs 32 s) ∧ hreadOk s = true := by
  have : readP s = some (candP (pcs 32 s)) := by unfold readP readHBy; rw [if_pos h]
  unfold hreadX hreadOk
  rw [this]
  exact ⟨rfl, rfl⟩
theorem res_hread (tmps : Array Value) (w : World) {b : Nat} {e : Cl} {A : Option Addr} {c : Nat} {x : Bool} (ha : tmps[2]?.getD undef = .pointer (some ⟨b, 0, none⟩)) (hx : tmps[3]?.getD undef = .bool x) (hbox : ClBox w b e A c) :
    (results Tryd.f30 tmps).run Tryd.prog w = .ok (.tuple #[clV e A c, .bool x]) w := by
  obtain ⟨h0, h1, h2, h3, h4, h5, h6⟩ := hbox.cells
  simp [results, ha, hx, h0, h1, h2, h3, h4, h5, h6, go_sem, clV]
theorem pcs_mem (c : UInt8) (l : List UInt8) : ∀ x ∈ pcs c l, x.length ≤ l.length := by
  induction l with
  | nil => intro x hx; simp [pcs] at hx; simp [hx]
  | cons a l ih =>
    intro x hx
    have hh : ((pcs c l).headD []).length ≤ l.length := by
      cases h : pcs c l with
      | nil => simp
      | cons y r => exact ih y (by rw [h]; simp)
    unfold pcs at hx
    split at hx
    · rcases List.mem_cons.1 hx with rfl | hx
      · simp
      · have := ih x hx
        rw [List.length_cons]; omega
    · rcases List.mem_cons.1 hx with rfl | hx
      · simp only [List.length_cons]; omega
      · have := ih x (List.mem_of_mem_tail hx)
        rw [List.length_cons]; omega
/-- The cut line: six pieces, and what stands behind them. -/
theorem cut_six {l : List UInt8} (h : 6 ≤ (pcs 32 l).length) : ∃ x0 x1 x2 x3 x4 x5, (x0.length ≤ l.length ∧ x1.length ≤ l.length ∧ x2.length ≤ l.length ∧ x3.length ≤ l.length ∧ x4.length ≤ l.length ∧ x5.length ≤ l.length) ∧
    candP (pcs 32 l) = ⟨numH x0, numH x1, idxW opsW x2, restP ((pcs 32 l).drop 6), idxW codesW x5, numH x3, if x4 = [45] then -1 else numH x4⟩ ∧
    ((pk 6 l = [x0, x1, x2, x3, x4, x5] ∧ restP ((pcs 32 l).drop 6) = []) ∨ ∃ x6, pk 6 l = [x0, x1, x2, x3, x4, x5, x6] ∧ restP ((pcs 32 l).drop 6) = readO 8 x6 ∧ x6.length ≤ l.length) := by
  have hm := pcs_mem 32 l
  have hj := join_pcs l
  by_cases h6 : (pcs 32 l).length ≤ 6
  · have hpk := pk_few h6
    match hp : pcs 32 l, h, h6 with
    | [a, b, c, d, e, f], _, _ =>
      rw [hp] at hm hpk
      exact ⟨a, b, c, d, e, f, ⟨hm a (by simp), hm b (by simp), hm c (by simp), hm d (by simp), hm e (by simp), hm f (by simp)⟩, rfl, .inl ⟨hpk, rfl⟩⟩
    | a :: b :: c :: d :: e :: f :: g :: t, _, h6 => simp at h6
  · have hpk := pk_many h6
    match hp : pcs 32 l, h, h6 with
    | a :: b :: c :: d :: e :: f :: g :: t, _, _ =>
      rw [hp] at hm hpk hj
      refine ⟨a, b, c, d, e, f, ⟨hm a (by simp), hm b (by simp), hm c (by simp), hm d (by simp), hm e (by simp), hm f (by simp)⟩, rfl, .inr ⟨Lib.join (g :: t) [32], hpk, rfl, ?_⟩⟩
      have h2 := congrArg List.length hj
      rw [show (a :: b :: c :: d :: e :: f :: g :: t) = [a, b, c, d, e, f] ++ (g :: t) from rfl, ← join_join _ (g :: t) (by simp), join_snoc _ _ _ (by simp)] at h2
      rw [List.length_append] at h2
      omega
    | [a, b, c, d, e, f], _, h6 => simp at h6

end Go.Proofs.YtkcdmonmgnmojaaDoor
