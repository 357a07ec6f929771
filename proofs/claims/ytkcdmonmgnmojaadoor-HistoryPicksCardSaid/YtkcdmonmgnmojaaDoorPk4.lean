/- All processes, once each; two rows that one owns apart. -/
import Derived.Test.YtkcdmonmgnmojaaDoorPk3
import Derived.Test.YtkcdmonmgnmojaaDoorHAw
namespace Go.Proofs.YtkcdmonmgnmojaaDoor
open Go.RowKit

/-! ### sorted, each once -/
theorem compact_up {zs : List Int} (hs : zs.Pairwise (· ≤ ·)) : ∀ m, m ≤ zs.length → (Lib.compactUpTo zs.toArray m).Pairwise (· < ·) ∧ (∀ x ∈ Lib.compactUpTo zs.toArray m, 0 < m ∧ x ≤ zs.toArray[m - 1]!) ∧ (∀ i, i < m → zs.toArray[i]! ∈ Lib.compactUpTo zs.toArray m) := by
  intro m
  induction m with
  | zero => exact fun _ => ⟨by simp [Lib.compactUpTo], fun x hx => by simp [Lib.compactUpTo] at hx, fun i hi => by omega⟩
  | succ m ih =>
    intro hm
    obtain ⟨h1, h2, h3⟩ := ih (by omega)
    have hget : ∀ i, i < zs.length → zs.toArray[i]! = zs[i]! := fun i hi => by simp
    have hle : ∀ i j, i ≤ j → j < zs.length → zs.toArray[i]! ≤ zs.toArray[j]! := fun i j hij hj => by
      rw [hget i (by omega), hget j hj, getElem!_pos zs i (by omega), getElem!_pos zs j hj]
      rcases Nat.lt_or_ge i j with h | h
      · exact List.pairwise_iff_getElem.1 hs i j (by omega) hj h
      · have : i = j := by omega
        subst this
        exact Int.le_refl _
    rw [Lib.compactUpTo_succ, Nat.add_sub_cancel]
    by_cases hk : m = 0 ∨ zs.toArray[m]! ≠ zs.toArray[m - 1]!
    · have hkeep : Lib.keeps zs.toArray m = true := by simpa [Lib.keeps] using hk
      rw [if_pos hkeep]
      have hlt : ∀ x ∈ Lib.compactUpTo zs.toArray m, x < zs.toArray[m]! := fun x hx => by
        obtain ⟨h0, hx⟩ := h2 x hx
        have := hle (m - 1) m (by omega) (by omega)
        rcases hk with h | h
        · omega
        · omega
      refine ⟨List.pairwise_append.2 ⟨h1, List.pairwise_singleton _ _, fun x hx y hy => by rw [List.mem_singleton.1 hy]; exact hlt x hx⟩, fun x hx => ⟨by omega, ?_⟩, fun i hi => ?_⟩
      · rcases List.mem_append.1 hx with hx | hx
        · exact Int.le_of_lt (hlt x hx)
        · rw [List.mem_singleton.1 hx]; exact Int.le_refl _
      · rcases Nat.lt_or_ge i m with h | h
        · exact List.mem_append_left _ (h3 i h)
        · have : i = m := by omega
          subst this
          exact List.mem_append_right _ (List.mem_singleton.2 rfl)
    · have hm0 : 0 < m := by
        rcases Nat.eq_zero_or_pos m with h | h
        · exact absurd (.inl h) hk
        · exact h
      have heq : zs.toArray[m]! = zs.toArray[m - 1]! := by
        rcases Int.decEq (zs.toArray[m]!) (zs.toArray[m - 1]!) with h | h
        · exact absurd (.inr h) hk
        · exact h
      rw [Lib.keeps_neg hm0 heq]
      simp only [Bool.false_eq_true, if_false, List.append_nil]
      refine ⟨h1, fun x hx => ⟨by omega, ?_⟩, fun i hi => ?_⟩
      · rw [heq]; exact (h2 x hx).2
      · rcases Nat.lt_or_ge i m with h | h
        · exact h3 i h
        · have : i = m := by omega
          subst this
          rw [heq]
          exact h3 _ (by omega)
theorem sorted_lt (l : List Int) : (sorted l).Pairwise (· < ·) := by
  have hs : (l.mergeSort fun x y => decide (x ≤ y)).Pairwise (· ≤ ·) := by
    have := List.pairwise_mergeSort (le := fun (x y : Int) => decide (x ≤ y)) (fun a b c => by simp only [decide_eq_true_eq]; omega) (fun a b => by simp only [Bool.or_eq_true, decide_eq_true_eq]; omega) l
    exact List.Pairwise.imp (fun h => by simpa using h) this
  exact (compact_up hs _ (Nat.le_refl _)).1
theorem sorted_mem (l : List Int) {x : Int} (h : x ∈ l) : x ∈ sorted l := by
  have hs : (l.mergeSort fun x y => decide (x ≤ y)).Pairwise (· ≤ ·) := by
    have := List.pairwise_mergeSort (le := fun (x y : Int) => decide (x ≤ y)) (fun a b c => by simp only [decide_eq_true_eq]; omega) (fun a b => by simp only [Bool.or_eq_true, decide_eq_true_eq]; omega) l
    exact List.Pairwise.imp (fun h => by simpa using h) this
  have hx : x ∈ l.mergeSort fun x y => decide (x ≤ y) := (List.mergeSort_perm l _).symm.subset h
  obtain ⟨i, hi⟩ := List.getElem?_of_mem hx
  have hlt := get_lt hi
  have := (compact_up hs _ (Nat.le_refl _)).2.2 i hlt
  have he : (l.mergeSort fun x y => decide (x ≤ y)).toArray[i]! = x := by
    rw [List.getElem?_eq_getElem hlt] at hi
    simp only [List.getElem!_toArray]
    rw [getElem!_pos _ i hlt]
    exact Option.some.inj hi
  rw [he] at this
  exact this
theorem sorted_len (l : List Int) : (sorted l).length ≤ l.length := by
  have := Lib.compact_length_le (l.mergeSort fun x y => decide (x ≤ y))
  rwa [List.length_mergeSort] at this

/-! ### how often -/
def cnt (l : List Cl) (n : Int) : Nat := (l.filter fun x => x.p == n).length
theorem sum_add {α : Type} (f g : α → Nat) : ∀ C : List α, (C.map fun n => f n + g n).sum = (C.map f).sum + (C.map g).sum
  | [] => rfl
  | a :: C => by simp only [List.map_cons, List.sum_cons, sum_add f g C]; omega
theorem sum_zero (a : Int) : ∀ C : List Int, a ∉ C → (C.map fun n => if a == n then 1 else 0).sum = 0
  | [], _ => rfl
  | b :: C, h => by
    rw [List.map_cons, List.sum_cons, sum_zero a C (fun hc => h (List.mem_cons_of_mem _ hc))]
    have : ¬ a = b := fun e => h (e ▸ List.mem_cons_self ..)
    simp [this]
theorem sum_one (a : Int) : ∀ C : List Int, C.Pairwise (· < ·) → a ∈ C → (C.map fun n => if a == n then 1 else 0).sum = 1
  | [], _, h => by cases h
  | b :: C, hp, h => by
    rw [List.map_cons, List.sum_cons]
    obtain ⟨h1, h2⟩ := List.pairwise_cons.1 hp
    by_cases e : a = b
    · subst e
      rw [sum_zero a C (fun hc => by have := h1 a hc; omega)]
      simp
    · rcases List.mem_cons.1 h with h | h
      · exact absurd h e
      · rw [sum_one a C h2 h]
        simp [e]
theorem cnt_cons (x : Cl) (l : List Cl) (n : Int) : cnt (x :: l) n = (if x.p == n then 1 else 0) + cnt l n := by
  unfold cnt
  rw [List.filter_cons]
  split <;> simp; omega
theorem cnt_snoc {l : List Cl} {k : Nat} {x : Cl} (h : l[k]? = some x) (n : Int) : cnt (l.take (k + 1)) n = cnt (l.take k) n + if x.p == n then 1 else 0 := by
  unfold cnt
  rw [take_snoc h, List.filter_append, List.length_append]
  cases hh : x.p == n <;> simp [hh]
theorem sum_nil : ∀ C : List Int, (C.map (cnt [])).sum = 0
  | [] => rfl
  | a :: C => by rw [List.map_cons, List.sum_cons, sum_nil C]; rfl
theorem sum_cnt (C : List Int) (hp : C.Pairwise (· < ·)) : ∀ l : List Cl, (∀ x ∈ l, x.p ∈ C) → (C.map (cnt l)).sum = l.length
  | [], _ => sum_nil C
  | x :: l, h => by
    have : C.map (cnt (x :: l)) = C.map fun n => (if x.p == n then 1 else 0) + cnt l n := List.map_congr_left fun n _ => cnt_cons x l n
    rw [this, sum_add, sum_one x.p C hp (h x (List.mem_cons_self ..)), sum_cnt C hp l (fun y hy => h y (List.mem_cons_of_mem _ hy)), List.length_cons]
    omega
theorem cnt_le (l : List Cl) (n : Int) : cnt l n ≤ l.length := List.length_filter_le _ _

/-! ### two rows -/
theorem wpList_app1h {P : Program} {w0 : World} {cs : Array Value} {ops : Array Oper} {rest : List Oper} {o : Oper} {a : Act} {Q : Exit → Act → World → Prop} (hgd : o.guard = none) (s x : Operand) (t : TypeId)
    (ho : o.op = .call { callee := .builtin .append, args := #[s, x], argTypes := #[t, t] }) {e : TypeId} {size bytes : Nat} (hT : ElemTy P t e size bytes) (base : Nat)
    {v : Value} {n : Nat} {xs : List Value} (hown : w0.ownsRow base e size v n xs) (hs : a.eval s = v) (hx : a.eval x = .slice (some ⟨w0.heap.size, 0, none⟩) 1 1) (hl : cs.size = size) (h1 : cs.toList.all (fun u => u.oneCell') = true)
    (h63 : n + 1 ≤ maxLen) (hbytes : (n + 1) * bytes ≤ 140737488355328) (hbase : base ≤ w0.heap.size)
    (h : ∀ v' w', w'.ownsRow base e size v' (n + 1) (xs ++ cs.toList) → Below base w0 w' → (w0.alloc (.cells cs e)).grownBy w' v.ownBlock → (v'.ownBlock = v.ownBlock ∨ v'.ownBlock = some (w0.heap.size + 1)) → wpList P ops Q rest (a.put o.dst v') w') : wpList P ops Q (o :: rest) a (w0.alloc (.cells cs e)) := by
  obtain ⟨ht, i, z, hi, hz, hsize, hby, hzs, hsz⟩ := hT
  refine wpList_append_own_at _ hgd s x t ho base e i z size bytes ht hi hz hsize hby hzs hsz v n xs hs (hown.alloc _) ⟨w0.heap.size, 0, none⟩ 1 1 cs.toList hx (by simpa using hl) (cells_new' _ _ _ _ rfl) (fun u hu => List.all_eq_true.1 h1 u hu) h63 hbytes (by simp; omega) ?_
  intro v' w' h2 h3 _ h5
  rw [World.size_alloc] at h5
  exact h v' w' h2 (((Below.refl base w0).alloc hbase _).trans (grown_below (hown.alloc _) h3 (Nat.le_refl _) (by simp; omega))) h3 h5
def Apart (u v : Value) : Prop := ∀ g, u.ownBlock = some g → v.ownBlock ≠ some g
theorem Apart.symm {u v : Value} (h : Apart u v) : Apart v u := fun g hg hu => h g hu hg
theorem own_other {base : Nat} {w0 w1 : World} {u v v' : Value} {M : List El} {o : Obj} (hu : Own elE 45 base w0 u M) (hap : Apart u v) (hg : (w0.alloc o).grownBy w1 v.ownBlock) (hat : v'.ownBlock = v.ownBlock ∨ v'.ownBlock = some (w0.heap.size + 1)) :
    Own elE 45 base w1 u M ∧ Apart u v' := by
  rcases hu.2 with ⟨rfl, h0⟩ | ⟨g, cap, cur, rfl, hb, hh, hr⟩
  · have : M = [] := List.eq_nil_of_length_eq_zero h0
    subst this
    exact ⟨Own.nil _ _, fun g hg => by cases hg⟩
  · have hlt := (Array.getElem?_eq_some_iff.1 hh).1
    refine ⟨⟨hu.1, .inr ⟨g, cap, cur, rfl, hb, ?_, hr⟩⟩, fun k hk hv => ?_⟩
    · rw [hg.block g (by rw [World.size_alloc]; omega) (fun e => hap g rfl e.symm), ((Below.refl w0.heap.size w0).alloc (Nat.le_refl _) o).block g hlt]
      exact hh
    · injection hk with hk
      have hk : g = k := hk
      subst hk
      rcases hat with h | h
      · exact hap g rfl (by rw [← h]; exact hv)
      · rw [h] at hv
        injection hv with hv
        omega
def RecE (w : World) (B : Nat) (e : El) : Prop := Ws w B e.A e.x.r ∧ e.x.r.length ≤ e.c ∧ e.c ≤ maxLen
theorem ElSl.rec {w : World} {B : Nat} {A : Option Addr} {L : List El} (h : ElSl w B A L) : ∀ e ∈ L, RecE w B e := fun e he => by
  obtain ⟨k, hk⟩ := List.getElem?_of_mem he
  obtain ⟨_, _, _, _, _, _, h1, h2, h3⟩ := h k e hk
  exact ⟨h1, h2, h3⟩
theorem RecE.below {w w' : World} {B B' : Nat} {e : El} (h : RecE w B e) (hb : Below B w w') (hB : B ≤ B') : RecE w' B' e := ⟨h.1.below hb hB, h.2⟩
theorem own_sl {base : Nat} {w : World} {v : Value} {M : List El} (h : Own elE 45 base w v M) (hr : ∀ e ∈ M, RecE w w.heap.size e) : ∃ A c, v = .slice A M.length c ∧ ClSl w w.heap.size A (M.map (·.x)) := by
  rcases own_rows h with ⟨rfl, rfl⟩ | ⟨g, cap, rfl, hg, hrow, h1, h2⟩
  · exact ⟨none, 0, rfl, fun k x hx => by simp at hx⟩
  · refine ⟨_, cap, rfl, fun k x hx => ?_⟩
    rw [List.getElem?_map, Option.map_eq_some_iff] at hx
    obtain ⟨e, he, rfl⟩ := hx
    have hc := hrow.cells he
    obtain ⟨q1, q2, q3⟩ := hr e (List.mem_of_getElem? he)
    exact ⟨g, 0, e.A, e.c, rfl, hrow.lt, by simpa using hc, q1, q2, q3⟩
theorem filterE_yes (p : El → Bool) {l : List El} {k : Nat} {x : El} (h : l[k]? = some x) (hp : p x = true) : (l.take (k + 1)).filter p = (l.take k).filter p ++ [x] := by
  rw [take_snoc h, List.filter_append]
  simp [hp]
theorem filterE_no (p : El → Bool) {l : List El} {k : Nat} {x : El} (h : l[k]? = some x) (hp : p x = false) : (l.take (k + 1)).filter p = (l.take k).filter p := by
  rw [take_snoc h, List.filter_append]
  simp [hp]
theorem filter_x (p : Cl → Bool) (L : List El) : (L.filter fun e => p e.x).map (·.x) = (L.map (·.x)).filter p := by
  induction L with
  | nil => rfl
  | cons e L ih =>
    rw [List.filter_cons, List.map_cons, List.filter_cons]
    split <;> simp [ih]

end Go.Proofs.YtkcdmonmgnmojaaDoor
