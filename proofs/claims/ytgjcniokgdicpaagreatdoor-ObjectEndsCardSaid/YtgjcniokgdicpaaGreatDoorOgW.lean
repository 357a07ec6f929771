/- Words laid behind a row of one's own, in a region that is walked as it stands. -/
import Derived.Test.YtgjcniokgdicpaaGreatDoorOgX
namespace Go.Proofs.YtgjcniokgdicpaaGreatDoor
open Go.RowKit

set_option maxRecDepth 100000 in
theorem nil_cat (w : World) (ty : TypeId) {base n : Nat} {v : Value} {xs : List Value} (h : w.ownsRow base 32 1 v n xs) (c : Nat) : (Builtin.append_ #[33, 33] ty #[v, .slice none 0 c]).run Tryz.prog w = .ok v w := by
  obtain ⟨i, hi, _⟩ := info_parts (P := Tryz.prog) (e := 32) (z := .int .u32 0) (size := 1) (bytes := 4) (by kernel_rfl)
  have ht : Tryz.prog.underlying 33 = some (.slice 32) := Tryz.underlying33
  rcases h.2 with ⟨rfl, rfl⟩ | ⟨g, cap, cur, rfl, _, _, hn, _⟩ <;> simp [Builtin.append_, Builtin.lenOf, Builtin.firstCells, sizeOf, typeInfo, storeCells, run_underlying ht, *]
set_option maxRecDepth 100000 in
theorem cat_run (w : World) (ty : TypeId) {base n : Nat} {v : Value} {xs : List Value} (h : w.ownsRow base 32 1 v n xs) {A : Option Addr} {c B : Nat} {l : List Int} (hw : Ws w B A l) (h1 : n + l.length ≤ 2000000) (hb : base ≤ w.heap.size) :
    ∃ v' w', (Builtin.append_ #[33, 33] ty #[v, .slice A l.length c]).run Tryz.prog w = .ok v' w' ∧ w'.ownsRow base 32 1 v' (n + l.length) (xs ++ l.map (Value.int .u32)) ∧ w.grownBy w' v.ownBlock ∧ (v'.ownBlock = v.ownBlock ∨ v'.ownBlock = some w.heap.size) := by
  cases A with
  | none =>
    cases l with
    | nil => exact ⟨v, w, nil_cat w ty h c, by simpa using h, World.grownBy.refl w _, .inl rfl⟩
    | cons x l => obtain ⟨_, _, _, q, _⟩ := hw.get (k := 0) (z := x) rfl; cases q
  | some a =>
    obtain ⟨ht, i, z, hi, hz, hs, hby, hzs, hsz⟩ := u32Ty
    have hc : ∀ (j : Nat) u, (l.map (Value.int .u32))[j]? = some u → w.cell? (a.add j) = some u := by
      intro j u hu
      rw [List.getElem?_map] at hu
      obtain ⟨z, hz, rfl⟩ := Option.map_eq_some_iff.1 hu
      obtain ⟨_, b', off', hA, _, hcell⟩ := hw.get hz
      injection hA with hA
      subst hA
      rw [Addr.add_lit]
      exact hcell
    obtain ⟨v', w', hr, h2, h3, _, h5⟩ := run_append_own_at (P := Tryz.prog) w base 33 ty 32 i z 1 4 ht hi hz hs hby hzs hsz v n xs h a l.length c (l.map (Value.int .u32)) (by simp) hc (fun u hu => by
      obtain ⟨z, _, rfl⟩ := List.mem_map.1 hu
      rfl) (by unfold maxLen; omega) (by omega) hb
    exact ⟨v', w', hr, h2, h3, h5⟩
theorem wpList_cat {w : World} {ops : Array Oper} {rest : List Oper} {o : Oper} {a : Act} {Q : Exit → Act → World → Prop} (hgd : o.guard = none) (s x : Operand)
    (ho : o.op = .call { callee := .builtin .append, args := #[s, x], argTypes := #[33, 33] }) {base n : Nat} {v : Value} {xs : List Value} (h : w.ownsRow base 32 1 v n xs) (hs : a.eval s = v) {A : Option Addr} {m c B : Nat} {l : List Int} (hx : a.eval x = .slice A m c) (hm : m = l.length) (hw : Ws w B A l) (h1 : n + l.length ≤ 2000000) (hb : base ≤ w.heap.size)
    (hk : ∀ v' w', w'.ownsRow base 32 1 v' (n + l.length) (xs ++ l.map (Value.int .u32)) → w.grownBy w' v.ownBlock → (v'.ownBlock = v.ownBlock ∨ v'.ownBlock = some w.heap.size) → wpList Tryz.prog ops Q rest (a.put o.dst v') w') : wpList Tryz.prog ops Q (o :: rest) a w := by
  subst hm
  refine wpList_plain hgd fun _ hK => ?_
  obtain ⟨v', w', hr, h2, h3, h4⟩ := cat_run w o.type h (c := c) hw h1 hb
  unfold Oper.wp execOp
  simp only [ho, resolve, invoke, builtin, Sem.run_bind, Sem.run_pure, Result.andThen_ok, List.map_toArray, List.map_cons, List.map_nil, hs, hx, hr]
  exact hK _ _ (hk v' w' h2 h3 h4)
theorem most_is {o : Ob} {at' op rd : Int} {r : List Int} (h : begE o at' op rd r.length = 0) : boundZ o op = ((Kc.most o.k o.wd.toNat o.nr o.c.toNat op : Nat) : Int) := by
  obtain ⟨hS, hR, _, _, hc⟩ := kc0_sta h
  obtain ⟨p1, p2, p3⟩ := any_pos hR
  have hop5 := hS.op5
  have hop6 := hS.op6
  have e5 : o.k ≠ 6 → op = 2 ∨ op = 1 := hop5
  have e6 : o.k = 6 → op = 3 ∨ op = 4 := hop6
  have hm : ((o.c.toNat * (o.wd.toNat + 2) : Nat) : Int) = o.c * (o.wd + 2) := by
    rw [Int.natCast_mul, Int.natCast_add, Int.toNat_of_nonneg p2, Int.toNat_of_nonneg p3]
    rfl
  rcases any_cases hR with ⟨q, h1⟩ | ⟨q, h1⟩ | ⟨q, h1⟩ | ⟨q, h1⟩ | ⟨q, h1⟩ | ⟨q, h1⟩
  · rw [boundZ_four op h1, q]
    rcases e5 (by omega) with e | e <;> subst e
    · show o.wd + 4 = ((o.wd.toNat + 4 : Nat) : Int); omega
    · show o.wd + 3 = ((o.wd.toNat + 3 : Nat) : Int); omega
  · rw [boundZ_chen op h1, q]
    rcases e5 (by omega) with e | e <;> subst e
    · show o.wd + 2 * (o.nr : Int) + 2 = ((o.wd.toNat + 2 * o.nr + 2 : Nat) : Int); omega
    · show o.wd + 4 = ((o.wd.toNat + 4 : Nat) : Int); omega
  · rw [boundZ_seq op h1, q]
    rcases e5 (by omega) with e | e <;> subst e
    · show o.wd + 3 = ((o.wd.toNat + 3 : Nat) : Int); omega
    · show o.c * (o.wd + 2) = ((o.c.toNat * (o.wd.toNat + 2) : Nat) : Int); exact hm.symm
  · rw [boundZ_ring op h1, q]
    rcases e5 (by omega) with e | e <;> subst e
    · show o.wd + 2 = ((o.wd.toNat + 2 : Nat) : Int); omega
    · show o.c * (o.wd + 2) = ((o.c.toNat * (o.wd.toNat + 2) : Nat) : Int); exact hm.symm
  · rw [boundZ_cab op h1, q]
    rcases e5 (by omega) with e | e <;> subst e
    · show o.wd + (o.nr : Int) + 2 = ((o.wd.toNat + o.nr + 2 : Nat) : Int); omega
    · show 3 * o.c + o.wd + 1 = ((3 * o.c.toNat + o.wd.toNat + 1 : Nat) : Int); omega
  · rw [boundZ_fifo op h1, if_pos (e6 q), q]
    show o.wd + 3 = ((o.wd.toNat + 3 : Nat) : Int)
    omega

end Go.Proofs.YtgjcniokgdicpaaGreatDoor
