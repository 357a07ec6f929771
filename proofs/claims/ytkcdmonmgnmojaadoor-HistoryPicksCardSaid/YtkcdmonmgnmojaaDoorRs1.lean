/- Calls in a slice, with the places where they stand; what an insertion does; appends in drawn regions. -/
import Derived.Test.YtkcdmonmgnmojaaDoorPk2
namespace Go.Proofs.YtkcdmonmgnmojaaDoor
open Go.RowKit

/-- A call as it lies in a slice handed in. -/
def ElAt (w : World) (B : Nat) (A : Option Addr) (k : Nat) (e : El) : Prop := e.t = k ∧ ∃ b off, A = some ⟨b, off, none⟩ ∧ b < B ∧
  (w.cell? ⟨b, off + k * 7, none⟩ = some (.int .i64 e.x.p) ∧ w.cell? ⟨b, off + k * 7 + 1, none⟩ = some (.int .i64 e.x.o) ∧ w.cell? ⟨b, off + k * 7 + 2, none⟩ = some (.int .i64 e.x.q) ∧ w.cell? ⟨b, off + k * 7 + 3, none⟩ = some (.slice e.A e.x.r.length e.c) ∧
    w.cell? ⟨b, off + k * 7 + 4, none⟩ = some (.int .i64 e.x.c) ∧ w.cell? ⟨b, off + k * 7 + 5, none⟩ = some (.int .i64 e.x.b) ∧ w.cell? ⟨b, off + k * 7 + 6, none⟩ = some (.int .i64 e.x.e)) ∧ Ws w B e.A e.x.r ∧ e.x.r.length ≤ e.c ∧ e.c ≤ maxLen
theorem ElAt.below {w w' : World} {B B' : Nat} {A : Option Addr} {k : Nat} {e : El} (h : ElAt w B A k e) (hb : Below B w w') (hB : B ≤ B') : ElAt w' B' A k e := by
  obtain ⟨ht, b, off, hA, hlt, ⟨h0, h1, h2, h3, h4, h5, h6⟩, hr, hc⟩ := h
  have hk : ∀ {i : Nat} {u : Value}, w.cell? ⟨b, i, none⟩ = some u → w'.cell? ⟨b, i, none⟩ = some u := fun {i u} hc => (hb.cell (p := ⟨b, i, none⟩) hlt).trans hc
  exact ⟨ht, b, off, hA, by omega, ⟨hk h0, hk h1, hk h2, hk h3, hk h4, hk h5, hk h6⟩, hr.below hb hB, hc⟩
def ElSl (w : World) (B : Nat) (A : Option Addr) (L : List El) : Prop := ∀ (k : Nat) (e : El), L[k]? = some e → ElAt w B A k e
theorem ClSl.els {w : World} {B : Nat} {A : Option Addr} {l : List Cl} (h : ClSl w B A l) : ∃ L : List El, L.map (·.x) = l ∧ ElSl w B A L := by
  have key : ∀ n, n ≤ l.length → ∃ L : List El, L.map (·.x) = l.take n ∧ ElSl w B A L := by
    intro n
    induction n with
    | zero => exact fun _ => ⟨[], by simp, fun k e h => by simp at h⟩
    | succ n ih =>
      intro hn
      obtain ⟨L, h1, h2⟩ := ih (by omega)
      obtain ⟨x, hx⟩ := get_some (show n < l.length by omega)
      obtain ⟨b, off, Ar, c, hA, hb, hcs, hws, hc1, hc2⟩ := h n x hx
      have hl : L.length = n := by
        have := congrArg List.length h1
        rw [List.length_map, List.length_take] at this
        omega
      refine ⟨L ++ [⟨x, Ar, c, n⟩], by rw [take_snoc hx, List.map_append, h1]; rfl, fun k e he => ?_⟩
      by_cases hk : k < L.length
      · rw [List.getElem?_append_left hk] at he
        exact h2 k e he
      · have hlt := get_lt he
        rw [List.length_append, List.length_singleton] at hlt
        have hkn : k = n := by omega
        subst hkn
        rw [List.getElem?_append_right (by omega), hl, Nat.sub_self] at he
        injection he with he
        subst he
        exact ⟨rfl, b, off, hA, hb, hcs, hws, hc1, hc2⟩
  obtain ⟨L, h1, h2⟩ := key l.length (Nat.le_refl _)
  exact ⟨L, by rw [h1, List.take_length], h2⟩
theorem ElSl.tag {w : World} {B : Nat} {A : Option Addr} {L : List El} (h : ElSl w B A L) {k : Nat} {e : El} (he : L[k]? = some e) : e.t = k := (h k e he).1

/-- Insertion keeps the order. -/
theorem srt_insert {M : List El} {a : Nat} {x : El} (hM : Srt ltE M) (ha : a ≤ M.length) (h1 : a = 0 ∨ ∃ e, 0 < a ∧ M[a - 1]? = some e ∧ ltE e x) (h2 : ∀ e ∈ M.drop a, ltE x e) : Srt ltE (M.take a ++ [x] ++ M.drop a) := by
  have hM' : Srt ltE (M.take a ++ M.drop a) := by rw [List.take_append_drop]; exact hM
  have hlow : ∀ e ∈ M.take a, ltE e x := by
    rcases h1 with rfl | ⟨e, h0, he, hl⟩
    · intro e he; rw [List.take_zero] at he; cases he
    · intro f hf
      have := take_snoc he
      rw [show a - 1 + 1 = a by omega] at this
      rw [this] at hf hM'
      rcases List.mem_append.1 hf with hf | hf
      · exact ltE_tr _ _ _ (hM'.left.across f hf e (by simp)) hl
      · rw [List.mem_singleton.1 hf]; exact hl
  rw [List.append_assoc]
  exact Srt.app hM'.left (List.pairwise_cons.2 ⟨h2, hM'.right⟩) (fun f hf g hg => by
    rcases List.mem_append.1 hg with hg | hg
    · rw [List.mem_singleton.1 hg]; exact hlow f hf
    · exact hM'.across f hf g hg)

/-! ### appends -/
/-- What a spread slice holds: rows somewhere, or nothing. -/
def NewsAt (w : World) (size : Nat) (x : Value) (m : Nat) (news : List Value) : Prop := news.length = m * size ∧ (∀ u ∈ news, u.oneCell' = true) ∧ ((∃ ad c, x = .slice (some ad) m c ∧ ∀ (j : Nat) u, news[j]? = some u → w.cell? (ad.add j) = some u) ∨ (m = 0 ∧ x = .slice none 0 0))
section
variable {P : Program} {w : World}
theorem run_append_zero (t ty e : TypeId) (i : TypeInfo) (base : Option Addr) (n cap : Nat) (ht : P.underlying t = some (.slice e)) (hi : P.info? e = some i) (h : n ≤ cap) :
    (Builtin.append_ #[t, t] ty #[.slice base n cap, .slice none 0 0]).run P w = .ok (.slice base n cap) w := by
  cases base with
  | none => simp [Builtin.append_, run_underlying ht, sizeOf, typeInfo, hi, Builtin.lenOf, Builtin.firstCells, h]
  | some a => simp [Builtin.append_, run_underlying ht, sizeOf, typeInfo, hi, Builtin.lenOf, Builtin.firstCells, h, storeCells]
theorem run_app_any (base : Nat) (t ty : TypeId) {e : TypeId} {size bytes : Nat} (hT : ElemTy P t e size bytes) (v : Value) (n : Nat) (xs : List Value) (hown : w.ownsRow base e size v n xs)
    (x : Value) (m : Nat) (news : List Value) (hx : NewsAt w size x m news) (h63 : n + m ≤ maxLen) (hbytes : (n + m) * bytes ≤ 140737488355328) (hbase : base ≤ w.heap.size) :
    ∃ v' w', (Builtin.append_ #[t, t] ty #[v, x]).run P w = .ok v' w' ∧ w'.ownsRow base e size v' (n + m) (xs ++ news) ∧ w.grownBy w' v.ownBlock ∧
      (v' = .slice none 0 0 ↔ v = .slice none 0 0 ∧ m = 0) ∧ (v'.ownBlock = v.ownBlock ∨ v'.ownBlock = some w.heap.size) := by
  obtain ⟨ht, i, z, hi, hz, hsize, hby, hzs, hsz⟩ := hT
  obtain ⟨hl, h1, ⟨ad, c, rfl, hc⟩ | ⟨rfl, rfl⟩⟩ := hx
  · exact run_append_own_at w base t ty e i z size bytes ht hi hz hsize hby hzs hsz v n xs hown ad m c news hl hc h1 h63 hbytes hbase
  · have h0 : news = [] := List.eq_nil_of_length_eq_zero (by simpa using hl)
    subst h0
    rw [List.append_nil]
    refine ⟨v, w, ?_, hown, ⟨rfl, rfl, rfl, Nat.le_refl _, fun _ _ _ => rfl⟩, by simp, .inl rfl⟩
    rcases hown.2 with ⟨rfl, rfl⟩ | ⟨g, cap, cur, rfl, _, _, hnc, _⟩
    · exact run_append_zero t ty e i none 0 0 ht hi (Nat.le_refl _)
    · exact run_append_zero t ty e i _ n cap ht hi hnc
theorem wpList_app_any {ops : Array Oper} {rest : List Oper} {o : Oper} {a : Act} {Q : Exit → Act → World → Prop} (hgd : o.guard = none) (s x : Operand) (t : TypeId)
    (ho : o.op = .call { callee := .builtin .append, args := #[s, x], argTypes := #[t, t] }) {e : TypeId} {size bytes : Nat} (hT : ElemTy P t e size bytes) (base : Nat)
    (v : Value) (n : Nat) (xs : List Value) (hs : a.eval s = v) (hown : w.ownsRow base e size v n xs) (m : Nat) (news : List Value) (hx : NewsAt w size (a.eval x) m news)
    (h63 : n + m ≤ maxLen) (hbytes : (n + m) * bytes ≤ 140737488355328) (hbase : base ≤ w.heap.size)
    (h : ∀ v' w', w'.ownsRow base e size v' (n + m) (xs ++ news) → w.grownBy w' v.ownBlock → (v' = .slice none 0 0 ↔ v = .slice none 0 0 ∧ m = 0) → (v'.ownBlock = v.ownBlock ∨ v'.ownBlock = some w.heap.size) → wpList P ops Q rest (a.put o.dst v') w') :
    wpList P ops Q (o :: rest) a w := by
  refine wpList_plain hgd fun K hK => ?_
  obtain ⟨v', w', hr, h2, h3, h4, h5⟩ := run_app_any (P := P) base t o.type hT v n xs hown _ m news hx h63 hbytes hbase
  unfold Oper.wp execOp
  simp only [ho, resolve, invoke, builtin, Sem.run_bind, Sem.run_pure, Result.andThen_ok, List.map_toArray, List.map_cons, List.map_nil, hs, hr]
  exact hK _ _ (h v' w' h2 h3 h4 h5)
/-- The same in a drawn region. -/
theorem step_append_any {ops : Array Oper} {o : Oper} {a : Act} {K : Act → World → Prop} {Q : Exit → Act → World → Prop} {E : Prop} (hgd : o.guard = none) (s x : Operand) (t : TypeId)
    (ho : o.op = .call { callee := .builtin .append, args := #[s, x], argTypes := #[t, t] }) {e : TypeId} {size bytes : Nat} (hT : ElemTy P t e size bytes) (base : Nat)
    (v : Value) (n : Nat) (xs : List Value) (hs : a.eval s = v) (hown : w.ownsRow base e size v n xs) (m : Nat) (news : List Value) (xv : Value) (hxv : a.eval x = xv) (hx : NewsAt w size xv m news)
    (h63 : n + m ≤ maxLen) (hbytes : (n + m) * bytes ≤ 140737488355328) (hbase : base ≤ w.heap.size)
    (h : ∀ v' w', w'.ownsRow base e size v' (n + m) (xs ++ news) → w.grownBy w' v.ownBlock → (v' = .slice none 0 0 ↔ v = .slice none 0 0 ∧ m = 0) → (v'.ownBlock = v.ownBlock ∨ v'.ownBlock = some w.heap.size) → K (a.put o.dst v') w') :
    if Region.wanted o (yielded ops a.tmps) = true then Oper.wp P o a w K Q else E := by
  have hw : Region.wanted o (yielded ops a.tmps) = true := by simp [Region.wanted, hgd]
  rw [if_pos hw]
  subst hxv
  obtain ⟨v', w', hr, h2, h3, h4, h5⟩ := run_app_any (P := P) base t o.type hT v n xs hown _ m news hx h63 hbytes hbase
  unfold Oper.wp execOp
  simp only [ho, resolve, invoke, builtin, Sem.run_bind, Sem.run_pure, Result.andThen_ok, List.map_toArray, List.map_cons, List.map_nil, hs, hr]
  exact h v' w' h2 h3 h4 h5
end
theorem NewsAt.new (w : World) (cs : Array Value) (t : TypeId) (size : Nat) (hl : cs.size = size) (h1 : cs.toList.all (fun u => u.oneCell') = true) : NewsAt (w.alloc (.cells cs t)) size (.slice (some ⟨w.heap.size, 0, none⟩) 1 1) 1 cs.toList :=
  ⟨by simpa using hl, fun u hu => List.all_eq_true.1 h1 u hu, .inl ⟨_, 1, rfl, cells_new' _ _ _ _ rfl⟩⟩

/-! ### parts of what one owns -/
/-- The first ones. -/
theorem Own.head {base : Nat} {w : World} {g n cap : Nat} {M : List El} (h : Own elE 45 base w (.slice (some ⟨g, 0, none⟩) n cap) M) {a : Nat} (ha : a ≤ M.length) : Own elE 45 base w (.slice (some ⟨g, 0, none⟩) a cap) (M.take a) := by
  have hla : (M.take a).length = a := by rw [List.length_take]; omega
  refine ⟨elE.all_len _, .inr ?_⟩
  rcases h.2 with ⟨e, _⟩ | ⟨g', cap', cur, e, hg, hh, h1, h2, h3, h4⟩
  · cases e
  · injection e with e1 e2 e3
    injection e1 with e1
    injection e1 with e1 _ _
    subst e1 e3
    refine ⟨g, cap, cur, by rw [hla], hg, hh, by omega, h2, h3, ?_⟩
    have h5 : cur.toList.take (M.length * 7) = flat M := h4
    show cur.toList.take ((M.take a).length * 7) = flat (M.take a)
    have h6 : flat M = flat (M.take a) ++ flat (M.drop a) := by
      show M.flatMap El.cells = _
      conv => lhs; rw [← List.take_append_drop a M]
      rw [List.flatMap_append]
      rfl
    have h7 : cur.toList.take ((M.take a).length * 7) = (cur.toList.take (M.length * 7)).take ((M.take a).length * 7) := by
      rw [List.take_take, Nat.min_eq_left (by rw [hla]; omega)]
    rw [h7, h5, h6]
    have h8 := flat_len (M.take a)
    rw [← h8]
    exact List.take_left
/-- The rows from a place on, spread. -/
theorem Own.tailNews {base : Nat} {w : World} {v : Value} {M : List El} (h : Own elE 45 base w v M) {a : Nat} (ha : a ≤ M.length) {A : Option Addr} {c : Nat} (hv : v = .slice A M.length c) :
    NewsAt w 7 (.slice (if c = a then A else A.map (·.add (a * 7))) (M.length - a) (c - a)) (M.length - a) (elE.all (M.drop a)) := by
  refine ⟨by rw [elE.all_len, List.length_drop]; rfl, elE.all_one _, ?_⟩
  rcases h.2 with ⟨e, e0⟩ | ⟨g, cap, cur, e, hg, hh, h1, h2, h3, h4⟩
  · rw [hv] at e
    injection e with e1 e2 e3
    subst e1 e3
    right
    refine ⟨by omega, ?_⟩
    rw [e0]
    simp
  · rw [hv] at e
    injection e with e1 e2 e3
    subst e1 e3
    left
    by_cases hca : c = a
    · rw [if_pos hca]
      refine ⟨_, _, rfl, fun j u hu => ?_⟩
      have h0 : M.drop a = [] := List.drop_eq_nil_of_le (by omega)
      rw [h0] at hu
      simp [Enc.all] at hu
    · rw [if_neg hca]
      refine ⟨_, _, rfl, fun j u hu => ?_⟩
      show w.cell? (((⟨g, 0, none⟩ : Addr).add (a * 7)).add j) = some u
      rw [Addr.add_lit, Addr.add_lit]
      have hj := get_lt hu
      rw [elE.all_len, List.length_drop] at hj
      have h5 : cur.toList.take (M.length * 7) = flat M := h4
      have h6 : flat M = flat (M.take a) ++ flat (M.drop a) := by
        show M.flatMap El.cells = _
        conv => lhs; rw [← List.take_append_drop a M]
        rw [List.flatMap_append]
        rfl
      have h7 : (flat M)[a * 7 + j]? = some u := by
        rw [h6, List.getElem?_append_right (by rw [flat_len, List.length_take]; omega), flat_len, List.length_take, Nat.min_eq_left ha, Nat.add_sub_cancel_left]
        exact hu
      rw [← h5] at h7
      have h8 : cur[a * 7 + j]? = some u := by
        have hlt : a * 7 + j < M.length * 7 := by
          have := get_lt h7
          rw [List.length_take] at this
          omega
        rw [List.getElem?_take_of_lt hlt, Array.getElem?_toList] at h7
        exact h7
      rw [cell_of_row _ _ _ cur _ (0, 0) hh]
      simpa using h8

end Go.Proofs.YtkcdmonmgnmojaaDoor
