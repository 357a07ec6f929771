/- Decimal digits and the pieces of a text: of no program. -/
import Derived.Test.YtkcdmonmgnmojaaDoorWalk
import Derived.Lib.ItoaNum
import Derived.Lib.Join
import Derived.Lib.SlicesS
namespace Go.Proofs.YtkcdmonmgnmojaaDoor
open Go.RowKit

/-- The pieces between all the c's. -/
def pcs (c : UInt8) : List UInt8 → List (List UInt8)
  | [] => [[]]
  | x :: l => if x = c then [] :: pcs c l else (x :: (pcs c l).headD []) :: (pcs c l).tail
theorem pcs_ne (c : UInt8) (l : List UInt8) : pcs c l ≠ [] := by
  cases l with
  | nil => simp [pcs]
  | cons x l => unfold pcs; split <;> simp
theorem pcs_none (c : UInt8) (l : List UInt8) (h : ∀ k : Nat, l[k]? ≠ some c) : pcs c l = [l] := by
  induction l with
  | nil => rfl
  | cons x l ih =>
    have hx : x ≠ c := fun e => h 0 (by simp [e])
    have := ih (fun k hk => h (k + 1) (by simpa using hk))
    simp [pcs, hx, this]
theorem pcs_some (c : UInt8) (l : List UInt8) (o : Nat) (h : l[o]? = some c) (h2 : ∀ k : Nat, k < o → l[k]? ≠ some c) : pcs c l = l.take o :: pcs c (l.drop (o + 1)) := by
  induction l generalizing o with
  | nil => simp at h
  | cons x l ih =>
    cases o with
    | zero =>
      have hx : x = c := by simpa using h
      simp [pcs, hx]
    | succ o =>
      have hx : x ≠ c := fun e => h2 0 (by omega) (by simp [e])
      have := ih o (by simpa using h) (fun k hk hk' => h2 (k + 1) (by omega) (by simpa using hk'))
      simp [pcs, hx, this]

theorem ext_take (r : ByteArray) (o : Nat) : (⟨(r.data.toList.take o).toArray⟩ : ByteArray) = r.extract 0 o := by
  apply ByteArray.ext
  rw [ByteArray.data_extract, ← Array.toList_inj, Array.toList_extract]
  simp [List.extract_eq_take_drop]
theorem ext_drop (r : ByteArray) (o : Nat) : (r.extract o r.size).data.toList = r.data.toList.drop o := by
  rw [ByteArray.data_extract, Array.toList_extract]
  have : r.data.toList.length = r.size := Array.length_toList
  rw [List.extract_eq_take_drop, List.take_of_length_le (by rw [List.length_drop]; omega)]
def digB (x : UInt8) : Bool := decide (48 ≤ x.toNat) && decide (x.toNat ≤ 57)
def dv (l : List UInt8) : Nat := l.foldl (fun n x => 10 * n + (x.toNat - 48)) 0
theorem dv_snoc (l : List UInt8) (x : UInt8) : dv (l ++ [x]) = 10 * dv l + (x.toNat - 48) := by simp [dv]
theorem dv_lt {l : List UInt8} (h : l.all digB = true) : dv l < 10 ^ l.length := by
  have key : ∀ (n : Nat) (l : List UInt8), l.length = n → l.all digB = true → dv l < 10 ^ n := by
    intro n
    induction n with
    | zero => intro l hl _; rw [List.eq_nil_of_length_eq_zero hl]; simp [dv]
    | succ n ih =>
      intro l hl h
      have hne : l ≠ [] := fun e => by rw [e] at hl; cases hl
      rw [← List.dropLast_concat_getLast hne] at h ⊢
      rw [List.all_append, Bool.and_eq_true] at h
      have h1 := ih l.dropLast (by rw [List.length_dropLast]; omega) h.1
      have h2 := h.2
      simp [digB] at h2
      rw [dv_snoc, Nat.pow_succ]
      omega
  exact key _ l rfl h

/-- A number's numeral. -/
def numS (u : Nat) : ByteArray := ⟨(Lib.decDigits u).toArray⟩

theorem pcs_len (c : UInt8) (l : List UInt8) : (pcs c l).length ≤ l.length + 1 := by
  induction l with
  | nil => simp [pcs]
  | cons x l ih =>
    have := List.length_pos_iff.2 (pcs_ne c l)
    unfold pcs
    split <;> simp <;> omega
theorem numS_small {u : Nat} (h : u < 10) : numS u = ⟨#[UInt8.ofNat (48 + u)]⟩ := by unfold numS; rw [Lib.decDigits, dif_pos h]
theorem numS_big {u : Nat} (h : ¬u < 10) : numS u = numS (u / 10) ++ ⟨#[UInt8.ofNat (48 + u % 10)]⟩ := by
  unfold numS
  rw [Lib.decDigits, dif_neg h]
  apply ByteArray.ext
  simp

theorem wrap_u32 {x : Int} (h0 : 0 ≤ x) (h : x < 4294967296) : IntKind.u32.wrap x = x := by
  simp [IntKind.wrap, IntKind.signed, IntKind.bits]
  omega
theorem wrap_u8 {x : Int} (h0 : 0 ≤ x) (h : x < 256) : IntKind.u8.wrap x = x := by
  simp [IntKind.wrap, IntKind.signed, IntKind.bits]
  omega
theorem join_snoc (xs : List (List UInt8)) (x sep : List UInt8) (h : xs ≠ []) : Lib.join (xs ++ [x]) sep = Lib.join xs sep ++ sep ++ x := by
  cases xs with
  | nil => exact (h rfl).elim
  | cons y ys =>
    rw [List.cons_append, Lib.join_cons, Lib.join_cons]
    simp [Lib.joinTail]
theorem snoc_ind {P : List UInt8 → Prop} (h0 : P []) (h : ∀ l x, P l → P (l ++ [x])) (l : List UInt8) : P l := by
  have key : ∀ (n : Nat) (l : List UInt8), l.length = n → P l := by
    intro n
    induction n with
    | zero => intro l hl; rw [List.eq_nil_of_length_eq_zero hl]; exact h0
    | succ n ih =>
      intro l hl
      have hne : l ≠ [] := fun e => by rw [e] at hl; cases hl
      rw [← List.dropLast_concat_getLast hne]
      exact h _ _ (ih _ (by rw [List.length_dropLast]; omega))
  exact key _ l rfl

theorem dd_small {u : Nat} (h : u < 10) : Lib.decDigits u = [UInt8.ofNat (48 + u)] := by rw [Lib.decDigits, dif_pos h]
theorem dd_big {u : Nat} (h : ¬u < 10) : Lib.decDigits u = Lib.decDigits (u / 10) ++ [UInt8.ofNat (48 + u % 10)] := by rw [Lib.decDigits, dif_neg h]
theorem of48 {d : Nat} (h : d < 10) : (UInt8.ofNat (48 + d)).toNat = 48 + d := by rw [UInt8.toNat_ofNat']; omega
theorem dd_dv (n : Nat) : ∀ u, u < n → dv (Lib.decDigits u) = u := by
  induction n with
  | zero => intro u h; omega
  | succ n ih =>
    intro u h
    by_cases h10 : u < 10
    · rw [dd_small h10]
      have := of48 h10
      simp only [dv, List.foldl_cons, List.foldl_nil, this]
      omega
    · rw [dd_big h10, dv_snoc, ih (u / 10) (by omega), of48 (by omega)]
      omega
theorem dd_all (n : Nat) : ∀ u, u < n → (Lib.decDigits u).all digB = true := by
  induction n with
  | zero => intro u h; omega
  | succ n ih =>
    intro u h
    by_cases h10 : u < 10
    · rw [dd_small h10]
      simp only [List.all_cons, List.all_nil, Bool.and_true, digB, of48 h10]
      simp
      omega
    · rw [dd_big h10, List.all_append, ih (u / 10) (by omega)]
      simp only [List.all_cons, List.all_nil, Bool.and_true, Bool.true_and, digB, of48 (show u % 10 < 10 by omega)]
      simp
      omega
theorem dd_ne (u : Nat) : Lib.decDigits u ≠ [] := by
  by_cases h10 : u < 10
  · rw [dd_small h10]; simp
  · rw [dd_big h10]; simp
theorem headD_app {p q : List UInt8} (h : p ≠ []) : (p ++ q).headD 0 = p.headD 0 := by
  cases p with
  | nil => exact (h rfl).elim
  | cons a r => rfl
theorem dd_head (n : Nat) : ∀ u, u < n → 1 ≤ u → (Lib.decDigits u).headD 0 ≠ 48 := by
  induction n with
  | zero => intro u h; omega
  | succ n ih =>
    intro u h h1
    by_cases h10 : u < 10
    · rw [dd_small h10]
      intro e
      have := congrArg UInt8.toNat e
      simp only [List.headD_cons] at this
      rw [of48 h10] at this
      have h48 : (48 : UInt8).toNat = 48 := rfl
      omega
    · rw [dd_big h10, headD_app (dd_ne _)]
      exact ih (u / 10) (by omega) (by omega)
theorem dd_len (k : Nat) : ∀ u, u < 10 ^ (k + 1) → (Lib.decDigits u).length ≤ k + 1 := by
  induction k with
  | zero => intro u h; rw [dd_small (by simpa using h)]; simp
  | succ k ih =>
    intro u h
    by_cases h10 : u < 10
    · rw [dd_small h10]; simp
    · rw [dd_big h10, List.length_append, List.length_singleton]
      have := ih (u / 10) (by rw [Nat.pow_succ] at h; omega)
      omega
theorem dv_pos (p : List UInt8) : p ≠ [] → p.all digB = true → p.headD 0 ≠ 48 → 1 ≤ dv p := by
  refine snoc_ind (P := fun p => p ≠ [] → p.all digB = true → p.headD 0 ≠ 48 → 1 ≤ dv p) (fun h => (h rfl).elim) (fun l x ih _ ha hh => ?_) p
  rw [List.all_append, Bool.and_eq_true] at ha
  rw [dv_snoc]
  by_cases hl : l = []
  · subst hl
    have h2 := ha.2
    simp [digB] at h2
    have : x.toNat ≠ 48 := fun e => hh (by simpa using UInt8.toNat_inj.1 (show x.toNat = (48 : UInt8).toNat from e))
    omega
  · have := ih hl ha.1 (by rwa [headD_app hl] at hh)
    omega
theorem canon (p : List UInt8) : p ≠ [] → p.all digB = true → ¬(1 < p.length ∧ p.headD 0 = 48) → Lib.decDigits (dv p) = p := by
  refine snoc_ind (P := fun p => p ≠ [] → p.all digB = true → ¬(1 < p.length ∧ p.headD 0 = 48) → Lib.decDigits (dv p) = p) (fun h => (h rfl).elim) (fun l x ih _ ha hh => ?_) p
  rw [List.all_append, Bool.and_eq_true] at ha
  have h2 := ha.2
  simp [digB] at h2
  have hx : UInt8.ofNat (48 + (x.toNat - 48)) = x := by
    apply UInt8.toNat_inj.1
    rw [of48 (by omega)]
    omega
  rw [dv_snoc]
  by_cases hl : l = []
  · subst hl
    have e : 10 * dv [] + (x.toNat - 48) = x.toNat - 48 := by simp [dv]
    rw [e, dd_small (by omega), hx]
    rfl
  · have hlen := List.length_pos_iff.2 hl
    have hh2 : l.headD 0 ≠ 48 := fun e => hh ⟨by rw [List.length_append, List.length_singleton]; omega, by rw [headD_app hl]; exact e⟩
    have h1 := dv_pos l hl ha.1 hh2
    rw [dd_big (by omega), show (10 * dv l + (x.toNat - 48)) / 10 = dv l by omega, show (10 * dv l + (x.toNat - 48)) % 10 = x.toNat - 48 by omega, hx, ih hl ha.1 (fun h => hh2 h.2)]
theorem pcs_sep (c : UInt8) (y l : List UInt8) (h : ∀ b ∈ y, b ≠ c) : pcs c (y ++ c :: l) = y :: pcs c l := by
  rw [pcs_some c _ y.length (by simp) (fun k hk e => by
    rw [List.getElem?_append_left hk] at e
    exact h c (List.mem_of_getElem? e) rfl)]
  simp
theorem pcs_join (ws : List (List UInt8)) (hne : ws ≠ []) (h : ∀ p ∈ ws, ∀ b ∈ p, b ≠ 32) : pcs 32 (Lib.join ws [32]) = ws := by
  induction ws with
  | nil => exact (hne rfl).elim
  | cons y r ih =>
    cases r with
    | nil =>
      rw [Lib.join_one]
      exact pcs_none 32 y (fun k e => h y (by simp) 32 (List.mem_of_getElem? e) rfl)
    | cons z r =>
      have e : Lib.join (y :: z :: r) [32] = y ++ 32 :: Lib.join (z :: r) [32] := by
        rw [Lib.join_cons, Lib.join_cons]
        simp [Lib.joinTail]
      rw [e, pcs_sep 32 _ _ (h y (by simp)), ih (by simp) (fun p hp => h p (by simp [hp]))]
theorem join_pcs (l : List UInt8) : Lib.join (pcs 32 l) [32] = l := by
  induction l with
  | nil => simp [pcs, Lib.join]
  | cons x l ih =>
    have hn := pcs_ne 32 l
    unfold pcs
    cases hp : pcs 32 l with
    | nil => exact (hn hp).elim
    | cons p ps =>
      rw [hp, Lib.join_cons] at ih
      split
      · rename_i hx
        subst hx
        rw [Lib.join_cons]
        simp only [Lib.joinTail, List.map_cons, List.flatten_cons] at ih ⊢
        simpa using ih
      · rw [Lib.join_cons]
        simp [ih]


end Go.Proofs.YtkcdmonmgnmojaaDoor
