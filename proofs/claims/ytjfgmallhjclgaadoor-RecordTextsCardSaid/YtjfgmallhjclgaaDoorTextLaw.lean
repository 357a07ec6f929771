/- The plain law of coxswainlaw04.RecordTexts: what both read is alike. -/
import Derived.Test.YtjfgmallhjclgaaDoorRefRead
namespace Go.Proofs.YtjfgmallhjclgaaDoor
open Go.RowKit Go.Shelf

theorem snoc_ind {P : List UInt8 → Prop} (h0 : P []) (h : ∀ l x, P l → P (l ++ [x])) (l : List UInt8) : P l := by
  have key : ∀ (n : Nat) (l : List UInt8), l.length = n → P l := by
    intro n
    induction n with
    | zero => intro l hl; rw [List.eq_nil_of_length_eq_zero hl]; exact h0
    | succ n ih =>
      intro l hl
      have hne : l ≠ [] := fun e => by rw [e] at hl; cases hl
      rw [← List.dropLast_concat_getLast hne]
      exact h _ _ (ih _ (by rw [List.length_dropLast]; omega))
  exact key _ l rfl

theorem dd_small {u : Nat} (h : u < 10) : Lib.decDigits u = [UInt8.ofNat (48 + u)] := by rw [Lib.decDigits, dif_pos h]
theorem dd_big {u : Nat} (h : ¬u < 10) : Lib.decDigits u = Lib.decDigits (u / 10) ++ [UInt8.ofNat (48 + u % 10)] := by rw [Lib.decDigits, dif_neg h]
theorem of48 {d : Nat} (h : d < 10) : (UInt8.ofNat (48 + d)).toNat = 48 + d := by rw [UInt8.toNat_ofNat']; omega
theorem dd_dv (n : Nat) : ∀ u, u < n → dv (Lib.decDigits u) = u := by
  induction n with
  | zero => intro u h; omega
  | succ n ih =>
    intro u h
    by_cases h10 : u < 10
    · rw [dd_small h10]
      have := of48 h10
      simp only [dv, List.foldl_cons, List.foldl_nil, this]
      omega
    · rw [dd_big h10, dv_snoc, ih (u / 10) (by omega), of48 (by omega)]
      omega
theorem dd_all (n : Nat) : ∀ u, u < n → (Lib.decDigits u).all digB = true := by
  induction n with
  | zero => intro u h; omega
  | succ n ih =>
    intro u h
    by_cases h10 : u < 10
    · rw [dd_small h10]
      simp only [List.all_cons, List.all_nil, Bool.and_true, digB, of48 h10]
      simp
      omega
    · rw [dd_big h10, List.all_append, ih (u / 10) (by omega)]
      simp only [List.all_cons, List.all_nil, Bool.and_true, Bool.true_and, digB, of48 (show u % 10 < 10 by omega)]
      simp
      omega
theorem dd_ne (u : Nat) : Lib.decDigits u ≠ [] := by
  by_cases h10 : u < 10
  · rw [dd_small h10]; simp
  · rw [dd_big h10]; simp
theorem headD_app {p q : List UInt8} (h : p ≠ []) : (p ++ q).headD 0 = p.headD 0 := by
  cases p with
  | nil => exact (h rfl).elim
  | cons a r => rfl
theorem dd_head (n : Nat) : ∀ u, u < n → 1 ≤ u → (Lib.decDigits u).headD 0 ≠ 48 := by
  induction n with
  | zero => intro u h; omega
  | succ n ih =>
    intro u h h1
    by_cases h10 : u < 10
    · rw [dd_small h10]
      intro e
      have := congrArg UInt8.toNat e
      simp only [List.headD_cons] at this
      rw [of48 h10] at this
      have h48 : (48 : UInt8).toNat = 48 := rfl
      omega
    · rw [dd_big h10, headD_app (dd_ne _)]
      exact ih (u / 10) (by omega) (by omega)
theorem dd_len (k : Nat) : ∀ u, u < 10 ^ (k + 1) → (Lib.decDigits u).length ≤ k + 1 := by
  induction k with
  | zero => intro u h; rw [dd_small (by simpa using h)]; simp
  | succ k ih =>
    intro u h
    by_cases h10 : u < 10
    · rw [dd_small h10]; simp
    · rw [dd_big h10, List.length_append, List.length_singleton]
      have := ih (u / 10) (by rw [Nat.pow_succ] at h; omega)
      omega
theorem dd_num {u : Nat} (h : u < 4294967296) : numB (Lib.decDigits u) = true := by
  unfold numB
  rw [dd_all (u + 1) u (by omega), dd_dv (u + 1) u (by omega), decide_eq_true h]
  have h1 : (Lib.decDigits u).length ≠ 0 := fun e => dd_ne u (List.eq_nil_of_length_eq_zero e)
  have h2 : (Lib.decDigits u).length ≤ 10 := dd_len 9 u (by omega)
  have : headB (Lib.decDigits u) = true := decide_eq_true ⟨h1, h2, fun h3 => by
    by_cases h0 : 1 ≤ u
    · exact dd_head (u + 1) u (by omega) h0 h3.2
    · have : u = 0 := by omega
      subst this
      rw [dd_small (by omega)] at h3
      simp at h3⟩
  rw [this]
  rfl

theorem dv_pos (p : List UInt8) : p ≠ [] → p.all digB = true → p.headD 0 ≠ 48 → 1 ≤ dv p := by
  refine snoc_ind (P := fun p => p ≠ [] → p.all digB = true → p.headD 0 ≠ 48 → 1 ≤ dv p) (fun h => (h rfl).elim) (fun l x ih _ ha hh => ?_) p
  rw [List.all_append, Bool.and_eq_true] at ha
  rw [dv_snoc]
  by_cases hl : l = []
  · subst hl
    have h2 := ha.2
    simp [digB] at h2
    have : x.toNat ≠ 48 := fun e => hh (by simpa using UInt8.toNat_inj.1 (show x.toNat = (48 : UInt8).toNat from e))
    omega
  · have := ih hl ha.1 (by rwa [headD_app hl] at hh)
    omega
theorem canon (p : List UInt8) : p ≠ [] → p.all digB = true → ¬(1 < p.length ∧ p.headD 0 = 48) → Lib.decDigits (dv p) = p := by
  refine snoc_ind (P := fun p => p ≠ [] → p.all digB = true → ¬(1 < p.length ∧ p.headD 0 = 48) → Lib.decDigits (dv p) = p) (fun h => (h rfl).elim) (fun l x ih _ ha hh => ?_) p
  rw [List.all_append, Bool.and_eq_true] at ha
  have h2 := ha.2
  simp [digB] at h2
  have hx : UInt8.ofNat (48 + (x.toNat - 48)) = x := by
    apply UInt8.toNat_inj.1
    rw [of48 (by omega)]
    omega
  rw [dv_snoc]
  by_cases hl : l = []
  · subst hl
    have e : 10 * dv [] + (x.toNat - 48) = x.toNat - 48 := by simp [dv]
    rw [e, dd_small (by omega), hx]
    rfl
  · have hlen := List.length_pos_iff.2 hl
    have hh2 : l.headD 0 ≠ 48 := fun e => hh ⟨by rw [List.length_append, List.length_singleton]; omega, by rw [headD_app hl]; exact e⟩
    have h1 := dv_pos l hl ha.1 hh2
    rw [dd_big (by omega), show (10 * dv l + (x.toNat - 48)) / 10 = dv l by omega, show (10 * dv l + (x.toNat - 48)) % 10 = x.toNat - 48 by omega, hx, ih hl ha.1 (fun h => hh2 h.2)]
theorem numB_canon {p : List UInt8} (h : numB p = true) : Lib.decDigits (dv p) = p ∧ p.all digB = true ∧ dv p < 4294967296 := by
  unfold numB at h
  simp only [Bool.and_eq_true, decide_eq_true_eq, headB] at h
  obtain ⟨⟨h1, h2, h3⟩, h4, h5⟩ := h
  exact ⟨canon p (fun e => h1 (by rw [e]; rfl)) h4 h3, h4, h5⟩

theorem pcs_sep (c : UInt8) (y l : List UInt8) (h : ∀ b ∈ y, b ≠ c) : pcs c (y ++ c :: l) = y :: pcs c l := by
  rw [pcs_some c _ y.length (by simp) (fun k hk e => by
    rw [List.getElem?_append_left hk] at e
    exact h c (List.mem_of_getElem? e) rfl)]
  simp
theorem pcs_join (ws : List (List UInt8)) (hne : ws ≠ []) (h : ∀ p ∈ ws, ∀ b ∈ p, b ≠ 32) : pcs 32 (Lib.join ws [32]) = ws := by
  induction ws with
  | nil => exact (hne rfl).elim
  | cons y r ih =>
    cases r with
    | nil =>
      rw [Lib.join_one]
      exact pcs_none 32 y (fun k e => h y (by simp) 32 (List.mem_of_getElem? e) rfl)
    | cons z r =>
      have e : Lib.join (y :: z :: r) [32] = y ++ 32 :: Lib.join (z :: r) [32] := by
        rw [Lib.join_cons, Lib.join_cons]
        simp [Lib.joinTail]
      rw [e, pcs_sep 32 _ _ (h y (by simp)), ih (by simp) (fun p hp => h p (by simp [hp]))]
theorem join_pcs (l : List UInt8) : Lib.join (pcs 32 l) [32] = l := by
  induction l with
  | nil => simp [pcs, Lib.join]
  | cons x l ih =>
    have hn := pcs_ne 32 l
    unfold pcs
    cases hp : pcs 32 l with
    | nil => exact (hn hp).elim
    | cons p ps =>
      rw [hp, Lib.join_cons] at ih
      split
      · rename_i hx
        subst hx
        rw [Lib.join_cons]
        simp only [Lib.joinTail, List.map_cons, List.flatten_cons] at ih ⊢
        simpa using ih
      · rw [Lib.join_cons]
        simp [ih]

/-! ### what the reference's loop finds -/
theorem scan_piece (out : List Int) (y : List UInt8) : y.all digB = true → dv y < 4294967296 → y.foldl rstep (some (out, 0)) = some (out, dv y) := by
  refine snoc_ind (P := fun y => y.all digB = true → dv y < 4294967296 → y.foldl rstep (some (out, 0)) = some (out, dv y)) (fun _ _ => rfl) (fun l x ih ha hv => ?_) y
  rw [List.all_append, Bool.and_eq_true] at ha
  rw [dv_snoc] at hv ⊢
  have h2 : digB x = true := by simpa using ha.2
  have h3 := h2
  simp [digB] at h3
  have h32 : ¬ x = 32 := fun e => by subst e; have : (32 : UInt8).toNat = 32 := rfl; omega
  rw [List.foldl_append, ih ha.1 (by omega)]
  simp only [List.foldl_cons, List.foldl_nil, rstep, h32, if_false]
  rw [if_pos (by rw [h2, decide_eq_true (by omega)]; rfl)]
theorem scan_tail (r : List (List UInt8)) (hr : ∀ p ∈ r, p.all digB = true ∧ dv p < 4294967296) : ∀ (out : List Int) (w : Nat), ∃ out' w', (Lib.joinTail [32] r).foldl rstep (some (out, w)) = some (out', w') ∧
    out' ++ [((w' % 4294967296 : Nat) : Int)] = out ++ [((w % 4294967296 : Nat) : Int)] ++ r.map fun p => (dv p : Int) := by
  induction r with
  | nil => intro out w; exact ⟨out, w, rfl, by simp⟩
  | cons y r ih =>
    intro out w
    obtain ⟨h1, h2⟩ := hr y (by simp)
    obtain ⟨out', w', e1, e2⟩ := ih (fun p hp => hr p (by simp [hp])) (out ++ [((w % 4294967296 : Nat) : Int)]) (dv y)
    refine ⟨out', w', ?_, ?_⟩
    · have : Lib.joinTail [32] (y :: r) = [32] ++ (y ++ Lib.joinTail [32] r) := by simp [Lib.joinTail]
      rw [this, List.foldl_append, List.foldl_append]
      have e0 : [(32 : UInt8)].foldl rstep (some (out, w)) = some (out ++ [((w % 4294967296 : Nat) : Int)], 0) := rfl
      rw [e0, scan_piece _ _ h1 h2, e1]
    · rw [e2, Nat.mod_eq_of_lt h2]
      simp
theorem rfin_of {l : List UInt8} (hl : l ≠ []) (h : (pcs 32 l).all numB = true) : rfin l = some ((pcs 32 l).map fun p => (dv p : Int)) := by
  have hall : ∀ p ∈ pcs 32 l, p.all digB = true ∧ dv p < 4294967296 := fun p hp => (numB_canon (List.all_eq_true.1 h p hp)).2
  have hj := join_pcs l
  cases hp : pcs 32 l with
  | nil => exact (pcs_ne 32 l hp).elim
  | cons y r =>
    rw [hp] at hj hall
    rw [Lib.join_cons] at hj
    obtain ⟨h1, h2⟩ := hall y (by simp)
    obtain ⟨out', w', e1, e2⟩ := scan_tail r (fun p hp => hall p (by simp [hp])) [] (dv y)
    have e3 : rscan l = some (out', w') := by
      rw [← hj]
      unfold rscan
      rw [List.foldl_append, scan_piece _ _ h1 h2, e1]
    unfold rfin
    rw [e3, Option.map_some, if_neg hl, e2, Nat.mod_eq_of_lt h2]
    rfl
theorem scan_bd (l : List UInt8) : ∀ out w, rscan l = some (out, w) → ∀ z ∈ out, 0 ≤ z ∧ z < 4294967296 := by
  refine snoc_ind (P := fun l => ∀ out w, rscan l = some (out, w) → ∀ z ∈ out, 0 ≤ z ∧ z < 4294967296) (fun out w h z hz => ?_) (fun l x ih out w h z hz => ?_) l
  · simp [rscan] at h
    rw [h.1] at hz
    cases hz
  · unfold rscan at h ih
    rw [List.foldl_append] at h
    simp only [List.foldl_cons, List.foldl_nil] at h
    cases hc : l.foldl rstep (some ([], 0)) with
    | none => rw [hc] at h; simp [rstep] at h
    | some p =>
      obtain ⟨o, v⟩ := p
      rw [hc] at h
      simp only [rstep] at h
      split at h
      · simp only [Option.some.injEq, Prod.mk.injEq] at h
        rw [← h.1] at hz
        rcases List.mem_append.1 hz with hz | hz
        · exact ih o v hc z hz
        · rw [List.mem_singleton.1 hz]; omega
      · split at h
        · simp only [Option.some.injEq, Prod.mk.injEq] at h
          rw [← h.1] at hz
          exact ih o v hc z hz
        · cases h

theorem show_ne (f : List Int) (hf : ∀ z ∈ f, 0 ≤ z ∧ z < 4294967296) (hne : f ≠ []) : pcs 32 (showL f) = f.map (fun z => Lib.decDigits z.toNat) := by
  refine pcs_join _ (by simpa using hne) (fun p hp b hb e => ?_)
  obtain ⟨z, hz, rfl⟩ := List.mem_map.1 hp
  have := List.all_eq_true.1 (dd_all (z.toNat + 1) z.toNat (by omega)) b hb
  subst e
  simp [digB] at this
theorem show_read (f : List Int) (hf : ∀ z ∈ f, 0 ≤ z ∧ z < 4294967296) (most : Int) : readB most (showL f) = decide ((f.length : Int) ≤ most) ∧ readL (showL f) = f := by
  by_cases hne : f = []
  · subst hne
    simp [showL, Lib.join, readB, readL]
  · have hp := show_ne f hf hne
    have hs : showL f ≠ [] := fun e => by
      rw [e] at hp
      cases f with
      | nil => exact hne rfl
      | cons a r =>
        simp [pcs] at hp
        exact dd_ne _ hp.1
    refine ⟨?_, ?_⟩
    · rw [read_all hs, hp, List.length_map]
      have : (f.map fun z => Lib.decDigits z.toNat).all numB = true := by
        rw [List.all_eq_true]
        intro p hp
        obtain ⟨z, hz, rfl⟩ := List.mem_map.1 hp
        exact dd_num (by have := hf z hz; omega)
      rw [this, Bool.true_and]
    · unfold readL
      rw [if_neg hs, hp, List.map_map]
      conv => rhs; rw [← List.map_id f]
      refine List.map_congr_left (fun z hz => ?_)
      have := hf z hz
      simp only [Function.comp, dd_dv (z.toNat + 1) z.toNat (by omega), id]
      omega
theorem show_pcs {l : List UInt8} (h : (pcs 32 l).all numB = true) : showL ((pcs 32 l).map fun p => (dv p : Int)) = l := by
  unfold showL
  rw [List.map_map]
  have : (pcs 32 l).map ((fun z : Int => Lib.decDigits z.toNat) ∘ fun p => (dv p : Int)) = pcs 32 l := by
    conv => rhs; rw [← List.map_id (pcs 32 l)]
    refine List.map_congr_left (fun p hp => ?_)
    simp only [Function.comp, Int.toNat_natCast, id]
    exact (numB_canon (List.all_eq_true.1 h p hp)).1
  rw [this, join_pcs]
theorem read_same (most : Int) (l : List UInt8) : rreadB most l = readB most l ∧ (readB most l = true → rreadL l = readL l) := by
  by_cases hl : l = []
  · subst hl
    simp [rreadB, rfin, rscan, showL, Lib.join, readB, rreadL, readL]
  · rcases hb : readB most l with _ | _
    · refine ⟨?_, fun h => by cases h⟩
      rcases hr : rreadB most l with _ | _
      · rfl
      · exfalso
        unfold rreadB at hr
        cases hf : rfin l with
        | none => rw [hf] at hr; cases hr
        | some f =>
          rw [hf] at hr
          simp only [Bool.and_eq_true, decide_eq_true_eq, beq_iff_eq] at hr
          have hbd : ∀ z ∈ f, 0 ≤ z ∧ z < 4294967296 := by
            unfold rfin at hf
            obtain ⟨p, hp1, hp2⟩ := Option.map_eq_some_iff.1 hf
            rw [if_neg hl] at hp2
            intro z hz
            rw [← hp2] at hz
            rcases List.mem_append.1 hz with hz | hz
            · exact scan_bd l p.1 p.2 hp1 z hz
            · rw [List.mem_singleton.1 hz]; omega
          have := (show_read f hbd most).1
          rw [hr.2, hb, decide_eq_true hr.1] at this
          cases this
    · have hb2 := hb
      rw [read_all hl, Bool.and_eq_true] at hb2
      have hf := rfin_of hl hb2.1
      refine ⟨?_, fun _ => ?_⟩
      · unfold rreadB
        rw [hf]
        simp only [List.length_map, show_pcs hb2.1, hb2.2, beq_self_eq_true, Bool.and_self]
      · unfold rreadL readL
        rw [hf, if_neg hl]
        rfl

end Go.Proofs.YtjfgmallhjclgaaDoor
