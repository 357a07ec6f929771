/- A call's line and its parts, as texts; what a cut at the first six blanks gives: of no program. -/
import Derived.Test.YtkcdmonmgnmojaaDoorHLnDef
import Derived.Test.YtkcdmonmgnmojaaDoorAsmDef
import Derived.Test.YtkcdmonmgnmojaaDoorSplitP
namespace Go.Proofs.YtkcdmonmgnmojaaDoor
open Go.RowKit

theorem joinTail_app (a b : List (List UInt8)) (s : List UInt8) : Lib.joinTail s (a ++ b) = Lib.joinTail s a ++ Lib.joinTail s b := by simp [Lib.joinTail]
/-- What is joined may be joined. -/
theorem join_join (ps qs : List (List UInt8)) (hq : qs ≠ []) : Lib.join (ps ++ [Lib.join qs [32]]) [32] = Lib.join (ps ++ qs) [32] := by
  obtain ⟨q, r, rfl⟩ := List.exists_cons_of_ne_nil hq
  cases ps with
  | nil => rw [List.nil_append, List.nil_append, Lib.join_one]
  | cons p t =>
    rw [List.cons_append, List.cons_append, Lib.join_cons, Lib.join_cons, Lib.join_cons, joinTail_app, joinTail_app]
    simp [Lib.joinTail]

/-- The pieces at the first k blanks. -/
def pk (k : Nat) (l : List UInt8) : List (List UInt8) := if (pcs 32 l).length ≤ k + 1 then pcs 32 l else (pcs 32 l).take k ++ [Lib.join ((pcs 32 l).drop k) [32]]
theorem pk_zero (l : List UInt8) : pk 0 l = [l] := by
  unfold pk
  split
  · rename_i h
    have h1 := join_pcs l
    rcases hp : pcs 32 l with _ | ⟨a, t⟩
    · exact absurd hp (pcs_ne 32 l)
    · rw [hp] at h h1
      have : t = [] := by
        cases t with
        | nil => rfl
        | cons _ _ => simp at h
      subst this
      rw [Lib.join_one] at h1
      rw [h1]
  · rw [List.take_zero, List.drop_zero, join_pcs]
    rfl
theorem splitK_pk (l : List UInt8) : ∀ k, Lib.splitK [32] 0 k l = pk k l := by
  induction l with
  | nil =>
    intro k
    cases k with
    | zero => rw [pk_zero]; rfl
    | succ k =>
      unfold pk pcs
      rw [if_pos (by simp)]
      rfl
  | cons b l ih =>
    intro k
    cases k with
    | zero => rw [pk_zero]; rfl
    | succ k =>
      by_cases h : b = 32
      · subst h
        have hp : ([32] : List UInt8).isPrefixOf (32 :: l) = true := by simp [List.isPrefixOf]
        have hi : Lib.index (32 :: l) [32] = 0 := by unfold Lib.index; rw [hp, if_pos rfl]
        have e1 : Lib.splitK [32] 0 (k + 1) (32 :: l) = [] :: Lib.splitK [32] 0 k l := by
          conv => lhs; unfold Lib.splitK
          rw [hi, if_neg (by decide)]
          simp
        have e2 : pcs 32 (32 :: l) = [] :: pcs 32 l := by
          conv => lhs; unfold pcs
          rw [if_pos rfl]
        rw [e1, ih]
        unfold pk
        rw [e2, List.length_cons]
        by_cases hl : (pcs 32 l).length ≤ k + 1
        · rw [if_pos hl, if_pos (by omega)]
        · rw [if_neg hl, if_neg (by omega)]
          rfl
      · rw [splitK_ne 32 b l h, ih]
        have e2 : pcs 32 (b :: l) = (b :: (pcs 32 l).headD []) :: (pcs 32 l).tail := by
          conv => lhs; unfold pcs
          rw [if_neg h]
        rcases hp : pcs 32 l with _ | ⟨a, t⟩
        · exact absurd hp (pcs_ne 32 l)
        · unfold pk
          rw [e2, hp]
          by_cases hl : t.length + 1 ≤ k + 1 + 1
          · rw [if_pos (by show t.length + 1 ≤ _; exact hl), if_pos (by show t.length + 1 ≤ _; exact hl)]
          · rw [if_neg (by show ¬(t.length + 1 ≤ _); exact hl), if_neg (by show ¬(t.length + 1 ≤ _); exact hl)]
            rfl
theorem pk_min (l : List UInt8) (n : Nat) (hn : n = l.length) : pk (min 7 (n + 1) - 1) l = pk 6 l := by
  by_cases h : 6 ≤ n
  · rw [show min 7 (n + 1) - 1 = 6 by omega]
  · have h1 := pcs_len 32 l
    unfold pk
    rw [if_pos (by omega), if_pos (by omega)]
theorem splitB_pk (s : ByteArray) : Lib.splitB ⟨#[32]⟩ 0 (min 7 (s.size + 1) - 1) s = (pk 6 s.data.toList).map fun p => ⟨p.toArray⟩ := by
  have h := Lib.splitB_data ⟨#[32]⟩ 0 (min 7 (s.size + 1) - 1) s
  rw [show (⟨#[32]⟩ : ByteArray).data.toList = [32] from rfl, splitK_pk, pk_min _ s.size Array.length_toList.symm] at h
  rw [← h, List.map_map]
  conv => lhs; rw [← List.map_id (Lib.splitB ⟨#[32]⟩ 0 (min 7 (s.size + 1) - 1) s)]
  refine List.map_congr_left fun x _ => ?_
  rfl
theorem pk_few {l : List UInt8} (h : (pcs 32 l).length ≤ 6) : pk 6 l = pcs 32 l := by unfold pk; rw [if_pos (by omega)]
theorem pk_many {l : List UInt8} (h : ¬(pcs 32 l).length ≤ 6) : pk 6 l = (pcs 32 l).take 6 ++ [Lib.join ((pcs 32 l).drop 6) [32]] := by
  unfold pk
  split
  · have h7 : (pcs 32 l).length = 7 := by omega
    have hd : ((pcs 32 l).drop 6).length = 1 := by rw [List.length_drop]; omega
    obtain ⟨a, ha⟩ := List.length_eq_one_iff.1 hd
    rw [ha, Lib.join_one, ← ha, List.take_append_drop]
  · rfl

/-! ### what is read of what stands behind -/
def rdB (most : Int) (l : List UInt8) : Bool := if l = [] then decide (0 ≤ most) else (pcs 32 l).all numB && decide (((pcs 32 l).length : Int) ≤ most)
def rdL (l : List UInt8) : List Int := if l = [] then [] else (pcs 32 l).map fun p => (dv p : Int)
def readO (most : Int) (l : List UInt8) : List Int := if rdB most l = true then rdL l else []
def restP (qs : List (List UInt8)) : List Int := if qs = [] then [] else readO 8 (Lib.join qs [32])
def candP : List (List UInt8) → Cl := candH numH restP
def candR : List (List UInt8) → Cl := candH digNV (fun qs => qs.map rnum)
theorem recW_back {x : Cl} (hr : ∀ z ∈ x.r, 0 ≤ z ∧ z < 4294967296) : (recW x).map (fun p => (dv p : Int)) = x.r := by
  unfold recW
  rw [List.map_map]
  conv => rhs; rw [← List.map_id x.r]
  refine List.map_congr_left fun z hz => ?_
  show (dv (Lib.decDigits z.toNat) : Int) = z
  rw [dd_dv (z.toNat + 1) _ (by omega)]
  have := hr z hz
  omega
theorem restP_back {x : Cl} (h : x.r.length ≤ 8) (hr : ∀ z ∈ x.r, 0 ≤ z ∧ z < 4294967296) : restP (recW x) = x.r := by
  unfold restP
  by_cases h0 : recW x = []
  · rw [if_pos h0]
    unfold recW at h0
    exact (List.map_eq_nil_iff.1 h0).symm
  · have hp : pcs 32 (Lib.join (recW x) [32]) = recW x := pcs_join _ h0 (fun p hp => partsH_no x p (by unfold partsH; exact List.mem_append.2 (.inr hp)))
    have hne : Lib.join (recW x) [32] ≠ [] := by
      intro e
      rw [e] at hp
      unfold recW at hp h0
      rcases hx : x.r with _ | ⟨a, t⟩
      · rw [hx] at h0; exact h0 rfl
      · rw [hx, List.map_cons] at hp
        have : (pcs 32 []) = [[]] := rfl
        rw [this] at hp
        injection hp with hp _
        exact dd_ne _ hp.symm
    rw [if_neg h0]
    unfold readO rdB rdL
    rw [if_neg hne, if_neg hne, hp]
    have hall : (recW x).all numB = true := by
      rw [List.all_eq_true]
      intro p hp
      unfold recW at hp
      obtain ⟨z, hz, rfl⟩ := List.mem_map.1 hp
      have := hr z hz
      exact dd_numB (by omega)
    have hlen : (recW x).length = x.r.length := by simp [recW]
    rw [hall, hlen, decide_eq_true (by omega), Bool.and_self, if_pos rfl, recW_back hr]
theorem restR_back {x : Cl} (hr : ∀ z ∈ x.r, 0 ≤ z ∧ z < 4294967296) : (recW x).map rnum = x.r := by
  unfold recW
  rw [List.map_map]
  conv => rhs; rw [← List.map_id x.r]
  refine List.map_congr_left fun z hz => ?_
  show rnum (Lib.decDigits z.toNat) = z
  have := hr z hz
  unfold rnum
  rw [if_pos ⟨dd_all (z.toNat + 1) _ (by omega), dd_len 9 _ (by omega)⟩, dd_dv (z.toNat + 1) _ (by omega)]
  omega
theorem restP_in (qs : List (List UInt8)) : ∀ z ∈ restP qs, 0 ≤ z ∧ z < 4294967296 := by
  intro z hz
  unfold restP readO at hz
  split at hz
  · cases hz
  · split at hz
    · rename_i hc
      unfold rdL at hz
      unfold rdB at hc
      split at hz
      · cases hz
      · rename_i hne
        rw [if_neg hne] at hc
        obtain ⟨p, hp, rfl⟩ := List.mem_map.1 hz
        have h1 := List.all_eq_true.1 (Bool.and_eq_true _ _ ▸ hc).1 p hp
        unfold numB at h1
        simp only [Bool.and_eq_true, decide_eq_true_eq] at h1
        have := h1.2.2
        omega
    · cases hz
theorem candP_line {x : Cl} (h : clB x = true) (hr : ∀ z ∈ x.r, 0 ≤ z ∧ z < 4294967296) : candP (partsH x) = x := candH_line (fun _ hz => numH_dd hz) (restP_back (clB_iff.1 h).r hr) (clB_iff.1 h)
theorem candR_line {x : Cl} (h : clB x = true) (hr : ∀ z ∈ x.r, 0 ≤ z ∧ z < 4294967296) : candR (partsH x) = x := candH_line (fun _ hz => digNV_dd hz) (restR_back hr) (clB_iff.1 h)
theorem candP_in (ps : List (List UInt8)) : ∀ z ∈ (candP ps).r, 0 ≤ z ∧ z < 4294967296 := restP_in _
theorem candR_in (ps : List (List UInt8)) : ∀ z ∈ (candR ps).r, 0 ≤ z ∧ z < 4294967296 := by
  intro z hz
  obtain ⟨p, _, rfl⟩ := List.mem_map.1 hz
  exact rnum_bd p
def readP (s : List UInt8) : Option Cl := readHBy candP s
def readR (s : List UInt8) : Option Cl := readHBy candR s
theorem read_same21 (s : List UInt8) : readP s = readR s := readH_both (fun _ h hr => candP_line h hr) (fun _ h hr => candR_line h hr) candP_in candR_in s
theorem readP_line {x : Cl} (h : clB x = true) (hr : ∀ z ∈ x.r, 0 ≤ z ∧ z < 4294967296) : readP (lineH x) = some x := readHBy_line (candP_line h hr) h

/-! ### how long a line may be -/
theorem wordsH_len (ws : List (List UInt8)) (h : (ws.all fun w => decide (w.length ≤ 14)) = true) (k : Nat) : (ws.getD k []).length ≤ 14 := by
  rw [List.getD_eq_getElem?_getD]
  cases hw : ws[k]? with
  | none => simp
  | some x => exact of_decide_eq_true (List.all_eq_true.1 h x (List.mem_of_getElem? hw))
theorem partsH_len {x : Cl} (h : clB x = true) (hr : ∀ z ∈ x.r, 0 ≤ z ∧ z < 4294967296) : ∀ p ∈ partsH x, p.length ≤ 14 := by
  obtain ⟨hp, ho, hb, hq, hc, he, _⟩ := clB_iff.1 h
  have hd : ∀ z : Int, 0 ≤ z ∧ z ≤ 1099511627776 → (Lib.decDigits z.toNat).length ≤ 14 := fun z hz => by
    have := dd_len 12 z.toNat (by omega)
    omega
  intro p hpp
  unfold partsH six recW at hpp
  rcases List.mem_append.1 hpp with hpp | hpp
  · simp only [List.mem_cons, List.not_mem_nil, or_false] at hpp
    rcases hpp with rfl | rfl | rfl | rfl | rfl | rfl
    · exact hd _ hp
    · exact hd _ ho
    · exact wordsH_len opsW (by decide) _
    · exact hd _ hb
    · unfold endW
      split
      · exact hd _ (by omega)
      · simp
    · exact wordsH_len codesW (by decide) _
  · obtain ⟨z, hz, rfl⟩ := List.mem_map.1 hpp
    have := hr z hz
    exact hd _ (by omega)
theorem lineH_len {x : Cl} (h : clB x = true) (hr : ∀ z ∈ x.r, 0 ≤ z ∧ z < 4294967296) : (lineH x).length ≤ 210 := by
  have h1 := jn_le (partsH_len h hr)
  have h2 : (partsH x).length = 6 + x.r.length := by simp [partsH, six, recW]; omega
  have h3 := (clB_iff.1 h).r
  unfold lineH
  rw [h2] at h1
  omega

/-! ### its parts, as the program holds them -/
def endS (e : Int) : ByteArray := ⟨(endW e).toArray⟩
def opS (q : Int) : ByteArray := ⟨(opW q).toArray⟩
def codeS (c : Int) : ByteArray := ⟨(codeW c).toArray⟩
def sixB (x : Cl) : List ByteArray := [numS x.p.toNat, numS x.o.toNat, opS x.q, numS x.b.toNat, endS x.e, codeS x.c]
def recT (l : List Int) : ByteArray := ⟨(Lib.join (l.map fun z => Lib.decDigits z.toNat) [32]).toArray⟩
theorem line_six {x : Cl} (h : x.r = []) : Lib.join ((sixB x).map (·.data.toList)) [32] = lineH x := by
  unfold lineH partsH recW
  rw [h]
  rfl
theorem line_rec {x : Cl} (h : x.r ≠ []) : Lib.join ((sixB x ++ [recT x.r]).map (·.data.toList)) [32] = lineH x := by
  unfold lineH partsH
  rw [← join_join (six x) (recW x) (fun e => h (List.map_eq_nil_iff.1 e)), List.map_append]
  rfl

end Go.Proofs.YtkcdmonmgnmojaaDoor
