/- The reference's Read of a record's text. -/
import Derived.Test.YtjfgmallhjclgaaDoorRefShow
import Derived.Test.YtjfgmallhjclgaaDoorRead
namespace Go.Proofs.YtjfgmallhjclgaaDoor
open Go.RowKit Go.Shelf

def rstep (st : Option (List Int × Nat)) (x : UInt8) : Option (List Int × Nat) :=
  match st with
  | none => none
  | some (out, w) => if x = 32 then some (out ++ [((w % 4294967296 : Nat) : Int)], 0) else if (digB x && decide (w ≤ 4294967295)) = true then some (out, 10 * w + (x.toNat - 48)) else none
def rscan (l : List UInt8) : Option (List Int × Nat) := l.foldl rstep (some ([], 0))
def rfin (l : List UInt8) : Option (List Int) := (rscan l).map fun p => if l = [] then p.1 else p.1 ++ [((p.2 % 4294967296 : Nat) : Int)]
def rreadB (most : Int) (l : List UInt8) : Bool := match rfin l with
  | none => false
  | some f => decide ((f.length : Int) ≤ most) && (showL f == l)
def rreadL (l : List UInt8) : List Int := (rfin l).getD []

theorem rstep_none (l : List UInt8) : l.foldl rstep none = none := by
  induction l with
  | nil => rfl
  | cons x l ih => simpa [rstep] using ih
theorem rscan_snoc {l : List UInt8} {k : Nat} {x : UInt8} (h : l[k]? = some x) : rscan (l.take (k + 1)) = rstep (rscan (l.take k)) x := by
  rw [take_snoc h]
  simp [rscan]
theorem rscan_fail {l : List UInt8} {k : Nat} (h : rscan (l.take k) = none) : rscan l = none := by
  rw [← List.take_append_drop k l]
  unfold rscan at h ⊢
  rw [List.foldl_append, h, rstep_none]
theorem rread_fail {most : Int} {l : List UInt8} (h : rscan l = none) : rreadB most l = false := by simp [rreadB, rfin, h]
theorem u32_wf (z : Nat) : (Lit.int .u32 ((z % 4294967296 : Nat) : Int)).wf = true := by
  simp [Lit.wf, IntKind.min, IntKind.max, IntKind.signed, IntKind.bits]
  omega
theorem OwnW.snoc {base : Nat} {w w1 : World} {v v' : Value} {l : List Int} {z : Nat} (h : OwnW base w v l) (h2 : w1.ownsRow base 22 1 v' (l.length + 1) ((ints .u32).all l ++ [.int .u32 ((z % 4294967296 : Nat) : Int)])) : OwnW base w1 v' (l ++ [((z % 4294967296 : Nat) : Int)]) :=
  ⟨Own.app h2 (by rfl), fun y hy => by
    rcases List.mem_append.1 hy with hy | hy
    · exact h.2 y hy
    · rw [List.mem_singleton.1 hy]; exact u32_wf z⟩

set_option maxRecDepth 100000 in
set_option maxHeartbeats 2000000 in
theorem refRead_any (s : ByteArray) (most : Int) (w : World) (hs : s.size ≤ 1000000) (hm1 : -9223372036854775808 ≤ most) (hm2 : most ≤ 9223372036854775807) :
    Calls Tryd.prog 22 #[.string s, .int .i64 most] w fun e w' => ∃ v, e = .returned (.tuple #[v, .bool (rreadB most s.data.toList)]) ∧ (rreadB most s.data.toList = true → OwnW w.heap.size w' v (rreadL s.data.toList)) ∧ (rreadB most s.data.toList = false → v = .slice none 0 0) ∧ Below w.heap.size w w' := by
  obtain ⟨l, hl⟩ : ∃ l, s.data.toList = l := ⟨_, rfl⟩
  have hlen : l.length = s.size := by rw [← hl]; exact Array.length_toList
  rw [hl]
  have hl' := Lib.hid hl
  have hlen' := Lib.hid hlen
  clear hl hlen
  go_enter Tryd.func22, Tryd.ntmps22
  go_wp2_with fail
  go_loopw [6, 7, 8] (fun v m j wr => ∃ (k wv : Nat) (out : List Int), k ≤ s.size ∧ out.length ≤ k ∧ wv ≤ 42949672959 ∧ rscan (l.take k) = some (out, wv) ∧ j = .int .i64 k ∧ m = .int .u64 wv ∧ OwnW w.heap.size wr v out ∧ Below w.heap.size w wr)
    (fun _ _ j _ => s.size - (intOf j).toNat)
  case atStart => exact ⟨0, 0, [], Nat.zero_le _, Nat.le_refl _, Nat.zero_le _, rfl, rfl, rfl, ⟨Own.nil _ _, fun z h => by cases h⟩, Below.refl _ _⟩
  case round =>
    obtain ⟨k, wv, out, hk, hok, hwv, hsc, rfl, rfl, hown, hbr⟩ := hrel
    have hsz := hbr.size
    by_cases hlt : k < s.size
    · obtain ⟨x, hx⟩ : ∃ x, s[k]'hlt = x := ⟨_, rfl⟩
      have hxl : l[k]? = some x := by
        rw [← hl'.out, ← hx, List.getElem?_eq_getElem (by rw [hl'.out, hlen'.out]; exact hlt)]
        rfl
      have hxt : x.toNat < 256 := UInt8.toNat_lt x
      have hstep := rscan_snoc hxl
      rw [hsc] at hstep
      have hsc' := Lib.hid hsc
      clear hsc hxl
      by_cases h32 : x.toNat = 32
      · have hx32 : x = 32 := UInt8.toNat_inj.1 h32
        have t1 : ((x.toNat : Int) == 32) = true := by simp [h32]
        have hstep' := Lib.hid (show rscan (l.take (k + 1)) = some (out ++ [((wv % 4294967296 : Nat) : Int)], 0) by rw [hstep]; simp [rstep, hx32])
        have hown' := Lib.hid hown
        clear hstep hx32 hown
        go_wp2_with (first
          | (at_builtin; refine wpList_app1 rfl _ _ 23 rfl u32Ty w.heap.size hown'.out.1 rfl rfl rfl rfl (by unfold maxLen; omega) (by omega) (by omega) ?_; intro v' w1 hown2 hbel2 _)
          | fail)
        go_roundw
        case rel => exact ⟨k + 1, 0, _, by omega, by rw [List.length_append, List.length_singleton]; omega, by omega, hstep'.out, by go_num, rfl, OwnW.snoc hown'.out (by simpa using hown2), hbr.trans hbel2⟩
        case measure => simp [intOf]; omega
      · have t1 : ((x.toNat : Int) == 32) = false := by rw [beq_eq_false_iff_ne]; omega
        have hx32 : ¬ x = 32 := fun e => h32 (by rw [e]; rfl)
        by_cases hg : (48 ≤ x.toNat ∧ x.toNat ≤ 57) ∧ wv ≤ 4294967295
        · obtain ⟨⟨g1, g2⟩, g3⟩ := hg
          have t2 : decide ((x.toNat : Int) < 48) = false := by rw [decide_eq_false_iff_not]; omega
          have t3 : decide ((57 : Int) < (x.toNat : Int)) = false := by rw [decide_eq_false_iff_not]; omega
          have t4 : decide ((4294967295 : Int) < (wv : Int)) = false := by rw [decide_eq_false_iff_not]; omega
          have hstep' := Lib.hid (show rscan (l.take (k + 1)) = some (out, 10 * wv + (x.toNat - 48)) by rw [hstep]; simp [rstep, hx32, digB, g1, g2, g3])
          have hown' := Lib.hid hown
          clear hstep hx32 hown
          go_wp2_with fail
          go_roundw
          case rel => exact ⟨k + 1, 10 * wv + (x.toNat - 48), out, by omega, by omega, by omega, hstep'.out, by go_num, val_u64 (by omega), hown'.out, hbr⟩
          case measure => simp [intOf]; omega
        · have hf : rreadB most l = false := rread_fail (rscan_fail (k := k + 1) (by
            rw [hstep]
            simp only [rstep, hx32, if_false]
            rw [if_neg]
            simp only [digB, Bool.and_eq_true, decide_eq_true_eq]
            exact hg))
          have hf' := Lib.hid hf
          clear hstep hx32 hf hown
          rcases t2 : decide ((x.toNat : Int) < 48) with _ | _
          · rcases t3 : decide ((57 : Int) < (x.toNat : Int)) with _ | _
            · have t4 : decide ((4294967295 : Int) < (wv : Int)) = true := by
                have a1 := of_decide_eq_false t2
                have a2 := of_decide_eq_false t3
                rw [decide_eq_true_iff]
                omega
              go_wp2_with fail
              go_ret2
              exact ⟨.slice none 0 0, (by rw [hf'.out]; rfl), (fun h => by rw [hf'.out] at h; cases h), (fun _ => rfl), hbr⟩
            · go_wp2_with fail
              go_ret2
              exact ⟨.slice none 0 0, (by rw [hf'.out]; rfl), (fun h => by rw [hf'.out] at h; cases h), (fun _ => rfl), hbr⟩
          · go_wp2_with fail
            go_ret2
            exact ⟨.slice none 0 0, (by rw [hf'.out]; rfl), (fun h => by rw [hf'.out] at h; cases h), (fun _ => rfl), hbr⟩
    · have ht : l.take k = l := take_all (by rw [hlen'.out]; exact hlt)
      rw [ht] at hsc
      by_cases h0 : l = []
      · subst h0
        have ho : out = [] ∧ wv = 0 := by
          simp [rscan] at hsc
          exact ⟨by simp [hsc.1], by simp [hsc.2]⟩
        obtain ⟨rfl, rfl⟩ := ho
        have hrb : rreadB most [] = decide (0 ≤ most) := by simp [rreadB, rfin, rscan, showL, Lib.join]
        have hrl : rreadL [] = [] := by simp [rreadL, rfin, rscan]
        have hne : s.toList.isEmpty = true := by rw [ByteArray.toList_eq, hl'.out]; rfl
        have hcmp : ((showS []).toList == s.toList) = true := by rw [ByteArray.toList_eq, ByteArray.toList_eq, hl'.out]; rfl
        obtain ⟨A2, c2, rfl, _, hws⟩ := hown.ws
        have hW' := Lib.hid hown
        have hrb' := Lib.hid hrb
        have hrl' := Lib.hid hrl
        clear hrb hrl hown hsc ht
        by_cases hmm : most < 0
        · have t5 : decide (most < 0) = true := decide_eq_true hmm
          have hff := Lib.hid (show rreadB most [] = false by rw [hrb'.out, decide_eq_false (by omega)])
          go_wp2_with fail
          go_ret2
          exact ⟨.slice none 0 0, (by rw [hff.out]; rfl), (fun h => by rw [hff.out] at h; cases h), (fun _ => rfl), hbr⟩
        · have t5 : decide (most < 0) = false := decide_eq_false hmm
          have hff := Lib.hid (show rreadB most [] = true by rw [hrb'.out, decide_eq_true (by omega)])
          go_wp2_with fail
          refine (refShow_any A2 c2 [] wr (by simp) hws).mono ?_
          rintro e w2 ⟨rfl, hb2⟩
          have hB2 := hbr.trans (hb2.mono (by omega))
          go_wp2_with fail
          go_ret2
          exact ⟨_, (by rw [hff.out]; rfl), (fun _ => by rw [hrl'.out]; exact hW'.out.below hb2 (Nat.le_refl _)), (fun h => by rw [hff.out] at h; cases h), hB2⟩
      · have hfin : rfin l = some (out ++ [((wv % 4294967296 : Nat) : Int)]) := by simp [rfin, hsc, h0]
        have hne : s.toList.isEmpty = false := by
          rw [ByteArray.toList_eq, hl'.out]
          cases l with
          | nil => exact (h0 rfl).elim
          | cons a r => rfl
        obtain ⟨f, hf⟩ : ∃ f, out ++ [((wv % 4294967296 : Nat) : Int)] = f := ⟨_, rfl⟩
        have hfl : f.length = out.length + 1 := by rw [← hf, List.length_append, List.length_singleton]
        rw [hf] at hfin
        have hrb : rreadB most l = (decide ((f.length : Int) ≤ most) && (showL f == l)) := by simp [rreadB, hfin]
        have hrl : rreadL l = f := by simp [rreadL, hfin]
        obtain ⟨q, hq⟩ : ∃ q, (showL f == l) = q := ⟨_, rfl⟩
        have hcmp : ((showS f).toList == s.toList) = q := by
          rw [ByteArray.toList_eq, ByteArray.toList_eq, hl'.out, ← hq]
          rfl
        rw [hq, hfl] at hrb
        have hrb' := Lib.hid hrb
        have hrl' := Lib.hid hrl
        have hf' := Lib.hid hf
        have hfl' := Lib.hid hfl
        have hown' := Lib.hid hown
        clear hfin hown hsc ht h0 hrb hrl hf hfl hq
        by_cases hmm : most < (out.length : Int) + 1
        · have t5 : decide (most < (out.length : Int) + 1) = true := decide_eq_true hmm
          have hff := Lib.hid (show rreadB most l = false by rw [hrb'.out, decide_eq_false (by omega)]; rfl)
          go_wp2_with (first
            | (at_builtin; refine wpList_app1 rfl _ _ 23 rfl u32Ty w.heap.size hown'.out.1 rfl rfl rfl rfl (by unfold maxLen; omega) (by omega) (by omega) ?_; intro v' w1 hown2 hbel2 _
               obtain ⟨A', c', rfl⟩ := owns_slice hown2)
            | fail)
          go_ret2
          exact ⟨.slice none 0 0, (by rw [hff.out]; rfl), (fun h => by rw [hff.out] at h; cases h), (fun _ => rfl), hbr.trans hbel2⟩
        · have t5 : decide (most < (out.length : Int) + 1) = false := decide_eq_false hmm
          have hff := Lib.hid (show rreadB most l = q by rw [hrb'.out, decide_eq_true (by omega)]; rfl)
          go_wp2_with (first
            | (at_builtin; refine wpList_app1 rfl _ _ 23 rfl u32Ty w.heap.size hown'.out.1 rfl rfl rfl rfl (by unfold maxLen; omega) (by omega) (by omega) ?_; intro v' w1 hown2 hbel2 _
               obtain ⟨A', c', rfl⟩ := owns_slice hown2)
            | fail)
          have hW := OwnW.snoc hown'.out (by simpa using hown2)
          rw [hf'.out] at hW
          obtain ⟨A2, c2, he, _, hws⟩ := hW.ws
          injection he with he1 he2 he3
          subst he1 he3
          refine (by have := refShow_any A' c' f w1 (by rw [hfl'.out]; omega) hws; rw [hfl'.out] at this; exact this : Calls _ _ _ _ _).mono ?_
          rintro e w2 ⟨rfl, hb2⟩
          have hW2 := hW.below hb2 (Nat.le_refl _)
          have hB2 := (hbr.trans hbel2).trans (hb2.mono (by have := hbel2.size; omega))
          have hW' := Lib.hid hW2
          clear hW hW2 hws he2 hb2
          rcases q with _ | _
          · go_wp2_with fail
            go_ret2
            exact ⟨.slice none 0 0, (by rw [hff.out]; rfl), (fun h => by rw [hff.out] at h; cases h), (fun _ => rfl), hB2⟩
          · go_wp2_with fail
            go_ret2
            exact ⟨_, (by rw [hff.out]; rfl), (fun _ => by rw [hrl'.out]; exact hW'.out), (fun h => by rw [hff.out] at h; cases h), hB2⟩

end Go.Proofs.YtjfgmallhjclgaaDoor
