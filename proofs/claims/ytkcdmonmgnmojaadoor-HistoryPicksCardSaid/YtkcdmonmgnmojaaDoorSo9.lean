/- What the symmetric cut brings; symMerge's law as a statement. -/
import Derived.Test.YtkcdmonmgnmojaaDoorSo6
import Derived.Test.YtkcdmonmgnmojaaDoorSo8
namespace Go.Proofs.YtkcdmonmgnmojaaDoor
open Go.RowKit

theorem cut_at {U V : List El} {k j : Nat} (hU : Srt ltE U) (hV : Srt ltE V) (h1 : k = 0 ∨ j = V.length ∨ ∃ x y, 0 < k ∧ U[k - 1]? = some x ∧ V[j]? = some y ∧ ltE x y) (h2 : j = 0 ∨ k = U.length ∨ ∃ x y, 0 < j ∧ V[j - 1]? = some x ∧ U[k]? = some y ∧ ltE x y) :
    ∀ x ∈ U.take k ++ V.take j, ∀ y ∈ U.drop k ++ V.drop j, ltE x y := by
  have last : ∀ {l : List El} {k : Nat} {x : El}, 0 < k → l[k - 1]? = some x → (l.take k).getLast? = some x := fun {l k x} h0 h => by
    have h2 := take_snoc h
    rw [show k - 1 + 1 = k by omega] at h2
    rw [h2]
    simp
  have head : ∀ {l : List El} {k : Nat} {x : El}, l[k]? = some x → (l.drop k).head? = some x := fun {l k x} h => by
    rw [List.head?_drop]; exact h
  refine cut_below ltE_tr (by rw [List.take_append_drop]; exact hU) (by rw [List.take_append_drop]; exact hV) ?_ ?_
  · rcases h1 with rfl | rfl | ⟨x, y, h0, hx, hy, h⟩
    · exact .inl (List.take_zero ..)
    · exact .inr (.inl (List.drop_eq_nil_of_le (Nat.le_refl _)))
    · exact .inr (.inr ⟨x, y, last h0 hx, head hy, h⟩)
  · rcases h2 with rfl | rfl | ⟨x, y, h0, hx, hy, h⟩
    · exact .inl (List.take_zero ..)
    · exact .inr (.inl (List.drop_eq_nil_of_le (Nat.le_refl _)))
    · exact .inr (.inr ⟨x, y, last h0 hx, head hy, h⟩)

/-- A cut, and what is known of its parts. -/
structure CutF (P U1 U2 V1 V2 R : List El) (a s mid m e b N : Nat) : Prop where
  la : P.length = a
  ls : a + U1.length = s
  lm : s + U2.length = m
  le : m + V1.length = e
  lb : e + V2.length = b
  lmid : s + V1.length = mid
  sU : Srt ltE (U1 ++ U2)
  sV : Srt ltE (V1 ++ V2)
  tags : ∀ x ∈ U1 ++ U2, ∀ y ∈ V1 ++ V2, x.t < y.t
  below : ∀ x ∈ U1 ++ V1, ∀ y ∈ U2 ++ V2, ltE x y
  lN : b + R.length = N
theorem CutF.done {P U1 U2 V1 V2 R W1 W2 : List El} {a s mid m e b N : Nat} (h : CutF P U1 U2 V1 V2 R a s mid m e b N) (p1 : W1.Perm (U1 ++ V1)) (p2 : W2.Perm (U2 ++ V2)) (s1 : Srt ltE W1) (s2 : Srt ltE W2) :
    (W1 ++ W2).Perm ((U1 ++ U2) ++ (V1 ++ V2)) ∧ Srt ltE (W1 ++ W2) := by
  refine ⟨(p1.append p2).trans ?_, Srt.app s1 s2 fun x hx y hy => h.below x (p1.subset hx) y (p2.subset hy)⟩
  simp only [List.append_assoc]
  refine List.Perm.append_left U1 ?_
  rw [← List.append_assoc, ← List.append_assoc]
  exact List.Perm.append_right V2 List.perm_append_comm

/-- What symMerge does, of at most so many. -/
def SymOk (sz : Nat) : Prop := ∀ (g cap a m b N : Nat) (P U V R : List El) (w : World), U.length + V.length ≤ sz → RowsG w g (P ++ U ++ V ++ R) → P.length = a → a + U.length = m → m + V.length = b → 0 < U.length → 0 < V.length → Srt ltE U → Srt ltE V → (∀ x ∈ U, ∀ y ∈ V, x.t < y.t) → b + R.length = N → N ≤ cap → N ≤ 100000 →
    Calls Tryd.prog 123 #[.slice (some ⟨g, 0, none⟩) N cap, .int .i64 (a : Int), .int .i64 (m : Int), .int .i64 (b : Int), .func (.func 56) #[] #[]] w fun e w' => e = .returned (.tuple #[]) ∧ ∃ W, RowsG w' g (P ++ W ++ R) ∧ W.Perm (U ++ V) ∧ Srt ltE W ∧ KpG g w w'

section
variable {g cap a s mid m e b N sz : Nat} {P U1 U2 V1 V2 R : List El} {w : World}
theorem CutF.rot (h : CutF P U1 U2 V1 V2 R a s mid m e b N) (hr : RowsG w g (P ++ U1 ++ U2 ++ V1 ++ V2 ++ R)) (h1 : 0 < U2.length) (h2 : 0 < V1.length) (hcap : N ≤ cap) (hbig : N ≤ 100000) :
    Calls Tryd.prog 144 #[.slice (some ⟨g, 0, none⟩) N cap, .int .i64 (s : Int), .int .i64 (m : Int), .int .i64 (e : Int), .func (.func 56) #[] #[]] w fun x w' => x = .returned (.tuple #[]) ∧ RowsG w' g (P ++ U1 ++ V1 ++ U2 ++ V2 ++ R) ∧ KpG g w w' := by
  obtain ⟨la, ls, lm, le, lb, lmid, sU, sV, tags, below, lN⟩ := h
  refine (rotate_any g cap s m e N (P ++ U1) U2 V1 (V2 ++ R) w (by simpa using hr) (by simp; omega) (by simp; omega) (by simp; omega) h1 h2 (by simp; omega) hcap hbig).mono ?_
  rintro x w1 ⟨rfl, q1, q2⟩
  exact ⟨rfl, by simpa using q1, q2⟩
theorem CutF.left (h : CutF P U1 U2 V1 V2 R a s mid m e b N) (ih : SymOk sz) (hsz : b - a ≤ sz + 1) (hr : RowsG w g (P ++ U1 ++ V1 ++ U2 ++ V2 ++ R)) (h1 : 0 < U1.length) (h2 : 0 < V1.length) (h3 : 0 < U2.length + V2.length) (hcap : N ≤ cap) (hbig : N ≤ 100000) :
    Calls Tryd.prog 123 #[.slice (some ⟨g, 0, none⟩) N cap, .int .i64 (a : Int), .int .i64 (s : Int), .int .i64 (mid : Int), .func (.func 56) #[] #[]] w fun x w' => x = .returned (.tuple #[]) ∧ ∃ W, RowsG w' g (P ++ W ++ (U2 ++ V2 ++ R)) ∧ W.Perm (U1 ++ V1) ∧ Srt ltE W ∧ KpG g w w' := by
  obtain ⟨la, ls, lm, le, lb, lmid, sU, sV, tags, below, lN⟩ := h
  exact ih g cap a s mid N P U1 V1 (U2 ++ V2 ++ R) w (by omega) (by simpa using hr) la ls lmid h1 h2 sU.left sV.left (fun x hx y hy => tags x (List.mem_append_left _ hx) y (List.mem_append_left _ hy)) (by simp; omega) hcap hbig
theorem CutF.right {W : List El} (h : CutF P U1 U2 V1 V2 R a s mid m e b N) (ih : SymOk sz) (hsz : b - a ≤ sz + 1) (hp : W.Perm (U1 ++ V1)) (hr : RowsG w g (P ++ W ++ (U2 ++ V2 ++ R))) (h1 : 0 < U2.length) (h2 : 0 < V2.length) (h3 : 0 < U1.length + V1.length) (hcap : N ≤ cap) (hbig : N ≤ 100000) :
    Calls Tryd.prog 123 #[.slice (some ⟨g, 0, none⟩) N cap, .int .i64 (mid : Int), .int .i64 (e : Int), .int .i64 (b : Int), .func (.func 56) #[] #[]] w fun x w' => x = .returned (.tuple #[]) ∧ ∃ W', RowsG w' g (P ++ (W ++ W') ++ R) ∧ W'.Perm (U2 ++ V2) ∧ Srt ltE W' ∧ KpG g w w' := by
  obtain ⟨la, ls, lm, le, lb, lmid, sU, sV, tags, below, lN⟩ := h
  have hw := hp.length_eq
  rw [List.length_append] at hw
  refine (ih g cap mid e b N (P ++ W) U2 V2 R w (by omega) (by simpa using hr) (by simp; omega) (by omega) lb h1 h2 sU.right sV.right (fun x hx y hy => tags x (List.mem_append_right _ hx) y (List.mem_append_right _ hy)) lN hcap hbig).mono ?_
  rintro x w1 ⟨rfl, W', q1, q2⟩
  exact ⟨rfl, W', by simpa using q1, q2⟩
end

end Go.Proofs.YtkcdmonmgnmojaaDoor
