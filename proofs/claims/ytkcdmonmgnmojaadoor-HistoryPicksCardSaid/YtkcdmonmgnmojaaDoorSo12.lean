/- slices.symMergeCmpFunc on calls. -/
import Derived.Test.YtkcdmonmgnmojaaDoorSo10
import Derived.Test.YtkcdmonmgnmojaaDoorSo11
namespace Go.Proofs.YtkcdmonmgnmojaaDoor
open Go.RowKit

theorem sym_any : ∀ sz : Nat, SymOk sz
  | 0 => fun g cap a m b N P U V R w hsz hg ha hm hb hU hV sU sV ht hN hcap hbig => by omega
  | sz + 1 => fun g cap a m b N P U V R w hsz hg ha hm hb hU hV sU sV ht hN hcap hbig => by
    by_cases h1 : U.length = 1
    · obtain ⟨u, rfl⟩ := List.length_eq_one_iff.1 h1
      refine (sym_left g cap a m b N P V R u w (by simpa using hg) ha (by simpa using hm) hb sV (fun f hf => ht u (by simp) f hf) (by simp at hm; omega) hcap hbig).mono ?_
      rintro e w1 ⟨rfl, W, q1, q2, q3⟩
      exact ⟨rfl, W, q1, by simpa using q2, q3⟩
    · by_cases h2 : V.length = 1
      · obtain ⟨u, rfl⟩ := List.length_eq_one_iff.1 h2
        refine (sym_right g cap a m b N P U R u w (by simpa using hg) ha hm (by simpa using hb) h1 sU (fun f hf => ht f hf u (by simp)) (by simp at hb; omega) hcap hbig).mono ?_
        rintro e w1 ⟨rfl, W, q1, q2, q3⟩
        exact ⟨rfl, W, q1, q2, q3⟩
      · by_cases h3 : (a + b) / 2 < m
        · exact sym_gt sz (sym_any sz) g cap a m b N P U V R w hsz hg ha hm hb (by omega) (by omega) sU sV ht hN hcap hbig h3
        · exact sym_le sz (sym_any sz) g cap a m b N P U V R w hsz hg ha hm hb (by omega) (by omega) sU sV ht hN hcap hbig (by omega)

end Go.Proofs.YtkcdmonmgnmojaaDoor
