/- PROVED: the Go function coxswainlaw34.SourceParses returns true, whatever its argument (a string), and leaves what it holds as it was. Conditions: none beyond those of the given row; the listed tables are tied by the given card. -/
import Derived.Test.YtfgmebjbibbpdaaGreatDoorZs8
import Derived.Test.YtfgmebjbibbpdaaGreatDoorZs9
import Derived.Test.YtfgmebjbibbpdaaGreatDoorZcPa
import Derived.Test.YtfgmebjbibbpdaaGreatDoorZs6
import Derived.Test.YtfgmebjbibbpdaaGreatDoorZs4
import Derived.Test.YtfgmebjbibbpdaaGreatDoorZo
import Derived.Test.YtfgmebjbibbpdaaGreatDoorCards
import Derived.Test.YtfgmebjbibbpdaaGreatDoorTie
import Derived.Deep.DeepHandedRow
import Derived.Lib.LaidTab
namespace Go.Proofs.YtfgmebjbibbpdaaGreatDoor
open Go.RowKit

structure RcC (w : World) (lo : Nat) (vt vo : Value) (qs : List Tq) (ps : List Oq) (s : Sy) : Prop where
  ht : Own tqE tyT lo w vt qs
  ho : Own oqE tyO lo w vo ps
  hts : AllP (TqOk w lo w.heap.size) qs s.ts
  hos : AllP (OqOk w lo w.heap.size) ps s.os
structure RcO (w : World) (lo N : Nat) (vt vo : Value) (qs : List Tq) (q : Tq) (ts : List Tk) (t : Tk) : Prop where
  hN : N ≤ w.heap.size
  hlo : lo ≤ N
  ht : Own tqE tyT lo w vt (qs ++ [q])
  ho : Own oqE tyO lo w vo []
  hts : AllP (TqOk w lo N) qs ts
  hop : OpT w N q t
theorem RcC.below {w w' : World} {lo : Nat} {vt vo : Value} {qs : List Tq} {ps : List Oq} {s : Sy} (h : RcC w lo vt vo qs ps s) (hb : Below w.heap.size w w') : RcC w' lo vt vo qs ps s :=
  ⟨own_keepT h.ht (KeepT.below (lo := lo) hb _), own_keepT h.ho (KeepT.below (lo := lo) hb _), h.hts.imp fun a b h => h.keep (KeepT.below (lo := lo) hb _) hb.size, h.hos.imp fun a b h => h.keep (KeepT.below (lo := lo) hb _) (KeepT.below (lo := lo) hb _) hb.size⟩
theorem RcO.below {w w' : World} {lo N : Nat} {vt vo : Value} {qs : List Tq} {q : Tq} {ts : List Tk} {t : Tk} (h : RcO w lo N vt vo qs q ts t) (hb : Below w.heap.size w w') : RcO w' lo N vt vo qs q ts t :=
  ⟨Nat.le_trans h.hN hb.size, h.hlo, own_keepT h.ht (KeepT.below (lo := lo) hb _), own_keepT h.ho (KeepT.below (lo := lo) hb _), h.hts.imp fun a b h => h.keep (KeepT.below (lo := lo) hb _) (Nat.le_refl _), ⟨h.hop.sc, own_keepT (lo := lo) h.hop.code (KeepT.below (lo := lo) hb _) h.hlo, h.hop.ok, h.hop.bd⟩⟩
theorem set_keepT {w : World} {lo b : Nat} (hb : b < lo) (j : Nat) (v : Value) (ty : TypeId) : KeepT lo ty w (w.setCell ⟨b, j, none⟩ v) := fun g cur hl hg => (heap_set w b j v g (by omega)).trans hg
/-- A cell of a block below lo is set. -/
theorem RcC.set {w : World} {lo b : Nat} {vt vo : Value} {qs : List Tq} {ps : List Oq} {s : Sy} (h : RcC w lo vt vo qs ps s) (hb : b < lo) (j : Nat) (v : Value) : RcC (w.setCell ⟨b, j, none⟩ v) lo vt vo qs ps s :=
  ⟨own_keepT h.ht (set_keepT hb j v _), own_keepT h.ho (set_keepT hb j v _), h.hts.imp fun a b h => h.keep (set_keepT hb j v _) (by rw [size_set]; exact Nat.le_refl _), h.hos.imp fun a b h => h.keep (set_keepT hb j v _) (set_keepT hb j v _) (by rw [size_set]; exact Nat.le_refl _)⟩
theorem RcO.set {w : World} {lo N b : Nat} {vt vo : Value} {qs : List Tq} {q : Tq} {ts : List Tk} {t : Tk} (h : RcO w lo N vt vo qs q ts t) (hb : b < lo) (j : Nat) (v : Value) : RcO (w.setCell ⟨b, j, none⟩ v) lo N vt vo qs q ts t :=
  ⟨by rw [size_set]; exact h.hN, h.hlo, own_keepT h.ht (set_keepT hb j v _), own_keepT h.ho (set_keepT hb j v _), h.hts.imp fun a b h => h.keep (set_keepT hb j v _) (Nat.le_refl _), ⟨h.hop.sc, own_keepT (lo := lo) h.hop.code (set_keepT hb j v _) h.hlo, h.hop.ok, h.hop.bd⟩⟩
theorem RcO.close {w : World} {lo N : Nat} {vt vo : Value} {qs : List Tq} {q : Tq} {ts : List Tk} {t : Tk} (h : RcO w lo N vt vo qs q ts t) : RcC w lo vt vo (qs ++ [q]) [] ⟨ts ++ [t], []⟩ :=
  ⟨h.ht, h.ho, (h.hts.imp fun _ _ hab => hab.keep (KeepT.refl _ _ _) h.hN).snoc (h.hop.closed h.hlo), AllP.nil _⟩
theorem RcO.code {w w1 : World} {lo N tb n c : Nat} {A : Option Addr} {vt vo : Value} {qs : List Tq} {q : Tq} {ts : List Tk} {t : Tk} {e : Ins} (h : RcO w lo N vt vo qs q ts t) (hv : vt.ownBlock = some tb)
    (hw : Own insE tyI N w1 (.slice A n c) (t.code ++ [e])) (hk : ∀ k, k < w.heap.size → some k ≠ (Value.slice q.A q.n q.c).ownBlock → w1.heap[k]? = w.heap[k]?) (hs : w.heap.size ≤ w1.heap.size) (he : e.ok) :
    RcO (w1.setCell ⟨tb, qs.length * 7 + 6, none⟩ (.slice A n c)) lo N vt vo qs ⟨q.kd, q.pr, q.pe, q.off, q.dl, q.ow, A, n, c⟩ ts (t.snoc e) := by
  have kt : ∀ ty, tyI ≠ ty → KeepT lo ty w w1 := fun ty hne => KeepT.app h.hop.code hne hk
  have ht1 := own_keepT h.ht (kt tyT (by decide))
  obtain ⟨cur, hcur⟩ := ht1.row hv
  have ks : ∀ ty, tyT ≠ ty → KeepT lo ty w1 (w1.setCell ⟨tb, qs.length * 7 + 6, none⟩ (.slice A n c)) := fun ty hne => KeepT.set hcur hne _ _
  have hz := size_set w1 tb (qs.length * 7 + 6) (.slice A n c)
  have hN := h.hN
  have hlo := h.hlo
  have low : ∀ b, b < N → b < w.heap.size → w1.heap[b]? = w.heap[b]? := fun b hb hb2 => hk b hb2 (fun ee => by
    have := h.hop.code.blk ee.symm
    omega)
  refine ⟨by omega, hlo, own_setlast ht1 hv, own_keepT (own_keepT h.ho (kt _ (by decide))) (ks _ (by decide)), ?_, ⟨h.hop.sc, own_keepT hw (ks _ (by decide)) hlo, ?_, h.hop.bd⟩⟩
  · exact h.hts.imp fun a b hab => (hab.low (fun x hx => low x hx (by omega))).keep (ks _ (by decide)) (Nat.le_refl _)
  · intro x hx
    rcases List.mem_append.1 hx with hx | hx
    · exact h.hop.ok x hx
    · rw [List.mem_singleton.1 hx]; exact he
theorem RcC.task {w w1 : World} {lo : Nat} {vt vo vt' : Value} {qs : List Tq} {ps : List Oq} {s : Sy} {t : Tk} (h : RcC w lo vt vo qs ps s) (hlo : lo ≤ w.heap.size) (hos : s.os = []) (hc : t.code = []) (hbd : ∀ z ∈ t.kd :: t.five, i64B z)
    (hw : Own tqE tyT lo w1 vt' (qs ++ [⟨t.kd, t.pr, t.pe, t.off, t.dl, t.ow, none, 0, 0⟩])) (hk : ∀ k, k < w.heap.size → some k ≠ vt.ownBlock → w1.heap[k]? = w.heap[k]?) (hs : w.heap.size ≤ w1.heap.size) :
    RcO w1 lo w1.heap.size vt' vo qs ⟨t.kd, t.pr, t.pe, t.off, t.dl, t.ow, none, 0, 0⟩ s.ts t := by
  have kt : ∀ ty, tyT ≠ ty → KeepT lo ty w w1 := fun ty hne => KeepT.app h.ht hne hk
  have hps : ps = [] := by
    have := h.hos.1
    rw [hos] at this
    exact List.eq_nil_of_length_eq_zero this
  have ho := h.ho
  rw [hps] at ho
  refine ⟨Nat.le_refl _, by omega, hw, own_keepT ho (kt _ (by decide)), ?_, ⟨⟨rfl, rfl, rfl, rfl, rfl, rfl⟩, ?_, ?_, hbd⟩⟩
  · exact h.hts.imp fun a b hab => hab.keep (kt _ (by decide)) hs
  · rw [hc]; exact Own.nil _ _
  · rw [hc]; intro e he; cases he
theorem RcC.obj {w w1 : World} {lo : Nat} {vt vo vo' : Value} {qs : List Tq} {ps : List Oq} {s : Sy} {q : Oq} {o : Oj} (h : RcC w lo vt vo qs ps s) (hq : OqOk w lo w.heap.size q o)
    (hw : Own oqE tyO lo w1 vo' (ps ++ [q])) (hk : ∀ k, k < w.heap.size → some k ≠ vo.ownBlock → w1.heap[k]? = w.heap[k]?) (hs : w.heap.size ≤ w1.heap.size) :
    RcC w1 lo vt vo' qs (ps ++ [q]) ⟨s.ts, s.os ++ [o]⟩ := by
  have kt : ∀ ty, tyO ≠ ty → KeepT lo ty w w1 := fun ty hne => KeepT.app h.ho hne hk
  exact ⟨own_keepT h.ht (kt _ (by decide)), hw, h.hts.imp fun a b hab => hab.keep (kt _ (by decide)) hs,
    AllP.snoc (h.hos.imp fun a b hab => hab.keep (kt _ (by decide)) (kt _ (by decide)) hs) (hq.keep (kt _ (by decide)) (kt _ (by decide)) hs)⟩
theorem RcC.tks {w : World} {lo : Nat} {vt vo : Value} {qs : List Tq} {ps : List Oq} {s : Sy} (h : RcC w lo vt vo qs ps s) : ∃ A c, vt = .slice A s.ts.length c ∧ TkSl w w.heap.size A s.ts := by
  obtain ⟨A, c, hv, hc, _, hs⟩ := h.ht.sl
  rw [h.hts.1] at hv
  refine ⟨A, c, hv, fun k t ht => ?_⟩
  obtain ⟨q, hq, hok⟩ := h.hts.get ht
  obtain ⟨b, off, hA, hb, hcl⟩ := hs k q hq
  obtain ⟨s1, s2, s3, s4, s5, s6⟩ := hok.sc
  refine ⟨b, off, q.A, q.c, hA, hb, ⟨?_, ?_, ?_, ?_, ?_, ?_, ?_⟩, ⟨hok.code.sl, hok.ok⟩, by rw [← hok.n]; exact hok.c, hok.bd⟩
  · rw [← s1]; exact hcl 0 _ rfl
  · rw [← s2]; exact hcl 1 _ rfl
  · rw [← s3]; exact hcl 2 _ rfl
  · rw [← s4]; exact hcl 3 _ rfl
  · rw [← s5]; exact hcl 4 _ rfl
  · rw [← s6]; exact hcl 5 _ rfl
  · rw [← hok.n]; exact hcl 6 _ rfl
theorem RcC.ojs {w : World} {lo : Nat} {vt vo : Value} {qs : List Tq} {ps : List Oq} {s : Sy} (h : RcC w lo vt vo qs ps s) : ∃ A c, vo = .slice A s.os.length c ∧ OjSl w w.heap.size A s.os := by
  obtain ⟨A, c, hv, hc, _, hs⟩ := h.ho.sl
  rw [h.hos.1] at hv
  refine ⟨A, c, hv, fun k t ht => ?_⟩
  obtain ⟨q, hq, hok⟩ := h.hos.get ht
  obtain ⟨b, off, hA, hb, hcl⟩ := hs k q hq
  obtain ⟨s1, s2, s3, s4, s5, s6⟩ := hok.sc
  refine ⟨b, off, q.I, q.ci, q.R, q.cr, hA, hb, ⟨?_, ?_, ?_, ?_, ?_, ?_, ?_, ?_⟩, ⟨⟨hok.ini.sl, hok.wf⟩, by rw [← hok.ni]; exact hok.ci⟩, ⟨hok.rd.sl, by rw [← hok.nr]; exact hok.cr⟩, hok.st, hok.bd⟩
  · rw [← s1]; exact hcl 0 _ rfl
  · rw [← s2]; exact hcl 1 _ rfl
  · rw [← s3]; exact hcl 2 _ rfl
  · rw [← s4]; exact hcl 3 _ rfl
  · rw [← s5]; exact hcl 4 _ rfl
  · rw [← hok.ni]; exact hcl 5 _ rfl
  · rw [← s6]; exact hcl 6 _ rfl
  · rw [← hok.nr]; exact hcl 7 _ rfl

end Go.Proofs.YtfgmebjbibbpdaaGreatDoor

namespace Go.Proofs.YtfgmebjbibbpdaaGreatDoor
open Go.RowKit
attribute [local go_sem] Oper.semAt_some

/-- An append whose new element lies in a block just made; all but the slice's own row stands. -/
theorem wpList_app3 {P : Program} {w0 : World} {cs : Array Value} {ops : Array Oper} {rest : List Oper} {o : Oper} {a : Act} {Q : Exit → Act → World → Prop} (hgd : o.guard = none) (s x : Operand) (t : TypeId)
    (ho : o.op = .call { callee := .builtin .append, args := #[s, x], argTypes := #[t, t] }) {e : TypeId} {size bytes : Nat} (hT : ElemTy P t e size bytes) (base : Nat)
    {v : Value} {n : Nat} {xs : List Value} (hown : w0.ownsRow base e size v n xs) (hs : a.eval s = v) (hx : a.eval x = .slice (some ⟨w0.heap.size, 0, none⟩) 1 1) (hl : cs.size = size) (h1 : cs.toList.all (fun u => u.oneCell') = true)
    (h63 : n + 1 ≤ maxLen) (hbytes : (n + 1) * bytes ≤ 140737488355328) (hbase : base ≤ w0.heap.size)
    (h : ∀ v' w', w'.ownsRow base e size v' (n + 1) (xs ++ cs.toList) → Below base w0 w' → (∀ k, k < w0.heap.size → some k ≠ v.ownBlock → w'.heap[k]? = w0.heap[k]?) → wpList P ops Q rest (a.put o.dst v') w') : wpList P ops Q (o :: rest) a (w0.alloc (.cells cs e)) := by
  obtain ⟨ht, i, z, hi, hz, hsize, hby, hzs, hsz⟩ := hT
  refine wpList_append_own_at _ hgd s x t ho base e i z size bytes ht hi hz hsize hby hzs hsz v n xs hs (hown.alloc _) ⟨w0.heap.size, 0, none⟩ 1 1 cs.toList hx (by simpa using hl) (cells_new' _ _ _ _ rfl) (fun u hu => List.all_eq_true.1 h1 u hu) h63 hbytes (by simp; omega) ?_
  intro v' w' h2 h3 h4 _
  exact h v' w' h2 (((Below.refl base w0).alloc hbase _).trans (grown_below (hown.alloc _) h3 (Nat.le_refl _) (by simp; omega))) (fun k hk hne => (h3.block k (by rw [World.size_alloc]; omega) hne).trans (Below.heap_alloc w0 _ k hk))
def RpM (w : World) (lo ob : Nat) (r : Rd) : Prop := (ob < lo ∧ lo ≤ w.heap.size) ∧ ∃ vt vo, RowB w ob #[vt, vo] 25 ∧ ((r.op = false ∧ ∃ qs ps, RcC w lo vt vo qs ps r.sy) ∨ (r.op = true ∧ r.sy.os = [] ∧ ∃ N qs q ts t, r.sy.ts = ts ++ [t] ∧ RcO w lo N vt vo qs q ts t))
theorem RpM.below {w w' : World} {lo ob : Nat} {r : Rd} (h : RpM w lo ob r) (hb : Below w.heap.size w w') : RpM w' lo ob r := by
  obtain ⟨⟨h1, h2⟩, vt, vo, hr, h⟩ := h
  refine ⟨⟨h1, Nat.le_trans h2 hb.size⟩, vt, vo, hr.kept hb, ?_⟩
  rcases h with ⟨hop, qs, ps, hC⟩ | ⟨hop, hos, N, qs, q, ts, t, hts, hO⟩
  · exact .inl ⟨hop, qs, ps, hC.below hb⟩
  · exact .inr ⟨hop, hos, N, qs, q, ts, t, hts, hO.below hb⟩
/-- What is so far right, piece for piece. -/
def SofR (q : List (List UInt8)) (k : Nat) (r : Rd) : Prop := parseSR q 0 rd0 = parseSR (q.drop k) k r ∧ r.sy.ts.length ≤ k ∧ r.sy.os.length ≤ k ∧ ∀ t ∈ r.sy.ts, t.code.length ≤ k
theorem drop_cons9 {α : Type} {q : List α} {k : Nat} {x : α} (h : q[k]? = some x) : q.drop k = x :: q.drop (k + 1) := by
  have hk := get_lt h
  rw [List.drop_eq_getElem_cons hk]
  have : q[k] = x := by rw [List.getElem?_eq_getElem hk] at h; exact Option.some.inj h
  rw [this]
theorem drop_more {α : Type} {q : List α} {k : Nat} (h : k + 1 < q.length) : q.drop (k + 1) ≠ [] := fun e => by
  have := congrArg List.length e
  rw [List.length_drop, List.length_nil] at this
  omega
theorem SofR.more {q : List (List UInt8)} {k : Nat} {r r' : Rd} {x : List UInt8} (h : SofR q k r) (hx : q[k]? = some x) (hk : k + 1 < q.length) (hs : step r x = some r') : SofR q (k + 1) r' := by
  refine ⟨?_, step_bd hs h.2⟩
  rw [h.1, drop_cons9 hx]
  rw [parseSR, if_neg (drop_more hk), hs]
theorem SofR.bad {q : List (List UInt8)} {k : Nat} {r : Rd} {x : List UInt8} (h : SofR q k r) (hx : q[k]? = some x) (hk : k + 1 < q.length) (hs : step r x = none) : parseSR q 0 rd0 = ⟨Sy.none, k + 1, 4⟩ := by
  rw [h.1, drop_cons9 hx]
  rw [parseSR, if_neg (drop_more hk), hs]
theorem SofR.last {q : List (List UInt8)} {k : Nat} {r : Rd} {x : List UInt8} (h : SofR q k r) (hx : q[k]? = some x) (hk : k + 1 = q.length) : parseSR q 0 rd0 = if x = [] then (if r.op = true then ⟨Sy.none, k, 2⟩ else ⟨r.sy, 0, 0⟩) else ⟨Sy.none, k + 1, 2⟩ := by
  rw [h.1, drop_cons9 hx, parseSR, if_pos (List.drop_eq_nil_of_le (by omega))]
theorem res_rparse9 (tmps : Array Value) (w : World) {a : Nat} {v1 v2 : Value} {x y : Int} (ha : tmps[2]?.getD undef = .pointer (some ⟨a, 0, none⟩)) (hb : tmps[3]?.getD undef = .int .i64 x) (hc : tmps[4]?.getD undef = .int .i64 y) (hv : RowB w a #[v1, v2] 25) :
    (results Tryz.f11 tmps).run Tryz.prog w = .ok (.tuple #[.agg #[v1, v2], .int .i64 x, .int .i64 y]) w := by
  have h0 := hv.cell 0
  have h1 := hv.cell 1
  simp only [List.getElem?_toArray, List.getElem?_cons_zero, List.getElem?_cons_succ] at h0 h1
  simp [results, ha, hb, hc, h0, h1, go_sem]

end Go.Proofs.YtfgmebjbibbpdaaGreatDoor

namespace Go.Proofs.YtfgmebjbibbpdaaGreatDoor
open Go.RowKit
attribute [local go_sem] Oper.semAt_some

set_option maxRecDepth 100000 in
set_option maxHeartbeats 40000000 in
theorem rparse9_any (s : ByteArray) (w : World) (hs : s.size ≤ 65536) (hlines : ∀ x ∈ pcs 10 s.data.toList, x.length ≤ 3000) :
    Calls Tryz.prog 11 #[.string s] w (ParR s.data.toList w) := by
  obtain ⟨l, hl⟩ : ∃ l, s.data.toList = l := ⟨_, rfl⟩
  have hlen : l.length = s.size := by rw [← hl]; exact Array.length_toList
  have hsp := fun W => rsplit_cells s 10 10 W rfl (by omega)
  rw [hl] at hlines hsp ⊢
  unfold ParR
  rw [← parseSR_S]
  have hne := pcs_ne 10 l
  have hpl := pcs_len 10 l
  obtain ⟨q, hq⟩ : ∃ q, pcs 10 l = q := ⟨_, rfl⟩
  rw [hq] at hlines hsp hne hpl ⊢
  obtain ⟨Q, hQ⟩ : ∃ x, q.length = x := ⟨_, rfl⟩
  have hn1 : 1 ≤ Q := by rw [← hQ]; exact List.length_pos_iff.2 hne
  have hn2 : Q ≤ 65537 := by omega
  rw [hQ] at hsp
  have HQ := Lib.hid hQ
  have ew : IntKind.i64.wrap ((Q : Int) - 1) = (Q : Int) - 1 := by simp [IntKind.wrap, IntKind.signed, IntKind.bits]; omega
  have hsp' := Lib.hid hsp
  have HLN := Lib.hid hlines
  clear hsp hl hlen hpl hne hq hQ hlines
  go_enter Tryz.func11, Tryz.ntmps11
  go_wp2_with fail
  have hnew := RowB.new w #[.slice none 0 0, .slice none 0 0] 25
  have hb0 := (Below.refl w.heap.size w).alloc (Nat.le_refl _) (.cells #[.slice none 0 0, .slice none 0 0] 25)
  obtain ⟨w0, hw0⟩ : ∃ x, w.alloc (.cells #[.slice none 0 0, .slice none 0 0] 25) = x := ⟨_, rfl⟩
  rw [hw0] at hnew hb0
  rw [hw0]
  obtain ⟨n, hn⟩ : ∃ n, w.heap.size = n := ⟨_, rfl⟩
  rw [hn] at hnew hb0 ⊢
  refine (hsp'.out _).mono ?_
  rintro e w1 ⟨lb, cp, rfl, hc1, ⟨hcp, hcm⟩, hb1⟩
  have hx1 := hnew.kept hb1
  have hB1 := hb0.trans (hb1.mono (by have := hb0.size; omega))
  have hlb1 : lb < w1.heap.size := by
    obtain ⟨y0, hy0⟩ := get_some (show 0 < q.length by rw [HQ.out]; omega)
    exact cell_lt (hc1 0 y0 hy0)
  clear hnew hb0 hw0 hb1 hsp'
  go_wp2_with fail
  have hr2 := RowB.new w1 #[.slice none 0 0, .slice none 0 0] 25
  have hb2 := (Below.refl w1.heap.size w1).alloc (Nat.le_refl _) (.cells #[.slice none 0 0, .slice none 0 0] 25)
  obtain ⟨w2, hw2⟩ : ∃ x, w1.alloc (.cells #[.slice none 0 0, .slice none 0 0] 25) = x := ⟨_, rfl⟩
  obtain ⟨ob, hob⟩ : ∃ x, w1.heap.size = x := ⟨_, rfl⟩
  have hs2 : w2.heap.size = ob + 1 := by rw [← hw2, World.size_alloc, hob]
  rw [hw2, hob] at hr2
  rw [hw2] at hb2 ⊢
  rw [hob] at hb2 hlb1 ⊢
  have hx2 := Lib.hid (hx1.below hb2 (by have := hx1.lt; omega))
  have hnob : n < ob := by have := hx1.lt; omega
  have hB2 := Lib.hid (hB1.trans (hb2.mono (Nat.le_of_lt hnob)))
  have HC2 := Lib.hid (show ∀ (j : Nat) x, q[j]? = some x → w2.cell? ⟨lb, j, none⟩ = some (.string ⟨x.toArray⟩) from fun j x hj => (hb2.cell (p := ⟨lb, j, none⟩) hlb1).trans (hc1 j x hj))
  have hP0 : RpM w2 (ob + 1) ob rd0 := ⟨⟨by omega, by omega⟩, _, _, hr2, .inl ⟨rfl, [], [], ⟨Own.nil _ _, Own.nil _ _, AllP.nil _, AllP.nil _⟩⟩⟩
  clear hx1 hB1 hb2 hw2 hob hr2 hc1
  go_loopw [7, 8] (fun ov kv wr => ∃ (k : Nat) (r : Rd), k + 1 ≤ Q ∧ kv = .int .i64 k ∧ ov = .bool r.op ∧ RpM wr (ob + 1) ob r ∧ SofR q k r ∧ FrR (ob + 1) ob w2 wr) (fun _ kv _ => Q - (intOf kv).toNat)
  case atStart => exact ⟨0, rd0, hn1, rfl, rfl, hP0, ⟨by rw [List.drop_zero], Nat.le_refl _, Nat.le_refl _, fun t h => by cases h⟩, ⟨fun _ _ _ => rfl, KeepsOthers.refl _, Below.refl _ _⟩⟩
  case round =>
    obtain ⟨k, r, hk, rfl, rfl, hrp, hso, hfr⟩ := hrel
    obtain ⟨x, hx⟩ := get_some (show k < q.length by rw [HQ.out]; omega)
    have hx3 := HLN.out x (List.mem_of_getElem? hx)
    have hkeep : ∀ (b j : Nat), b < ob → wr.cell? ⟨b, j, none⟩ = w2.cell? ⟨b, j, none⟩ := fun b j hb => World.cell?_of_block (a := ⟨b, j, none⟩) (hfr.low b (by omega) (by omega))
    have hcx : wr.cell? ⟨lb, k, none⟩ = some (.string ⟨x.toArray⟩) := (hkeep lb k hlb1).trans (HC2.out k x hx)
    have hxn : RowB wr n #[.slice none 0 0, .slice none 0 0] 25 := (hfr.low n (by omega) (by omega)).trans hx2.out
    have hBn := hB2.out.trans (hfr.bel.mono (Nat.le_of_lt hnob))
    have k0 : (0 : Int) ≤ (k : Int) := by omega
    have k1 : (k : Int) < (cp : Int) := by omega
    have k2 : (k : Int) < (Q : Int) := by omega
    have k3 : k < Q := by omega
    have ek : IntKind.i64.wrap ((k : Int) + 1) = (k : Int) + 1 := by simp [IntKind.wrap, IntKind.signed, IntKind.bits]; omega
    by_cases hlt : k + 1 < Q
    · have t1 : decide ((k : Int) < (Q : Int) - 1) = true := by rw [decide_eq_true_iff]; omega
      have hltq : k + 1 < q.length := by rw [HQ.out]; exact hlt
      have HRP := Lib.hid hrp
      have HSO := Lib.hid hso
      have HFR := Lib.hid hfr
      have HXq := Lib.hid hx
      have hxs : x.length ≤ 3000 := hx3
      have hrd := fun W => aread9_any ⟨x.toArray⟩ W (by simp [ByteArray.size]; omega)
      have hhd := fun W => rhd9_any ⟨x.toArray⟩ W (by simp [ByteArray.size]; omega)
      have hol := fun W => rob9_any ⟨x.toArray⟩ W (by simp [ByteArray.size]; omega)
      rw [show (⟨x.toArray⟩ : ByteArray).data.toList = x from rfl] at hrd hhd hol
      unfold RHeadR at hhd
      unfold RObjR at hol
      obtain ⟨X, hX⟩ : ∃ X, (⟨x.toArray⟩ : ByteArray) = X := ⟨_, rfl⟩
      have hXt : X.toList = x := by rw [← hX, ByteArray.toList_eq]
      rw [hX] at hcx hrd hhd hol
      have HXT := Lib.hid hXt
      obtain ⟨ev, hev⟩ : ∃ e, readX x = e := ⟨_, rfl⟩
      obtain ⟨b1, hb1⟩ : ∃ b, readOk x = b := ⟨_, rfl⟩
      obtain ⟨b2, hb2⟩ : ∃ b, (readTG x).isSome = b := ⟨_, rfl⟩
      obtain ⟨b3, hb3⟩ : ∃ b, (readOG x).isSome = b := ⟨_, rfl⟩
      rw [hev, hb1] at hrd
      rw [hb2] at hhd
      rw [hb3] at hol
      obtain ⟨eo, ea, eb, ec, en⟩ := ev
      unfold insV at hrd
      simp only at hrd
      have HRd := Lib.hid hrd
      have HHd := Lib.hid hhd
      have HOl := Lib.hid hol
      have HEV := Lib.hid (And.intro hev (And.intro hb1 (And.intro hb2 hb3)))
      obtain ⟨rop, hrop⟩ : ∃ b, r.op = b := ⟨_, rfl⟩
      rw [hrop]
      have HOP := Lib.hid hrop
      have hlbw : lb < wr.heap.size := cell_lt hcx
      have HXN := Lib.hid hxn
      have HBN := Lib.hid hBn
      have hnw : n < wr.heap.size := hxn.lt
      clear hX hXt hrp hso hfr hkeep hx3 hx hev hb1 hb2 hb3 hrd hhd hol hrop hxn hBn
      go_wp2_with fail
      refine (HRd.out wr).mono ?_
      rintro e w3 ⟨rfl, hb3⟩
      have hcx3 := (hb3.cell (p := ⟨lb, k, none⟩) hlbw).trans hcx
      have hlb3 : lb < w3.heap.size := cell_lt hcx3
      clear hcx
      go_wp2_with fail
      have ha4 := (Below.refl w3.heap.size w3).alloc (Nat.le_refl _) (.cells #[.int .i64 eo, .int .i64 ea, .int .i64 eb, .int .i64 ec, .int .u32 en] tyI)
      have hr4 := RowB.new w3 #[.int .i64 eo, .int .i64 ea, .int .i64 eb, .int .i64 ec, .int .u32 en] tyI
      obtain ⟨w4, hw4⟩ : ∃ x, w3.alloc (.cells #[.int .i64 eo, .int .i64 ea, .int .i64 eb, .int .i64 ec, .int .u32 en] 73) = x := ⟨_, rfl⟩
      obtain ⟨bx, hbx⟩ : ∃ x, w3.heap.size = x := ⟨_, rfl⟩
      have hw4' : w3.alloc (.cells #[.int .i64 eo, .int .i64 ea, .int .i64 eb, .int .i64 ec, .int .u32 en] tyI) = w4 := hw4
      rw [hw4', hbx] at hr4
      rw [hw4'] at ha4
      rw [hw4, hbx]
      have hb4 := hb3.trans (ha4.mono hb3.size)
      have hcx4 := (ha4.cell (p := ⟨lb, k, none⟩) hlb3).trans hcx3
      have HR4 := Lib.hid hr4
      have HB4 := Lib.hid hb4
      clear hcx3 hlb3 hb3 ha4 hr4 hb4 hw4 hw4' hbx
      refine (HHd.out w4).mono ?_
      rintro e w5 ⟨td, tr, te, tf, tl, tw, rfl, htg, hb5⟩
      have HTG := Lib.hid htg
      unfold tkR
      have hcx5 := (hb5.cell (p := ⟨lb, k, none⟩) (cell_lt hcx4)).trans hcx4
      have hlb5 : lb < w5.heap.size := cell_lt hcx5
      clear hcx4 htg
      go_wp2_with fail
      have ha6 := (Below.refl w5.heap.size w5).alloc (Nat.le_refl _) (.cells #[.int .i64 td, .int .i64 tr, .int .i64 te, .int .i64 tf, .int .i64 tl, .int .i64 tw, .slice none 0 0] tyT)
      have hr6 := RowB.new w5 #[.int .i64 td, .int .i64 tr, .int .i64 te, .int .i64 tf, .int .i64 tl, .int .i64 tw, .slice none 0 0] tyT
      obtain ⟨w6, hw6⟩ : ∃ x, w5.alloc (.cells #[.int .i64 td, .int .i64 tr, .int .i64 te, .int .i64 tf, .int .i64 tl, .int .i64 tw, .slice none 0 0] 46) = x := ⟨_, rfl⟩
      obtain ⟨by6, hby⟩ : ∃ x, w5.heap.size = x := ⟨_, rfl⟩
      have hw6' : w5.alloc (.cells #[.int .i64 td, .int .i64 tr, .int .i64 te, .int .i64 tf, .int .i64 tl, .int .i64 tw, .slice none 0 0] tyT) = w6 := hw6
      rw [hw6', hby] at hr6
      rw [hw6'] at ha6
      rw [hw6, hby]
      have hb6 := hb5.trans (ha6.mono hb5.size)
      have hcx6 := (ha6.cell (p := ⟨lb, k, none⟩) hlb5).trans hcx5
      have HR6 := Lib.hid hr6
      have HR46 := Lib.hid (HR4.out.kept hb6)
      have HB6 := Lib.hid (HB4.out.trans (hb6.mono HB4.out.size))
      clear hcx5 hlb5 hb5 ha6 hr6 hb6 HR4 HB4 hw6 hw6' hby
      refine (HOl.out w6).mono ?_
      rintro e w7 ⟨kd, wd, sl, cp9, st, I, ni, ci, wq, R, nr, cr, rfl, hog, hb7⟩
      have HOG := Lib.hid hog
      unfold ojR
      have ha8 := (Below.refl w7.heap.size w7).alloc (Nat.le_refl _) (.cells #[.int .i64 kd, .int .i64 wd, .int .i64 sl, .int .i64 cp9, .int .u32 st, .slice I ni ci, .int .i64 wq, .slice R nr cr] tyO)
      have hr8 := RowB.new w7 #[.int .i64 kd, .int .i64 wd, .int .i64 sl, .int .i64 cp9, .int .u32 st, .slice I ni ci, .int .i64 wq, .slice R nr cr] tyO
      obtain ⟨w8, hw8⟩ : ∃ x, w7.alloc (.cells #[.int .i64 kd, .int .i64 wd, .int .i64 sl, .int .i64 cp9, .int .u32 st, .slice I ni ci, .int .i64 wq, .slice R nr cr] 42) = x := ⟨_, rfl⟩
      obtain ⟨bz, hbz⟩ : ∃ x, w7.heap.size = x := ⟨_, rfl⟩
      have hw8' : w7.alloc (.cells #[.int .i64 kd, .int .i64 wd, .int .i64 sl, .int .i64 cp9, .int .u32 st, .slice I ni ci, .int .i64 wq, .slice R nr cr] tyO) = w8 := hw8
      rw [hw8', hbz] at hr8
      rw [hw8'] at ha8
      have hb8 := hb7.trans (ha8.mono hb7.size)
      have hcx7 := (hb7.cell (p := ⟨lb, k, none⟩) (cell_lt hcx6)).trans hcx6
      have hlb7 : lb < w7.heap.size := cell_lt hcx7
      have HR8 := Lib.hid hr8
      have HR67 := Lib.hid (HR6.out.kept hb7)
      have HR68 := Lib.hid (HR6.out.kept hb8)
      have HR48 := Lib.hid (HR46.out.kept hb8)
      have HA8 := Lib.hid ha8
      have HW8 := Lib.hid hw8
      have HBZ7 := Lib.hid hbz
      have hlo6 : ob + 1 ≤ w6.heap.size := Nat.le_trans HRP.out.1.2 HB6.out.size
      have HB7 := Lib.hid (HB6.out.trans (hb7.mono HB6.out.size))
      have HB8 := Lib.hid (HB6.out.trans (hb8.mono HB6.out.size))
      clear hcx6 hb7 ha8 hr8 hb8 hog HR6 HR46 hw8 hw8' hbz
      have HP7 := Lib.hid (HRP.out.below HB7.out)
      have HF8 := Lib.hid (HFR.out.trans (FrR.below (lo := ob + 1) (rb := ob) HB8.out HRP.out.1.2 (Nat.le_succ ob)))
      have hx7 := HXN.out.kept HB7.out
      have hB7 := HBN.out.trans (HB7.out.mono (Nat.le_of_lt hnw))
      have hp2 : ob + 1 ≤ w8.heap.size := Nat.le_trans HRP.out.1.2 HB8.out.size
      obtain ⟨⟨hp1, hp27⟩, vt, vo, hro7, hcl⟩ := HP7.out
      have hro := hro7.kept HA8.out
      have hob7 : ob < w7.heap.size := hro7.lt
      have hn7 : n < w7.heap.size := hx7.lt
      rcases hcl with ⟨hop, qs, ps, hC7⟩ | ⟨hop, hos, N9, qs, q9, ts, t9, hts, hO7⟩
      · have hrf : rop = false := HOP.out.symm.trans hop
        subst hrf
        have hstep : step r x = match readTG x with | some t => if r.sy.os = [] then some ⟨⟨r.sy.ts ++ [t], []⟩, true⟩ else none | none => (match readOG x with | some o => some ⟨⟨r.sy.ts, r.sy.os ++ [o]⟩, false⟩ | none => none) := by
          unfold step
          rw [hop, if_neg (by decide)]
          rfl
        obtain ⟨Ao, co, rfl⟩ := own_slice hC7.ho
        have hC := hC7.below HA8.out
        have HC := Lib.hid hC
        have HCL := Lib.hid (show RcC (w7.alloc (.cells #[.int .i64 kd, .int .i64 wd, .int .i64 sl, .int .i64 cp9, .int .u32 st, .slice I ni ci, .int .i64 wq, .slice R nr cr] 42)) (ob + 1) vt (.slice Ao ps.length co) qs ps r.sy by rw [HW8.out]; exact hC)
        have hp2L : ob + 1 ≤ (w7.alloc (.cells #[.int .i64 kd, .int .i64 wd, .int .i64 sl, .int .i64 cp9, .int .u32 st, .slice I ni ci, .int .i64 wq, .slice R nr cr] 42)).heap.size := by rw [HW8.out]; exact hp2
        have HRO := Lib.hid hro
        have hpsl := hC.hos.1
        have oc0 := hro7.cell 0
        have oc1 := hro7.cell 1
        simp only [List.getElem?_toArray, List.getElem?_cons_zero, List.getElem?_cons_succ] at oc0 oc1
        have oc0f := hro7.frozen 0
        have oc1f := hro7.frozen 1
        have h12 := HSO.out.2
        clear hC hC7 hro hro7
        rcases hh : readTG x with _ | t9
        · have hb2f : b2 = false := by rw [← HEV.out.2.2.1, hh]; rfl
          subst hb2f
          rcases ho : readOG x with _ | o9
          · have hb3f : b3 = false := by rw [← HEV.out.2.2.2, ho]; rfl
            subst hb3f
            have HRES := Lib.hid (show parseSR q 0 rd0 = ⟨Sy.none, (k : Int) + 1, 4⟩ from HSO.out.bad HXq.out hltq (by rw [hstep, hh, ho]))
            clear hstep hh ho oc0 oc1
            have hxz := hx7
            have zc0 := hxz.cell 0
            have zc1 := hxz.cell 1
            simp only [List.getElem?_toArray, List.getElem?_cons_zero, List.getElem?_cons_succ] at zc0 zc1
            have zc0f := hxz.frozen 0
            have zc1f := hxz.frozen 1
            have HXZ := Lib.hid hxz
            have HBZ := Lib.hid hB7
            clear hxz
            go_wp2_with fail
            have hx10 := (HXZ.out.set 0 (.slice none 0 0)).set 1 (.slice none 0 0)
            have hb10 := below_set1 (below_set1 HBZ.out n 0 (Nat.le_refl _) (.slice none 0 0)) n 1 (Nat.le_refl _) (.slice none 0 0)
            have hx11 := hx10.kept ((Below.refl _ _).alloc (Nat.le_refl _) (.cells #[.int .i64 kd, .int .i64 wd, .int .i64 sl, .int .i64 cp9, .int .u32 st, .slice I ni ci, .int .i64 wq, .slice R nr cr] 42))
            skip
            refine bodyPost_ret (res_rparse9 _ _ rfl rfl rfl hx11) rfl ?_
            exact ⟨none, 0, none, 0, (by rw [HRES.out]; rfl), (by rw [HRES.out]; intro k t h; cases h), (by rw [HRES.out]; intro k t h; cases h), by rw [hn]; exact hb10.alloc (by rw [size_set, size_set]; exact Nat.le_of_lt hn7) _⟩
          · have hb3f : b3 = true := by rw [← HEV.out.2.2.2, ho]; rfl
            subst hb3f
            have hst := HSO.out.more (r' := ⟨⟨r.sy.ts, r.sy.os ++ [o9]⟩, false⟩) HXq.out hltq (by rw [hstep, hh, ho])
            have HST := Lib.hid hst
            obtain ⟨e1, e2, e3, e4, e5, e6, e7, e8, hI, hR⟩ := HOG.out o9 ho
            have hbb := readOG_bd ho
            have hqz := Lib.hid (show OqOk w8 (ob + 1) w8.heap.size ⟨kd, wd, sl, cp9, st, I, ni, ci, wq, R, nr, cr⟩ o9 from ⟨⟨e1.symm, e2.symm, e3.symm, e4.symm, e5.symm, e6.symm⟩, e7.symm, hI.1.bd.2, (hI.1.slT hlo6).keep (KeepT.below HA8.out _) HA8.out.size, hI.2, e8.symm, hR.bd.2, (hR.slT hlo6).keep (KeepT.below HA8.out _) HA8.out.size, hbb.1, hbb.2⟩)
            have hpb : ps.length ≤ 65537 := by rw [hpsl]; omega
            clear hstep hh ho hst e1 e2 e3 e4 e5 e6 e7 e8 hI hR hbb hpsl h12
            go_wp2_with (at_builtin; refine wpList_app3 rfl _ _ 23 rfl ojTy (ob + 1) HCL.out.ho rfl (by rw [World.size_alloc]; rfl) rfl rfl (by unfold maxLen; omega) (by omega) hp2L ?_; intro v' w9 hown9 hb9 hblk9; rw [HW8.out] at hb9 hblk9; have hr9 := HRO.out.below hb9 (Nat.lt_succ_self ob); have d0 := hr9.cell 0; have d1 := hr9.cell 1; simp only [List.getElem?_toArray, List.getElem?_cons_zero, List.getElem?_cons_succ] at d0 d1; have df1 := hr9.frozen 1; obtain ⟨M, A', c9, rfl⟩ : ∃ M A' c', v' = .slice A' M c' := (by obtain ⟨A', c', h⟩ := own_slice hown9; exact ⟨_, A', c', h⟩); have HC9 := Lib.hid (RcC.obj HC.out hqz.out (Own.app hown9 rfl) hblk9 hb9.size); have HR9 := Lib.hid (hr9.set 1 (.slice A' M c9)); have HF9 := Lib.hid ((HF8.out.trans (FrR.app HC.out.ho hb9 hblk9 (Nat.le_refl _) (Nat.le_succ ob))).trans (FrR.set 1 (.slice A' M c9) (Or.inl rfl) (Nat.le_succ ob))); have hs9 := hb9.size; clear hown9 hb9 hblk9 hr9 oc0 oc1)
            go_roundw
            case rel => exact ⟨k + 1, ⟨⟨r.sy.ts, r.sy.os ++ [o9]⟩, false⟩, by omega, by go_num, rfl, ⟨⟨by omega, by rw [size_set]; omega⟩, vt, _, HR9.out, .inl ⟨rfl, qs, _, HC9.out.set (Nat.lt_succ_self ob) 1 _⟩⟩, HST.out, HF9.out⟩
            case measure => simp [intOf]; omega
        · have hb2f : b2 = true := by rw [← HEV.out.2.2.1, hh]; rfl
          subst hb2f
          by_cases hoz : r.sy.os = []
          · have hst := HSO.out.more (r' := ⟨⟨r.sy.ts ++ [t9], []⟩, true⟩) HXq.out hltq (by rw [hstep, hh]; exact if_pos hoz)
            have HST := Lib.hid hst
            have hps0 : ps.length = 0 := by rw [hpsl, hoz]; rfl
            have q0 : ((ps.length : Int) == 0) = true := by rw [hps0]; rfl
            have q1 : (ps.length == 0) = true := by rw [hps0]; rfl
            have htt := HTG.out t9 hh
            subst htt
            have htr := readTG_some hh
            have hbd : ∀ z ∈ (⟨td, tr, te, tf, tl, tw, []⟩ : Tk).kd :: (⟨td, tr, te, tf, tl, tw, []⟩ : Tk).five, i64B z := fun z hz => by
              have h1 := htr.1
              have h2 : td = 1 ∨ td = 2 := head_kd h1
              unfold headB1 at h1
              rw [Bool.and_eq_true] at h1
              rcases List.mem_cons.1 hz with e | hz
              · have e2 : z = td := e; unfold i64B; omega
              · have := five_top h1.2 z hz; unfold i64B; omega
            have HBD := Lib.hid hbd
            have HOZ := Lib.hid hoz
            have hqb : qs.length ≤ 65537 := by rw [HC.out.hts.1]; omega
            have hby7 := HR67.out.lt
            have z0 := HR67.out.cell 0
            have z1 := HR67.out.cell 1
            have z2 := HR67.out.cell 2
            have z3 := HR67.out.cell 3
            have z4 := HR67.out.cell 4
            have z5 := HR67.out.cell 5
            have z6 := HR67.out.cell 6
            simp only [List.getElem?_toArray, List.getElem?_cons_zero, List.getElem?_cons_succ] at z0 z1 z2 z3 z4 z5 z6
            clear hstep hh hst hps0 htr hbd hoz hpsl h12
            go_wp2_with (at_builtin; refine wpList_app3 rfl _ _ 22 rfl tkTy (ob + 1) HCL.out.ht rfl (by rw [World.size_alloc]; rfl) rfl rfl (by unfold maxLen; omega) (by omega) hp2L ?_; intro v' w9 hown9 hb9 hblk9; rw [HW8.out] at hb9 hblk9; have hr9 := HRO.out.below hb9 (Nat.lt_succ_self ob); have d0 := hr9.cell 0; have d1 := hr9.cell 1; simp only [List.getElem?_toArray, List.getElem?_cons_zero, List.getElem?_cons_succ] at d0 d1; have df0 := hr9.frozen 0; obtain ⟨M, A', c9, rfl⟩ : ∃ M A' c', v' = .slice A' M c' := (by obtain ⟨A', c', h⟩ := own_slice hown9; exact ⟨_, A', c', h⟩); have HC9 := Lib.hid (RcC.task (t := ⟨td, tr, te, tf, tl, tw, []⟩) HC.out hp2 HOZ.out rfl HBD.out (Own.app hown9 rfl) hblk9 hb9.size); have HR9 := Lib.hid (hr9.set 0 (.slice A' M c9)); have HF9 := Lib.hid ((HF8.out.trans (FrR.app HC.out.ht hb9 hblk9 (Nat.le_refl _) (Nat.le_succ ob))).trans (FrR.set 0 (.slice A' M c9) (Or.inl rfl) (Nat.le_succ ob))); have hs9 := hb9.size; clear hown9 hb9 hblk9 hr9 oc0 oc1)
            go_roundw
            case rel => exact ⟨k + 1, ⟨⟨r.sy.ts ++ [⟨td, tr, te, tf, tl, tw, []⟩], []⟩, true⟩, by omega, by go_num, rfl, ⟨⟨by omega, by rw [size_set]; omega⟩, _, _, HR9.out, .inr ⟨rfl, rfl, _, qs, _, r.sy.ts, _, rfl, HC9.out.set (Nat.lt_succ_self ob) 0 _⟩⟩, HST.out, HF9.out⟩
            case measure => simp [intOf]; omega
          · have hb3f : b3 = false := by rw [← HEV.out.2.2.2, readT_O hh]; rfl
            subst hb3f
            have HRES := Lib.hid (show parseSR q 0 rd0 = ⟨Sy.none, (k : Int) + 1, 4⟩ from HSO.out.bad HXq.out hltq (by rw [hstep, hh]; exact if_neg hoz))
            have q0 : ((ps.length : Int) == 0) = false := by rw [hpsl]; exact beq_eq_false_iff_ne.2 (fun e => hoz (List.eq_nil_of_length_eq_zero (by omega)))
            have q1 : (ps.length == 0) = false := by rw [hpsl]; exact beq_eq_false_iff_ne.2 (fun e => hoz (List.eq_nil_of_length_eq_zero e))
            clear hstep hh hoz oc0 hpsl
            have hxz := hx7
            have zc0 := hxz.cell 0
            have zc1 := hxz.cell 1
            simp only [List.getElem?_toArray, List.getElem?_cons_zero, List.getElem?_cons_succ] at zc0 zc1
            have zc0f := hxz.frozen 0
            have zc1f := hxz.frozen 1
            have HXZ := Lib.hid hxz
            have HBZ := Lib.hid hB7
            clear hxz
            go_wp2_with fail
            have hx10 := (HXZ.out.set 0 (.slice none 0 0)).set 1 (.slice none 0 0)
            have hb10 := below_set1 (below_set1 HBZ.out n 0 (Nat.le_refl _) (.slice none 0 0)) n 1 (Nat.le_refl _) (.slice none 0 0)
            have hx11 := hx10.kept ((Below.refl _ _).alloc (Nat.le_refl _) (.cells #[.int .i64 kd, .int .i64 wd, .int .i64 sl, .int .i64 cp9, .int .u32 st, .slice I ni ci, .int .i64 wq, .slice R nr cr] 42))
            skip
            refine bodyPost_ret (res_rparse9 _ _ rfl rfl rfl hx11) rfl ?_
            exact ⟨none, 0, none, 0, (by rw [HRES.out]; rfl), (by rw [HRES.out]; intro k t h; cases h), (by rw [HRES.out]; intro k t h; cases h), by rw [hn]; exact hb10.alloc (by rw [size_set, size_set]; exact Nat.le_of_lt hn7) _⟩
      · have hrf : rop = true := HOP.out.symm.trans hop
        subst hrf
        have hO := hO7.below HA8.out
        have HO := Lib.hid hO
        have HRO := Lib.hid hro
        obtain ⟨tb, ct, hvt, htb, -, -, hct⟩ := row_cells hO.ht (List.getElem?_concat_length (l := qs) (a := q9))
        have HTB := Lib.hid htb
        rw [List.length_append, List.length_singleton] at hvt hct
        obtain ⟨m, hm⟩ : ∃ x, qs.length = x := ⟨_, rfl⟩
        rw [hm] at hvt hct
        have HM := Lib.hid hm
        subst hvt
        have h12 := HSO.out.2
        have oc0 := hro7.cell 0
        have oc1 := hro7.cell 1
        simp only [List.getElem?_toArray, List.getElem?_cons_zero, List.getElem?_cons_succ] at oc0 oc1
        have oc0f := hro7.frozen 0
        have oc1f := hro7.frozen 1
        clear hO hO7 hro hro7 htb hm
        by_cases he : x = endW3
        · have tq : (X.toList == [101, 110, 100]) = true := by rw [HXT.out, he]; rfl
          have hst := HSO.out.more (r' := ⟨r.sy, false⟩) HXq.out hltq (by unfold step; rw [hop, if_pos rfl, if_pos he])
          have HST := Lib.hid hst
          have HTS := Lib.hid hts
          have HOS := Lib.hid hos
          clear he hst hts hos h12
          go_wp2_with fail
          try rw [HW8.out]
          go_roundw
          case rel =>
            refine ⟨k + 1, ⟨r.sy, false⟩, by omega, by go_num, rfl, ⟨⟨by omega, hp2⟩, _, vo, HRO.out, .inl ⟨rfl, qs ++ [q9], [], ?_⟩⟩, HST.out, HF8.out⟩
            have e1 : r.sy = ⟨ts ++ [t9], []⟩ := by rw [← HTS.out, ← HOS.out]
            show RcC w8 (ob + 1) _ vo (qs ++ [q9]) [] r.sy
            rw [e1]
            exact HO.out.close
          case measure => simp [intOf]; omega
        · have tq : (X.toList == [101, 110, 100]) = false := by rw [HXT.out, beq_eq_false_iff_ne]; exact he
          rcases read_cases x with ⟨ev, h1, h2, h3, h4⟩ | ⟨h1, h3, h4⟩
          · have hb1f : b1 = true := by rw [← HEV.out.2.1, h3]
            subst hb1f
            have hevv : ev = ⟨eo, ea, eb, ec, en⟩ := h2.symm.trans HEV.out.1
            subst hevv
            have hst := HSO.out.more (r' := ⟨⟨addCode r.sy.ts ⟨eo, ea, eb, ec, en⟩, r.sy.os⟩, true⟩) HXq.out hltq (by unfold step; rw [hop, if_pos rfl, if_neg he, h1])
            have HST := Lib.hid hst
            have HTS := Lib.hid hts
            have HOS := Lib.hid hos
            have HOK := Lib.hid h4.2
            have hql : m ≤ 65537 := by rw [← HM.out, HO.out.hts.1]; have := h12.1; rw [hts, List.length_append] at this; omega
            have hcl9 : t9.code.length ≤ 65537 := by have := h12.2.2 t9 (by rw [hts]; simp); omega
            have e1 : IntKind.i64.wrap (m : Int) = (m : Int) := by simp [IntKind.wrap, IntKind.signed, IntKind.bits]; omega
            have e3 : (m : Int) < (m : Int) + 1 := by omega
            have e4 : (0 : Int) ≤ (m : Int) := by omega
            have e2 : m < m + 1 := Nat.lt_succ_self m
            clear h1 h2 h3 h4 he hst hts hos h12
            go_wp2_with fail
            rw [HW8.out, HBZ7.out]
            have hdr := (Below.refl w8.heap.size w8).drew
            have hSd : (fun w' : World => w'.cell? ⟨ob, 0, none⟩ = some (.slice (some ⟨tb, 0, none⟩) (m + 1) ct)) w8.drew := (HRO.out.cell 0).trans rfl
            have HOz := Lib.hid (HO.out.below hdr)
            have HRz := Lib.hid (HRO.out.kept hdr)
            have hiz := HR48.out.kept hdr
            have HFz := Lib.hid (HF8.out.trans (FrR.below (lo := ob + 1) (rb := ob) hdr hp2 (Nat.le_succ ob)))
            refine wp_region_held_drew (S := (fun w' : World => w'.cell? ⟨ob, 0, none⟩ = some (.slice (some ⟨tb, 0, none⟩) (m + 1) ct))) (by kernel_rfl) hSd (fun hHeld => ?_)
            generalize w8.drew = wz at HOz HRz hiz HFz hSd hHeld ⊢
            have hHeld : (fun w' : World => w'.cell? ⟨ob, 0, none⟩ = some (.slice (some ⟨tb, 0, none⟩) (m + 1) ct)) wz := hHeld
            have cz : wz.cell? ⟨tb, m * 7 + 6, none⟩ = some (.slice q9.A q9.n q9.c) := (row_cell7 HOz.out.ht HTB.out HM.out).1
            have z0 := hiz.cell 0
            have z1 := hiz.cell 1
            have z2 := hiz.cell 2
            have z3 := hiz.cell 3
            have z4 := hiz.cell 4
            simp only [List.getElem?_toArray, List.getElem?_cons_zero, List.getElem?_cons_succ] at z0 z1 z2 z3 z4
            clear hdr hiz hSd oc0 oc1
            refine tkH 0 ?_
            try first | simp only [pS, List.set] | simp only [pN]
            refine tkH 1 ?_
            try first | simp only [pS, List.set] | simp only [pN]
            refine tkH 2 ?_
            try first | simp only [pS, List.set] | simp only [pN]
            refine tkH 3 ?_
            try first | simp only [pS, List.set] | simp only [pN]
            refine tkH 4 ?_
            try first | simp only [pS, List.set] | simp only [pN]
            refine tkH 5 ?_
            try first | simp only [pS, List.set] | simp only [pN]
            refine tkH 6 ?_
            try first | simp only [pS, List.set] | simp only [pN]
            refine tkH 7 ?_
            try first | simp only [pS, List.set] | simp only [pN]
            refine tkH 8 ?_
            try first | simp only [pS, List.set] | simp only [pN]
            refine tkH 9 ?_
            try first | simp only [pS, List.set] | simp only [pN]
            refine tkH 10 ?_
            try first | simp only [pS, List.set] | simp only [pN]
            refine tkH 11 ?_
            try first | simp only [pS, List.set] | simp only [pN]
            refine tkH 12 ?_
            try first | simp only [pS, List.set] | simp only [pN]
            refine tkH 13 ?_
            try first | simp only [pS, List.set] | simp only [pN]
            refine wpAnyH_ready (rs := [14, 15]) (by kernel_rfl) (by simp) ?_
            refine AllReadyH.cons (o := ?_) ?_ (fun K hK => ?_) ?_
            rotate_left
            · (simp only [List.getElem?_toArray, List.getElem?_cons_succ, List.getElem?_cons_zero]; rfl)
            · go_simp
              have hSx := hHeld
              refine hK.out _ _ hSx (fun hHeld => ?_)
              clear hK K
              try first | simp only [pS, List.set] | simp only [pN]
              refine wpAnyH_ready (rs := [15]) (by kernel_rfl) (by simp) ?_
              refine AllReadyH.cons (o := ?_) ?_ (fun K hK => ?_) AllReadyH.nil
              rotate_left
              · (simp only [List.getElem?_toArray, List.getElem?_cons_succ, List.getElem?_cons_zero]; rfl)
              · go_simp
                have hSx := hHeld
                refine hK.out _ _ hSx (fun hHeld => ?_)
                clear hK K
                try first | simp only [pS, List.set] | simp only [pN]
                refine wpAnyH_ready (rs := [16]) (by kernel_rfl) (by simp) ?_
                refine AllReadyH.cons (o := ?_) ?_ (fun K hK => ?_) AllReadyH.nil
                rotate_left
                · (simp only [List.getElem?_toArray, List.getElem?_cons_succ, List.getElem?_cons_zero]; rfl)
                · go_simp
                  have ca : (wz.alloc (.cells #[.int .i64 eo, .int .i64 ea, .int .i64 eb, .int .i64 ec, .int .u32 en] tyI)).cell? ⟨tb, m * 7 + 6, none⟩ = some (.slice q9.A q9.n q9.c) := (World.cell?_alloc_lt wz _ _ (cell_lt cz)).trans cz
                  have hSx : (fun w' : World => w'.cell? ⟨ob, 0, none⟩ = some (.slice (some ⟨tb, 0, none⟩) (m + 1) ct)) (wz.alloc (.cells #[.int .i64 eo, .int .i64 ea, .int .i64 eb, .int .i64 ec, .int .u32 en] tyI)) := (World.cell?_alloc_lt wz _ _ (cell_lt (show wz.cell? ⟨ob, 0, none⟩ = some (.slice (some ⟨tb, 0, none⟩) (m + 1) ct) from hHeld))).trans hHeld
                  clear cz
                  refine hK.out _ _ hSx (fun hHeld => ?_)
                  clear hK K
                  try first | simp only [pS, List.set] | simp only [pN]
                  refine wpAnyH_ready (rs := [17]) (by kernel_rfl) (by simp) ?_
                  refine AllReadyH.cons (o := ?_) ?_ (fun K hK => ?_) AllReadyH.nil
                  rotate_left
                  · (simp only [List.getElem?_toArray, List.getElem?_cons_succ, List.getElem?_cons_zero]; rfl)
                  · refine step_app2 (by rfl) (.tmp 79) (.tmp 81) 44 (by rfl) insTy N9 (HOz.out.hop.code.alloc _) (by rfl) (cells_new' wz [.int .i64 eo, .int .i64 ea, .int .i64 eb, .int .i64 ec, .int .u32 en] _ _ rfl) (by rfl) (by rfl) (by simp [Value.oneCell']) (by unfold maxLen; omega) (by omega) (by rw [World.size_alloc]; exact Nat.le_succ_of_le HOz.out.hN) ?_
                    intro v' w9 hown9 hb9 hblk9 _
                    obtain ⟨M, A', c9, rfl⟩ : ∃ M A' c', v' = .slice A' M c' := (by obtain ⟨A', c', h⟩ := own_slice hown9; exact ⟨_, A', c', h⟩)
                    have hbA := (Below.refl wz.heap.size wz).alloc (Nat.le_refl _) (.cells #[.int .i64 eo, .int .i64 ea, .int .i64 eb, .int .i64 ec, .int .u32 en] tyI)
                    have hblk : ∀ k, k < wz.heap.size → some k ≠ (Value.slice q9.A q9.n q9.c).ownBlock → w9.heap[k]? = wz.heap[k]? := fun k h1 h2 => (hblk9 k (by rw [World.size_alloc]; omega) h2).trans (hbA.block k h1)
                    have hsz9 : wz.heap.size ≤ w9.heap.size := Nat.le_trans hbA.size hb9.size
                    have ht9 := own_keepT HOz.out.ht (KeepT.app (ty := tyT) HOz.out.hop.code (by decide) hblk)
                    have c9x : w9.cell? ⟨tb, m * 7 + 6, none⟩ = some (.slice q9.A q9.n q9.c) := (row_cell7 ht9 HTB.out HM.out).1
                    have f9x : w9.frozen? ⟨tb, m * 7 + 6, none⟩ = false := (row_cell7 ht9 HTB.out HM.out).2
                    have HC9 := Lib.hid (RcO.code HOz.out HTB.out (Own.app hown9 rfl) hblk hsz9 HOK.out)
                    have htl := (ht9.blk HTB.out).1
                    have hr9 : RowB w9 ob #[.slice (some ⟨tb, 0, none⟩) (m + 1) ct, vo] 25 := (hb9.block ob (by have := HOz.out.hlo; omega)).trans ((hbA.block ob HRz.out.lt).trans HRz.out)
                    have HR9 := Lib.hid (hr9.other tb (m * 7 + 6) (.slice A' M c9) (by omega))
                    have HF9 := Lib.hid (((HFz.out.trans (FrR.below (lo := ob + 1) (rb := ob) hbA (by have := HOz.out.hN; have := HOz.out.hlo; omega) (Nat.le_succ ob))).trans (FrR.app (HOz.out.hop.code.alloc (.cells #[.int .i64 eo, .int .i64 ea, .int .i64 eb, .int .i64 ec, .int .u32 en] tyI)) hb9 hblk9 HOz.out.hlo (Nat.le_succ ob))).trans (FrR.set (m * 7 + 6) (.slice A' M c9) (Or.inr htl) (Nat.le_succ ob)))
                    have hSx : (fun w' : World => w'.cell? ⟨ob, 0, none⟩ = some (.slice (some ⟨tb, 0, none⟩) (m + 1) ct)) w9 := (hr9.cell 0).trans rfl
                    have htl2 : tb ≠ ob := by omega
                    clear hbA hblk hsz9 ht9 hown9 hb9 hblk9 hr9 htl
                    refine hK.out _ _ hSx (fun hHeld => ?_)
                    clear hK K
                    try first | simp only [pS, List.set] | simp only [pN]
                    refine tkH 18 ?_
                    try first | simp only [pS, List.set] | simp only [pN]
                    refine tkH 19 ?_
                    try first | simp only [pS, List.set] | simp only [pN]
                    refine wpAnyH_ready (rs := [20]) (by kernel_rfl) (by simp) ?_
                    refine AllReadyH.cons (o := ?_) ?_ (fun K hK => ?_) AllReadyH.nil
                    rotate_left
                    · (simp only [List.getElem?_toArray, List.getElem?_cons_succ, List.getElem?_cons_zero]; rfl)
                    · go_simp
                      have hSx : (fun w' : World => w'.cell? ⟨ob, 0, none⟩ = some (.slice (some ⟨tb, 0, none⟩) (m + 1) ct)) (w9.setCell ⟨tb, m * 7 + 6, none⟩ (.slice A' M c9)) := (World.cell?_setCell_far w9 ⟨tb, m * 7 + 6, none⟩ ⟨ob, 0, none⟩ _ htl2).trans hHeld
                      refine hK.out _ _ hSx (fun hHeld => ?_)
                      clear hK K
                      try first | simp only [pS, List.set] | simp only [pN]
                      refine wpAnyH_done (by kernel_rfl) ?_ _
                      obtain ⟨w10, hw10⟩ : ∃ x, w9.setCell ⟨tb, m * 7 + 6, none⟩ (.slice A' M c9) = x := ⟨_, rfl⟩
                      have hC9 := HC9.out
                      rw [HM.out] at hC9
                      rw [hw10] at hC9 HR9 HF9 ⊢
                      have HC10 := Lib.hid hC9
                      have hs10 : ob + 1 ≤ w10.heap.size := Nat.le_trans hC9.hlo hC9.hN
                      clear hw10 c9x f9x hC9 HC9 hHeld hSx
                      go_wp2_with fail
                      go_roundw
                      case rel => exact ⟨k + 1, ⟨⟨addCode r.sy.ts ⟨eo, ea, eb, ec, en⟩, r.sy.os⟩, true⟩, by omega, by go_num, rfl, ⟨⟨by omega, hs10⟩, _, vo, HR9.out, .inr ⟨rfl, HOS.out, N9, qs, _, ts, t9.snoc ⟨eo, ea, eb, ec, en⟩, by show addCode r.sy.ts _ = _; rw [HTS.out, addCode_snoc], HC10.out⟩⟩, HST.out, HF9.out⟩
                      case measure => simp [intOf]; omega
            · refine AllReadyH.cons (o := ?_) ?_ (fun K hK => ?_) AllReadyH.nil
              rotate_left
              · (simp only [List.getElem?_toArray, List.getElem?_cons_succ, List.getElem?_cons_zero]; rfl)
              · go_simp
                have hSx := hHeld
                refine hK.out _ _ hSx (fun hHeld => ?_)
                clear hK K
                try first | simp only [pS, List.set] | simp only [pN]
                refine wpAnyH_ready (rs := [14, 16]) (by kernel_rfl) (by simp) ?_
                refine AllReadyH.cons (o := ?_) ?_ (fun K hK => ?_) ?_
                rotate_left
                · (simp only [List.getElem?_toArray, List.getElem?_cons_succ, List.getElem?_cons_zero]; rfl)
                · go_simp
                  have hSx := hHeld
                  refine hK.out _ _ hSx (fun hHeld => ?_)
                  clear hK K
                  try first | simp only [pS, List.set] | simp only [pN]
                  refine wpAnyH_ready (rs := [16]) (by kernel_rfl) (by simp) ?_
                  refine AllReadyH.cons (o := ?_) ?_ (fun K hK => ?_) AllReadyH.nil
                  rotate_left
                  · (simp only [List.getElem?_toArray, List.getElem?_cons_succ, List.getElem?_cons_zero]; rfl)
                  · go_simp
                    have ca : (wz.alloc (.cells #[.int .i64 eo, .int .i64 ea, .int .i64 eb, .int .i64 ec, .int .u32 en] tyI)).cell? ⟨tb, m * 7 + 6, none⟩ = some (.slice q9.A q9.n q9.c) := (World.cell?_alloc_lt wz _ _ (cell_lt cz)).trans cz
                    have hSx : (fun w' : World => w'.cell? ⟨ob, 0, none⟩ = some (.slice (some ⟨tb, 0, none⟩) (m + 1) ct)) (wz.alloc (.cells #[.int .i64 eo, .int .i64 ea, .int .i64 eb, .int .i64 ec, .int .u32 en] tyI)) := (World.cell?_alloc_lt wz _ _ (cell_lt (show wz.cell? ⟨ob, 0, none⟩ = some (.slice (some ⟨tb, 0, none⟩) (m + 1) ct) from hHeld))).trans hHeld
                    clear cz
                    refine hK.out _ _ hSx (fun hHeld => ?_)
                    clear hK K
                    try first | simp only [pS, List.set] | simp only [pN]
                    refine wpAnyH_ready (rs := [17]) (by kernel_rfl) (by simp) ?_
                    refine AllReadyH.cons (o := ?_) ?_ (fun K hK => ?_) AllReadyH.nil
                    rotate_left
                    · (simp only [List.getElem?_toArray, List.getElem?_cons_succ, List.getElem?_cons_zero]; rfl)
                    · refine step_app2 (by rfl) (.tmp 79) (.tmp 81) 44 (by rfl) insTy N9 (HOz.out.hop.code.alloc _) (by rfl) (cells_new' wz [.int .i64 eo, .int .i64 ea, .int .i64 eb, .int .i64 ec, .int .u32 en] _ _ rfl) (by rfl) (by rfl) (by simp [Value.oneCell']) (by unfold maxLen; omega) (by omega) (by rw [World.size_alloc]; exact Nat.le_succ_of_le HOz.out.hN) ?_
                      intro v' w9 hown9 hb9 hblk9 _
                      obtain ⟨M, A', c9, rfl⟩ : ∃ M A' c', v' = .slice A' M c' := (by obtain ⟨A', c', h⟩ := own_slice hown9; exact ⟨_, A', c', h⟩)
                      have hbA := (Below.refl wz.heap.size wz).alloc (Nat.le_refl _) (.cells #[.int .i64 eo, .int .i64 ea, .int .i64 eb, .int .i64 ec, .int .u32 en] tyI)
                      have hblk : ∀ k, k < wz.heap.size → some k ≠ (Value.slice q9.A q9.n q9.c).ownBlock → w9.heap[k]? = wz.heap[k]? := fun k h1 h2 => (hblk9 k (by rw [World.size_alloc]; omega) h2).trans (hbA.block k h1)
                      have hsz9 : wz.heap.size ≤ w9.heap.size := Nat.le_trans hbA.size hb9.size
                      have ht9 := own_keepT HOz.out.ht (KeepT.app (ty := tyT) HOz.out.hop.code (by decide) hblk)
                      have c9x : w9.cell? ⟨tb, m * 7 + 6, none⟩ = some (.slice q9.A q9.n q9.c) := (row_cell7 ht9 HTB.out HM.out).1
                      have f9x : w9.frozen? ⟨tb, m * 7 + 6, none⟩ = false := (row_cell7 ht9 HTB.out HM.out).2
                      have HC9 := Lib.hid (RcO.code HOz.out HTB.out (Own.app hown9 rfl) hblk hsz9 HOK.out)
                      have htl := (ht9.blk HTB.out).1
                      have hr9 : RowB w9 ob #[.slice (some ⟨tb, 0, none⟩) (m + 1) ct, vo] 25 := (hb9.block ob (by have := HOz.out.hlo; omega)).trans ((hbA.block ob HRz.out.lt).trans HRz.out)
                      have HR9 := Lib.hid (hr9.other tb (m * 7 + 6) (.slice A' M c9) (by omega))
                      have HF9 := Lib.hid (((HFz.out.trans (FrR.below (lo := ob + 1) (rb := ob) hbA (by have := HOz.out.hN; have := HOz.out.hlo; omega) (Nat.le_succ ob))).trans (FrR.app (HOz.out.hop.code.alloc (.cells #[.int .i64 eo, .int .i64 ea, .int .i64 eb, .int .i64 ec, .int .u32 en] tyI)) hb9 hblk9 HOz.out.hlo (Nat.le_succ ob))).trans (FrR.set (m * 7 + 6) (.slice A' M c9) (Or.inr htl) (Nat.le_succ ob)))
                      have hSx : (fun w' : World => w'.cell? ⟨ob, 0, none⟩ = some (.slice (some ⟨tb, 0, none⟩) (m + 1) ct)) w9 := (hr9.cell 0).trans rfl
                      have htl2 : tb ≠ ob := by omega
                      clear hbA hblk hsz9 ht9 hown9 hb9 hblk9 hr9 htl
                      refine hK.out _ _ hSx (fun hHeld => ?_)
                      clear hK K
                      try first | simp only [pS, List.set] | simp only [pN]
                      refine tkH 18 ?_
                      try first | simp only [pS, List.set] | simp only [pN]
                      refine tkH 19 ?_
                      try first | simp only [pS, List.set] | simp only [pN]
                      refine wpAnyH_ready (rs := [20]) (by kernel_rfl) (by simp) ?_
                      refine AllReadyH.cons (o := ?_) ?_ (fun K hK => ?_) AllReadyH.nil
                      rotate_left
                      · (simp only [List.getElem?_toArray, List.getElem?_cons_succ, List.getElem?_cons_zero]; rfl)
                      · go_simp
                        have hSx : (fun w' : World => w'.cell? ⟨ob, 0, none⟩ = some (.slice (some ⟨tb, 0, none⟩) (m + 1) ct)) (w9.setCell ⟨tb, m * 7 + 6, none⟩ (.slice A' M c9)) := (World.cell?_setCell_far w9 ⟨tb, m * 7 + 6, none⟩ ⟨ob, 0, none⟩ _ htl2).trans hHeld
                        refine hK.out _ _ hSx (fun hHeld => ?_)
                        clear hK K
                        try first | simp only [pS, List.set] | simp only [pN]
                        refine wpAnyH_done (by kernel_rfl) ?_ _
                        obtain ⟨w10, hw10⟩ : ∃ x, w9.setCell ⟨tb, m * 7 + 6, none⟩ (.slice A' M c9) = x := ⟨_, rfl⟩
                        have hC9 := HC9.out
                        rw [HM.out] at hC9
                        rw [hw10] at hC9 HR9 HF9 ⊢
                        have HC10 := Lib.hid hC9
                        have hs10 : ob + 1 ≤ w10.heap.size := Nat.le_trans hC9.hlo hC9.hN
                        clear hw10 c9x f9x hC9 HC9 hHeld hSx
                        go_wp2_with fail
                        go_roundw
                        case rel => exact ⟨k + 1, ⟨⟨addCode r.sy.ts ⟨eo, ea, eb, ec, en⟩, r.sy.os⟩, true⟩, by omega, by go_num, rfl, ⟨⟨by omega, hs10⟩, _, vo, HR9.out, .inr ⟨rfl, HOS.out, N9, qs, _, ts, t9.snoc ⟨eo, ea, eb, ec, en⟩, by show addCode r.sy.ts _ = _; rw [HTS.out, addCode_snoc], HC10.out⟩⟩, HST.out, HF9.out⟩
                        case measure => simp [intOf]; omega
                · refine AllReadyH.cons (o := ?_) ?_ (fun K hK => ?_) AllReadyH.nil
                  rotate_left
                  · (simp only [List.getElem?_toArray, List.getElem?_cons_succ, List.getElem?_cons_zero]; rfl)
                  · go_simp
                    have ca : (wz.alloc (.cells #[.int .i64 eo, .int .i64 ea, .int .i64 eb, .int .i64 ec, .int .u32 en] tyI)).cell? ⟨tb, m * 7 + 6, none⟩ = some (.slice q9.A q9.n q9.c) := (World.cell?_alloc_lt wz _ _ (cell_lt cz)).trans cz
                    have hSx : (fun w' : World => w'.cell? ⟨ob, 0, none⟩ = some (.slice (some ⟨tb, 0, none⟩) (m + 1) ct)) (wz.alloc (.cells #[.int .i64 eo, .int .i64 ea, .int .i64 eb, .int .i64 ec, .int .u32 en] tyI)) := (World.cell?_alloc_lt wz _ _ (cell_lt (show wz.cell? ⟨ob, 0, none⟩ = some (.slice (some ⟨tb, 0, none⟩) (m + 1) ct) from hHeld))).trans hHeld
                    clear cz
                    refine hK.out _ _ hSx (fun hHeld => ?_)
                    clear hK K
                    try first | simp only [pS, List.set] | simp only [pN]
                    refine wpAnyH_ready (rs := [14]) (by kernel_rfl) (by simp) ?_
                    refine AllReadyH.cons (o := ?_) ?_ (fun K hK => ?_) AllReadyH.nil
                    rotate_left
                    · (simp only [List.getElem?_toArray, List.getElem?_cons_succ, List.getElem?_cons_zero]; rfl)
                    · go_simp
                      have hSx := hHeld
                      refine hK.out _ _ hSx (fun hHeld => ?_)
                      clear hK K
                      try first | simp only [pS, List.set] | simp only [pN]
                      refine wpAnyH_ready (rs := [17]) (by kernel_rfl) (by simp) ?_
                      refine AllReadyH.cons (o := ?_) ?_ (fun K hK => ?_) AllReadyH.nil
                      rotate_left
                      · (simp only [List.getElem?_toArray, List.getElem?_cons_succ, List.getElem?_cons_zero]; rfl)
                      · refine step_app2 (by rfl) (.tmp 79) (.tmp 81) 44 (by rfl) insTy N9 (HOz.out.hop.code.alloc _) (by rfl) (cells_new' wz [.int .i64 eo, .int .i64 ea, .int .i64 eb, .int .i64 ec, .int .u32 en] _ _ rfl) (by rfl) (by rfl) (by simp [Value.oneCell']) (by unfold maxLen; omega) (by omega) (by rw [World.size_alloc]; exact Nat.le_succ_of_le HOz.out.hN) ?_
                        intro v' w9 hown9 hb9 hblk9 _
                        obtain ⟨M, A', c9, rfl⟩ : ∃ M A' c', v' = .slice A' M c' := (by obtain ⟨A', c', h⟩ := own_slice hown9; exact ⟨_, A', c', h⟩)
                        have hbA := (Below.refl wz.heap.size wz).alloc (Nat.le_refl _) (.cells #[.int .i64 eo, .int .i64 ea, .int .i64 eb, .int .i64 ec, .int .u32 en] tyI)
                        have hblk : ∀ k, k < wz.heap.size → some k ≠ (Value.slice q9.A q9.n q9.c).ownBlock → w9.heap[k]? = wz.heap[k]? := fun k h1 h2 => (hblk9 k (by rw [World.size_alloc]; omega) h2).trans (hbA.block k h1)
                        have hsz9 : wz.heap.size ≤ w9.heap.size := Nat.le_trans hbA.size hb9.size
                        have ht9 := own_keepT HOz.out.ht (KeepT.app (ty := tyT) HOz.out.hop.code (by decide) hblk)
                        have c9x : w9.cell? ⟨tb, m * 7 + 6, none⟩ = some (.slice q9.A q9.n q9.c) := (row_cell7 ht9 HTB.out HM.out).1
                        have f9x : w9.frozen? ⟨tb, m * 7 + 6, none⟩ = false := (row_cell7 ht9 HTB.out HM.out).2
                        have HC9 := Lib.hid (RcO.code HOz.out HTB.out (Own.app hown9 rfl) hblk hsz9 HOK.out)
                        have htl := (ht9.blk HTB.out).1
                        have hr9 : RowB w9 ob #[.slice (some ⟨tb, 0, none⟩) (m + 1) ct, vo] 25 := (hb9.block ob (by have := HOz.out.hlo; omega)).trans ((hbA.block ob HRz.out.lt).trans HRz.out)
                        have HR9 := Lib.hid (hr9.other tb (m * 7 + 6) (.slice A' M c9) (by omega))
                        have HF9 := Lib.hid (((HFz.out.trans (FrR.below (lo := ob + 1) (rb := ob) hbA (by have := HOz.out.hN; have := HOz.out.hlo; omega) (Nat.le_succ ob))).trans (FrR.app (HOz.out.hop.code.alloc (.cells #[.int .i64 eo, .int .i64 ea, .int .i64 eb, .int .i64 ec, .int .u32 en] tyI)) hb9 hblk9 HOz.out.hlo (Nat.le_succ ob))).trans (FrR.set (m * 7 + 6) (.slice A' M c9) (Or.inr htl) (Nat.le_succ ob)))
                        have hSx : (fun w' : World => w'.cell? ⟨ob, 0, none⟩ = some (.slice (some ⟨tb, 0, none⟩) (m + 1) ct)) w9 := (hr9.cell 0).trans rfl
                        have htl2 : tb ≠ ob := by omega
                        clear hbA hblk hsz9 ht9 hown9 hb9 hblk9 hr9 htl
                        refine hK.out _ _ hSx (fun hHeld => ?_)
                        clear hK K
                        try first | simp only [pS, List.set] | simp only [pN]
                        refine tkH 18 ?_
                        try first | simp only [pS, List.set] | simp only [pN]
                        refine tkH 19 ?_
                        try first | simp only [pS, List.set] | simp only [pN]
                        refine wpAnyH_ready (rs := [20]) (by kernel_rfl) (by simp) ?_
                        refine AllReadyH.cons (o := ?_) ?_ (fun K hK => ?_) AllReadyH.nil
                        rotate_left
                        · (simp only [List.getElem?_toArray, List.getElem?_cons_succ, List.getElem?_cons_zero]; rfl)
                        · go_simp
                          have hSx : (fun w' : World => w'.cell? ⟨ob, 0, none⟩ = some (.slice (some ⟨tb, 0, none⟩) (m + 1) ct)) (w9.setCell ⟨tb, m * 7 + 6, none⟩ (.slice A' M c9)) := (World.cell?_setCell_far w9 ⟨tb, m * 7 + 6, none⟩ ⟨ob, 0, none⟩ _ htl2).trans hHeld
                          refine hK.out _ _ hSx (fun hHeld => ?_)
                          clear hK K
                          try first | simp only [pS, List.set] | simp only [pN]
                          refine wpAnyH_done (by kernel_rfl) ?_ _
                          obtain ⟨w10, hw10⟩ : ∃ x, w9.setCell ⟨tb, m * 7 + 6, none⟩ (.slice A' M c9) = x := ⟨_, rfl⟩
                          have hC9 := HC9.out
                          rw [HM.out] at hC9
                          rw [hw10] at hC9 HR9 HF9 ⊢
                          have HC10 := Lib.hid hC9
                          have hs10 : ob + 1 ≤ w10.heap.size := Nat.le_trans hC9.hlo hC9.hN
                          clear hw10 c9x f9x hC9 HC9 hHeld hSx
                          go_wp2_with fail
                          go_roundw
                          case rel => exact ⟨k + 1, ⟨⟨addCode r.sy.ts ⟨eo, ea, eb, ec, en⟩, r.sy.os⟩, true⟩, by omega, by go_num, rfl, ⟨⟨by omega, hs10⟩, _, vo, HR9.out, .inr ⟨rfl, HOS.out, N9, qs, _, ts, t9.snoc ⟨eo, ea, eb, ec, en⟩, by show addCode r.sy.ts _ = _; rw [HTS.out, addCode_snoc], HC10.out⟩⟩, HST.out, HF9.out⟩
                          case measure => simp [intOf]; omega
          · have hb1f : b1 = false := by rw [← HEV.out.2.1, h3]
            subst hb1f
            have HRES := Lib.hid (show parseSR q 0 rd0 = ⟨Sy.none, (k : Int) + 1, 4⟩ from HSO.out.bad HXq.out hltq (by unfold step; rw [hop, if_pos rfl, if_neg he, h1]))
            clear h1 h3 h4 he oc0 oc1 hts hos h12
            have hxz := hx7
            have zc0 := hxz.cell 0
            have zc1 := hxz.cell 1
            simp only [List.getElem?_toArray, List.getElem?_cons_zero, List.getElem?_cons_succ] at zc0 zc1
            have zc0f := hxz.frozen 0
            have zc1f := hxz.frozen 1
            have HXZ := Lib.hid hxz
            have HBZ := Lib.hid hB7
            clear hxz
            go_wp2_with fail
            have hx10 := (HXZ.out.set 0 (.slice none 0 0)).set 1 (.slice none 0 0)
            have hb10 := below_set1 (below_set1 HBZ.out n 0 (Nat.le_refl _) (.slice none 0 0)) n 1 (Nat.le_refl _) (.slice none 0 0)
            have hx11 := hx10.kept ((Below.refl _ _).alloc (Nat.le_refl _) (.cells #[.int .i64 kd, .int .i64 wd, .int .i64 sl, .int .i64 cp9, .int .u32 st, .slice I ni ci, .int .i64 wq, .slice R nr cr] 42))
            skip
            refine bodyPost_ret (res_rparse9 _ _ rfl rfl rfl hx11) rfl ?_
            exact ⟨none, 0, none, 0, (by rw [HRES.out]; rfl), (by rw [HRES.out]; intro k t h; cases h), (by rw [HRES.out]; intro k t h; cases h), by rw [hn]; exact hb10.alloc (by rw [size_set, size_set]; exact Nat.le_of_lt hn7) _⟩
    · have hkn : k + 1 = Q := by omega
      have hkq : k + 1 = q.length := by rw [HQ.out]; exact hkn
      have t1 : decide ((k : Int) < (Q : Int) - 1) = false := by rw [decide_eq_false_iff_not]; omega
      have eQ : (Q : Int) - 1 = (k : Int) := by omega
      have HLA := Lib.hid (hso.last hx hkq)
      have HRP := Lib.hid hrp
      obtain ⟨X, hX⟩ : ∃ X, (⟨x.toArray⟩ : ByteArray) = X := ⟨_, rfl⟩
      have hXt : X.toList = x := by rw [← hX, ByteArray.toList_eq]
      rw [hX] at hcx
      have HXT := Lib.hid hXt
      clear hX hXt hrp hso hfr hkeep hx3 hx hkq
      rw [eQ] at ew t1
      by_cases hxe : x = []
      · have te : (X.toList == []) = true := by rw [HXT.out, hxe]; rfl
        have te2 : X.toList.isEmpty = true := by rw [HXT.out, hxe]; rfl
        have te3 : (X.toList != []) = false := by rw [HXT.out, hxe]; rfl
        have HL2 := Lib.hid (HLA.out.trans (if_pos hxe))
        clear hxe HLA
        obtain ⟨⟨hp1, hp2⟩, vt, vo, hro, hcl⟩ := HRP.out
        rcases hcl with ⟨hop, qs, ps, hC⟩ | ⟨hop, hos, N9, qs, q9, ts, t9, hts, hO⟩
        · rw [hop]
          have HL3 := Lib.hid (HL2.out.trans (by rw [hop]; rfl : _ = (⟨r.sy, 0, 0⟩ : GotS)))
          obtain ⟨At, ct, rfl, hTk⟩ := hC.tks
          obtain ⟨Ao, co, rfl, hOj⟩ := hC.ojs
          have oc0 := hro.cell 0
          have oc1 := hro.cell 1
          simp only [List.getElem?_toArray, List.getElem?_cons_zero, List.getElem?_cons_succ] at oc0 oc1
          have zc0 := hxn.cell 0
          have zc1 := hxn.cell 1
          simp only [List.getElem?_toArray, List.getElem?_cons_zero, List.getElem?_cons_succ] at zc0 zc1
          have zc0f := hxn.frozen 0
          have zc1f := hxn.frozen 1
          have HC := Lib.hid hC
          have HXN := Lib.hid hxn
          have HBN := Lib.hid hBn
          clear hTk hOj hC hro hxn hBn hop HL2
          go_wp2_with fail
          have hC2 := (HC.out.set (b := n) (by omega) 0 (.slice At r.sy.ts.length ct)).set (b := n) (by omega) 1 (.slice Ao r.sy.os.length co)
          obtain ⟨A1, c1', he1, hT1⟩ := hC2.tks
          obtain ⟨A2, c2', he2, hT2⟩ := hC2.ojs
          injection he1 with he1 _ _
          injection he2 with he2 _ _
          subst he1 he2
          refine bodyPost_ret (res_rparse9 _ _ rfl rfl rfl ((HXN.out.set 0 (.slice At r.sy.ts.length ct)).set 1 (.slice Ao r.sy.os.length co))) rfl ?_
          exact ⟨At, ct, Ao, co, by rw [HL3.out], by rw [HL3.out]; exact hT1, by rw [HL3.out]; exact hT2, by rw [hn]; exact below_set1 (below_set1 HBN.out n 0 (Nat.le_refl _) _) n 1 (Nat.le_refl _) _⟩
        · rw [hop]
          have HRES := Lib.hid (show parseSR q 0 rd0 = ⟨Sy.none, (k : Int), 2⟩ from HL2.out.trans (by rw [hop]; rfl))
          clear hO hts hos hop HL2 hro
          have hxz := hxn
          have zc0 := hxz.cell 0
          have zc1 := hxz.cell 1
          simp only [List.getElem?_toArray, List.getElem?_cons_zero, List.getElem?_cons_succ] at zc0 zc1
          have zc0f := hxz.frozen 0
          have zc1f := hxz.frozen 1
          have HXZ := Lib.hid hxz
          have HBZ := Lib.hid hBn
          clear hxz
          go_wp2_with fail
          refine bodyPost_ret (res_rparse9 _ _ rfl rfl rfl ((HXZ.out.set 0 (.slice none 0 0)).set 1 (.slice none 0 0))) rfl ?_
          exact ⟨none, 0, none, 0, (by rw [HRES.out]; rfl), (by rw [HRES.out]; intro k t h; cases h), (by rw [HRES.out]; intro k t h; cases h), by rw [hn]; exact below_set1 (below_set1 HBZ.out n 0 (Nat.le_refl _) _) n 1 (Nat.le_refl _) _⟩
      · have te : (X.toList == []) = false := by rw [HXT.out, beq_eq_false_iff_ne]; exact hxe
        have te2 : X.toList.isEmpty = false := by rw [HXT.out]; simpa using hxe
        have te3 : (X.toList != []) = true := by rw [HXT.out]; simpa using hxe
        have eq1 : (Q : Int) = (k : Int) + 1 := by omega
        have HRES := Lib.hid (show parseSR q 0 rd0 = ⟨Sy.none, (Q : Int), 2⟩ by rw [eq1]; exact HLA.out.trans (if_neg hxe))
        clear hxe HLA eq1
        obtain ⟨rop, hrop⟩ : ∃ b, r.op = b := ⟨_, rfl⟩
        rw [hrop]
        have hxz := hxn
        have zc0 := hxz.cell 0
        have zc1 := hxz.cell 1
        simp only [List.getElem?_toArray, List.getElem?_cons_zero, List.getElem?_cons_succ] at zc0 zc1
        have zc0f := hxz.frozen 0
        have zc1f := hxz.frozen 1
        have HXZ := Lib.hid hxz
        have HBZ := Lib.hid hBn
        clear hxz
        go_wp2_with fail
        refine bodyPost_ret (res_rparse9 _ _ rfl rfl rfl ((HXZ.out.set 0 (.slice none 0 0)).set 1 (.slice none 0 0))) rfl ?_
        exact ⟨none, 0, none, 0, (by rw [HRES.out]; rfl), (by rw [HRES.out]; intro k t h; cases h), (by rw [HRES.out]; intro k t h; cases h), by rw [hn]; exact below_set1 (below_set1 HBZ.out n 0 (Nat.le_refl _) _) n 1 (Nat.le_refl _) _⟩

end Go.Proofs.YtfgmebjbibbpdaaGreatDoor

namespace Go.Proofs.YtfgmebjbibbpdaaGreatDoor
open Go.RowKit

theorem lns_mem (l : List UInt8) : ∀ x ∈ lns l, x.length ≤ l.length := by
  induction l with
  | nil => intro x hx; cases hx
  | cons a l ih =>
    intro x hx
    have hh : ((lns l).headD []).length ≤ l.length := by
      cases h : lns l with
      | nil => simp
      | cons y r => exact ih y (by rw [h]; simp)
    unfold lns at hx
    split at hx
    · rcases List.mem_cons.1 hx with rfl | hx
      · simp
      · have := ih x hx
        rw [List.length_cons]; omega
    · rcases List.mem_cons.1 hx with rfl | hx
      · simp only [List.length_cons]; omega
      · have := ih x (List.mem_of_mem_tail hx)
        rw [List.length_cons]; omega
theorem flat_mem {α : Type} {f : α → List UInt8} {l : List α} {x : α} (h : x ∈ l) : (f x).length ≤ (l.flatMap f).length := by
  induction l with
  | nil => cases h
  | cons a l ih =>
    rw [List.flatMap_cons, List.length_append]
    rcases List.mem_cons.1 h with rfl | h
    · omega
    · have := ih h; omega
theorem flat_ge {α : Type} {f : α → List UInt8} (hf : ∀ x, 1 ≤ (f x).length) (l : List α) : l.length ≤ (l.flatMap f).length := by
  induction l with
  | nil => simp
  | cons a l ih =>
    rw [List.flatMap_cons, List.length_append, List.length_cons]
    have := hf a
    omega
theorem join_ge : ∀ (l : List (List UInt8)) (p : List UInt8), l.length ≤ (Lib.join (p :: l) [32]).length
  | [], p => Nat.zero_le _
  | a :: l, p => by
    have := join_ge l a
    rw [Lib.join_cons, List.length_append]
    have e : Lib.joinTail [32] (a :: l) = [32] ++ Lib.join (a :: l) [32] := by rw [Lib.join_cons]; simp [Lib.joinTail]
    rw [e, List.length_append]
    simp only [List.length_cons, List.length_nil]
    omega
theorem parse_sz (l : List UInt8) : (parseS l).sy.ts.length ≤ l.length ∧ (parseS l).sy.os.length ≤ l.length ∧ (∀ t ∈ (parseS l).sy.ts, t.code.length ≤ l.length) ∧ ∀ o ∈ (parseS l).sy.os, o.ini.length ≤ l.length ∧ o.rd.length ≤ l.length := by
  rcases parseS_back l with ⟨_, _, _, _, h⟩ | ⟨_, h⟩
  · obtain ⟨s, hs⟩ : ∃ x, (parseS l).sy = x := ⟨_, rfl⟩
    rw [hs] at h ⊢
    have hl : l.length = (tasksT s.ts).length + (objsT s.os).length := by rw [← h]; unfold sysT; rw [List.length_append]
    have h1 : s.ts.length ≤ (tasksT s.ts).length := flat_ge (fun t => by unfold taskT; simp only [List.length_append, List.length_cons, List.length_nil]; omega) _
    have h2 : s.os.length ≤ (objsT s.os).length := flat_ge (fun o => by simp only [List.length_append, List.length_cons, List.length_nil]; omega) _
    refine ⟨by omega, by omega, fun t ht => ?_, fun o ho => ?_⟩
    · have h3 : (taskT t).length ≤ (tasksT s.ts).length := flat_mem ht
      have h4 : t.code.length ≤ (textOf t.code).length := flat_ge (fun e => by simp only [List.length_append, List.length_cons, List.length_nil]; omega) _
      unfold taskT at h3
      simp only [List.length_append] at h3
      omega
    · have h3 : (objL o ++ [10]).length ≤ (objsT s.os).length := flat_mem (f := fun o => objL o ++ [10]) ho
      rw [List.length_append] at h3
      have h4 := join_ge (obWs.getD o.kd.toNat [] :: (o.five.map dd ++ rdrW :: (o.rd.map dd ++ iniW :: o.ini.map dd))) objW
      have h5 : (Lib.join (objW :: obWs.getD o.kd.toNat [] :: (o.five.map dd ++ rdrW :: (o.rd.map dd ++ iniW :: o.ini.map dd))) [32]).length = (objL o).length := rfl
      simp only [List.length_append, List.length_cons, List.length_map] at h4
      simp only [List.length_cons, List.length_nil] at h3
      omega
  · rw [h]
    exact ⟨Nat.zero_le _, Nat.zero_le _, (fun t h => by cases h), (fun t h => by cases h)⟩
theorem headL_bd {t : Tk} (h : headB1 t = true) : (headL t).length ≤ 100 := by
  rw [headL_two t _ rfl]
  have hk : (tkWs.getD t.kd.toNat []).length ≤ 8 := by rcases head_kd h with h | h <;> rw [h] <;> decide
  unfold headB1 at h
  rw [Bool.and_eq_true] at h
  have := numsT_len t.five h.2
  have h5 : t.five.length = 5 := rfl
  have ht : taskW.length = 4 := rfl
  simp only [List.length_append, List.length_cons, List.length_nil]
  omega
theorem objL_bd {o : Oj} (h : objB o = true) (hk : o.ok) (h1 : o.ini.length ≤ 100 ∧ o.rd.length ≤ 100) : (objL o).length ≤ 2990 := by
  rw [objL_parts o _ rfl]
  obtain ⟨hb, h5, hrd⟩ := objB_iff h
  have hkk : (obWs.getD o.kd.toNat []).length ≤ 4 := by
    have : o.kd = 1 ∨ o.kd = 2 ∨ o.kd = 3 ∨ o.kd = 4 ∨ o.kd = 5 ∨ o.kd = 6 := by omega
    rcases this with h | h | h | h | h | h <;> rw [h] <;> decide
  have a1 := numsT_len o.five (List.all_eq_true.2 fun z hz => topB_iff.2 (h5 z hz))
  have a2 := numsT_len o.rd (List.all_eq_true.2 fun z hz => topB_iff.2 (hrd z hz))
  have a3 := numsT_u32 o.ini hk.2
  have l1 : o.five.length = 5 := rfl
  have l2 : objW.length = 6 := rfl
  have l3 : rdrW.length = 7 := rfl
  have l4 : iniW.length = 4 := rfl
  simp only [List.length_append, List.length_cons, List.length_nil]
  omega
theorem code_bd (l : List Ins) (h : okAll l = true) (hk : ∀ e ∈ l, e.ok) (rest : List UInt8) (hr : ∀ x ∈ lns rest, x.length ≤ 3000) : ∀ x ∈ lns (textOf l ++ rest), x.length ≤ 3000 := by
  induction l with
  | nil => exact hr
  | cons e l ih =>
    unfold okAll at h
    rw [List.all_cons, Bool.and_eq_true] at h
    have ht : textOf (e :: l) ++ rest = lineL e ++ [10] ++ (textOf l ++ rest) := by simp [textOf]
    rw [ht, lns_line _ _ (lineL_no e)]
    intro x hx
    rcases List.mem_cons.1 hx with rfl | hx
    · have := lineL_len h.1 (hk e (by simp))
      simp only [List.length_append, List.length_cons, List.length_nil]
      omega
    · exact ih h.2 (fun y hy => hk y (by simp [hy])) x hx
theorem tasks_bd (l : List Tk) (h : l.all taskOk = true) (hk : ∀ t ∈ l, t.ok) (rest : List UInt8) (hr : ∀ x ∈ lns rest, x.length ≤ 3000) : ∀ x ∈ lns (tasksT l ++ rest), x.length ≤ 3000 := by
  induction l with
  | nil => exact hr
  | cons t l ih =>
    rw [List.all_cons, Bool.and_eq_true] at h
    have h0 := h.1
    unfold taskOk at h0
    rw [Bool.and_eq_true] at h0
    have ht : tasksT (t :: l) ++ rest = headL t ++ [10] ++ (textOf t.code ++ (endW3 ++ [10] ++ (tasksT l ++ rest))) := by simp [tasksT, taskT]
    rw [ht, lns_line _ _ (headL_no t)]
    intro x hx
    rcases List.mem_cons.1 hx with rfl | hx
    · have := headL_bd h0.1
      simp only [List.length_append, List.length_cons, List.length_nil]
      omega
    · refine code_bd t.code h0.2 (hk t (by simp)) _ ?_ x hx
      rw [lns_line _ _ endW3_no]
      intro y hy
      rcases List.mem_cons.1 hy with rfl | hy
      · decide
      · exact ih h.2 (fun z hz => hk z (by simp [hz])) y hy
theorem objs_bd (l : List Oj) (h : l.all objB = true) (hk : ∀ o ∈ l, o.ok) (hl : ∀ o ∈ l, o.ini.length ≤ 100 ∧ o.rd.length ≤ 100) : ∀ x ∈ lns (objsT l), x.length ≤ 3000 := by
  induction l with
  | nil => intro x hx; cases hx
  | cons o l ih =>
    rw [List.all_cons, Bool.and_eq_true] at h
    have ht : objsT (o :: l) = objL o ++ [10] ++ objsT l := by simp [objsT]
    rw [ht, lns_line _ _ (objL_no o)]
    intro x hx
    rcases List.mem_cons.1 hx with rfl | hx
    · have := objL_bd h.1 (hk o (by simp)) (hl o (by simp))
      simp only [List.length_append, List.length_cons, List.length_nil]
      omega
    · exact ih h.2 (fun z hz => hk z (by simp [hz])) (fun z hz => hl z (by simp [hz])) x hx
/-- The lines of what is printed of a small system. -/
theorem print_bd {s : Sy} (h : printOk s = true) (hk : s.ok) (hl : ∀ o ∈ s.os, o.ini.length ≤ 100 ∧ o.rd.length ≤ 100) : ∀ x ∈ lns (sysT s), x.length ≤ 3000 := by
  unfold printOk sysOk at h
  simp only [Bool.and_eq_true] at h
  exact tasks_bd s.ts h.1.1 hk.1 _ (objs_bd s.os h.1.2 hk.2 hl)
/-- What is held in memory is as it must be. -/
theorem ok_of {s : Sy} {w : World} {B : Nat} {At Ao : Option Addr} (ht : TkSl w B At s.ts) (ho : OjSl w B Ao s.os) : s.ok := by
  refine ⟨fun t h => ?_, fun o h => ?_⟩
  · obtain ⟨k, hk⟩ := List.getElem?_of_mem h
    obtain ⟨b, off, A', c', _, _, _, hI, _⟩ := ht k t hk
    exact hI.2
  · obtain ⟨k, hk⟩ := List.getElem?_of_mem h
    obtain ⟨b, off, I, ci, R, cr, _, _, _, ⟨hI, _⟩, _, hst, _⟩ := ho k o hk
    exact ⟨hst, fun z hz => u32_of (hI.2 z hz)⟩
/-- What is parsed is printed so. -/
theorem parsed_prints (l : List UInt8) (hl : l.length ≤ 65536) : ((parseS l).err = 0 ∧ printOk (parseS l).sy = true ∧ printT (parseS l).sy = ⟨l.toArray⟩) ∨ ((parseS l).err ≠ 0 ∧ (parseS l).sy = Sy.none) := by
  rcases parseS_back l with ⟨h1, _, h3, _, h⟩ | h
  · have hp : printOk (parseS l).sy = true := by
      unfold printOk
      rw [h3, h, Bool.true_and, decide_eq_true_iff]
      exact hl
    exact .inl ⟨h1, hp, by rw [printT_ok hp, h]⟩
  · exact .inr h

end Go.Proofs.YtfgmebjbibbpdaaGreatDoor

namespace Go.Proofs.YtfgmebjbibbpdaaGreatDoor
open Go.RowKit
attribute [local go_sem] Oper.semAt_some

set_option maxHeartbeats 400000 in
theorem pwords_any (A A' : Option Addr) (c c' : Nat) (l m : List Int) (w : World) (hn : l.length ≤ 9223372036854775807) (_hm : m.length ≤ 9223372036854775807) (hl : Ws w w.heap.size A l) (hm' : Ws w w.heap.size A' m) :
    Calls Tryz.prog 51 #[.slice A l.length c, .slice A' m.length c'] w fun e w' => e = .returned (.bool (decide (l = m))) ∧ Below w.heap.size w w' := by
  by_cases hlen : l.length = m.length
  · have x0 : ((l.length : Int) != (m.length : Int)) = false := by simp [hlen]
    have hlen' := Lib.hid hlen
    clear hlen
    go_enter Tryz.func51, Tryz.ntmps51
    go_wp2
    go_loopw [5, 13] (fun i j wr => ∃ k : Nat, k ≤ l.length ∧ j = .int .i64 k ∧ l.take k = m.take k ∧ Below w.heap.size w wr) (fun _ j _ => l.length - (intOf j).toNat)
    case atStart => exact ⟨0, Nat.zero_le _, rfl, rfl, Below.refl _ _⟩
    case round =>
      obtain ⟨k, hk, rfl, heq, hb⟩ := hrel
      by_cases hlt : k < l.length
      · obtain ⟨x, hx⟩ := get_some hlt
        obtain ⟨y, hy⟩ := get_some (show k < m.length by have := hlen'.out; omega)
        obtain ⟨⟨_, _, _⟩, b, off, rfl, hlb, h0⟩ := (hl.below hb (Nat.le_refl _)).get hx
        obtain ⟨⟨_, _, _⟩, b2, off2, rfl, hlb2, h1⟩ := (hm'.below hb (Nat.le_refl _)).get hy
        have hmk : (k : Int) < m.length := by have := hlen'.out; omega
        have heq' := Lib.hid heq
        have hx' := Lib.hid hx
        have hy' := Lib.hid hy
        clear heq hx hy
        by_cases hxy : x = y
        · have x1 : (x != y) = false := by simp [hxy]
          have hxy' := Lib.hid hxy
          clear hxy
          go_wp2
          go_quiet (fail)
          go_wp2
          go_roundw
          case rel => exact ⟨k + 1, by omega, by go_num, by rw [take_snoc hx'.out, take_snoc hy'.out, heq'.out, hxy'.out], drewN_below hb _⟩
          case measure => simp [intOf]; omega
        · have x1 : (x != y) = true := by simp [hxy]
          go_wp2
          go_quiet (fail)
          go_wp2
          go_ret
          refine ⟨ret_bool ?_, drewN_below hb _⟩
          symm
          rw [decide_eq_false_iff_not]
          intro e
          have := hx'.out
          rw [e, hy'.out] at this
          exact hxy (by injection this with h; exact h.symm)
      · have h1 := take_all hlt
        have h2 : m.take k = m := take_all (by have := hlen'.out; omega)
        have h3 := Lib.hid (show l = m by rw [← h1, heq, h2])
        clear h1 h2 heq
        go_wp2
        go_ret
        exact ⟨ret_bool (by simpa using h3.out), hb⟩
  · have x0 : ((l.length : Int) != (m.length : Int)) = true := by simp; omega
    go_enter Tryz.func51, Tryz.ntmps51
    go_wp2
    go_ret
    exact ⟨ret_bool (by symm; rw [decide_eq_false_iff_not]; intro e; exact hlen (by rw [e])), Below.refl _ _⟩

theorem int_get {w : World} {B : Nat} {A : Option Addr} {l : List Int} (h : SlOf (ints .i64) w B A l) {k : Nat} {z : Int} (hk : l[k]? = some z) : ∃ b off, A = some ⟨b, off, none⟩ ∧ b < B ∧
    w.cell? ⟨b, off + k, none⟩ = some (.int .i64 z) := by
  obtain ⟨b, off, hA, hlt, hc⟩ := h k z hk
  have := hc 0 _ rfl
  exact ⟨b, off, hA, hlt, by simpa [ints, Enc.of1] using this⟩
set_option maxHeartbeats 400000 in
theorem ints_any (A A' : Option Addr) (c c' : Nat) (l m : List Int) (w : World) (hn : l.length ≤ 9223372036854775807) (_hm : m.length ≤ 9223372036854775807) (hl : SlOf (ints .i64) w w.heap.size A l) (hm' : SlOf (ints .i64) w w.heap.size A' m) :
    Calls Tryz.prog 52 #[.slice A l.length c, .slice A' m.length c'] w fun e w' => e = .returned (.bool (decide (l = m))) ∧ Below w.heap.size w w' := by
  by_cases hlen : l.length = m.length
  · have x0 : ((l.length : Int) != (m.length : Int)) = false := by simp [hlen]
    have hlen' := Lib.hid hlen
    clear hlen
    go_enter Tryz.func52, Tryz.ntmps52
    go_wp2
    go_loopw [5, 13] (fun i j wr => ∃ k : Nat, k ≤ l.length ∧ j = .int .i64 k ∧ l.take k = m.take k ∧ Below w.heap.size w wr) (fun _ j _ => l.length - (intOf j).toNat)
    case atStart => exact ⟨0, Nat.zero_le _, rfl, rfl, Below.refl _ _⟩
    case round =>
      obtain ⟨k, hk, rfl, heq, hb⟩ := hrel
      by_cases hlt : k < l.length
      · obtain ⟨x, hx⟩ := get_some hlt
        obtain ⟨y, hy⟩ := get_some (show k < m.length by have := hlen'.out; omega)
        obtain ⟨b, off, rfl, hlb, h0⟩ := int_get (hl.below hb (Nat.le_refl _)) hx
        obtain ⟨b2, off2, rfl, hlb2, h1⟩ := int_get (hm'.below hb (Nat.le_refl _)) hy
        have hmk : (k : Int) < m.length := by have := hlen'.out; omega
        have heq' := Lib.hid heq
        have hx' := Lib.hid hx
        have hy' := Lib.hid hy
        clear heq hx hy
        by_cases hxy : x = y
        · have x1 : (x != y) = false := by simp [hxy]
          have hxy' := Lib.hid hxy
          clear hxy
          go_wp2
          go_quiet (fail)
          go_wp2
          go_roundw
          case rel => exact ⟨k + 1, by omega, by go_num, by rw [take_snoc hx'.out, take_snoc hy'.out, heq'.out, hxy'.out], drewN_below hb _⟩
          case measure => simp [intOf]; omega
        · have x1 : (x != y) = true := by simp [hxy]
          go_wp2
          go_quiet (fail)
          go_wp2
          go_ret
          refine ⟨ret_bool ?_, drewN_below hb _⟩
          symm
          rw [decide_eq_false_iff_not]
          intro e
          have := hx'.out
          rw [e, hy'.out] at this
          exact hxy (by injection this with h; exact h.symm)
      · have h1 := take_all hlt
        have h2 : m.take k = m := take_all (by have := hlen'.out; omega)
        have h3 := Lib.hid (show l = m by rw [← h1, heq, h2])
        clear h1 h2 heq
        go_wp2
        go_ret
        exact ⟨ret_bool (by simpa using h3.out), hb⟩
  · have x0 : ((l.length : Int) != (m.length : Int)) = true := by simp; omega
    go_enter Tryz.func52, Tryz.ntmps52
    go_wp2
    go_ret
    exact ⟨ret_bool (by symm; rw [decide_eq_false_iff_not]; intro e; exact hlen (by rw [e])), Below.refl _ _⟩

set_option maxRecDepth 100000 in
set_option maxHeartbeats 4000000 in
theorem ptask_same (t : Tk) (A A' : Option Addr) (c c' : Nat) (w : World) (hn : t.code.length ≤ 100000) (hI : InSl w w.heap.size A t.code) (hI' : InSl w w.heap.size A' t.code) :
    Calls Tryz.prog 29 #[.agg #[.int .i64 t.kd, .int .i64 t.pr, .int .i64 t.pe, .int .i64 t.off, .int .i64 t.dl, .int .i64 t.ow, .slice A t.code.length c], .agg #[.int .i64 t.kd, .int .i64 t.pr, .int .i64 t.pe, .int .i64 t.off, .int .i64 t.dl, .int .i64 t.ow, .slice A' t.code.length c']] w fun e w' => e = .returned (.bool true) ∧ Below w.heap.size w w' := by
  have r1 := RowB.new w #[.int .i64 t.kd, .int .i64 t.pr, .int .i64 t.pe, .int .i64 t.off, .int .i64 t.dl, .int .i64 t.ow, .slice A t.code.length c] 46
  obtain ⟨w1, hw1⟩ : ∃ x, w.alloc (.cells #[.int .i64 t.kd, .int .i64 t.pr, .int .i64 t.pe, .int .i64 t.off, .int .i64 t.dl, .int .i64 t.ow, .slice A t.code.length c] 46) = x := ⟨_, rfl⟩
  rw [hw1] at r1
  have s1 : w1.heap.size = w.heap.size + 1 := by rw [← hw1, World.size_alloc]
  have r2 := RowB.new w1 #[.int .i64 t.kd, .int .i64 t.pr, .int .i64 t.pe, .int .i64 t.off, .int .i64 t.dl, .int .i64 t.ow, .slice A' t.code.length c'] 46
  obtain ⟨w2, hw2⟩ : ∃ x, w1.alloc (.cells #[.int .i64 t.kd, .int .i64 t.pr, .int .i64 t.pe, .int .i64 t.off, .int .i64 t.dl, .int .i64 t.ow, .slice A' t.code.length c'] 46) = x := ⟨_, rfl⟩
  rw [hw2] at r2
  have s2 : w2.heap.size = w.heap.size + 1 + 1 := by rw [← hw2, World.size_alloc, s1]
  have r3 := r1.kept (w' := w2) (by rw [← hw2]; exact (Below.refl _ w1).alloc (Nat.le_refl _) _)
  have hb2 : Below w.heap.size w w2 := below_al (below_al (Below.refl _ w) (Nat.le_refl _) hw1) (by omega) hw2
  rw [s1] at r2
  obtain ⟨n, hn⟩ : ∃ n, w.heap.size = n := ⟨_, rfl⟩
  rw [hn] at r2 r3 hb2 s1
  have a0 : w2.cell? ⟨n, 0, none⟩ = some (.int .i64 t.kd) := (r3.cell 0).trans rfl
  have a1 : w2.cell? ⟨n, 1, none⟩ = some (.int .i64 t.pr) := (r3.cell 1).trans rfl
  have a2 : w2.cell? ⟨n, 2, none⟩ = some (.int .i64 t.pe) := (r3.cell 2).trans rfl
  have a3 : w2.cell? ⟨n, 3, none⟩ = some (.int .i64 t.off) := (r3.cell 3).trans rfl
  have a4 : w2.cell? ⟨n, 4, none⟩ = some (.int .i64 t.dl) := (r3.cell 4).trans rfl
  have a5 : w2.cell? ⟨n, 5, none⟩ = some (.int .i64 t.ow) := (r3.cell 5).trans rfl
  have a6 : w2.cell? ⟨n, 6, none⟩ = some (.slice A t.code.length c) := (r3.cell 6).trans rfl
  have b0 : w2.cell? ⟨n + 1, 0, none⟩ = some (.int .i64 t.kd) := (r2.cell 0).trans rfl
  have b1 : w2.cell? ⟨n + 1, 1, none⟩ = some (.int .i64 t.pr) := (r2.cell 1).trans rfl
  have b2 : w2.cell? ⟨n + 1, 2, none⟩ = some (.int .i64 t.pe) := (r2.cell 2).trans rfl
  have b3 : w2.cell? ⟨n + 1, 3, none⟩ = some (.int .i64 t.off) := (r2.cell 3).trans rfl
  have b4 : w2.cell? ⟨n + 1, 4, none⟩ = some (.int .i64 t.dl) := (r2.cell 4).trans rfl
  have b5 : w2.cell? ⟨n + 1, 5, none⟩ = some (.int .i64 t.ow) := (r2.cell 5).trans rfl
  have b6 : w2.cell? ⟨n + 1, 6, none⟩ = some (.slice A' t.code.length c') := (r2.cell 6).trans rfl
  have hcd := code_any A A' c c' t.code t.code w2 ‹_› ‹_› (hI.below (by rw [hn]; exact hb2) (by omega)) (hI'.below (by rw [hn]; exact hb2) (by omega))
  rw [decide_eq_true rfl] at hcd
  have HCD := Lib.hid hcd
  have HB := Lib.hid hb2
  have HS := Lib.hid s2
  have HN := Lib.hid hn
  clear r1 r2 r3 s2 hb2 hcd hI hI'
  go_enter Tryz.func29, Tryz.ntmps29
  go_wp2_with fail
  refine HCD.out.mono ?_
  rintro e w3 ⟨rfl, hb3⟩
  have HB3 := Lib.hid (HB.out.trans (hb3.mono (by have := HB.out.size; omega)))
  go_wp2_with fail
  go_ret
  exact ⟨rfl, by rw [HN.out]; exact HB3.out⟩
set_option maxRecDepth 100000 in
set_option maxHeartbeats 4000000 in
theorem pobject_same (o : Oj) (I I' R R' : Option Addr) (ci ci' cr cr' : Nat) (w : World) (hni : o.ini.length ≤ 100000) (hnr : o.rd.length ≤ 100000) (hI : Ws w w.heap.size I o.ini) (hI' : Ws w w.heap.size I' o.ini) (hR : SlOf (ints .i64) w w.heap.size R o.rd) (hR' : SlOf (ints .i64) w w.heap.size R' o.rd) :
    Calls Tryz.prog 30 #[.agg #[.int .i64 o.kd, .int .i64 o.wd, .int .i64 o.sl, .int .i64 o.cp, .int .u32 o.st, .slice I o.ini.length ci, .int .i64 o.wr, .slice R o.rd.length cr], .agg #[.int .i64 o.kd, .int .i64 o.wd, .int .i64 o.sl, .int .i64 o.cp, .int .u32 o.st, .slice I' o.ini.length ci', .int .i64 o.wr, .slice R' o.rd.length cr']] w fun e w' => e = .returned (.bool true) ∧ Below w.heap.size w w' := by
  have r1 := RowB.new w #[.int .i64 o.kd, .int .i64 o.wd, .int .i64 o.sl, .int .i64 o.cp, .int .u32 o.st, .slice I o.ini.length ci, .int .i64 o.wr, .slice R o.rd.length cr] 42
  obtain ⟨w1, hw1⟩ : ∃ x, w.alloc (.cells #[.int .i64 o.kd, .int .i64 o.wd, .int .i64 o.sl, .int .i64 o.cp, .int .u32 o.st, .slice I o.ini.length ci, .int .i64 o.wr, .slice R o.rd.length cr] 42) = x := ⟨_, rfl⟩
  rw [hw1] at r1
  have s1 : w1.heap.size = w.heap.size + 1 := by rw [← hw1, World.size_alloc]
  have r2 := RowB.new w1 #[.int .i64 o.kd, .int .i64 o.wd, .int .i64 o.sl, .int .i64 o.cp, .int .u32 o.st, .slice I' o.ini.length ci', .int .i64 o.wr, .slice R' o.rd.length cr'] 42
  obtain ⟨w2, hw2⟩ : ∃ x, w1.alloc (.cells #[.int .i64 o.kd, .int .i64 o.wd, .int .i64 o.sl, .int .i64 o.cp, .int .u32 o.st, .slice I' o.ini.length ci', .int .i64 o.wr, .slice R' o.rd.length cr'] 42) = x := ⟨_, rfl⟩
  rw [hw2] at r2
  have s2 : w2.heap.size = w.heap.size + 1 + 1 := by rw [← hw2, World.size_alloc, s1]
  have r3 := r1.kept (w' := w2) (by rw [← hw2]; exact (Below.refl _ w1).alloc (Nat.le_refl _) _)
  have hb2 : Below w.heap.size w w2 := below_al (below_al (Below.refl _ w) (Nat.le_refl _) hw1) (by omega) hw2
  rw [s1] at r2
  obtain ⟨n, hn⟩ : ∃ n, w.heap.size = n := ⟨_, rfl⟩
  rw [hn] at r2 r3 hb2 s1
  have a0 : w2.cell? ⟨n, 0, none⟩ = some (.int .i64 o.kd) := (r3.cell 0).trans rfl
  have a1 : w2.cell? ⟨n, 1, none⟩ = some (.int .i64 o.wd) := (r3.cell 1).trans rfl
  have a2 : w2.cell? ⟨n, 2, none⟩ = some (.int .i64 o.sl) := (r3.cell 2).trans rfl
  have a3 : w2.cell? ⟨n, 3, none⟩ = some (.int .i64 o.cp) := (r3.cell 3).trans rfl
  have a4 : w2.cell? ⟨n, 4, none⟩ = some (.int .u32 o.st) := (r3.cell 4).trans rfl
  have a5 : w2.cell? ⟨n, 5, none⟩ = some (.slice I o.ini.length ci) := (r3.cell 5).trans rfl
  have a6 : w2.cell? ⟨n, 6, none⟩ = some (.int .i64 o.wr) := (r3.cell 6).trans rfl
  have a7 : w2.cell? ⟨n, 7, none⟩ = some (.slice R o.rd.length cr) := (r3.cell 7).trans rfl
  have b0 : w2.cell? ⟨n + 1, 0, none⟩ = some (.int .i64 o.kd) := (r2.cell 0).trans rfl
  have b1 : w2.cell? ⟨n + 1, 1, none⟩ = some (.int .i64 o.wd) := (r2.cell 1).trans rfl
  have b2 : w2.cell? ⟨n + 1, 2, none⟩ = some (.int .i64 o.sl) := (r2.cell 2).trans rfl
  have b3 : w2.cell? ⟨n + 1, 3, none⟩ = some (.int .i64 o.cp) := (r2.cell 3).trans rfl
  have b4 : w2.cell? ⟨n + 1, 4, none⟩ = some (.int .u32 o.st) := (r2.cell 4).trans rfl
  have b5 : w2.cell? ⟨n + 1, 5, none⟩ = some (.slice I' o.ini.length ci') := (r2.cell 5).trans rfl
  have b6 : w2.cell? ⟨n + 1, 6, none⟩ = some (.int .i64 o.wr) := (r2.cell 6).trans rfl
  have b7 : w2.cell? ⟨n + 1, 7, none⟩ = some (.slice R' o.rd.length cr') := (r2.cell 7).trans rfl
  have hwd := pwords_any I I' ci ci' o.ini o.ini w2 (by omega) (by omega) (hI.below (by rw [hn]; exact hb2) (by omega)) (hI'.below (by rw [hn]; exact hb2) (by omega))
  rw [decide_eq_true rfl] at hwd
  have hin := fun w3 (hb : Below w2.heap.size w2 w3) => ints_any R R' cr cr' o.rd o.rd w3 (by omega) (by omega) ((hR.below (by rw [hn]; exact hb2) (by omega)).below hb hb.size) ((hR'.below (by rw [hn]; exact hb2) (by omega)).below hb hb.size)
  rw [decide_eq_true rfl] at hin
  have HWD := Lib.hid hwd
  have HIN := Lib.hid hin
  have HB := Lib.hid hb2
  have HS := Lib.hid s2
  have HN := Lib.hid hn
  have HR3 := Lib.hid r3
  have HR2 := Lib.hid r2
  clear r1 r2 r3 s2 hb2 hwd hin hI hI' hR hR'
  go_enter Tryz.func30, Tryz.ntmps30
  go_wp2_with fail
  refine HWD.out.mono ?_
  rintro e w3 ⟨rfl, hb3⟩
  have HB3 := Lib.hid (HB.out.trans (hb3.mono (by have := HB.out.size; omega)))
  have e6 : w3.cell? ⟨n, 6, none⟩ = some (.int .i64 o.wr) := ((HR3.out.kept hb3).cell 6).trans rfl
  have e7 : w3.cell? ⟨n, 7, none⟩ = some (.slice R o.rd.length cr) := ((HR3.out.kept hb3).cell 7).trans rfl
  have f6 : w3.cell? ⟨n + 1, 6, none⟩ = some (.int .i64 o.wr) := ((HR2.out.kept hb3).cell 6).trans rfl
  have f7 : w3.cell? ⟨n + 1, 7, none⟩ = some (.slice R' o.rd.length cr') := ((HR2.out.kept hb3).cell 7).trans rfl
  have HIN3 := Lib.hid (HIN.out w3 hb3)
  clear hb3
  go_wp2_with fail
  refine HIN3.out.mono ?_
  rintro e w4 ⟨rfl, hb4⟩
  have HB4 := Lib.hid (HB3.out.trans (hb4.mono (by have := HB3.out.size; omega)))
  go_wp2_with fail
  go_ret
  exact ⟨rfl, by rw [HN.out]; exact HB4.out⟩

end Go.Proofs.YtfgmebjbibbpdaaGreatDoor

namespace Go.Proofs.YtfgmebjbibbpdaaGreatDoor
open Go.RowKit
attribute [local go_sem] Oper.semAt_some

set_option maxRecDepth 100000 in
set_option maxHeartbeats 4000000 in
theorem psystem_same (s : Sy) (At Ao At' Ao' : Option Addr) (ct co ct' co' : Nat) (w : World) (hnt : s.ts.length ≤ 100000) (hno : s.os.length ≤ 100000) (hcode : ∀ t ∈ s.ts, t.code.length ≤ 100000) (hobj : ∀ o ∈ s.os, o.ini.length ≤ 100000 ∧ o.rd.length ≤ 100000)
    (ht : TkSl w w.heap.size At s.ts) (ho : OjSl w w.heap.size Ao s.os) (ht' : TkSl w w.heap.size At' s.ts) (ho' : OjSl w w.heap.size Ao' s.os) :
    Calls Tryz.prog 12 #[.agg #[.slice At s.ts.length ct, .slice Ao s.os.length co], .agg #[.slice At' s.ts.length ct', .slice Ao' s.os.length co']] w fun e w' => e = .returned (.bool true) ∧ Below w.heap.size w w' := by
  have r1 := RowB.new w #[.slice At s.ts.length ct, .slice Ao s.os.length co] 25
  obtain ⟨w1, hw1⟩ : ∃ x, w.alloc (.cells #[.slice At s.ts.length ct, .slice Ao s.os.length co] 25) = x := ⟨_, rfl⟩
  rw [hw1] at r1
  have s1 : w1.heap.size = w.heap.size + 1 := by rw [← hw1, World.size_alloc]
  have r2 := RowB.new w1 #[.slice At' s.ts.length ct', .slice Ao' s.os.length co'] 25
  obtain ⟨w2, hw2⟩ : ∃ x, w1.alloc (.cells #[.slice At' s.ts.length ct', .slice Ao' s.os.length co'] 25) = x := ⟨_, rfl⟩
  rw [hw2] at r2
  have s2 : w2.heap.size = w.heap.size + 1 + 1 := by rw [← hw2, World.size_alloc, s1]
  have r3 := r1.kept (w' := w2) (by rw [← hw2]; exact (Below.refl _ w1).alloc (Nat.le_refl _) _)
  have hb2 : Below w.heap.size w w2 := below_al (below_al (Below.refl _ w) (Nat.le_refl _) hw1) (by omega) hw2
  rw [s1] at r2
  obtain ⟨n, hn⟩ : ∃ n, w.heap.size = n := ⟨_, rfl⟩
  rw [hn] at r2 r3 hb2 s1
  have a0 : w2.cell? ⟨n, 0, none⟩ = some (.slice At s.ts.length ct) := (r3.cell 0).trans rfl
  have a1 : w2.cell? ⟨n, 1, none⟩ = some (.slice Ao s.os.length co) := (r3.cell 1).trans rfl
  have b0 : w2.cell? ⟨n + 1, 0, none⟩ = some (.slice At' s.ts.length ct') := (r2.cell 0).trans rfl
  have b1 : w2.cell? ⟨n + 1, 1, none⟩ = some (.slice Ao' s.os.length co') := (r2.cell 1).trans rfl
  have HT := Lib.hid (ht.below (by rw [hn]; exact hb2) (B' := w2.heap.size) (by omega))
  have HO := Lib.hid (ho.below (by rw [hn]; exact hb2) (B' := w2.heap.size) (by omega))
  have HT' := Lib.hid (ht'.below (by rw [hn]; exact hb2) (B' := w2.heap.size) (by omega))
  have HO' := Lib.hid (ho'.below (by rw [hn]; exact hb2) (B' := w2.heap.size) (by omega))
  have HC := Lib.hid hcode
  have HJ := Lib.hid hobj
  have HB := Lib.hid hb2
  have HS := Lib.hid s2
  have HN := Lib.hid hn
  have HA0 := Lib.hid a0
  have HA1 := Lib.hid a1
  have HB0 := Lib.hid b0
  have HB1 := Lib.hid b1
  clear r1 r2 r3 s2 hb2 ht ho ht' ho' hcode hobj
  go_enter Tryz.func12, Tryz.ntmps12
  go_wp2_with fail
  clear a0 a1 b0 b1
  go_loopw [26] (fun j wr => ∃ k : Nat, k ≤ s.ts.length ∧ j = .int .i64 k ∧ Below w2.heap.size w2 wr) (fun j _ => s.ts.length - (intOf j).toNat)
  case atStart => exact ⟨0, Nat.zero_le _, rfl, Below.refl _ _⟩
  case round =>
    obtain ⟨k, hk, rfl, hbw⟩ := hrel
    by_cases hlt : k < s.ts.length
    · obtain ⟨t, hx⟩ := get_some hlt
      obtain ⟨b, off, E, c, hA, hlb, ⟨z0, z1, z2, z3, z4, z5, z6⟩, hI, hcc, hzz⟩ := HT.out k t hx
      subst hA
      have g0 := (hbw.cell (p := ⟨b, off + k * 7, none⟩) hlb).trans z0
      have g1 := (hbw.cell (p := ⟨b, off + k * 7 + 1, none⟩) hlb).trans z1
      have g2 := (hbw.cell (p := ⟨b, off + k * 7 + 2, none⟩) hlb).trans z2
      have g3 := (hbw.cell (p := ⟨b, off + k * 7 + 3, none⟩) hlb).trans z3
      have g4 := (hbw.cell (p := ⟨b, off + k * 7 + 4, none⟩) hlb).trans z4
      have g5 := (hbw.cell (p := ⟨b, off + k * 7 + 5, none⟩) hlb).trans z5
      have g6 := (hbw.cell (p := ⟨b, off + k * 7 + 6, none⟩) hlb).trans z6
      clear z0 z1 z2 z3 z4 z5 z6
      obtain ⟨b', off', E', c', hA', hlb', ⟨z0, z1, z2, z3, z4, z5, z6⟩, hI', hcc', hzz'⟩ := HT'.out k t hx
      subst hA'
      have h0 := (hbw.cell (p := ⟨b', off' + k * 7, none⟩) hlb').trans z0
      have h1 := (hbw.cell (p := ⟨b', off' + k * 7 + 1, none⟩) hlb').trans z1
      have h2 := (hbw.cell (p := ⟨b', off' + k * 7 + 2, none⟩) hlb').trans z2
      have h3 := (hbw.cell (p := ⟨b', off' + k * 7 + 3, none⟩) hlb').trans z3
      have h4 := (hbw.cell (p := ⟨b', off' + k * 7 + 4, none⟩) hlb').trans z4
      have h5 := (hbw.cell (p := ⟨b', off' + k * 7 + 5, none⟩) hlb').trans z5
      have h6 := (hbw.cell (p := ⟨b', off' + k * 7 + 6, none⟩) hlb').trans z6
      clear z0 z1 z2 z3 z4 z5 z6
      have hnl : n + 1 < w2.heap.size := by have := HS.out; have := HN.out; omega
      have j0 := (hbw.cell (p := ⟨n, 0, none⟩) (show n < w2.heap.size by omega)).trans HA0.out
      have j1 := (hbw.cell (p := ⟨n + 1, 0, none⟩) hnl).trans HB0.out
      have key : ∀ {p : Addr} {u : Value}, wr.cell? p = some u → wr.drew.cell? p = some u := fun {p u} hc => ((Below.refl wr.heap.size wr).drew.cell (p := p) (cell_lt hc)).trans hc
      have hSd : (fun w' : World => Below w2.heap.size w2 w' ∧ w'.cell? ⟨n, 0, none⟩ = some (.slice (some ⟨b, off, none⟩) s.ts.length ct) ∧ w'.cell? ⟨n + 1, 0, none⟩ = some (.slice (some ⟨b', off', none⟩) s.ts.length ct') ∧ w'.cell? ⟨b, off + k * 7, none⟩ = some (.int .i64 t.kd) ∧ w'.cell? ⟨b, off + k * 7 + 1, none⟩ = some (.int .i64 t.pr) ∧ w'.cell? ⟨b, off + k * 7 + 2, none⟩ = some (.int .i64 t.pe) ∧ w'.cell? ⟨b, off + k * 7 + 3, none⟩ = some (.int .i64 t.off) ∧ w'.cell? ⟨b, off + k * 7 + 4, none⟩ = some (.int .i64 t.dl) ∧ w'.cell? ⟨b, off + k * 7 + 5, none⟩ = some (.int .i64 t.ow) ∧ w'.cell? ⟨b, off + k * 7 + 6, none⟩ = some (.slice E t.code.length c) ∧ w'.cell? ⟨b', off' + k * 7, none⟩ = some (.int .i64 t.kd) ∧ w'.cell? ⟨b', off' + k * 7 + 1, none⟩ = some (.int .i64 t.pr) ∧ w'.cell? ⟨b', off' + k * 7 + 2, none⟩ = some (.int .i64 t.pe) ∧ w'.cell? ⟨b', off' + k * 7 + 3, none⟩ = some (.int .i64 t.off) ∧ w'.cell? ⟨b', off' + k * 7 + 4, none⟩ = some (.int .i64 t.dl) ∧ w'.cell? ⟨b', off' + k * 7 + 5, none⟩ = some (.int .i64 t.ow) ∧ w'.cell? ⟨b', off' + k * 7 + 6, none⟩ = some (.slice E' t.code.length c')) wr.drew := ⟨hbw.drew, key j0, key j1, key g0, key g1, key g2, key g3, key g4, key g5, key g6, key h0, key h1, key h2, key h3, key h4, key h5, key h6⟩
      have hkl : (k : Int) < (s.ts.length : Int) := by omega
      clear key g0 g1 g2 g3 g4 g5 g6 h0 h1 h2 h3 h4 h5 h6 j0 j1
      have hcl := HC.out t (List.mem_of_getElem? hx)
      have HCL := Lib.hid (fun W (hb : Below w2.heap.size w2 W) => ptask_same t E E' c c' W hcl (hI.below hb hb.size) (hI'.below hb hb.size))
      clear hx hI hI' hcc hcc' hzz hzz' hcl
      go_wp2_with fail
      refine wp_region_held_drew (S := (fun w' : World => Below w2.heap.size w2 w' ∧ w'.cell? ⟨n, 0, none⟩ = some (.slice (some ⟨b, off, none⟩) s.ts.length ct) ∧ w'.cell? ⟨n + 1, 0, none⟩ = some (.slice (some ⟨b', off', none⟩) s.ts.length ct') ∧ w'.cell? ⟨b, off + k * 7, none⟩ = some (.int .i64 t.kd) ∧ w'.cell? ⟨b, off + k * 7 + 1, none⟩ = some (.int .i64 t.pr) ∧ w'.cell? ⟨b, off + k * 7 + 2, none⟩ = some (.int .i64 t.pe) ∧ w'.cell? ⟨b, off + k * 7 + 3, none⟩ = some (.int .i64 t.off) ∧ w'.cell? ⟨b, off + k * 7 + 4, none⟩ = some (.int .i64 t.dl) ∧ w'.cell? ⟨b, off + k * 7 + 5, none⟩ = some (.int .i64 t.ow) ∧ w'.cell? ⟨b, off + k * 7 + 6, none⟩ = some (.slice E t.code.length c) ∧ w'.cell? ⟨b', off' + k * 7, none⟩ = some (.int .i64 t.kd) ∧ w'.cell? ⟨b', off' + k * 7 + 1, none⟩ = some (.int .i64 t.pr) ∧ w'.cell? ⟨b', off' + k * 7 + 2, none⟩ = some (.int .i64 t.pe) ∧ w'.cell? ⟨b', off' + k * 7 + 3, none⟩ = some (.int .i64 t.off) ∧ w'.cell? ⟨b', off' + k * 7 + 4, none⟩ = some (.int .i64 t.dl) ∧ w'.cell? ⟨b', off' + k * 7 + 5, none⟩ = some (.int .i64 t.ow) ∧ w'.cell? ⟨b', off' + k * 7 + 6, none⟩ = some (.slice E' t.code.length c'))) (by kernel_rfl) hSd (fun hHeld => ?_)
      generalize wr.drew = wz at hSd hHeld ⊢
      have hHeld : (fun w' : World => Below w2.heap.size w2 w' ∧ w'.cell? ⟨n, 0, none⟩ = some (.slice (some ⟨b, off, none⟩) s.ts.length ct) ∧ w'.cell? ⟨n + 1, 0, none⟩ = some (.slice (some ⟨b', off', none⟩) s.ts.length ct') ∧ w'.cell? ⟨b, off + k * 7, none⟩ = some (.int .i64 t.kd) ∧ w'.cell? ⟨b, off + k * 7 + 1, none⟩ = some (.int .i64 t.pr) ∧ w'.cell? ⟨b, off + k * 7 + 2, none⟩ = some (.int .i64 t.pe) ∧ w'.cell? ⟨b, off + k * 7 + 3, none⟩ = some (.int .i64 t.off) ∧ w'.cell? ⟨b, off + k * 7 + 4, none⟩ = some (.int .i64 t.dl) ∧ w'.cell? ⟨b, off + k * 7 + 5, none⟩ = some (.int .i64 t.ow) ∧ w'.cell? ⟨b, off + k * 7 + 6, none⟩ = some (.slice E t.code.length c) ∧ w'.cell? ⟨b', off' + k * 7, none⟩ = some (.int .i64 t.kd) ∧ w'.cell? ⟨b', off' + k * 7 + 1, none⟩ = some (.int .i64 t.pr) ∧ w'.cell? ⟨b', off' + k * 7 + 2, none⟩ = some (.int .i64 t.pe) ∧ w'.cell? ⟨b', off' + k * 7 + 3, none⟩ = some (.int .i64 t.off) ∧ w'.cell? ⟨b', off' + k * 7 + 4, none⟩ = some (.int .i64 t.dl) ∧ w'.cell? ⟨b', off' + k * 7 + 5, none⟩ = some (.int .i64 t.ow) ∧ w'.cell? ⟨b', off' + k * 7 + 6, none⟩ = some (.slice E' t.code.length c')) wz := hHeld
      refine wpAnyH_take (i := 0) (oi := ?_) (v := ?_) ?_ (by kernel_rfl) (by kernel_rfl) (by kernel_rfl) ?_ (Or.inl ⟨?_, ?_⟩) (by assumption) ?_
      rotate_left 2
      · (simp only [List.getElem?_toArray, List.getElem?_cons_zero]; rfl)
      · first | exact fun _ _ _ h => h | exact fun _ _ _ h => by cases h.1
      · rfl
      · ((intro wq hSq; (try dsimp only at hSq); go_simp); (try with_reducible rfl))
      try first | simp only [pS, List.set] | simp only [pN]
      refine wpAnyH_take (i := 1) (oi := ?_) (v := ?_) ?_ (by kernel_rfl) (by kernel_rfl) (by kernel_rfl) ?_ (Or.inl ⟨?_, ?_⟩) (by assumption) ?_
      rotate_left 2
      · (simp only [List.getElem?_toArray, List.getElem?_cons_succ, List.getElem?_cons_zero]; rfl)
      · first | exact fun _ _ _ h => h | exact fun _ _ _ h => by cases h.1
      · rfl
      · ((intro wq hSq; (try dsimp only at hSq); go_simp); (try with_reducible rfl))
      try first | simp only [pS, List.set] | simp only [pN]
      refine wpAnyH_take (i := 2) (oi := ?_) (v := ?_) ?_ (by kernel_rfl) (by kernel_rfl) (by kernel_rfl) ?_ (Or.inl ⟨?_, ?_⟩) (by assumption) ?_
      rotate_left 2
      · (simp only [List.getElem?_toArray, List.getElem?_cons_succ, List.getElem?_cons_zero]; rfl)
      · first | exact fun _ _ _ h => h | exact fun _ _ _ h => by cases h.1
      · rfl
      · ((intro wq hSq; (try dsimp only at hSq); go_simp); (try with_reducible rfl))
      try first | simp only [pS, List.set] | simp only [pN]
      refine wpAnyH_take (i := 3) (oi := ?_) (v := ?_) ?_ (by kernel_rfl) (by kernel_rfl) (by kernel_rfl) ?_ (Or.inl ⟨?_, ?_⟩) (by assumption) ?_
      rotate_left 2
      · (simp only [List.getElem?_toArray, List.getElem?_cons_succ, List.getElem?_cons_zero]; rfl)
      · first | exact fun _ _ _ h => h | exact fun _ _ _ h => by cases h.1
      · rfl
      · ((intro wq hSq; (try dsimp only at hSq); go_simp); (try with_reducible rfl))
      try first | simp only [pS, List.set] | simp only [pN]
      refine wpAnyH_take (i := 4) (oi := ?_) (v := ?_) ?_ (by kernel_rfl) (by kernel_rfl) (by kernel_rfl) ?_ (Or.inl ⟨?_, ?_⟩) (by assumption) ?_
      rotate_left 2
      · (simp only [List.getElem?_toArray, List.getElem?_cons_succ, List.getElem?_cons_zero]; rfl)
      · first | exact fun _ _ _ h => h | exact fun _ _ _ h => by cases h.1
      · rfl
      · ((intro wq hSq; (try dsimp only at hSq); go_simp); (try with_reducible rfl))
      try first | simp only [pS, List.set] | simp only [pN]
      refine wpAnyH_take (i := 5) (oi := ?_) (v := ?_) ?_ (by kernel_rfl) (by kernel_rfl) (by kernel_rfl) ?_ (Or.inl ⟨?_, ?_⟩) (by assumption) ?_
      rotate_left 2
      · (simp only [List.getElem?_toArray, List.getElem?_cons_succ, List.getElem?_cons_zero]; rfl)
      · first | exact fun _ _ _ h => h | exact fun _ _ _ h => by cases h.1
      · rfl
      · ((intro wq hSq; (try dsimp only at hSq); go_simp); (try with_reducible rfl))
      try first | simp only [pS, List.set] | simp only [pN]
      refine wpAnyH_take (i := 6) (oi := ?_) (v := ?_) ?_ (by kernel_rfl) (by kernel_rfl) (by kernel_rfl) ?_ (Or.inl ⟨?_, ?_⟩) (by assumption) ?_
      rotate_left 2
      · (simp only [List.getElem?_toArray, List.getElem?_cons_succ, List.getElem?_cons_zero]; rfl)
      · first | exact fun _ _ _ h => h | exact fun _ _ _ h => by cases h.1
      · rfl
      · ((intro wq hSq; (try dsimp only at hSq); go_simp); (try with_reducible rfl))
      try first | simp only [pS, List.set] | simp only [pN]
      refine wpAnyH_take (i := 7) (oi := ?_) (v := ?_) ?_ (by kernel_rfl) (by kernel_rfl) (by kernel_rfl) ?_ (Or.inl ⟨?_, ?_⟩) (by assumption) ?_
      rotate_left 2
      · (simp only [List.getElem?_toArray, List.getElem?_cons_succ, List.getElem?_cons_zero]; rfl)
      · first | exact fun _ _ _ h => h | exact fun _ _ _ h => by cases h.1
      · rfl
      · ((intro wq hSq; (try dsimp only at hSq); go_simp); (try with_reducible rfl))
      try first | simp only [pS, List.set] | simp only [pN]
      refine wpAnyH_take (i := 8) (oi := ?_) (v := ?_) ?_ (by kernel_rfl) (by kernel_rfl) (by kernel_rfl) ?_ (Or.inl ⟨?_, ?_⟩) (by assumption) ?_
      rotate_left 2
      · (simp only [List.getElem?_toArray, List.getElem?_cons_succ, List.getElem?_cons_zero]; rfl)
      · first | exact fun _ _ _ h => h | exact fun _ _ _ h => by cases h.1
      · rfl
      · ((intro wq hSq; (try dsimp only at hSq); go_simp); (try with_reducible rfl))
      try first | simp only [pS, List.set] | simp only [pN]
      refine wpAnyH_take (i := 9) (oi := ?_) (v := ?_) ?_ (by kernel_rfl) (by kernel_rfl) (by kernel_rfl) ?_ (Or.inl ⟨?_, ?_⟩) (by assumption) ?_
      rotate_left 2
      · (simp only [List.getElem?_toArray, List.getElem?_cons_succ, List.getElem?_cons_zero]; rfl)
      · first | exact fun _ _ _ h => h | exact fun _ _ _ h => by cases h.1
      · rfl
      · ((intro wq hSq; (try dsimp only at hSq); go_simp); (try with_reducible rfl))
      try first | simp only [pS, List.set] | simp only [pN]
      refine wpAnyH_ready (rs := [10]) (by kernel_rfl) (by simp) ?_
      refine AllReadyH.cons (o := ?_) ?_ (fun K hK => ?_) AllReadyH.nil
      rotate_left
      · (simp only [List.getElem?_toArray, List.getElem?_cons_succ, List.getElem?_cons_zero]; rfl)
      · go_simp
        go_at_call 29
        refine (HCL.out wz hHeld.1).mono ?_
        rintro ex wx ⟨rfl, hbx⟩
        obtain ⟨qb, q0, q1, q2, q3, q4, q5, q6, q7, q8, q9, q10, q11, q12, q13, q14, q15⟩ := hHeld
        have key : ∀ {p : Addr} {u : Value}, wz.cell? p = some u → wx.cell? p = some u := fun {p u} hc => (hbx.cell (p := p) (cell_lt hc)).trans hc
        have hSx : (fun w' : World => Below w2.heap.size w2 w' ∧ w'.cell? ⟨n, 0, none⟩ = some (.slice (some ⟨b, off, none⟩) s.ts.length ct) ∧ w'.cell? ⟨n + 1, 0, none⟩ = some (.slice (some ⟨b', off', none⟩) s.ts.length ct') ∧ w'.cell? ⟨b, off + k * 7, none⟩ = some (.int .i64 t.kd) ∧ w'.cell? ⟨b, off + k * 7 + 1, none⟩ = some (.int .i64 t.pr) ∧ w'.cell? ⟨b, off + k * 7 + 2, none⟩ = some (.int .i64 t.pe) ∧ w'.cell? ⟨b, off + k * 7 + 3, none⟩ = some (.int .i64 t.off) ∧ w'.cell? ⟨b, off + k * 7 + 4, none⟩ = some (.int .i64 t.dl) ∧ w'.cell? ⟨b, off + k * 7 + 5, none⟩ = some (.int .i64 t.ow) ∧ w'.cell? ⟨b, off + k * 7 + 6, none⟩ = some (.slice E t.code.length c) ∧ w'.cell? ⟨b', off' + k * 7, none⟩ = some (.int .i64 t.kd) ∧ w'.cell? ⟨b', off' + k * 7 + 1, none⟩ = some (.int .i64 t.pr) ∧ w'.cell? ⟨b', off' + k * 7 + 2, none⟩ = some (.int .i64 t.pe) ∧ w'.cell? ⟨b', off' + k * 7 + 3, none⟩ = some (.int .i64 t.off) ∧ w'.cell? ⟨b', off' + k * 7 + 4, none⟩ = some (.int .i64 t.dl) ∧ w'.cell? ⟨b', off' + k * 7 + 5, none⟩ = some (.int .i64 t.ow) ∧ w'.cell? ⟨b', off' + k * 7 + 6, none⟩ = some (.slice E' t.code.length c')) wx := ⟨qb.trans (hbx.mono qb.size), key q0, key q1, key q2, key q3, key q4, key q5, key q6, key q7, key q8, key q9, key q10, key q11, key q12, key q13, key q14, key q15⟩
        clear key hbx qb q0 q1 q2 q3 q4 q5 q6 q7 q8 q9 q10 q11 q12 q13 q14 q15
        refine hK.out _ _ hSx (fun hHeld => ?_)
        clear hK K
        try first | simp only [pS, List.set] | simp only [pN]
        refine wpAnyH_take (i := 11) (oi := ?_) (v := ?_) ?_ (by kernel_rfl) (by kernel_rfl) (by kernel_rfl) ?_ (Or.inl ⟨?_, ?_⟩) (by assumption) ?_
        rotate_left 2
        · (simp only [List.getElem?_toArray, List.getElem?_cons_succ, List.getElem?_cons_zero]; rfl)
        · first | exact fun _ _ _ h => h | exact fun _ _ _ h => by cases h.1
        · rfl
        · ((intro wq hSq; (try dsimp only at hSq); go_simp); (try with_reducible rfl))
        try first | simp only [pS, List.set] | simp only [pN]
        refine wpAnyH_done (by kernel_rfl) ?_ _
        have HBX := Lib.hid hSx.1
        clear hSd hSx hHeld
        go_wp2_with fail
        go_roundw
        case rel => exact ⟨k + 1, by omega, by go_num, HBX.out⟩
        case measure => simp [intOf]; omega
    · have HBW := Lib.hid hbw
      have j0 := (hbw.cell (p := ⟨n, 1, none⟩) (show n < w2.heap.size by have := HS.out; have := HN.out; omega)).trans HA1.out
      clear hbw hk
      go_wp2_with fail
      clear j0 hlt
      go_loopw [45] (fun j wr => ∃ k : Nat, k ≤ s.os.length ∧ j = .int .i64 k ∧ Below w2.heap.size w2 wr) (fun j _ => s.os.length - (intOf j).toNat)
      case atStart => exact ⟨0, Nat.zero_le _, rfl, HBW.out⟩
      case round =>
        obtain ⟨k, hk, rfl, hbw⟩ := hrel
        by_cases hlt : k < s.os.length
        · obtain ⟨o, hx⟩ := get_some hlt
          obtain ⟨b, off, I, ci, R, cr, hA, hlb, ⟨z0, z1, z2, z3, z4, z5, z6, z7⟩, ⟨hI, _⟩, ⟨hR, _⟩, _, _⟩ := HO.out k o hx
          subst hA
          have g0 := (hbw.cell (p := ⟨b, off + k * 8, none⟩) hlb).trans z0
          have g1 := (hbw.cell (p := ⟨b, off + k * 8 + 1, none⟩) hlb).trans z1
          have g2 := (hbw.cell (p := ⟨b, off + k * 8 + 2, none⟩) hlb).trans z2
          have g3 := (hbw.cell (p := ⟨b, off + k * 8 + 3, none⟩) hlb).trans z3
          have g4 := (hbw.cell (p := ⟨b, off + k * 8 + 4, none⟩) hlb).trans z4
          have g5 := (hbw.cell (p := ⟨b, off + k * 8 + 5, none⟩) hlb).trans z5
          have g6 := (hbw.cell (p := ⟨b, off + k * 8 + 6, none⟩) hlb).trans z6
          have g7 := (hbw.cell (p := ⟨b, off + k * 8 + 7, none⟩) hlb).trans z7
          clear z0 z1 z2 z3 z4 z5 z6 z7
          obtain ⟨b', off', I', ci', R', cr', hA', hlb', ⟨z0, z1, z2, z3, z4, z5, z6, z7⟩, ⟨hI', _⟩, ⟨hR', _⟩, _, _⟩ := HO'.out k o hx
          subst hA'
          have h0 := (hbw.cell (p := ⟨b', off' + k * 8, none⟩) hlb').trans z0
          have h1 := (hbw.cell (p := ⟨b', off' + k * 8 + 1, none⟩) hlb').trans z1
          have h2 := (hbw.cell (p := ⟨b', off' + k * 8 + 2, none⟩) hlb').trans z2
          have h3 := (hbw.cell (p := ⟨b', off' + k * 8 + 3, none⟩) hlb').trans z3
          have h4 := (hbw.cell (p := ⟨b', off' + k * 8 + 4, none⟩) hlb').trans z4
          have h5 := (hbw.cell (p := ⟨b', off' + k * 8 + 5, none⟩) hlb').trans z5
          have h6 := (hbw.cell (p := ⟨b', off' + k * 8 + 6, none⟩) hlb').trans z6
          have h7 := (hbw.cell (p := ⟨b', off' + k * 8 + 7, none⟩) hlb').trans z7
          clear z0 z1 z2 z3 z4 z5 z6 z7
          have hnl : n + 1 < w2.heap.size := by have := HS.out; have := HN.out; omega
          have j0 := (hbw.cell (p := ⟨n, 1, none⟩) (show n < w2.heap.size by omega)).trans HA1.out
          have j1 := (hbw.cell (p := ⟨n + 1, 1, none⟩) hnl).trans HB1.out
          have key : ∀ {p : Addr} {u : Value}, wr.cell? p = some u → wr.drew.cell? p = some u := fun {p u} hc => ((Below.refl wr.heap.size wr).drew.cell (p := p) (cell_lt hc)).trans hc
          have hSd : (fun w' : World => Below w2.heap.size w2 w' ∧ w'.cell? ⟨n, 1, none⟩ = some (.slice (some ⟨b, off, none⟩) s.os.length co) ∧ w'.cell? ⟨n + 1, 1, none⟩ = some (.slice (some ⟨b', off', none⟩) s.os.length co') ∧ w'.cell? ⟨b, off + k * 8, none⟩ = some (.int .i64 o.kd) ∧ w'.cell? ⟨b, off + k * 8 + 1, none⟩ = some (.int .i64 o.wd) ∧ w'.cell? ⟨b, off + k * 8 + 2, none⟩ = some (.int .i64 o.sl) ∧ w'.cell? ⟨b, off + k * 8 + 3, none⟩ = some (.int .i64 o.cp) ∧ w'.cell? ⟨b, off + k * 8 + 4, none⟩ = some (.int .u32 o.st) ∧ w'.cell? ⟨b, off + k * 8 + 5, none⟩ = some (.slice I o.ini.length ci) ∧ w'.cell? ⟨b, off + k * 8 + 6, none⟩ = some (.int .i64 o.wr) ∧ w'.cell? ⟨b, off + k * 8 + 7, none⟩ = some (.slice R o.rd.length cr) ∧ w'.cell? ⟨b', off' + k * 8, none⟩ = some (.int .i64 o.kd) ∧ w'.cell? ⟨b', off' + k * 8 + 1, none⟩ = some (.int .i64 o.wd) ∧ w'.cell? ⟨b', off' + k * 8 + 2, none⟩ = some (.int .i64 o.sl) ∧ w'.cell? ⟨b', off' + k * 8 + 3, none⟩ = some (.int .i64 o.cp) ∧ w'.cell? ⟨b', off' + k * 8 + 4, none⟩ = some (.int .u32 o.st) ∧ w'.cell? ⟨b', off' + k * 8 + 5, none⟩ = some (.slice I' o.ini.length ci') ∧ w'.cell? ⟨b', off' + k * 8 + 6, none⟩ = some (.int .i64 o.wr) ∧ w'.cell? ⟨b', off' + k * 8 + 7, none⟩ = some (.slice R' o.rd.length cr')) wr.drew := ⟨hbw.drew, key j0, key j1, key g0, key g1, key g2, key g3, key g4, key g5, key g6, key g7, key h0, key h1, key h2, key h3, key h4, key h5, key h6, key h7⟩
          have hkl : (k : Int) < (s.os.length : Int) := by omega
          clear key g0 g1 g2 g3 g4 g5 g6 g7 h0 h1 h2 h3 h4 h5 h6 h7 j0 j1
          have hcl := HJ.out o (List.mem_of_getElem? hx)
          have HCL := Lib.hid (fun W (hb : Below w2.heap.size w2 W) => pobject_same o I I' R R' ci ci' cr cr' W hcl.1 hcl.2 (hI.below hb hb.size) (hI'.below hb hb.size) (hR.below hb hb.size) (hR'.below hb hb.size))
          clear hx hI hI' hR hR' hcl
          go_wp2_with fail
          refine wp_region_held_drew (S := (fun w' : World => Below w2.heap.size w2 w' ∧ w'.cell? ⟨n, 1, none⟩ = some (.slice (some ⟨b, off, none⟩) s.os.length co) ∧ w'.cell? ⟨n + 1, 1, none⟩ = some (.slice (some ⟨b', off', none⟩) s.os.length co') ∧ w'.cell? ⟨b, off + k * 8, none⟩ = some (.int .i64 o.kd) ∧ w'.cell? ⟨b, off + k * 8 + 1, none⟩ = some (.int .i64 o.wd) ∧ w'.cell? ⟨b, off + k * 8 + 2, none⟩ = some (.int .i64 o.sl) ∧ w'.cell? ⟨b, off + k * 8 + 3, none⟩ = some (.int .i64 o.cp) ∧ w'.cell? ⟨b, off + k * 8 + 4, none⟩ = some (.int .u32 o.st) ∧ w'.cell? ⟨b, off + k * 8 + 5, none⟩ = some (.slice I o.ini.length ci) ∧ w'.cell? ⟨b, off + k * 8 + 6, none⟩ = some (.int .i64 o.wr) ∧ w'.cell? ⟨b, off + k * 8 + 7, none⟩ = some (.slice R o.rd.length cr) ∧ w'.cell? ⟨b', off' + k * 8, none⟩ = some (.int .i64 o.kd) ∧ w'.cell? ⟨b', off' + k * 8 + 1, none⟩ = some (.int .i64 o.wd) ∧ w'.cell? ⟨b', off' + k * 8 + 2, none⟩ = some (.int .i64 o.sl) ∧ w'.cell? ⟨b', off' + k * 8 + 3, none⟩ = some (.int .i64 o.cp) ∧ w'.cell? ⟨b', off' + k * 8 + 4, none⟩ = some (.int .u32 o.st) ∧ w'.cell? ⟨b', off' + k * 8 + 5, none⟩ = some (.slice I' o.ini.length ci') ∧ w'.cell? ⟨b', off' + k * 8 + 6, none⟩ = some (.int .i64 o.wr) ∧ w'.cell? ⟨b', off' + k * 8 + 7, none⟩ = some (.slice R' o.rd.length cr'))) (by kernel_rfl) hSd (fun hHeld => ?_)
          generalize wr.drew = wz at hSd hHeld ⊢
          have hHeld : (fun w' : World => Below w2.heap.size w2 w' ∧ w'.cell? ⟨n, 1, none⟩ = some (.slice (some ⟨b, off, none⟩) s.os.length co) ∧ w'.cell? ⟨n + 1, 1, none⟩ = some (.slice (some ⟨b', off', none⟩) s.os.length co') ∧ w'.cell? ⟨b, off + k * 8, none⟩ = some (.int .i64 o.kd) ∧ w'.cell? ⟨b, off + k * 8 + 1, none⟩ = some (.int .i64 o.wd) ∧ w'.cell? ⟨b, off + k * 8 + 2, none⟩ = some (.int .i64 o.sl) ∧ w'.cell? ⟨b, off + k * 8 + 3, none⟩ = some (.int .i64 o.cp) ∧ w'.cell? ⟨b, off + k * 8 + 4, none⟩ = some (.int .u32 o.st) ∧ w'.cell? ⟨b, off + k * 8 + 5, none⟩ = some (.slice I o.ini.length ci) ∧ w'.cell? ⟨b, off + k * 8 + 6, none⟩ = some (.int .i64 o.wr) ∧ w'.cell? ⟨b, off + k * 8 + 7, none⟩ = some (.slice R o.rd.length cr) ∧ w'.cell? ⟨b', off' + k * 8, none⟩ = some (.int .i64 o.kd) ∧ w'.cell? ⟨b', off' + k * 8 + 1, none⟩ = some (.int .i64 o.wd) ∧ w'.cell? ⟨b', off' + k * 8 + 2, none⟩ = some (.int .i64 o.sl) ∧ w'.cell? ⟨b', off' + k * 8 + 3, none⟩ = some (.int .i64 o.cp) ∧ w'.cell? ⟨b', off' + k * 8 + 4, none⟩ = some (.int .u32 o.st) ∧ w'.cell? ⟨b', off' + k * 8 + 5, none⟩ = some (.slice I' o.ini.length ci') ∧ w'.cell? ⟨b', off' + k * 8 + 6, none⟩ = some (.int .i64 o.wr) ∧ w'.cell? ⟨b', off' + k * 8 + 7, none⟩ = some (.slice R' o.rd.length cr')) wz := hHeld
          refine wpAnyH_take (i := 0) (oi := ?_) (v := ?_) ?_ (by kernel_rfl) (by kernel_rfl) (by kernel_rfl) ?_ (Or.inl ⟨?_, ?_⟩) (by assumption) ?_
          rotate_left 2
          · (simp only [List.getElem?_toArray, List.getElem?_cons_zero]; rfl)
          · first | exact fun _ _ _ h => h | exact fun _ _ _ h => by cases h.1
          · rfl
          · ((intro wq hSq; (try dsimp only at hSq); go_simp); (try with_reducible rfl))
          try first | simp only [pS, List.set] | simp only [pN]
          refine wpAnyH_take (i := 1) (oi := ?_) (v := ?_) ?_ (by kernel_rfl) (by kernel_rfl) (by kernel_rfl) ?_ (Or.inl ⟨?_, ?_⟩) (by assumption) ?_
          rotate_left 2
          · (simp only [List.getElem?_toArray, List.getElem?_cons_succ, List.getElem?_cons_zero]; rfl)
          · first | exact fun _ _ _ h => h | exact fun _ _ _ h => by cases h.1
          · rfl
          · ((intro wq hSq; (try dsimp only at hSq); go_simp); (try with_reducible rfl))
          try first | simp only [pS, List.set] | simp only [pN]
          refine wpAnyH_take (i := 2) (oi := ?_) (v := ?_) ?_ (by kernel_rfl) (by kernel_rfl) (by kernel_rfl) ?_ (Or.inl ⟨?_, ?_⟩) (by assumption) ?_
          rotate_left 2
          · (simp only [List.getElem?_toArray, List.getElem?_cons_succ, List.getElem?_cons_zero]; rfl)
          · first | exact fun _ _ _ h => h | exact fun _ _ _ h => by cases h.1
          · rfl
          · ((intro wq hSq; (try dsimp only at hSq); go_simp); (try with_reducible rfl))
          try first | simp only [pS, List.set] | simp only [pN]
          refine wpAnyH_take (i := 3) (oi := ?_) (v := ?_) ?_ (by kernel_rfl) (by kernel_rfl) (by kernel_rfl) ?_ (Or.inl ⟨?_, ?_⟩) (by assumption) ?_
          rotate_left 2
          · (simp only [List.getElem?_toArray, List.getElem?_cons_succ, List.getElem?_cons_zero]; rfl)
          · first | exact fun _ _ _ h => h | exact fun _ _ _ h => by cases h.1
          · rfl
          · ((intro wq hSq; (try dsimp only at hSq); go_simp); (try with_reducible rfl))
          try first | simp only [pS, List.set] | simp only [pN]
          refine wpAnyH_take (i := 4) (oi := ?_) (v := ?_) ?_ (by kernel_rfl) (by kernel_rfl) (by kernel_rfl) ?_ (Or.inl ⟨?_, ?_⟩) (by assumption) ?_
          rotate_left 2
          · (simp only [List.getElem?_toArray, List.getElem?_cons_succ, List.getElem?_cons_zero]; rfl)
          · first | exact fun _ _ _ h => h | exact fun _ _ _ h => by cases h.1
          · rfl
          · ((intro wq hSq; (try dsimp only at hSq); go_simp); (try with_reducible rfl))
          try first | simp only [pS, List.set] | simp only [pN]
          refine wpAnyH_take (i := 5) (oi := ?_) (v := ?_) ?_ (by kernel_rfl) (by kernel_rfl) (by kernel_rfl) ?_ (Or.inl ⟨?_, ?_⟩) (by assumption) ?_
          rotate_left 2
          · (simp only [List.getElem?_toArray, List.getElem?_cons_succ, List.getElem?_cons_zero]; rfl)
          · first | exact fun _ _ _ h => h | exact fun _ _ _ h => by cases h.1
          · rfl
          · ((intro wq hSq; (try dsimp only at hSq); go_simp); (try with_reducible rfl))
          try first | simp only [pS, List.set] | simp only [pN]
          refine wpAnyH_take (i := 6) (oi := ?_) (v := ?_) ?_ (by kernel_rfl) (by kernel_rfl) (by kernel_rfl) ?_ (Or.inl ⟨?_, ?_⟩) (by assumption) ?_
          rotate_left 2
          · (simp only [List.getElem?_toArray, List.getElem?_cons_succ, List.getElem?_cons_zero]; rfl)
          · first | exact fun _ _ _ h => h | exact fun _ _ _ h => by cases h.1
          · rfl
          · ((intro wq hSq; (try dsimp only at hSq); go_simp); (try with_reducible rfl))
          try first | simp only [pS, List.set] | simp only [pN]
          refine wpAnyH_take (i := 7) (oi := ?_) (v := ?_) ?_ (by kernel_rfl) (by kernel_rfl) (by kernel_rfl) ?_ (Or.inl ⟨?_, ?_⟩) (by assumption) ?_
          rotate_left 2
          · (simp only [List.getElem?_toArray, List.getElem?_cons_succ, List.getElem?_cons_zero]; rfl)
          · first | exact fun _ _ _ h => h | exact fun _ _ _ h => by cases h.1
          · rfl
          · ((intro wq hSq; (try dsimp only at hSq); go_simp); (try with_reducible rfl))
          try first | simp only [pS, List.set] | simp only [pN]
          refine wpAnyH_take (i := 8) (oi := ?_) (v := ?_) ?_ (by kernel_rfl) (by kernel_rfl) (by kernel_rfl) ?_ (Or.inl ⟨?_, ?_⟩) (by assumption) ?_
          rotate_left 2
          · (simp only [List.getElem?_toArray, List.getElem?_cons_succ, List.getElem?_cons_zero]; rfl)
          · first | exact fun _ _ _ h => h | exact fun _ _ _ h => by cases h.1
          · rfl
          · ((intro wq hSq; (try dsimp only at hSq); go_simp); (try with_reducible rfl))
          try first | simp only [pS, List.set] | simp only [pN]
          refine wpAnyH_take (i := 9) (oi := ?_) (v := ?_) ?_ (by kernel_rfl) (by kernel_rfl) (by kernel_rfl) ?_ (Or.inl ⟨?_, ?_⟩) (by assumption) ?_
          rotate_left 2
          · (simp only [List.getElem?_toArray, List.getElem?_cons_succ, List.getElem?_cons_zero]; rfl)
          · first | exact fun _ _ _ h => h | exact fun _ _ _ h => by cases h.1
          · rfl
          · ((intro wq hSq; (try dsimp only at hSq); go_simp); (try with_reducible rfl))
          try first | simp only [pS, List.set] | simp only [pN]
          refine wpAnyH_ready (rs := [10]) (by kernel_rfl) (by simp) ?_
          refine AllReadyH.cons (o := ?_) ?_ (fun K hK => ?_) AllReadyH.nil
          rotate_left
          · (simp only [List.getElem?_toArray, List.getElem?_cons_succ, List.getElem?_cons_zero]; rfl)
          · go_simp
            go_at_call 30
            refine (HCL.out wz hHeld.1).mono ?_
            rintro ex wx ⟨rfl, hbx⟩
            obtain ⟨qb, q0, q1, q2, q3, q4, q5, q6, q7, q8, q9, q10, q11, q12, q13, q14, q15, q16, q17⟩ := hHeld
            have key : ∀ {p : Addr} {u : Value}, wz.cell? p = some u → wx.cell? p = some u := fun {p u} hc => (hbx.cell (p := p) (cell_lt hc)).trans hc
            have hSx : (fun w' : World => Below w2.heap.size w2 w' ∧ w'.cell? ⟨n, 1, none⟩ = some (.slice (some ⟨b, off, none⟩) s.os.length co) ∧ w'.cell? ⟨n + 1, 1, none⟩ = some (.slice (some ⟨b', off', none⟩) s.os.length co') ∧ w'.cell? ⟨b, off + k * 8, none⟩ = some (.int .i64 o.kd) ∧ w'.cell? ⟨b, off + k * 8 + 1, none⟩ = some (.int .i64 o.wd) ∧ w'.cell? ⟨b, off + k * 8 + 2, none⟩ = some (.int .i64 o.sl) ∧ w'.cell? ⟨b, off + k * 8 + 3, none⟩ = some (.int .i64 o.cp) ∧ w'.cell? ⟨b, off + k * 8 + 4, none⟩ = some (.int .u32 o.st) ∧ w'.cell? ⟨b, off + k * 8 + 5, none⟩ = some (.slice I o.ini.length ci) ∧ w'.cell? ⟨b, off + k * 8 + 6, none⟩ = some (.int .i64 o.wr) ∧ w'.cell? ⟨b, off + k * 8 + 7, none⟩ = some (.slice R o.rd.length cr) ∧ w'.cell? ⟨b', off' + k * 8, none⟩ = some (.int .i64 o.kd) ∧ w'.cell? ⟨b', off' + k * 8 + 1, none⟩ = some (.int .i64 o.wd) ∧ w'.cell? ⟨b', off' + k * 8 + 2, none⟩ = some (.int .i64 o.sl) ∧ w'.cell? ⟨b', off' + k * 8 + 3, none⟩ = some (.int .i64 o.cp) ∧ w'.cell? ⟨b', off' + k * 8 + 4, none⟩ = some (.int .u32 o.st) ∧ w'.cell? ⟨b', off' + k * 8 + 5, none⟩ = some (.slice I' o.ini.length ci') ∧ w'.cell? ⟨b', off' + k * 8 + 6, none⟩ = some (.int .i64 o.wr) ∧ w'.cell? ⟨b', off' + k * 8 + 7, none⟩ = some (.slice R' o.rd.length cr')) wx := ⟨qb.trans (hbx.mono qb.size), key q0, key q1, key q2, key q3, key q4, key q5, key q6, key q7, key q8, key q9, key q10, key q11, key q12, key q13, key q14, key q15, key q16, key q17⟩
            clear key hbx qb q0 q1 q2 q3 q4 q5 q6 q7 q8 q9 q10 q11 q12 q13 q14 q15 q16 q17
            refine hK.out _ _ hSx (fun hHeld => ?_)
            clear hK K
            try first | simp only [pS, List.set] | simp only [pN]
            refine wpAnyH_take (i := 11) (oi := ?_) (v := ?_) ?_ (by kernel_rfl) (by kernel_rfl) (by kernel_rfl) ?_ (Or.inl ⟨?_, ?_⟩) (by assumption) ?_
            rotate_left 2
            · (simp only [List.getElem?_toArray, List.getElem?_cons_succ, List.getElem?_cons_zero]; rfl)
            · first | exact fun _ _ _ h => h | exact fun _ _ _ h => by cases h.1
            · rfl
            · ((intro wq hSq; (try dsimp only at hSq); go_simp); (try with_reducible rfl))
            try first | simp only [pS, List.set] | simp only [pN]
            refine wpAnyH_done (by kernel_rfl) ?_ _
            have HBX := Lib.hid hSx.1
            clear hSd hSx hHeld
            go_wp2_with fail
            go_roundw
            case rel => exact ⟨k + 1, by omega, by go_num, HBX.out⟩
            case measure => simp [intOf]; omega
        · have HBW := Lib.hid hbw
          clear hbw hk
          go_wp2_with fail
          go_ret
          exact ⟨rfl, HB.out.trans (HBW.out.mono (by have := HB.out.size; omega)) |> fun h => by rw [HN.out]; exact h⟩

end Go.Proofs.YtfgmebjbibbpdaaGreatDoor

namespace Go.Proofs.YtfgmebjbibbpdaaGreatDoor
open Go.RowKit
attribute [local go_sem] Oper.semAt_some

theorem mx_of {W : World} (h : W.ShapedOpen Tryz.prog) : Mx W := Tryz.laysM146.s1_3 W h
theorem sparses_big (t : ByteArray) (w : World) (hT : Tab w) (hM : Mx w) (hbig : 3000 < t.size) :
    Calls Tryz.prog 4 #[.string t] w fun e w' => e = .returned (.bool true) ∧ Below w.heap.size w w' := by
  have t2 : decide ((3000 : Int) < (t.size : Int)) = true := by rw [decide_eq_true_iff]; omega
  go_enter Tryz.func4, Tryz.ntmps4
  go_wp2_with fail
  refine (awake_any _ hT hM).mono ?_
  rintro e w3 ⟨rfl, hb3⟩
  go_wp2_with fail
  go_ret
  exact ⟨rfl, hb3⟩
set_option maxRecDepth 100000 in
set_option maxHeartbeats 4000000 in
theorem sparses_small (t : ByteArray) (w : World) (hts : t.size ≤ 3000) (hT : Tab w) (hM : Mx w) :
    Calls Tryz.prog 4 #[.string t] w fun e w' => e = .returned (.bool true) ∧ Below w.heap.size w w' := by
  have hlen : t.data.toList.length = t.size := Array.length_toList
  have h4 := fun W hT hM => sparse_any t W (by omega) (fun x hx => by have := lns_mem t.data.toList x hx; omega) hT hM
  have h5 := fun W => rparse9_any t W (by omega) (fun x hx => by have := pcs_mem 10 t.data.toList x hx; omega)
  obtain ⟨z1, z2, z3, z4⟩ := parse_sz t.data.toList
  have t2 : decide ((3000 : Int) < (t.size : Int)) = false := by rw [decide_eq_false_iff_not]; omega
  unfold ParR at h4 h5
  obtain ⟨G, hG⟩ : ∃ x, parseS t.data.toList = x := ⟨_, rfl⟩
  rw [hG] at h4 h5 z1 z2 z3 z4
  obtain ⟨z, at_, er⟩ := G
  simp only at h4 h5 z1 z2 z3 z4
  have h6 := fun (W : World) (A B A' B' : Option Addr) (c d c' d' : Nat) => psystem_same z A B A' B' c d c' d' W (by omega) (by omega) (fun t h => by have := z3 t h; omega) (fun o h => by have := z4 o h; omega)
  have H4 := Lib.hid h4
  have H5 := Lib.hid h5
  have H6 := Lib.hid h6
  clear h4 h5 h6 z1 z2 z3 z4 hG hlen
  go_enter Tryz.func4, Tryz.ntmps4
  go_wp2_with fail
  refine (H4.out w hT hM).mono ?_
  rintro e w1 ⟨A1, c1, B1, d1, rfl, ht1, ho1, hb1⟩
  have r2 := RowB.new w1 #[.slice A1 z.ts.length c1, .slice B1 z.os.length d1] 25
  have hb2 := (Below.refl w1.heap.size w1).alloc (Nat.le_refl _) (.cells #[.slice A1 z.ts.length c1, .slice B1 z.os.length d1] 25)
  go_wp2_with fail
  obtain ⟨w2, hw2⟩ : ∃ x, w1.alloc (.cells #[.slice A1 z.ts.length c1, .slice B1 z.os.length d1] 25) = x := ⟨_, rfl⟩
  obtain ⟨m, hm⟩ : ∃ m, w1.heap.size = m := ⟨_, rfl⟩
  have ht2 := ht1.below hb2 hb2.size
  have ho2 := ho1.below hb2 hb2.size
  have hB2 := hb1.trans (hb2.mono hb1.size)
  rw [hm] at r2
  rw [hw2] at r2 ht2 ho2 hB2 ⊢
  rw [hm] at ⊢
  clear hw2 hb1 hb2 ht1 ho1 hm
  refine (H5.out w2).mono ?_
  rintro e w3 ⟨A3, c3, B3, d3, rfl, ht3, ho3, hb3⟩
  have r3 := r2.kept hb3
  have r4 := RowB.new w3 #[.slice A3 z.ts.length c3, .slice B3 z.os.length d3] 25
  have hb4 := (Below.refl w3.heap.size w3).alloc (Nat.le_refl _) (.cells #[.slice A3 z.ts.length c3, .slice B3 z.os.length d3] 25)
  have hb24 := hb3.trans (hb4.mono hb3.size)
  have HS := Lib.hid (H6.out _ A1 B1 A3 B3 c1 d1 c3 d3 (ht2.below hb24 hb24.size) (ho2.below hb24 hb24.size) (ht3.below hb4 hb4.size) (ho3.below hb4 hb4.size))
  have hB4 := hB2.trans (hb24.mono hB2.size)
  have g0 := r3.cell 0
  have g1 := r3.cell 1
  simp only [List.getElem?_toArray, List.getElem?_cons_zero, List.getElem?_cons_succ] at g0 g1
  have hml : m < w3.heap.size := r3.lt
  clear r2 r3 r4 ht2 ho2 ht3 ho3 hb3 hb4 hb24
  go_wp2_with fail
  refine HS.out.mono ?_
  rintro e w5 ⟨rfl, hb5⟩
  have hB5 := hB4.trans (hb5.mono hB4.size)
  have hAw := Lib.hid (awake_any w5 (hT.below hB5) (hM.below hB5))
  clear HS g0 g1
  go_wp2_with fail
  refine hAw.out.mono ?_
  rintro e w6 ⟨rfl, hb6⟩
  go_wp2_with fail
  go_ret
  exact ⟨rfl, hB5.trans (hb6.mono hB5.size)⟩

end Go.Proofs.YtfgmebjbibbpdaaGreatDoor

namespace Go.Proofs.YtfgmebjbibbpdaaGreatDoor.sourceParses
open Go.ChangeShapes Go.WideShapes Go.ChangeAt Go.RowKit
open Go.ChangeMaps (open_string shut_string)

theorem ownK : ownKnob Tryz.prog.godebug = none := by kernel_rfl
theorem laidOut : laidOutB Tryz.prog = true := by kernel_rfl

set_option maxRecDepth 100000 in
theorem contract (H : Type) (enc : TypeId × Value → H) (W : World) (base : Nat) (args : Array Value) (ds gs : List (DataW H)) (before : List MemPlace)
    (hval0 : ∀ (j : Nat) t v, Tryz.f4.params[j]? = some t → args[j]? = some v → Value.okWide Tryz.prog W .any base t v)
    (hW : DataW.Whole enc Tryz.prog Tryz.f4.params.toList Rows.sourceParsesSpec.vars false W args.toList ds gs before) (hL : laidMetH Tryz.prog Rows.sourceParsesRow.laid W) (hSh : W.ShapedOpen Tryz.prog) :
    Calls Tryz.prog 4 args W fun e W' => ∃ v, e = .returned v ∧ Rows.sourceParsesSpec.post enc Tryz.prog Tryz.f4 false true false false W args v W' := by
  have hval : ∀ (j : Nat) t v, Tryz.f4.params[j]? = some t → args[j]? = some v → Value.okWide Tryz.prog W .any base t v := hval0
  have hW' := hW
  obtain ⟨p, q, hA0, hV, rfl, hfz, hnd⟩ := hW
  have hA : DataW.TrodAll enc Tryz.prog W 0 (fun _ => true) true Tryz.f4.params.toList args.toList ds p := hA0
  rw [Tryz.params4] at hA hval
  obtain ⟨v0, vs0, d0, ds0, p0, q0, hargs, rfl, rfl, h0, r0⟩ := trodAll_cons hA
  obtain ⟨rfl, rfl, rfl⟩ := trodAll_nil r0
  obtain rfl : args = #[v0] := by cases args; simp_all
  obtain ⟨rfl, rfl⟩ := trodVars_none hV
  have k0 := h0
  have lt0 : ∀ x ∈ p0, x.block < W.heap.size := by obtain ⟨m, hm⟩ := k0; exact DataW.trod_lt m _ _ _ hm
  obtain ⟨a0, rfl, rfl, rfl, w0⟩ := open_string Tryz.underlying9 (hval 0 9 v0 rfl rfl) h0
  clear hA0 hval0
  have hT : Tab W := tab_of ⟨by simp [Rows.sourceParsesRow], hL⟩
  have hM : Mx W := mx_of hSh
  have walk : Calls Tryz.prog 4 #[.string a0] W fun e W' => e = .returned (.bool true) ∧ Below W.heap.size W W' := by
    by_cases hn : a0.size ≤ 3000
    · exact sparses_small a0 W hn hT hM
    · exact sparses_big a0 W hT hM (by omega)
  refine walk.mono fun e W' ⟨he, bel⟩ => ?_
  subst he
  exact ⟨_, rfl, _, _, _, [], _, [], hW', trodAll_mk1 (shut_bool Tryz.underlying4 _), (trodAll_cons_mk (Below.trod laidOut (by kernel_rfl) (of_decide_eq_true (by kernel_rfl)) k0 bel lt0) trodAll_mk0), rfl, bel.frame _, fun h => by cases h⟩

/-- A world for the witness: each listed table in its block. -/
noncomputable def laidWorld (os : Os) : World :=
  { World.holding Tryz.prog os ⟨#[], #[], []⟩ with heap := ((((((World.holding Tryz.prog os ⟨#[], #[], []⟩).heap.modify 4 fun | .cells _ t frozen => .cells #[.int .u8 0, .int .u8 1, .int .u8 28, .int .u8 2, .int .u8 29, .int .u8 14, .int .u8 24, .int .u8 3, .int .u8 30, .int .u8 22, .int .u8 20, .int .u8 15, .int .u8 25, .int .u8 17, .int .u8 4, .int .u8 8, .int .u8 31, .int .u8 27, .int .u8 13, .int .u8 23, .int .u8 21, .int .u8 19, .int .u8 16, .int .u8 7, .int .u8 26, .int .u8 12, .int .u8 18, .int .u8 6, .int .u8 11, .int .u8 5, .int .u8 10, .int .u8 9] t frozen | o => o).modify 5 fun | .cells _ t frozen => .cells #[.int .u8 0, .int .u8 1, .int .u8 56, .int .u8 2, .int .u8 57, .int .u8 49, .int .u8 28, .int .u8 3, .int .u8 61, .int .u8 58, .int .u8 42, .int .u8 50, .int .u8 38, .int .u8 29, .int .u8 17, .int .u8 4, .int .u8 62, .int .u8 47, .int .u8 59, .int .u8 36, .int .u8 45, .int .u8 43, .int .u8 51, .int .u8 22, .int .u8 53, .int .u8 39, .int .u8 33, .int .u8 30, .int .u8 24, .int .u8 18, .int .u8 12, .int .u8 5, .int .u8 63, .int .u8 55, .int .u8 48, .int .u8 27, .int .u8 60, .int .u8 41, .int .u8 37, .int .u8 16, .int .u8 46, .int .u8 35, .int .u8 44, .int .u8 21, .int .u8 52, .int .u8 32, .int .u8 23, .int .u8 11, .int .u8 54, .int .u8 26, .int .u8 40, .int .u8 15, .int .u8 34, .int .u8 20, .int .u8 31, .int .u8 10, .int .u8 25, .int .u8 14, .int .u8 19, .int .u8 9, .int .u8 13, .int .u8 8, .int .u8 7, .int .u8 6] t frozen | o => o).modify 1 fun | .cells _ t frozen => .cells #[.int .u64 1, .int .u64 10, .int .u64 100, .int .u64 1000, .int .u64 10000, .int .u64 100000, .int .u64 1000000, .int .u64 10000000, .int .u64 100000000, .int .u64 1000000000, .int .u64 10000000000, .int .u64 100000000000, .int .u64 1000000000000, .int .u64 10000000000000, .int .u64 100000000000000, .int .u64 1000000000000000, .int .u64 10000000000000000, .int .u64 100000000000000000, .int .u64 1000000000000000000, .int .u64 10000000000000000000] t frozen | o => o).modify 3 fun | .cells _ t frozen => .cells #[.int .u8 128, .int .u8 191, .int .u8 160, .int .u8 191, .int .u8 128, .int .u8 159, .int .u8 144, .int .u8 191, .int .u8 128, .int .u8 143, .int .u8 0, .int .u8 0, .int .u8 0, .int .u8 0, .int .u8 0, .int .u8 0, .int .u8 0, .int .u8 0, .int .u8 0, .int .u8 0, .int .u8 0, .int .u8 0, .int .u8 0, .int .u8 0, .int .u8 0, .int .u8 0, .int .u8 0, .int .u8 0, .int .u8 0, .int .u8 0, .int .u8 0, .int .u8 0] t frozen | o => o).modify 2 fun | .cells _ t frozen => .cells ((match (Go.Pinned.utf8First : DataW Unit) with | DataW.agg ds => (ds.map fun (x : DataW Unit) => match x with | DataW.lit l => l.value | _ => Value.bool false) | _ => []).toArray) t frozen | o => o) }
set_option maxRecDepth 100000 in
theorem laid_met (os : Os) : laidMet Tryz.prog Rows.sourceParsesRow.laid ((laidWorld os).forCall (fun _ _ => 0) ⟨#[], #[.string ByteArray.empty], []⟩).memory :=
  laidMet_of_run' 8 (by kernel_rfl) (by kernel_rfl)

theorem reads (os : Os) {H : Type} (enc : TypeId × Value → H) : ∃ places, DataW.whole enc Tryz.prog ((laidWorld os).forCall (fun _ _ => 0) ⟨#[], #[.string ByteArray.empty], []⟩).memory Tryz.f4.params.toList Rows.sourceParsesSpec.vars false (#[.string ByteArray.empty] : Array Value).toList 8 = some ([.lit (.string [])], [], places) :=
  ⟨[], by kernel_rfl⟩

set_option maxRecDepth 100000 in
theorem lifted (os : Os) (started : os.Started) (H : Type) (enc : TypeId × Value → H) (F : Stop.Interp) :
    ReturnsInHanded {} Tryz.checked os 4 .any ((OpenSpec.ofChange Rows.sourceParsesSpec).preRow enc Tryz.prog Tryz.f4 Rows.sourceParsesRow.domain false Rows.sourceParsesRow.laid) (((OpenSpec.ofChange Rows.sourceParsesSpec).at F).post enc Tryz.prog Tryz.f4 false true false false) := by
  obtain ⟨places, hx⟩ := reads os enc
  refine returnsInHanded_of_row (C := Tryz.checked) (s := OpenSpec.ofChange Rows.sourceParsesSpec) ownK started (by kernel_rfl) Tryz.func4
    (witness_row_at (enc := enc) (C := Tryz.checked) false (laidWorld os) #[.string ByteArray.empty] rfl (by kernel_rfl) (by kernel_rfl) (by kernel_rfl)
      (OpenSpec.preRow_of_cond 8 hx (by kernel_rfl) (fun k hk => by cases hk) (by kernel_rfl) (laid_met os))) ?_
  intro W base args ds gs before hval hW _ _ _ hL hSh _
  exact contract H enc W base args ds gs before hval hW hL hSh

theorem said : Rows.SourceParsesSaid :=
  OpenClaim.holds_of_cond 4 Tryz.f4 rfl rfl rfl rfl rfl rfl rfl ⟨rfl, rfl, rfl, rfl, rfl⟩ rfl rfl rfl rfl rfl (by kernel_rfl) Tryz.func4 (by kernel_rfl)
    (of_decide_eq_true (by kernel_rfl)) (by unfold Func.isWrapper; first | (rw [if_pos (by decide +kernel)]; kernel_rfl) | (rw [if_neg (by decide +kernel)]; exact ⟨rfl, rfl⟩))
    (fun os started H enc _ F => by rw [OpenClaim.pre_eq_preRow]; exact lifted os started H enc F)

theorem plain (f : FuncId) (fn : Func) (hf : Tryz.pinned.checked.prog.funcNamed "coxswain/coxswainlaw34.SourceParses" = some f) (hfn : Tryz.pinned.checked.prog.funcs[f]? = some fn) :
    false = Tryz.pinned.checked.prog.looks [] ∧ ∀ (j : Nat) t, fn.params[j]? = some t → Tryz.pinned.checked.prog.wantsStandIn t = false := by
  obtain rfl : f = 4 := Option.some.inj ((show Tryz.prog.funcNamed "coxswain/coxswainlaw34.SourceParses" = some 4 by kernel_rfl).symm.trans hf) |>.symm
  obtain rfl : fn = Tryz.f4 := (Option.some.inj (Tryz.func4.symm.trans hfn)).symm
  refine ⟨by kernel_rfl, fun j t ht => ?_⟩
  rw [Tryz.params4] at ht
  have hm := Array.mem_of_getElem? ht
  have hm : t ∈ [9] := by simpa using hm
  simp only [List.mem_cons, List.not_mem_nil, or_false] at hm
  subst hm
  exact (show Tryz.prog.wantsStandIn 9 = false by kernel_rfl)

theorem card : Rows.SourceParsesCardSaid :=
  Claim7.holds_tied_plain_at .later [] _ _ _ _ said (fun _ h => by cases h) (by kernel_rfl) (fun _ h => by cases h) sourceParses_row_tie rfl ⟨rfl, rfl⟩ (by kernel_rfl) rfl plain (by kernel_rfl)
#print axioms card

end Go.Proofs.YtfgmebjbibbpdaaGreatDoor.sourceParses
