/- The statements of law 24: what is handed in, opened. -/
import Derived.Test.YtolmpehgeinlkaaGreatDoorZcA
import Derived.ProofKit
import Derived.OpenShut
import Derived.ShutString
import Derived.ChangeOld
import Derived.Below
import Derived.Deep.Slices
import Derived.ChangeSame
import Derived.Test.YtolmpehgeinlkaaGreatDoorZcWm
import Derived.Test.YtolmpehgeinlkaaGreatDoorZcWl
import Derived.Test.YtolmpehgeinlkaaGreatDoorZcWe
import Derived.Lib.LaidTab
namespace Go.Proofs.YtolmpehgeinlkaaGreatDoor
open Go.RowKit Go.ChangeShapes Go.WideShapes Go.ChangeAt
theorem exists_list {α:Type} (p:Nat→α→Prop):∀ n:Nat,(∀ i,i<n→∃ x,p i x)→∃ l:List α,l.length=n∧∀ k x,l[k]?=some x→p k x
 | 0,_=>⟨[],rfl,fun k x h=>by simp at h⟩
 | n+1,h=>by
  obtain⟨l,hl,hp⟩:=exists_list p n (fun i hi=>h i (by omega));obtain⟨x,hx⟩:=h n (by omega);refine⟨l++[x],by simp[hl],fun k y hk=>?_⟩
  by_cases hkn:k<n
  ·rw[List.getElem?_append_left (by omega)] at hk;exact hp k y hk
  ·rw[List.getElem?_append_right (by omega),hl] at hk
   have:k - n=0:=by
    have:=get_lt hk;simp at this;omega
   have hkn':k=n:=by omega
   subst hkn';simp at hk;subst hk;exact hx
theorem sl_of_cells {α:Type} {E:Enc α} {w:World} {a:Addr} {l:List α} (h:∀ k x,l[k]?=some x→∀ j u,(E.cells x)[j]?=some u→w.cell? (a.add (k*E.size+j))=some u):
  SlOf E w w.heap.size (some a) l:=by
 intro k x hk;have h0:∃ y,l[0]?=some y:=get_some (by have:=get_lt hk;omega);obtain⟨y,hy⟩:=h0;have hs:0<(E.cells y).length:=by rw[E.len];exact E.pos
 obtain⟨u,hu⟩:=get_some hs;have hc:=h 0 y hy 0 u hu;have e0:0*E.size+0=0:=by simp
 rw[e0] at hc;have hsp:=World.cell?_spot hc;have hb:=cell_lt hc;rw[add_block] at hb;obtain⟨b,off,spot⟩:=a;have:spot=none:=by simpa [Addr.add] using hsp
 subst this;refine⟨b,off,rfl,hb,fun j u hu=>?_⟩;have:=h k x hk j u hu
 rwa [Addr.add_lit] at this
section
variable {H:Type} {enc:TypeId × Value→H} {P:Program} {w:World} {base:Nat} {spare:Nat→Bool} {held:Bool}
theorem open_list {α:Type} {E:Enc α} {ok:α→Prop} {t e:TypeId} {v:Value} {fuel:Nat} {x:DataW H × List MemPlace} (ht:P.underlying t=some (.slice e)) (hC:P.cellsOf e=E.size)
  (hel:∀ n cs y,DataW.trod enc P w base spare held n e cs=some y→∃ z,cs=E.cells z∧ok z) (h:DataW.trod enc P w base spare held fuel t [v]=some x):
  ∃ A c l,v=.slice A l.length c∧l.length≤c∧c≤maxLen∧SlOf E w w.heap.size A l∧∀ y ∈ l,ok y:=by
 rcases Go.Deep.open_slice ht h with ⟨hv,_⟩ | ⟨a,len,cap,m,n,D,Pl,hv,hb,hl,hm,hmm,rfl,hx⟩
 ·simp at hv;subst hv;exact⟨none,0,[],rfl,by simp,by simp[maxLen],SlOf.nil,by simp⟩
 ·simp at hv;subst hv;have hlm:len≤m:=by rw[hmm];split <;> omega
  obtain⟨l,hll,hp⟩:=exists_list (fun i z=>(∀ j u,(E.cells z)[j]?=some u→w.cell? (a.add (i*E.size+j))=some u)∧ok z) len (fun i hi=>by
   obtain⟨cs,hc,ht'⟩:=hx i (by omega);obtain⟨z,rfl,hok⟩:=hel _ _ _ ht';rw[hC] at hc;obtain⟨_,_,hcell⟩:=World.cells?_some hc;refine⟨z,fun j u hu=>?_,hok⟩;have hj:j<E.size:=by rw[← E.len z];exact get_lt hu
   have:=hcell j hj;rw[add_add',hu] at this;exact this)
  refine⟨some a,cap,l,by rw[hll],by omega,hm,sl_of_cells (fun k x hk=>(hp k x hk).1),fun y hy=>?_⟩;obtain⟨k,hk⟩:=List.getElem?_of_mem hy;exact(hp k y hk).2
theorem open_int_list {q:IntKind} {t e:TypeId} {v:Value} {fuel:Nat} {x:DataW H × List MemPlace} (ht:P.underlying t=some (.slice e)) (he:P.underlying e=some (.int q)) (hC:P.cellsOf e=1)
  (h:DataW.trod enc P w base spare held fuel t [v]=some x):
  ∃ A c l,v=.slice A l.length c∧l.length≤c∧c≤maxLen∧SlOf (ints q) w w.heap.size A l∧∀ y ∈ l,(Lit.int q y).wf=true:=
 open_list (E:=ints q) ht hC (fun n cs y hy=>by
  obtain⟨z,rfl,_,hz⟩:=DataW.trod_int he hy;exact⟨z,rfl,hz⟩) h
end
end Go.Proofs.YtolmpehgeinlkaaGreatDoor

namespace Go.Proofs.YtolmpehgeinlkaaGreatDoor
open Go.RowKit
open Go.Lib (hid)
attribute [local go_sem] Oper.semAt_some
set_option maxHeartbeats 2000000
set_option maxRecDepth 100000
theorem rel_runs {o:Ob} {L0:Lm} {ks:List Int} (hR:anyR o) (hr:Lm.Rel L0 L0) (hg:Lm.GoodTo o L0 ks ks.length):Lm.Rel (Lm.run (bgO o) Kc.step L0 ks) (Lm.run (bgO o) Kc.stepR L0 ks):=by
 have h:∀ j,j≤ks.length→Lm.Rel (Lm.run (bgO o) Kc.step L0 (ks.take j)) (Lm.run (bgO o) Kc.stepR L0 (ks.take j)):=fun j=>by
  induction j with
  | zero=>intro _;rw[List.take_zero];exact hr
  | succ j ih=>intro hj;exact Lm.Rel.run hR (fun i hi=>⟨(hg i (by omega)).1,(hg i (by omega)).2.1,fun q=>(hg i (by omega)).2.2 (by omega)⟩) (ih (by omega)) (List.getElem?_eq_getElem (show j<ks.length by omega))
 have h1:=h ks.length (Nat.le_refl _);rw[List.take_length] at h1;exact h1
theorem Lm.GoodTo.rl {o:Ob} {L0:Lm} {ks:List Int} (h:Lm.GoodTo o L0 ks ks.length):∀ x ∈ (Lm.run (bgO o) Kc.step L0 ks).calls,x.r.length≤1000:=by
 have h1:=(h ks.length (Nat.le_refl _)).1.rl;rw[List.take_length] at h1;exact h1
theorem Lm.GoodTo.cl {o:Ob} {L0:Lm} {ks:List Int} (h:Lm.GoodTo o L0 ks ks.length):(Lm.run (bgO o) Kc.step L0 ks).calls.length≤ks.length:=by
 have h1:=(h ks.length (Nat.le_refl _)).1.cn;rw[List.take_length] at h1;exact h1
structure CwOk (o:Ob) (A B:Option Addr) (gs:List PG) (l ks:List Int) (w:World):Prop where
 hin:ProcsIn w w.heap.size A gs
 ni:o.ni=l.length
 ini:Ws w w.heap.size o.I l
 ks:SlOf (ints .i64) w w.heap.size B ks
 s0:0≤o.st
 s1:o.st<4294967296
 tab:Tab64 w
 gt:(0:Nat)<w.heap.size
section
variable {o:Ob} {A B:Option Addr} {gs:List PG} {l ks:List Int} {w w':World}
theorem CwOk.below (h:CwOk o A B gs l ks w) (hb:Below w.heap.size w w'):CwOk o A B gs l ks w':=
 ⟨h.hin.below hb hb.size,h.ni,h.ini.below hb hb.size,h.ks.below hb hb.size,h.s0,h.s1,fun j hj=>(hb.cell (p:=⟨_,j,none⟩) h.gt).trans (h.tab j hj),Nat.lt_of_lt_of_le h.gt hb.size⟩
theorem CwOk.ok (h:CwOk o A B gs l ks w) (hl:lightW o gs ks.length):o.Ok:=⟨h.s0,h.s1,by have:=hl.1.1;omega,by have:=hl.1.2;omega⟩
theorem lightW.bd {kn:Nat} (hl:lightW o gs kn):gs.length≤1000∧(∀ g ∈ gs,g.ts.length≤1000)∧(∀ g ∈ gs,∀ t ∈ g.ts,t.r.length≤1000)∧kn≤1000:=
 ⟨by have:=hl.2.1;omega,fun g hg=>by have:=(hl.2.2.2 g hg).1;omega,fun g hg t ht=>by have:=(hl.2.2.2 g hg).2 t ht;omega,by have:=hl.2.2.1;omega⟩
end
theorem weaveRuns_N (o:Ob) (A B:Option Addr) (cap kc:Nat) (gs:List PG) (l ks:List Int) (w:World) (h:CwOk o A B gs l ks w) (hl:¬ lightW o gs ks.length):Calls Tryz.prog 3 #[.agg (cwA o A cap gs B ks.length kc)] w fun e w'=>e=.returned (.bool true)∧Below w.heap.size w w':=by
 have hli:=decide_eq_false hl;have HLI:=hid fun W (h:CwOk o A B gs l ks W)=>wlight_g o A B cap ks.length kc gs W h.hin
 rw[hli] at HLI;unfold cwA at HLI;have HAW:=hid fun W (h:CwOk o A B gs l ks W)=>wawake W h.tab h.gt
 clear hli hl;have hn:=RowB.new w (cwA o A cap gs B ks.length kc) 29;have hB:=(Below.refl w.heap.size w).alloc (Nat.le_refl _) (.cells (cwA o A cap gs B ks.length kc) 29);obtain⟨n,hn0⟩:∃ n,w.heap.size=n:=⟨_,rfl⟩;rw[hn0] at hn hB;have HN1:=hid hn;have HB1:=hid hB;have HN0:=hid hn0;have HC:=hid h;clear hn hB h;rw[hn0];unfold cwA at HN1 HB1 ⊢;go_enter Tryz.func3,Tryz.ntmps3;go_wp2_with fail;generalize (w.alloc (.cells #[.int .i64 o.k,.int .i64 o.wd,.int .i64 o.s,.int .i64 o.c,.int .u32 o.st,.slice o.I o.ni o.ci,.int .i64 o.wr,.slice o.R o.nr o.cr,.slice A gs.length cap,.slice B ks.length kc] 29))=w1 at HN1 HB1 ⊢;clear hn0;have hc:w1.cell? ⟨n,0,none⟩=some (.int .i64 o.k)∧w1.cell? ⟨n,1,none⟩=some (.int .i64 o.wd)∧w1.cell? ⟨n,2,none⟩=some (.int .i64 o.s)∧w1.cell? ⟨n,3,none⟩=some (.int .i64 o.c)∧w1.cell? ⟨n,4,none⟩=some (.int .u32 o.st)∧w1.cell? ⟨n,5,none⟩=some (.slice o.I o.ni o.ci)∧w1.cell? ⟨n,6,none⟩=some (.int .i64 o.wr)∧w1.cell? ⟨n,7,none⟩=some (.slice o.R o.nr o.cr)∧w1.cell? ⟨n,8,none⟩=some (.slice A gs.length cap)∧w1.cell? ⟨n,9,none⟩=some (.slice B ks.length kc):=(by and_intros <;> exact HN1.out.c rfl);obtain⟨c0,c1,c2,c3,c4,c5,c6,c7,c8,c9⟩:=hc;go_wp2_with fail;refine(HLI.out _ (HC.out.below (by rw[HN0.out];exact HB1.out))).mono ?_;rintro e w2 ⟨rfl,hb⟩;clear c0 c1 c2 c3 c4 c5 c6 c7 c8 c9;have HN2:=hid (HN1.out.kept hb);have HB2:=hid (HB1.out.trans (hb.mono (by have:=HN1.out.lt;omega)));clear hb;have hc:w2.cell? ⟨n,0,none⟩=some (.int .i64 o.k)∧w2.cell? ⟨n,1,none⟩=some (.int .i64 o.wd)∧w2.cell? ⟨n,2,none⟩=some (.int .i64 o.s)∧w2.cell? ⟨n,3,none⟩=some (.int .i64 o.c)∧w2.cell? ⟨n,4,none⟩=some (.int .u32 o.st)∧w2.cell? ⟨n,5,none⟩=some (.slice o.I o.ni o.ci)∧w2.cell? ⟨n,6,none⟩=some (.int .i64 o.wr)∧w2.cell? ⟨n,7,none⟩=some (.slice o.R o.nr o.cr)∧w2.cell? ⟨n,8,none⟩=some (.slice A gs.length cap)∧w2.cell? ⟨n,9,none⟩=some (.slice B ks.length kc):=(by and_intros <;> exact HN2.out.c rfl);obtain⟨c0,c1,c2,c3,c4,c5,c6,c7,c8,c9⟩:=hc;go_wp2_with fail;refine(HAW.out _ (HC.out.below (by rw[HN0.out];exact HB2.out))).mono ?_;rintro e w3 ⟨rfl,hb⟩;clear c0 c1 c2 c3 c4 c5 c6 c7 c8 c9;have HN3:=hid (HN2.out.kept hb);have HB3:=hid (HB2.out.trans (hb.mono (by have:=HN2.out.lt;omega)));clear hb;have hc:w3.cell? ⟨n,0,none⟩=some (.int .i64 o.k)∧w3.cell? ⟨n,1,none⟩=some (.int .i64 o.wd)∧w3.cell? ⟨n,2,none⟩=some (.int .i64 o.s)∧w3.cell? ⟨n,3,none⟩=some (.int .i64 o.c)∧w3.cell? ⟨n,4,none⟩=some (.int .u32 o.st)∧w3.cell? ⟨n,5,none⟩=some (.slice o.I o.ni o.ci)∧w3.cell? ⟨n,6,none⟩=some (.int .i64 o.wr)∧w3.cell? ⟨n,7,none⟩=some (.slice o.R o.nr o.cr)∧w3.cell? ⟨n,8,none⟩=some (.slice A gs.length cap)∧w3.cell? ⟨n,9,none⟩=some (.slice B ks.length kc):=(by and_intros <;> exact HN3.out.c rfl);obtain⟨c0,c1,c2,c3,c4,c5,c6,c7,c8,c9⟩:=hc;go_wp2_with fail;go_ret;exact⟨rfl,HB3.out⟩
theorem weaveRuns_F (o:Ob) (A B:Option Addr) (cap kc:Nat) (gs:List PG) (l ks:List Int) (w:World) (h:CwOk o A B gs l ks w) (hl:lightW o gs ks.length) (hf:faultP o (tds gs)≠0):Calls Tryz.prog 3 #[.agg (cwA o A cap gs B ks.length kc)] w fun e w'=>e=.returned (.bool true)∧Below w.heap.size w w':=by
 have hli:=decide_eq_true hl;have HLI:=hid fun W (h:CwOk o A B gs l ks W)=>wlight_g o A B cap ks.length kc gs W h.hin
 rw[hli] at HLI;unfold cwA at HLI;have HAW:=hid fun W (h:CwOk o A B gs l ks W)=>wawake W h.tab h.gt
 have ho:=h.ok hl;obtain⟨b1,b2,b3,b4⟩:=hl.bd;have HWF:=hid fun W (h:CwOk o A B gs l ks W)=>wfault_o o ho A cap gs W h.hin b1 b2 b3
 have HRF:=hid fun W (h:CwOk o A B gs l ks W)=>rfault_o o ho A cap gs W h.hin b1 b2 b3
 have HRN:=hid fun W (h:CwOk o A B gs l ks W)=>wRun_1 o ho A B cap ks.length kc gs W h.hin b1 b2 b3 hf
 obtain⟨fv,hfv⟩:∃ x,faultP o (tds gs)=x:=⟨_,rfl⟩;rw[hfv] at HWF HRF HRN hf;have d0:(fv != 0)=true:=by simpa using hf
 have d1:(fv != fv)=false:=by simp
 unfold obA at HWF HRF HRN;clear hli hl ho b1 b2 b3 b4 hf hfv;have hn:=RowB.new w (cwA o A cap gs B ks.length kc) 29;have hB:=(Below.refl w.heap.size w).alloc (Nat.le_refl _) (.cells (cwA o A cap gs B ks.length kc) 29);obtain⟨n,hn0⟩:∃ n,w.heap.size=n:=⟨_,rfl⟩;rw[hn0] at hn hB;have HN1:=hid hn;have HB1:=hid hB;have HN0:=hid hn0;have HC:=hid h;clear hn hB h;rw[hn0];unfold cwA at HN1 HB1 ⊢;go_enter Tryz.func3,Tryz.ntmps3;go_wp2_with fail;generalize (w.alloc (.cells #[.int .i64 o.k,.int .i64 o.wd,.int .i64 o.s,.int .i64 o.c,.int .u32 o.st,.slice o.I o.ni o.ci,.int .i64 o.wr,.slice o.R o.nr o.cr,.slice A gs.length cap,.slice B ks.length kc] 29))=w1 at HN1 HB1 ⊢;clear hn0;have hc:w1.cell? ⟨n,0,none⟩=some (.int .i64 o.k)∧w1.cell? ⟨n,1,none⟩=some (.int .i64 o.wd)∧w1.cell? ⟨n,2,none⟩=some (.int .i64 o.s)∧w1.cell? ⟨n,3,none⟩=some (.int .i64 o.c)∧w1.cell? ⟨n,4,none⟩=some (.int .u32 o.st)∧w1.cell? ⟨n,5,none⟩=some (.slice o.I o.ni o.ci)∧w1.cell? ⟨n,6,none⟩=some (.int .i64 o.wr)∧w1.cell? ⟨n,7,none⟩=some (.slice o.R o.nr o.cr)∧w1.cell? ⟨n,8,none⟩=some (.slice A gs.length cap)∧w1.cell? ⟨n,9,none⟩=some (.slice B ks.length kc):=(by and_intros <;> exact HN1.out.c rfl);obtain⟨c0,c1,c2,c3,c4,c5,c6,c7,c8,c9⟩:=hc;go_wp2_with fail;refine(HLI.out _ (HC.out.below (by rw[HN0.out];exact HB1.out))).mono ?_;rintro e w2 ⟨rfl,hb⟩;clear c0 c1 c2 c3 c4 c5 c6 c7 c8 c9;have HN2:=hid (HN1.out.kept hb);have HB2:=hid (HB1.out.trans (hb.mono (by have:=HN1.out.lt;omega)));clear hb;have hc:w2.cell? ⟨n,0,none⟩=some (.int .i64 o.k)∧w2.cell? ⟨n,1,none⟩=some (.int .i64 o.wd)∧w2.cell? ⟨n,2,none⟩=some (.int .i64 o.s)∧w2.cell? ⟨n,3,none⟩=some (.int .i64 o.c)∧w2.cell? ⟨n,4,none⟩=some (.int .u32 o.st)∧w2.cell? ⟨n,5,none⟩=some (.slice o.I o.ni o.ci)∧w2.cell? ⟨n,6,none⟩=some (.int .i64 o.wr)∧w2.cell? ⟨n,7,none⟩=some (.slice o.R o.nr o.cr)∧w2.cell? ⟨n,8,none⟩=some (.slice A gs.length cap)∧w2.cell? ⟨n,9,none⟩=some (.slice B ks.length kc):=(by and_intros <;> exact HN2.out.c rfl);obtain⟨c0,c1,c2,c3,c4,c5,c6,c7,c8,c9⟩:=hc;go_wp2_with fail;refine(HRN.out _ (HC.out.below (by rw[HN0.out];exact HB2.out))).mono ?_;rintro e w3 ⟨rfl,hb⟩;clear c0 c1 c2 c3 c4 c5 c6 c7 c8 c9;have HN3:=hid (HN2.out.kept hb);have HB3:=hid (HB2.out.trans (hb.mono (by have:=HN2.out.lt;omega)));clear hb;have hc:w3.cell? ⟨n,0,none⟩=some (.int .i64 o.k)∧w3.cell? ⟨n,1,none⟩=some (.int .i64 o.wd)∧w3.cell? ⟨n,2,none⟩=some (.int .i64 o.s)∧w3.cell? ⟨n,3,none⟩=some (.int .i64 o.c)∧w3.cell? ⟨n,4,none⟩=some (.int .u32 o.st)∧w3.cell? ⟨n,5,none⟩=some (.slice o.I o.ni o.ci)∧w3.cell? ⟨n,6,none⟩=some (.int .i64 o.wr)∧w3.cell? ⟨n,7,none⟩=some (.slice o.R o.nr o.cr)∧w3.cell? ⟨n,8,none⟩=some (.slice A gs.length cap)∧w3.cell? ⟨n,9,none⟩=some (.slice B ks.length kc):=(by and_intros <;> exact HN3.out.c rfl);obtain⟨c0,c1,c2,c3,c4,c5,c6,c7,c8,c9⟩:=hc;go_wp2_with fail;refine(HRF.out _ (HC.out.below (by rw[HN0.out];exact HB3.out))).mono ?_;rintro e w4 ⟨rfl,hb⟩;clear c0 c1 c2 c3 c4 c5 c6 c7 c8 c9;have HN4:=hid (HN3.out.kept hb);have HB4:=hid (HB3.out.trans (hb.mono (by have:=HN3.out.lt;omega)));clear hb;have hc:w4.cell? ⟨n,0,none⟩=some (.int .i64 o.k)∧w4.cell? ⟨n,1,none⟩=some (.int .i64 o.wd)∧w4.cell? ⟨n,2,none⟩=some (.int .i64 o.s)∧w4.cell? ⟨n,3,none⟩=some (.int .i64 o.c)∧w4.cell? ⟨n,4,none⟩=some (.int .u32 o.st)∧w4.cell? ⟨n,5,none⟩=some (.slice o.I o.ni o.ci)∧w4.cell? ⟨n,6,none⟩=some (.int .i64 o.wr)∧w4.cell? ⟨n,7,none⟩=some (.slice o.R o.nr o.cr)∧w4.cell? ⟨n,8,none⟩=some (.slice A gs.length cap)∧w4.cell? ⟨n,9,none⟩=some (.slice B ks.length kc):=(by and_intros <;> exact HN4.out.c rfl);obtain⟨c0,c1,c2,c3,c4,c5,c6,c7,c8,c9⟩:=hc;go_wp2_with fail;refine(HWF.out _ (HC.out.below (by rw[HN0.out];exact HB4.out))).mono ?_;rintro e w5 ⟨rfl,hb⟩;clear c0 c1 c2 c3 c4 c5 c6 c7 c8 c9;have HN5:=hid (HN4.out.kept hb);have HB5:=hid (HB4.out.trans (hb.mono (by have:=HN4.out.lt;omega)));clear hb;have hc:w5.cell? ⟨n,0,none⟩=some (.int .i64 o.k)∧w5.cell? ⟨n,1,none⟩=some (.int .i64 o.wd)∧w5.cell? ⟨n,2,none⟩=some (.int .i64 o.s)∧w5.cell? ⟨n,3,none⟩=some (.int .i64 o.c)∧w5.cell? ⟨n,4,none⟩=some (.int .u32 o.st)∧w5.cell? ⟨n,5,none⟩=some (.slice o.I o.ni o.ci)∧w5.cell? ⟨n,6,none⟩=some (.int .i64 o.wr)∧w5.cell? ⟨n,7,none⟩=some (.slice o.R o.nr o.cr)∧w5.cell? ⟨n,8,none⟩=some (.slice A gs.length cap)∧w5.cell? ⟨n,9,none⟩=some (.slice B ks.length kc):=(by and_intros <;> exact HN5.out.c rfl);obtain⟨c0,c1,c2,c3,c4,c5,c6,c7,c8,c9⟩:=hc;go_wp2_with fail;refine(HAW.out _ (HC.out.below (by rw[HN0.out];exact HB5.out))).mono ?_;rintro e w6 ⟨rfl,hb⟩;clear c0 c1 c2 c3 c4 c5 c6 c7 c8 c9;have HN6:=hid (HN5.out.kept hb);have HB6:=hid (HB5.out.trans (hb.mono (by have:=HN5.out.lt;omega)));clear hb;have hc:w6.cell? ⟨n,0,none⟩=some (.int .i64 o.k)∧w6.cell? ⟨n,1,none⟩=some (.int .i64 o.wd)∧w6.cell? ⟨n,2,none⟩=some (.int .i64 o.s)∧w6.cell? ⟨n,3,none⟩=some (.int .i64 o.c)∧w6.cell? ⟨n,4,none⟩=some (.int .u32 o.st)∧w6.cell? ⟨n,5,none⟩=some (.slice o.I o.ni o.ci)∧w6.cell? ⟨n,6,none⟩=some (.int .i64 o.wr)∧w6.cell? ⟨n,7,none⟩=some (.slice o.R o.nr o.cr)∧w6.cell? ⟨n,8,none⟩=some (.slice A gs.length cap)∧w6.cell? ⟨n,9,none⟩=some (.slice B ks.length kc):=(by and_intros <;> exact HN6.out.c rfl);obtain⟨c0,c1,c2,c3,c4,c5,c6,c7,c8,c9⟩:=hc;go_wp2_with fail;go_ret;exact⟨rfl,HB6.out⟩
theorem weaveRuns_G (o:Ob) (A B:Option Addr) (cap kc:Nat) (gs:List PG) (l ks:List Int) (w:World) (h:CwOk o A B gs l ks w) (hl:lightW o gs ks.length) (hf:faultP o (tds gs)=0):Calls Tryz.prog 3 #[.agg (cwA o A cap gs B ks.length kc)] w fun e w'=>e=.returned (.bool true)∧Below w.heap.size w w':=by
 have hli:=decide_eq_true hl;have HLI:=hid fun W (h:CwOk o A B gs l ks W)=>wlight_g o A B cap ks.length kc gs W h.hin
 rw[hli] at HLI;unfold cwA at HLI;have HAW:=hid fun W (h:CwOk o A B gs l ks W)=>wawake W h.tab h.gt
 have ho:=h.ok hl;obtain⟨b1,b2,b3,b4⟩:=hl.bd;have HWF:=hid fun W (h:CwOk o A B gs l ks W)=>wfault_o o ho A cap gs W h.hin b1 b2 b3
 have HRF:=hid fun W (h:CwOk o A B gs l ks W)=>rfault_o o ho A cap gs W h.hin b1 b2 b3
 have hR:=(fault_zero hf).1;have HRN:=hid fun W (h:CwOk o A B gs l ks W)=>wRun_2 o ho A B cap kc gs l ks W h.hin b1 b2 b3 hf h.ni h.ini h.ks b4 h.tab h.gt
 have HRR:=hid fun W (h:CwOk o A B gs l ks W)=>rrun_o o ho A B cap kc gs l ks W h.hin b1 b2 b3 hf h.ni h.ini h.ks b4
 rw[hf] at HWF HRF;have HRX:=hid hR;have HKL:=hid b4;unfold obA at HWF HRF HRN HRR;clear hli hl ho b1 b2 b3 b4 hf hR;have hn:=RowB.new w (cwA o A cap gs B ks.length kc) 29;have hB:=(Below.refl w.heap.size w).alloc (Nat.le_refl _) (.cells (cwA o A cap gs B ks.length kc) 29);obtain⟨n,hn0⟩:∃ n,w.heap.size=n:=⟨_,rfl⟩;rw[hn0] at hn hB;have HN1:=hid hn;have HB1:=hid hB;have HN0:=hid hn0;have HC:=hid h;clear hn hB h;rw[hn0];unfold cwA at HN1 HB1 ⊢;go_enter Tryz.func3,Tryz.ntmps3;go_wp2_with fail;generalize (w.alloc (.cells #[.int .i64 o.k,.int .i64 o.wd,.int .i64 o.s,.int .i64 o.c,.int .u32 o.st,.slice o.I o.ni o.ci,.int .i64 o.wr,.slice o.R o.nr o.cr,.slice A gs.length cap,.slice B ks.length kc] 29))=w1 at HN1 HB1 ⊢;clear hn0;have hc:w1.cell? ⟨n,0,none⟩=some (.int .i64 o.k)∧w1.cell? ⟨n,1,none⟩=some (.int .i64 o.wd)∧w1.cell? ⟨n,2,none⟩=some (.int .i64 o.s)∧w1.cell? ⟨n,3,none⟩=some (.int .i64 o.c)∧w1.cell? ⟨n,4,none⟩=some (.int .u32 o.st)∧w1.cell? ⟨n,5,none⟩=some (.slice o.I o.ni o.ci)∧w1.cell? ⟨n,6,none⟩=some (.int .i64 o.wr)∧w1.cell? ⟨n,7,none⟩=some (.slice o.R o.nr o.cr)∧w1.cell? ⟨n,8,none⟩=some (.slice A gs.length cap)∧w1.cell? ⟨n,9,none⟩=some (.slice B ks.length kc):=(by and_intros <;> exact HN1.out.c rfl);obtain⟨c0,c1,c2,c3,c4,c5,c6,c7,c8,c9⟩:=hc;go_wp2_with fail;refine(HLI.out _ (HC.out.below (by rw[HN0.out];exact HB1.out))).mono ?_;rintro e w2 ⟨rfl,hb⟩;clear c0 c1 c2 c3 c4 c5 c6 c7 c8 c9;have HN2:=hid (HN1.out.kept hb);have HB2:=hid (HB1.out.trans (hb.mono (by have:=HN1.out.lt;omega)));clear hb;have hc:w2.cell? ⟨n,0,none⟩=some (.int .i64 o.k)∧w2.cell? ⟨n,1,none⟩=some (.int .i64 o.wd)∧w2.cell? ⟨n,2,none⟩=some (.int .i64 o.s)∧w2.cell? ⟨n,3,none⟩=some (.int .i64 o.c)∧w2.cell? ⟨n,4,none⟩=some (.int .u32 o.st)∧w2.cell? ⟨n,5,none⟩=some (.slice o.I o.ni o.ci)∧w2.cell? ⟨n,6,none⟩=some (.int .i64 o.wr)∧w2.cell? ⟨n,7,none⟩=some (.slice o.R o.nr o.cr)∧w2.cell? ⟨n,8,none⟩=some (.slice A gs.length cap)∧w2.cell? ⟨n,9,none⟩=some (.slice B ks.length kc):=(by and_intros <;> exact HN2.out.c rfl);obtain⟨c0,c1,c2,c3,c4,c5,c6,c7,c8,c9⟩:=hc;go_wp2_with fail;refine(HRN.out _ (HC.out.below (by rw[HN0.out];exact HB2.out))).mono ?_;rintro e w3 ⟨A3,c3x,es,rfl,hgd,hx,hsl,hws,hb⟩;clear c0 c1 c2 c3 c4 c5 c6 c7 c8 c9;have HN3:=hid (HN2.out.kept hb);have HB3:=hid (HB2.out.trans (hb.mono (by have:=HN2.out.lt;omega)));have HGD:=hid hgd;have HX:=hid hx;have HSL:=hid (And.intro hsl hws);clear hgd hx hsl hws;clear hb;have hc:w3.cell? ⟨n,0,none⟩=some (.int .i64 o.k)∧w3.cell? ⟨n,1,none⟩=some (.int .i64 o.wd)∧w3.cell? ⟨n,2,none⟩=some (.int .i64 o.s)∧w3.cell? ⟨n,3,none⟩=some (.int .i64 o.c)∧w3.cell? ⟨n,4,none⟩=some (.int .u32 o.st)∧w3.cell? ⟨n,5,none⟩=some (.slice o.I o.ni o.ci)∧w3.cell? ⟨n,6,none⟩=some (.int .i64 o.wr)∧w3.cell? ⟨n,7,none⟩=some (.slice o.R o.nr o.cr)∧w3.cell? ⟨n,8,none⟩=some (.slice A gs.length cap)∧w3.cell? ⟨n,9,none⟩=some (.slice B ks.length kc):=(by and_intros <;> exact HN3.out.c rfl);obtain⟨c0,c1,c2,c3,c4,c5,c6,c7,c8,c9⟩:=hc;go_wp2_with fail;refine(HRF.out _ (HC.out.below (by rw[HN0.out];exact HB3.out))).mono ?_;rintro e w4 ⟨rfl,hb⟩;clear c0 c1 c2 c3 c4 c5 c6 c7 c8 c9;have HN4:=hid (HN3.out.kept hb);have HB4:=hid (HB3.out.trans (hb.mono (by have:=HN3.out.lt;omega)));have HSL4:=hid (And.intro (HSL.out.1.below hb hb.size) (fun e he=>(HSL.out.2 e he).below hb hb.size));clear hb;have hc:w4.cell? ⟨n,0,none⟩=some (.int .i64 o.k)∧w4.cell? ⟨n,1,none⟩=some (.int .i64 o.wd)∧w4.cell? ⟨n,2,none⟩=some (.int .i64 o.s)∧w4.cell? ⟨n,3,none⟩=some (.int .i64 o.c)∧w4.cell? ⟨n,4,none⟩=some (.int .u32 o.st)∧w4.cell? ⟨n,5,none⟩=some (.slice o.I o.ni o.ci)∧w4.cell? ⟨n,6,none⟩=some (.int .i64 o.wr)∧w4.cell? ⟨n,7,none⟩=some (.slice o.R o.nr o.cr)∧w4.cell? ⟨n,8,none⟩=some (.slice A gs.length cap)∧w4.cell? ⟨n,9,none⟩=some (.slice B ks.length kc):=(by and_intros <;> exact HN4.out.c rfl);obtain⟨c0,c1,c2,c3,c4,c5,c6,c7,c8,c9⟩:=hc;go_wp2_with fail;refine(HWF.out _ (HC.out.below (by rw[HN0.out];exact HB4.out))).mono ?_;rintro e w5 ⟨rfl,hb⟩;clear c0 c1 c2 c3 c4 c5 c6 c7 c8 c9;have HN5:=hid (HN4.out.kept hb);have HB5:=hid (HB4.out.trans (hb.mono (by have:=HN4.out.lt;omega)));have HSL5:=hid (And.intro (HSL4.out.1.below hb hb.size) (fun e he=>(HSL4.out.2 e he).below hb hb.size));clear hb;have hc:w5.cell? ⟨n,0,none⟩=some (.int .i64 o.k)∧w5.cell? ⟨n,1,none⟩=some (.int .i64 o.wd)∧w5.cell? ⟨n,2,none⟩=some (.int .i64 o.s)∧w5.cell? ⟨n,3,none⟩=some (.int .i64 o.c)∧w5.cell? ⟨n,4,none⟩=some (.int .u32 o.st)∧w5.cell? ⟨n,5,none⟩=some (.slice o.I o.ni o.ci)∧w5.cell? ⟨n,6,none⟩=some (.int .i64 o.wr)∧w5.cell? ⟨n,7,none⟩=some (.slice o.R o.nr o.cr)∧w5.cell? ⟨n,8,none⟩=some (.slice A gs.length cap)∧w5.cell? ⟨n,9,none⟩=some (.slice B ks.length kc):=(by and_intros <;> exact HN5.out.c rfl);obtain⟨c0,c1,c2,c3,c4,c5,c6,c7,c8,c9⟩:=hc;go_wp2_with fail;refine(HRR.out _ (HC.out.below (by rw[HN0.out];exact HB5.out))).mono ?_;rintro e w6 ⟨A6,c6x,fs,rfl,hy,hsl,hws,hb⟩;clear c0 c1 c2 c3 c4 c5 c6 c7 c8 c9;have HN6:=hid (HN5.out.kept hb);have HB6:=hid (HB5.out.trans (hb.mono (by have:=HN5.out.lt;omega)));have HSL6:=hid (And.intro (HSL5.out.1.below hb hb.size) (fun e he=>(HSL5.out.2 e he).below hb hb.size));have hrel:=rel_runs HRX.out Lm.Rel.same HGD.out;have hxy:es.map (·.x)=fs.map (·.x):=by rw[HX.out,hy,hrel.calls]
 have hel:es.length≤1000000:=by have h1:=HGD.out.cl;rw[← HX.out,List.length_map] at h1;have:=HKL.out;omega
 have her:∀ e ∈ es,e.x.r.length≤1000000:=fun e he=>by have h1:=HGD.out.rl e.x (by rw[← HX.out];exact List.mem_map_of_mem he);omega
 have HPC:=hid (pcalls_eq A3 A6 c3x c6x es fs _ hxy hel her HSL6.out.1 hsl HSL6.out.2 hws);clear hy hsl hws hrel hxy hel her;clear hb;have hc:w6.cell? ⟨n,0,none⟩=some (.int .i64 o.k)∧w6.cell? ⟨n,1,none⟩=some (.int .i64 o.wd)∧w6.cell? ⟨n,2,none⟩=some (.int .i64 o.s)∧w6.cell? ⟨n,3,none⟩=some (.int .i64 o.c)∧w6.cell? ⟨n,4,none⟩=some (.int .u32 o.st)∧w6.cell? ⟨n,5,none⟩=some (.slice o.I o.ni o.ci)∧w6.cell? ⟨n,6,none⟩=some (.int .i64 o.wr)∧w6.cell? ⟨n,7,none⟩=some (.slice o.R o.nr o.cr)∧w6.cell? ⟨n,8,none⟩=some (.slice A gs.length cap)∧w6.cell? ⟨n,9,none⟩=some (.slice B ks.length kc):=(by and_intros <;> exact HN6.out.c rfl);obtain⟨c0,c1,c2,c3,c4,c5,c6,c7,c8,c9⟩:=hc;go_wp2_with fail;refine(HPC.out).mono ?_;rintro e w7 ⟨rfl,hb⟩;clear c0 c1 c2 c3 c4 c5 c6 c7 c8 c9;have HN7:=hid (HN6.out.kept hb);have HB7:=hid (HB6.out.trans (hb.mono (by have:=HN6.out.lt;omega)));clear hb;have hc:w7.cell? ⟨n,0,none⟩=some (.int .i64 o.k)∧w7.cell? ⟨n,1,none⟩=some (.int .i64 o.wd)∧w7.cell? ⟨n,2,none⟩=some (.int .i64 o.s)∧w7.cell? ⟨n,3,none⟩=some (.int .i64 o.c)∧w7.cell? ⟨n,4,none⟩=some (.int .u32 o.st)∧w7.cell? ⟨n,5,none⟩=some (.slice o.I o.ni o.ci)∧w7.cell? ⟨n,6,none⟩=some (.int .i64 o.wr)∧w7.cell? ⟨n,7,none⟩=some (.slice o.R o.nr o.cr)∧w7.cell? ⟨n,8,none⟩=some (.slice A gs.length cap)∧w7.cell? ⟨n,9,none⟩=some (.slice B ks.length kc):=(by and_intros <;> exact HN7.out.c rfl);obtain⟨c0,c1,c2,c3,c4,c5,c6,c7,c8,c9⟩:=hc;go_wp2_with fail;refine(HAW.out _ (HC.out.below (by rw[HN0.out];exact HB7.out))).mono ?_;rintro e w8 ⟨rfl,hb⟩;clear c0 c1 c2 c3 c4 c5 c6 c7 c8 c9;have HN8:=hid (HN7.out.kept hb);have HB8:=hid (HB7.out.trans (hb.mono (by have:=HN7.out.lt;omega)));clear hb;have hc:w8.cell? ⟨n,0,none⟩=some (.int .i64 o.k)∧w8.cell? ⟨n,1,none⟩=some (.int .i64 o.wd)∧w8.cell? ⟨n,2,none⟩=some (.int .i64 o.s)∧w8.cell? ⟨n,3,none⟩=some (.int .i64 o.c)∧w8.cell? ⟨n,4,none⟩=some (.int .u32 o.st)∧w8.cell? ⟨n,5,none⟩=some (.slice o.I o.ni o.ci)∧w8.cell? ⟨n,6,none⟩=some (.int .i64 o.wr)∧w8.cell? ⟨n,7,none⟩=some (.slice o.R o.nr o.cr)∧w8.cell? ⟨n,8,none⟩=some (.slice A gs.length cap)∧w8.cell? ⟨n,9,none⟩=some (.slice B ks.length kc):=(by and_intros <;> exact HN8.out.c rfl);obtain⟨c0,c1,c2,c3,c4,c5,c6,c7,c8,c9⟩:=hc;go_wp2_with fail;go_ret;exact⟨rfl,HB8.out⟩
theorem weaveRuns_any (o:Ob) (A B:Option Addr) (cap kc:Nat) (gs:List PG) (l ks:List Int) (w:World) (h:CwOk o A B gs l ks w):Calls Tryz.prog 3 #[.agg (cwA o A cap gs B ks.length kc)] w fun e w'=>e=.returned (.bool true)∧Below w.heap.size w w':=by
 by_cases hl:lightW o gs ks.length
 ·by_cases hf:faultP o (tds gs)=0
  ·exact weaveRuns_G o A B cap kc gs l ks w h hl hf
  ·exact weaveRuns_F o A B cap kc gs l ks w h hl hf
 ·exact weaveRuns_N o A B cap kc gs l ks w h hl
end Go.Proofs.YtolmpehgeinlkaaGreatDoor

namespace Go.Proofs.YtolmpehgeinlkaaGreatDoor
open Go.RowKit Go.ChangeShapes Go.WideShapes Go.ChangeAt
set_option maxRecDepth 100000
section
variable {H:Type} {enc:TypeId × Value→H} {w:World} {base:Nat} {spare:Nat→Bool} {held:Bool}
theorem open_words {v:Value} {fuel:Nat} {x:DataW H × List MemPlace} (h:DataW.trod enc Tryz.prog w base spare held fuel 23 [v]=some x):
  ∃ A c l,v=.slice A l.length c∧l.length≤c∧c≤maxLen∧Ws w w.heap.size A l:=by
 obtain⟨A,c,l,h1,h2,h3,h4,h5⟩:=open_int_list (q:=.u32) Tryz.underlying23 Tryz.underlying22 (by kernel_rfl) h;exact⟨A,c,l,h1,h2,h3,h4,h5⟩
theorem open_obplain {n:Nat} {cs:List Value} {y:DataW H × List MemPlace} (hy:DataW.trod enc Tryz.prog w base spare held n 26 cs=some y):
  ∃ (o:Ob) (l:List Int),cs=(obA o).toList∧0≤o.st∧o.st<4294967296∧o.ni=l.length∧Ws w w.heap.size o.I l:=by
 obtain⟨xs,m,_,_,hl,hxl,hf⟩:=DataW.trod_struct Tryz.underlying26 hy;have hl5:cs.length=8:=hl.trans (by kernel_rfl);have c1:Tryz.prog.cellsOf 3=1:=by kernel_rfl
 have c2:Tryz.prog.cellsOf 22=1:=by kernel_rfl
 have c3:Tryz.prog.cellsOf 23=1:=by kernel_rfl
 have c4:Tryz.prog.cellsOf 24=1:=by kernel_rfl
 match cs,hl5,xs,hxl with
 | [b0,b1,b2,b3,b4,b5,b6,b7],_,[y0,y1,y2,y3,y4,y5,y6,y7],_=>
  have g0:=hf 0 _ rfl;have g1:=hf 1 _ rfl;have g2:=hf 2 _ rfl;have g3:=hf 3 _ rfl;have g4:=hf 4 _ rfl;have g5:=hf 5 _ rfl;have g6:=hf 6 _ rfl;have g7:=hf 7 _ rfl;simp[c1,c2,c3,c4] at g0 g1 g2 g3 g4 g5 g6 g7;obtain⟨z0,e0,_,_⟩:=DataW.trod_int Tryz.underlying3 g0;obtain⟨z1,e1,_,_⟩:=DataW.trod_int Tryz.underlying3 g1;obtain⟨z2,e2,_,_⟩:=DataW.trod_int Tryz.underlying3 g2;obtain⟨z3,e3,_,_⟩:=DataW.trod_int Tryz.underlying3 g3;obtain⟨z4,e4,_,w4⟩:=DataW.trod_int Tryz.underlying22 g4;obtain⟨A5,k5,l5,e5,_,_,hw5⟩:=open_words g5;obtain⟨z6,e6,_,_⟩:=DataW.trod_int Tryz.underlying3 g6;obtain⟨A7,k7,l7,e7,_⟩:=open_int_list (q:=.i64) Tryz.underlying24 Tryz.underlying3 (by kernel_rfl) g7;simp at e0 e1 e2 e3 e4 e6;subst e0 e1 e2 e3 e4 e5 e6 e7;simp[Lit.wf,IntKind.min,IntKind.max,IntKind.signed,IntKind.bits] at w4;exact⟨⟨z0,z1,z2,z3,z4,A5,l5.length,k5,z6,A7,l7.length,k7⟩,l5,rfl,w4.1,by show z4<_;omega,rfl,hw5⟩
theorem open_todo {n:Nat} {cs:List Value} {y:DataW H × List MemPlace} (hy:DataW.trod enc Tryz.prog w base spare held n 45 cs=some y):
  ∃ t:TV,cs=tvE.cells t∧Ws w w.heap.size t.A t.r:=by
 obtain⟨xs,m,_,_,hl,hxl,hf⟩:=DataW.trod_struct Tryz.underlying45 hy;have hl5:cs.length=2:=hl.trans (by kernel_rfl);have c1:Tryz.prog.cellsOf 3=1:=by kernel_rfl
 have c3:Tryz.prog.cellsOf 23=1:=by kernel_rfl
 match cs,hl5,xs,hxl with
 | [b0,b1],_,[y0,y1],_=>
  have g0:=hf 0 _ rfl;have g1:=hf 1 _ rfl;simp[c1,c3] at g0 g1;obtain⟨z0,e0,_,_⟩:=DataW.trod_int Tryz.underlying3 g0;obtain⟨A1,k1,l1,e1,_,_,w1⟩:=open_words g1;simp at e0;subst e0 e1;exact⟨⟨z0,A1,k1,l1⟩,rfl,w1⟩
theorem open_todos {v:Value} {fuel:Nat} {x:DataW H × List MemPlace} (h:DataW.trod enc Tryz.prog w base spare held fuel 43 [v]=some x):
  ∃ A c l,v=.slice A l.length c∧l.length≤c∧c≤maxLen∧SlOf tvE w w.heap.size A l∧∀ t ∈ l,Ws w w.heap.size t.A t.r:=
 open_list (E:=tvE) (ok:=fun t=>Ws w w.heap.size t.A t.r) Tryz.underlying43 (by kernel_rfl) (fun n cs y hy=>open_todo hy) h
theorem open_procs {v:Value} {fuel:Nat} {x:DataW H × List MemPlace} (h:DataW.trod enc Tryz.prog w base spare held fuel 27 [v]=some x):
  ∃ A c gs,v=.slice A gs.length c∧ProcsIn w w.heap.size A gs:=by
 obtain⟨A,c,gs,h1,h2,h3,h4,h5⟩:=open_list (E:=hdE) (ok:=fun g=>SlOf tvE w w.heap.size g.A g.ts∧g.ts.length≤g.c∧∀ t ∈ g.ts,Ws w w.heap.size t.A t.r) Tryz.underlying27 (by kernel_rfl) (fun n cs y hy=>by
  have hv:∃ u,cs=[u]:=by
   rcases Go.Deep.open_slice Tryz.underlying43 hy with ⟨hv,_⟩ | ⟨a,len,cap,m,n,D,Pl,hv,_⟩
   ·exact⟨_,hv⟩
   ·exact⟨_,hv⟩
  obtain⟨u,rfl⟩:=hv;obtain⟨A,c,r,rfl,h1,h2,h3,h4⟩:=open_todos hy;exact⟨⟨A,c,r,none,0⟩,rfl,h3,h1,h4⟩) h
 exact⟨A,c,gs,h1,h4,fun g hg=>(h5 g hg).1,fun g hg=>(h5 g hg).2.1,fun g hg=>(h5 g hg).2.2⟩
theorem open_case24 {v:Value} {d:DataW H} {p:List MemPlace} {r:Reach} {b:Nat} (hv:Value.okWide Tryz.prog w r b 29 v) (h:DataW.Trod enc Tryz.prog w base spare held 29 v d p):
  ∃ (o:Ob) (A B:Option Addr) (cap kc:Nat) (gs:List PG) (l ks:List Int),v=.agg (cwA o A cap gs B ks.length kc)∧0≤o.st∧o.st<4294967296∧o.ni=l.length∧Ws w w.heap.size o.I l∧ProcsIn w w.heap.size A gs∧SlOf (ints .i64) w w.heap.size B ks:=by
 obtain⟨cs,rfl,hc⟩:=okWide_struct Tryz.underlying29 hv;obtain⟨fuel,hy⟩:=h;obtain⟨xs,m,_,_,hl,hxl,hf⟩:=DataW.trod_struct Tryz.underlying29 (show DataW.trod enc Tryz.prog w base spare held fuel 29 cs.toList=_ from hy);have hl5:cs.toList.length=10:=hl.trans (by kernel_rfl);have c2:Tryz.prog.cellsOf 26=8:=by kernel_rfl
 have c3:Tryz.prog.cellsOf 27=1:=by kernel_rfl
 have c4:Tryz.prog.cellsOf 24=1:=by kernel_rfl
 obtain⟨csl⟩:=cs;simp only at hl5 hf
 match csl,hl5,xs,hxl with
 | [b0,b1,b2,b3,b4,b5,b6,b7,b8,b9],_,[y0,y1,y2],_=>
  have g0:=hf 0 _ rfl;have g1:=hf 1 _ rfl;have g2:=hf 2 _ rfl;simp[c2,c3,c4] at g0 g1 g2;obtain⟨o,l,e0,s0,s1,hn,hw⟩:=open_obplain g0;obtain⟨A1,k1,gs,e1,hp⟩:=open_procs g1;obtain⟨A2,k2,ks,e2,_,_,hk,_⟩:=open_int_list (q:=.i64) Tryz.underlying24 Tryz.underlying3 (by kernel_rfl) g2;simp[obA] at e0;obtain⟨q0,q1,q2,q3,q4,q5,q6,q7⟩:=e0;subst q0 q1 q2 q3 q4 q5 q6 q7 e1 e2;exact⟨o,A1,A2,k1,k2,gs,l,ks,rfl,s0,s1,hn,hw,hp,hk⟩
end
theorem tabIs_of_mem {P:Program} {W:World} {name:String} {k:IntKind} {zs:List Int} {g:Nat} {t e:TypeId} {n:Nat}
  (hg:P.globalNamed name=some g) (hty:(P.globals[g]?).map (·.type)=some t) (ht:P.underlying t=some (.array n e)) (he:P.underlying e=some (.int k)) (hce:P.cellsOf e=1) (hct:P.cellsOf t=n):
  ∀ (laid:List (String × DataW Unit)) (ps:List MemPlace),(name,Lib.tabData k zs) ∈ laid→DataW.LaidVars P W laid ps→Lib.TabIs P W name k zs
 | [],_,hm,_=>by simp at hm
 | x::rest,ps,hm,h=>by
  obtain⟨g',t',cs,fuel,p,q,hg',ht',hvar,hd,hrest,_⟩:=h
  rcases List.mem_cons.1 hm with rfl | hm
  ·obtain rfl:=Option.some.inj (hg.symm.trans hg');obtain rfl:=Option.some.inj (hty.symm.trans ht');unfold Lib.TabIs;rw[hvar,← Lib.cells_of_tab ht he hce hct hd]
  ·exact tabIs_of_mem hg hty ht he hce hct rest q hm hrest
theorem laid_bruijn:(Rows.laid_math_bits_deBruijn64tab:DataW Unit)=Lib.tabData .u8 (Lib.deBruijn64tab.map Int.ofNat):=by kernel_rfl
theorem tab64_of {W:World} {laid:List (String × DataW Unit)} (h:("math/bits.deBruijn64tab",(Rows.laid_math_bits_deBruijn64tab:DataW Unit)) ∈ laid∧laidMet Tryz.prog laid W):Tab64 W∧(0:Nat)<W.heap.size:=by
 obtain⟨hm,ps,hps,_⟩:=h;rw[laid_bruijn] at hm;have ht:=tabIs_of_mem (g:=0) (t:=170) (e:=5) (n:=64) (by kernel_rfl) (by kernel_rfl) Tryz.underlying170 Tryz.underlying5 (by kernel_rfl) (by kernel_rfl) laid ps hm hps
 have h64:Tab64 W:=fun j hj=>by
  have:=ht.cell (g:=0) (by kernel_rfl) j (by rw[List.length_map];exact hj)
  simpa [List.getD,hj] using this
 exact⟨h64,cell_lt (h64 0 (by decide))⟩
end Go.Proofs.YtolmpehgeinlkaaGreatDoor
