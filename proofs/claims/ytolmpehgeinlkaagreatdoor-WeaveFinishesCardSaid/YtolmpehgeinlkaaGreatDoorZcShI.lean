/- An object's words at the beginning: the kinds' Lay. -/
import Derived.Test.YtolmpehgeinlkaaGreatDoorZcShG
namespace Go.Proofs.YtolmpehgeinlkaaGreatDoor
open Go.RowKit
def zs (n:Nat):List Int:=List.replicate n 0
def ke (Z:List Int) (b:Nat) (l:List Int):List Int:=Z.take b++l++Z.drop (b+l.length)
def cQ (o:Ob):Int:=if o.k=4 then o.st%o.s else 0
def fe (o:Ob):List Int:=if o.k=6 then ((zs (av o).toNat).set 0 o.st).set 1 o.st else (zs (av o).toNat).set 0 o.st
def fu (o:Ob):Int:=bn o+cQ o*o.wd
def bW (o:Ob) (l:List Int):List Int:=if aT o then ke (fe o) (fu o).toNat l else []
def dn (l:List Int):Array Value:=(l.map (Value.int .u32)).toArray
theorem zv (l:List Int):(dn l).size=l.length:=by simp[dn]
theorem fA (l:List Int) (j:Nat):(dn l)[j]?=(l[j]?).map (Value.int .u32):=by simp[dn]
theorem fY (l:List Int) (j:Nat) (x:Int):(dn l).setIfInBounds j (.int .u32 x)=dn (l.set j x):=by
 apply Array.ext';simp[dn,List.map_set]
theorem fD {Z:List Int} {b:Nat} {l:List Int} (h:b+l.length≤Z.length):(ke Z b l).length=Z.length:=by
 simp[ke];omega
theorem zF {Z:List Int} {b:Nat} {l:List Int} {x:Int} (h:b+l.length<Z.length):(ke Z b l).set (b+l.length) x=ke Z b (l++[x]):=by
 apply List.ext_getElem?;intro j;unfold ke;simp only[List.getElem?_set,List.getElem?_append,List.length_append,List.length_take,List.getElem?_take,List.getElem?_drop,List.length_cons,List.length_nil];rw[show min b Z.length=b by omega]
 by_cases h1:j<b
 ·have a1:j<b+l.length:=by omega
  have a2:j<b+(l.length+(0+1)):=by omega
  have a3:¬ b+l.length=j:=by omega
  simp[h1,a1,a2,a3]
 ·by_cases h2:j<b+l.length
  ·have a3:¬ b+l.length=j:=by omega
   have a4:j<b+(l.length+(0+1)):=by omega
   have a5:j - b<l.length:=by omega
   simp[h1,h2,a3,a4,a5]
  ·by_cases h3:j=b+l.length
   ·subst h3;have a2:b+l.length<b+(l.length+(0+1)):=by omega
    simp;rw[if_pos (by omega),if_neg h1]
   ·have a3:¬ b+l.length=j:=by omega
    have a4:¬ j<b+(l.length+(0+1)):=by omega
    simp[h2,a3,a4]
    congr 1
    omega
theorem lC (Z:List Int) (b:Nat):ke Z b []=Z:=by simp[ke]
theorem vD {Z:List Int} {b:Nat} {l:List Int}:((dn Z).toList.take b++l.map (Value.int .u32)++(dn Z).toList.drop (b+(l.map (Value.int .u32)).length)).toArray=dn (ke Z b l):=by
 simp[dn,ke,List.map_take,List.map_drop]
theorem BN (N:Nat) (h:N≤300) (w:World):(Instr.makeSlice 23 (.int .i64 (N:Int)) (.int .i64 (N:Int))).run Tryz.prog w=.ok (.slice (some ⟨w.heap.size,0,none⟩) N N) (w.alloc (.cells (dn (zs N)) 22)):=by
 obtain⟨i,hi,h1,h2,h3⟩:=info_parts (P:=Tryz.prog) (e:=22) (z:=.int .u32 0) (size:=1) (bytes:=4) (by kernel_rfl);have hr:=run_make (P:=Tryz.prog) w 23 22 i (.int .u32 0) Tryz.underlying23 hi h1 .i64 .i64 (N:Int) (N:Int) (by omega) (by omega) (by rw[h3];omega) (by omega);rw[hr,h2]
 have e:madeCells (Value.int .u32 0).cells ((N:Int).toNat*1)=dn (zs N):=by
  apply Array.ext';rw[show(Value.int .u32 0).cells=#[.int .u32 0] from rfl,toList_madeCells_one];simp[dn,zs]
 rw[e];rfl
theorem yi (w:World):(Instr.makeSlice 23 (.int .i64 0) (.int .i64 0)).run Tryz.prog w=.ok (.slice (some ⟨w.heap.size,0,none⟩) 0 0) (w.alloc (.cells (dn (zs 0)) 22)):=BN 0 (by omega) w
theorem uD {w:World} {b N off dL dC:Nat} {Z l:List Int} {B:Nat} {I:Option Addr} {ci ni:Nat} (Lt:ni=l.length) (hr:RowB w b (dn Z) 22) (hI:Ws w B I l) (h0:l≠[]) (hZ:Z.length=N) (hf:off+l.length≤N) (hd:l.length≤dL):
  (Builtin.copy_ #[23,23] 3 #[.slice (some ⟨b,off,none⟩) dL dC,.slice I ni ci]).run Tryz.prog w=.ok (.int .i64 ni) (w.setRow b (dn (ke Z off l))):=by
 subst Lt
 obtain⟨x,hx⟩:∃ x,l[0]?=some x:=by
  cases l with
  | nil=>exact absurd rfl h0
  | cons x t=>exact⟨x,rfl⟩
 obtain⟨_,sb,so,rfl,_,_⟩:=hI.get hx;rw[← vD]
 have:=run_copy_row (P:=Tryz.prog) w 23 23 3 22 b off dL dC ⟨sb,so,none⟩ l.length ci (dn Z) 22 (l.map (Value.int .u32)) Tryz.underlying23 (by kernel_rfl) hr (by rw[List.length_map];exact(Nat.min_eq_left hd).symm) (fun j v hv=>by
  rw[List.getElem?_map] at hv;cases hq:l[j]? with
  | none=>rw[hq] at hv;cases hv
  | some z=>
   rw[hq] at hv
   injection hv with hv
   subst hv;obtain⟨_,b2,o2,he,_,hc⟩:=hI.get hq
   injection he with he
   injection he with e1 e2 e3
   subst e1 e2;show w.cell? ((⟨sb,so,none⟩:Addr).add j)=_;rw[show(⟨sb,so,none⟩:Addr).add j=⟨sb,so+j,none⟩ by unfold Addr.add;split <;> simp_all];exact hc) (by rw[List.length_map,zv];omega) (fun v hv=>by
  rw[List.mem_map] at hv;obtain⟨z,_,rfl⟩:=hv;rfl)
 rw[this,List.length_map];rfl
def LayR (w:World) (L:List Int) (e:Ending) (w':World):Prop:=∃ A c,e=.returned (.slice A L.length c)∧(L.length≤c∧c≤maxLen)∧Ws w' w'.heap.size A L∧Below w.heap.size w w'
theorem EH {w:World} {b:Nat} {L:List Int} (hr:RowB w b (dn L) 22) (hw:∀ z ∈ L,(Lit.int .u32 z).wf=true):Ws w w.heap.size (some ⟨b,0,none⟩) L:=by
 refine⟨fun k x hk=>⟨b,0,rfl,hr.lt,fun j u hu=>?_⟩,hw⟩
 have:j=0∧u=.int .u32 x:=by
  match j,hu with
  | 0,hu=>exact⟨rfl,by simpa [bB,Enc.of1] using hu.symm⟩
  | j+1,hu=>simp[bB,Enc.of1] at hu
 obtain⟨rfl,rfl⟩:=this;have:=hr.cell (0+(k*1+0));rw[fA] at this;simp[hk] at this
 simpa [bB,Enc.of1] using this
theorem LayR.row {w w':World} {b N:Nat} {L:List Int} (hr:RowB w' b (dn L) 22) (hN:L.length=N) (h3:N≤300) (hw:∀ z ∈ L,(Lit.int .u32 z).wf=true) (hb:Below w.heap.size w w'):LayR w L (.returned (.slice (some ⟨b,0,none⟩) N N)) w':=
 ⟨_,N,by rw[hN],⟨by omega,by unfold maxLen;omega⟩,EH hr hw,hb⟩
theorem mn (n:Nat):∀ z ∈ zs n,(Lit.int .u32 z).wf=true:=fun z hz=>by
 rw[zs,List.mem_replicate] at hz;rw[hz.2];rfl
theorem kA {l:List Int} {x:Int} (j:Nat) (h:∀ z ∈ l,(Lit.int .u32 z).wf=true) (hx:(Lit.int .u32 x).wf=true):∀ z ∈ l.set j x,(Lit.int .u32 z).wf=true:=fun z hz=>by
 rcases List.mem_or_eq_of_mem_set hz with q | q
 ·exact h z q
 ·rw[q];exact hx
theorem jB {Z l:List Int} (b:Nat) (h:∀ z ∈ Z,(Lit.int .u32 z).wf=true) (hl:∀ z ∈ l,(Lit.int .u32 z).wf=true):∀ z ∈ ke Z b l,(Lit.int .u32 z).wf=true:=fun z hz=>by
 unfold ke at hz;simp only[List.mem_append] at hz
 rcases hz with (q | q) | q
 ·exact h z (List.mem_of_mem_take q)
 ·exact hl z q
 ·exact h z (List.mem_of_mem_drop q)
theorem ng {o:Ob} (ho:o.Ok):(Lit.int .u32 o.st).wf=true:=by
 have h0:=ho.st0;have h1:=ho.st1;simp[Lit.wf,IntKind.min,IntKind.max,IntKind.signed,IntKind.bits];omega
theorem oN {o:Ob} (ho:o.Ok):∀ z ∈ fe o,(Lit.int .u32 z).wf=true:=by
 unfold fe
 split
 ·exact kA 1 (kA 0 (mn _) (ng ho)) (ng ho)
 ·exact kA 0 (mn _) (ng ho)
theorem iu (o:Ob):(fe o).length=(av o).toNat:=by
 unfold fe
 split <;> simp[zs]
open Go.Lib (hid)
attribute [local go_sem] Oper.semAt_some
set_option maxHeartbeats 2000000
set_option maxRecDepth 100000
abbrev yV (a0:World) (a1:Nat) (a2:Ob) (w':World):Prop:=Below a0.heap.size a0 w'∧w'.cell? ⟨a1,0,none⟩=some (.int .i64 a2.k)∧w'.cell? ⟨a1,1,none⟩=some (.int .i64 a2.wd)∧w'.cell? ⟨a1,2,none⟩=some (.int .i64 a2.s)∧w'.cell? ⟨a1,3,none⟩=some (.int .i64 a2.c)∧w'.cell? ⟨a1,4,none⟩=some (.int .u32 a2.st)∧w'.cell? ⟨a1,5,none⟩=some (.slice a2.I a2.ni a2.ci)∧w'.cell? ⟨a1,6,none⟩=some (.int .i64 a2.wr)∧w'.cell? ⟨a1,7,none⟩=some (.slice a2.R a2.nr a2.cr)
theorem sw (N:Nat):(zs N).set 0 0=zs N:=by
 unfold zs;apply List.ext_getElem?;intro j;simp[List.getElem?_replicate]
theorem jR {w:World} {n b:Nat} (j:Nat) (cs:Array Value) (hn:n≠b):(w.setRow b cs).cell? ⟨n,j,none⟩=w.cell? ⟨n,j,none⟩:=by
 unfold World.cell?;rw[setRow_other _ _ _ _ hn]
theorem tQ (o:Ob) (ho:o.Ok) (h:bY o) (w:World):Calls Tryz.prog 119 #[.agg (af o),.int .u32 o.st] w fun e w'=>e=.returned (.int .i64 (1+(o.st%o.s)*o.wd))∧Below w.heap.size w w':=by
 obtain⟨q1,q2,q3,q4,q5,q6,q7,q8⟩:=dc h;have z0:=ho.st0;have p0:=Int.emod_nonneg o.st (show o.s≠0 by omega);have p1:=Int.emod_lt_of_pos o.st (show 0<o.s by omega);have f1:IntKind.u32.wrap o.s=o.s:=aa (by omega) (by omega);have f2:o.st.tmod o.s=o.st%o.s:=Int.tmod_eq_emod_of_nonneg z0;have f3:IntKind.u32.wrap (o.st%o.s)=o.st%o.s:=aa (by omega) (by omega);have f4:IntKind.i64.wrap (o.st%o.s)=o.st%o.s:=ac (by omega) (by omega);have m:=dH (a:=o.st%o.s) (b:=o.wd) (by omega) (by omega) (by omega) (by omega);have e1:IntKind.i64.wrap (o.st%o.s*o.wd)=o.st%o.s*o.wd:=ac (by omega) (by omega);have e2:IntKind.i64.wrap (1+o.st%o.s*o.wd)=1+o.st%o.s*o.wd:=ac (by omega) (by omega);have nz:(o.s==0)=false:=by rw[beq_eq_false_iff_ne];omega
 have nz2:¬ o.s=0:=by omega
 clear h ho;obtain⟨W0,BW⟩:∃ W0,w.alloc (.cells #[.int .i64 o.k,.int .i64 o.wd,.int .i64 o.s,.int .i64 o.c,.int .u32 o.st,.slice o.I o.ni o.ci,.int .i64 o.wr,.slice o.R o.nr o.cr] 26)=W0:=⟨_,rfl⟩;have hn:=ObX.new w o;have hB:=bt w (.cells (af o) 26);unfold af at hn hB;rw[BW] at hn hB;obtain⟨n,aq⟩:∃ n,w.heap.size=n:=⟨_,rfl⟩;rw[aq] at hn hB;have HN:=hid hn;have HB:=hid hB;clear hn hB;rw[aq];unfold af;go_enter Tryz.func119,Tryz.ntmps119;go_wp2_with fail;have ct:(yV W0 n o) W0.drew:=⟨(Below.refl _ W0).drew,(ObX.kept HN.out (Below.refl _ W0).drew).cells⟩;refine wp_region_held_drew (S:=(yV W0 n o)) (by kernel_rfl) ct (fun hHeld=>?_);generalize W0.drew=wd at hHeld ⊢;have hHeld:(yV W0 n o) wd:=hHeld;refine wpAnyH_take (i:=0) (oi:=?_) (v:=?_) ?_ (by kernel_rfl) (by kernel_rfl) (by kernel_rfl) ?_ (Or.inl ⟨?_,?_⟩) (by assumption) ?_;rotate_left 2
 ·(simp only[List.getElem?_toArray,List.getElem?_cons_zero];rfl)
 ·first | exact fun _ _ _ h=>h | exact fun _ _ _ h=>by cases h.1
 ·rfl
 ·((intro wq cd;(try dsimp only at cd);go_simp);(try with_reducible rfl))
 try simp only[Act.put,List.setIfInBounds_toArray,List.set_cons_zero,List.set_cons_succ]
 refine wpAnyH_take (i:=1) (oi:=?_) (v:=?_) ?_ (by kernel_rfl) (by kernel_rfl) (by kernel_rfl) ?_ (Or.inl ⟨?_,?_⟩) (by assumption) ?_;rotate_left 2
 ·(simp only[List.getElem?_toArray,List.getElem?_cons_succ,List.getElem?_cons_zero];rfl)
 ·first | exact fun _ _ _ h=>h | exact fun _ _ _ h=>by cases h.1
 ·rfl
 ·((intro wq cd;(try dsimp only at cd);go_simp);(try with_reducible rfl))
 try simp only[Act.put,List.setIfInBounds_toArray,List.set_cons_zero,List.set_cons_succ]
 refine wpAnyH_take (i:=2) (oi:=?_) (v:=?_) ?_ (by kernel_rfl) (by kernel_rfl) (by kernel_rfl) ?_ (Or.inl ⟨?_,?_⟩) (by assumption) ?_;rotate_left 2
 ·(simp only[List.getElem?_toArray,List.getElem?_cons_succ,List.getElem?_cons_zero];rfl)
 ·first | exact fun _ _ _ h=>h | exact fun _ _ _ h=>by cases h.1
 ·rfl
 ·((intro wq cd;(try dsimp only at cd);go_simp);(try with_reducible rfl))
 try simp only[Act.put,List.setIfInBounds_toArray,List.set_cons_zero,List.set_cons_succ]
 refine wpAnyH_take (i:=3) (oi:=?_) (v:=?_) ?_ (by kernel_rfl) (by kernel_rfl) (by kernel_rfl) ?_ (Or.inl ⟨?_,?_⟩) (by assumption) ?_;rotate_left 2
 ·(simp only[List.getElem?_toArray,List.getElem?_cons_succ,List.getElem?_cons_zero];rfl)
 ·first | exact fun _ _ _ h=>h | exact fun _ _ _ h=>by cases h.1
 ·rfl
 ·((intro wq cd;(try dsimp only at cd);go_simp);(try with_reducible rfl))
 try simp only[Act.put,List.setIfInBounds_toArray,List.set_cons_zero,List.set_cons_succ]
 refine wpAnyH_take (i:=4) (oi:=?_) (v:=?_) ?_ (by kernel_rfl) (by kernel_rfl) (by kernel_rfl) ?_ (Or.inl ⟨?_,?_⟩) (by assumption) ?_;rotate_left 2
 ·(simp only[List.getElem?_toArray,List.getElem?_cons_succ,List.getElem?_cons_zero];rfl)
 ·first | exact fun _ _ _ h=>h | exact fun _ _ _ h=>by cases h.1
 ·rfl
 ·((intro wq cd;(try dsimp only at cd);go_simp);(try with_reducible rfl))
 try simp only[Act.put,List.setIfInBounds_toArray,List.set_cons_zero,List.set_cons_succ]
 refine wpAnyH_take (i:=5) (oi:=?_) (v:=?_) ?_ (by kernel_rfl) (by kernel_rfl) (by kernel_rfl) ?_ (Or.inl ⟨?_,?_⟩) (by assumption) ?_;rotate_left 2
 ·(simp only[List.getElem?_toArray,List.getElem?_cons_succ,List.getElem?_cons_zero];rfl)
 ·first | exact fun _ _ _ h=>h | exact fun _ _ _ h=>by cases h.1
 ·rfl
 ·((intro wq cd;(try dsimp only at cd);go_simp);(try with_reducible rfl))
 try simp only[Act.put,List.setIfInBounds_toArray,List.set_cons_zero,List.set_cons_succ]
 refine wpAnyH_take (i:=6) (oi:=?_) (v:=?_) ?_ (by kernel_rfl) (by kernel_rfl) (by kernel_rfl) ?_ (Or.inl ⟨?_,?_⟩) (by assumption) ?_;rotate_left 2
 ·(simp only[List.getElem?_toArray,List.getElem?_cons_succ,List.getElem?_cons_zero];rfl)
 ·first | exact fun _ _ _ h=>h | exact fun _ _ _ h=>by cases h.1
 ·rfl
 ·((intro wq cd;(try dsimp only at cd);go_simp);(try with_reducible rfl))
 try simp only[Act.put,List.setIfInBounds_toArray,List.set_cons_zero,List.set_cons_succ]
 refine wpAnyH_take (i:=7) (oi:=?_) (v:=?_) ?_ (by kernel_rfl) (by kernel_rfl) (by kernel_rfl) ?_ (Or.inl ⟨?_,?_⟩) (by assumption) ?_;rotate_left 2
 ·(simp only[List.getElem?_toArray,List.getElem?_cons_succ,List.getElem?_cons_zero];rfl)
 ·first | exact fun _ _ _ h=>h | exact fun _ _ _ h=>by cases h.1
 ·rfl
 ·((intro wq cd;(try dsimp only at cd);go_simp);(try with_reducible rfl))
 try simp only[Act.put,List.setIfInBounds_toArray,List.set_cons_zero,List.set_cons_succ]
 refine wpAnyH_take (i:=8) (oi:=?_) (v:=?_) ?_ (by kernel_rfl) (by kernel_rfl) (by kernel_rfl) ?_ (Or.inl ⟨?_,?_⟩) (by assumption) ?_;rotate_left 2
 ·(simp only[List.getElem?_toArray,List.getElem?_cons_succ,List.getElem?_cons_zero];rfl)
 ·first | exact fun _ _ _ h=>h | exact fun _ _ _ h=>by cases h.1
 ·rfl
 ·((intro wq cd;(try dsimp only at cd);go_simp);(try with_reducible rfl))
 try simp only[Act.put,List.setIfInBounds_toArray,List.set_cons_zero,List.set_cons_succ]
 refine wpAnyH_take (i:=9) (oi:=?_) (v:=?_) ?_ (by kernel_rfl) (by kernel_rfl) (by kernel_rfl) ?_ (Or.inl ⟨?_,?_⟩) (by assumption) ?_;rotate_left 2
 ·(simp only[List.getElem?_toArray,List.getElem?_cons_succ,List.getElem?_cons_zero];rfl)
 ·first | exact fun _ _ _ h=>h | exact fun _ _ _ h=>by cases h.1
 ·rfl
 ·((intro wq cd;(try dsimp only at cd);go_simp);(try with_reducible rfl))
 try simp only[Act.put,List.setIfInBounds_toArray,List.set_cons_zero,List.set_cons_succ]
 refine wpAnyH_take (i:=10) (oi:=?_) (v:=?_) ?_ (by kernel_rfl) (by kernel_rfl) (by kernel_rfl) ?_ (Or.inl ⟨?_,?_⟩) (by assumption) ?_;rotate_left 2
 ·(simp only[List.getElem?_toArray,List.getElem?_cons_succ,List.getElem?_cons_zero];rfl)
 ·first | exact fun _ _ _ h=>h | exact fun _ _ _ h=>by cases h.1
 ·rfl
 ·((intro wq cd;(try dsimp only at cd);go_simp);(try with_reducible rfl))
 try simp only[Act.put,List.setIfInBounds_toArray,List.set_cons_zero,List.set_cons_succ]
 refine bh ?_;clear ct;go_wp2_with fail;go_ret;exact⟨rfl,HB.out.trans (hHeld.1.mono (by have:=HB.out.size;omega))⟩
theorem vw (o:Ob) (ho:o.Ok) (hk:o.k=1) (l:List Int) (B:Nat) (w:World) (hl:o.ni=l.length) (hI:Ws w B o.I l) (hB:B≤w.heap.size):Calls Tryz.prog 66 #[.agg (af o)] w (LayR w (bW o l)):=by
 have hs:=fun W=>jj o ho hk W
 by_cases h:cG o
 ·have bK:=eR h;obtain⟨q1,q2,q3,q4⟩:=gb h;have kw:(l.length:Int)=o.wd:=by unfold cG aH at h;omega
  obtain⟨N,hN⟩:∃ N:Nat,av o=N:=⟨(av o).toNat,by omega⟩;obtain⟨D,hD⟩:∃ D:Nat,(4:Int)=D:=⟨(4:Int).toNat,by omega⟩;have uc:D+l.length≤N:=by omega
  have mF:D<N:=by omega
  have dQ:o.st=0:=by unfold cG at h;exact h.2.2.2.1
  have mB:fu o=D:=by unfold fu cQ;rw[gp hk,if_neg (by omega)];omega
  have hL:bW o l=ke (zs N) D l:=by unfold bW fe;rw[if_pos (.inl h),if_neg (by omega),hN,mB,Int.toNat_natCast,Int.toNat_natCast];rw[dQ,sw]
  rw[hL];rw[hN] at hs;have g1:D<N:=mF;have g2:0<N:=by omega
  have g3:N≤300:=by omega
  have g4:¬ N=D:=by omega
  have g6:D≤N:=by omega
  have g7:(D:Int)≤(N:Int):=by omega
  have sm:=hid uc;have xx:=hid (show l≠[] by intro hh;rw[hh] at kw;simp at kw;omega);have ql:=hid (show(zs N).length=N by simp[zs]);have qE:=fun W=>BN N g3 W
  have xr:=hid hl;have HI:=hid hI;have nK:=hid hB;have nN:=hid (jB (Z:=(zs N)) D (mn N) hI.2);unfold af at hs;have HS:=hid hs;clear hL h hk bK q1 q2 q3 q4 kw hN mB ho hl hs hI hB uc mF dQ;have L6:(4:Nat)=D:=by omega
  clear hD;subst L6;have g8:(4:Int)≤(N:Int):=by omega
  clear g7;have hn:=ObX.new w o;have hB:=bt w (.cells (af o) 26);unfold af at *;have HN:=hid hn;have HB:=hid hB;clear hn hB;go_enter Tryz.func66,Tryz.ntmps66;go_wp2_with fail;refine(HS.out _).mono ?_;rintro e w1 ⟨rfl,am⟩;have aP:=ObX.kept HN.out am;have aO:=bv HB.out am;have iR:=HN.out.lt;have bZ:w.heap.size+1≤w1.heap.size:=by have:=am.size;simp at this;omega
  have bL:=RowB.new w1 (dn (zs N)) 22;have cz:=bt w1 (.cells (dn (zs N)) 22);have fC:(w1.alloc (.cells (dn (zs N)) 22)).heap.size=w1.heap.size+1:=by rw[World.size_alloc]
  obtain⟨W2,sR⟩:∃ W2,w1.alloc (.cells (dn (zs N)) 22)=W2:=⟨_,rfl⟩;rw[sR] at bL cz fC;obtain⟨b,hb⟩:∃ b,w1.heap.size=b:=⟨_,rfl⟩;obtain⟨n,aq⟩:∃ n,w.heap.size=n:=⟨_,rfl⟩;have cC:=aP.kept cz;have bz:=aO.trans (cz.mono (by omega));rw[aq] at aP cC bZ bz ⊢;rw[hb] at bL cz bZ fC;have HO:=hid cC;have HR:=hid bL;have cw:=hid bz;have bT:=hid aO;clear am aP cC bL cz aO bz;go_wp2_with fail;have ct:(fun w':World=>Below b W2 w'∧w'.cell? ⟨n,0,none⟩=some (.int .i64 o.k)∧w'.cell? ⟨n,1,none⟩=some (.int .i64 o.wd)∧w'.cell? ⟨n,2,none⟩=some (.int .i64 o.s)∧w'.cell? ⟨n,3,none⟩=some (.int .i64 o.c)∧w'.cell? ⟨n,4,none⟩=some (.int .u32 o.st)∧w'.cell? ⟨n,5,none⟩=some (.slice o.I o.ni o.ci)∧w'.cell? ⟨n,6,none⟩=some (.int .i64 o.wr)∧w'.cell? ⟨n,7,none⟩=some (.slice o.R o.nr o.cr)) W2.drew:=⟨(Below.refl _ W2).drew,(ObX.kept HO.out (Below.refl _ W2).drew).cells⟩;have bm:RowB W2.drew b (dn (zs N)) 22:=HR.out.kept (Below.refl _ W2).drew;have hI:Ws W2.drew B o.I l:=(HI.out.below (cw.out.mono (by have:=nK.out;omega)) (Nat.le_refl _)).below (Below.refl _ W2).drew (Nat.le_refl _);refine wp_region_held_drew (S:=(fun w':World=>Below b W2 w'∧w'.cell? ⟨n,0,none⟩=some (.int .i64 o.k)∧w'.cell? ⟨n,1,none⟩=some (.int .i64 o.wd)∧w'.cell? ⟨n,2,none⟩=some (.int .i64 o.s)∧w'.cell? ⟨n,3,none⟩=some (.int .i64 o.c)∧w'.cell? ⟨n,4,none⟩=some (.int .u32 o.st)∧w'.cell? ⟨n,5,none⟩=some (.slice o.I o.ni o.ci)∧w'.cell? ⟨n,6,none⟩=some (.int .i64 o.wr)∧w'.cell? ⟨n,7,none⟩=some (.slice o.R o.nr o.cr))) (by kernel_rfl) ct (fun hHeld=>?_);generalize W2.drew=wd at hHeld bm hI ⊢;have hHeld:(fun w':World=>Below b W2 w'∧w'.cell? ⟨n,0,none⟩=some (.int .i64 o.k)∧w'.cell? ⟨n,1,none⟩=some (.int .i64 o.wd)∧w'.cell? ⟨n,2,none⟩=some (.int .i64 o.s)∧w'.cell? ⟨n,3,none⟩=some (.int .i64 o.c)∧w'.cell? ⟨n,4,none⟩=some (.int .u32 o.st)∧w'.cell? ⟨n,5,none⟩=some (.slice o.I o.ni o.ci)∧w'.cell? ⟨n,6,none⟩=some (.int .i64 o.wr)∧w'.cell? ⟨n,7,none⟩=some (.slice o.R o.nr o.cr)) wd:=hHeld;replace bm:=hid bm;replace hI:=hid hI;refine wpAnyH_take (i:=0) (oi:=?_) (v:=?_) ?_ (by kernel_rfl) (by kernel_rfl) (by kernel_rfl) ?_ (Or.inl ⟨?_,?_⟩) (by assumption) ?_;rotate_left 2
  ·(simp only[List.getElem?_toArray,List.getElem?_cons_zero];rfl)
  ·first | exact fun _ _ _ h=>h | exact fun _ _ _ h=>by cases h.1
  ·rfl
  ·((intro wq cd;(try dsimp only at cd);go_simp);(try with_reducible rfl))
  try simp only[Act.put,List.setIfInBounds_toArray,List.set_cons_zero,List.set_cons_succ]
  refine wpAnyH_take (i:=1) (oi:=?_) (v:=?_) ?_ (by kernel_rfl) (by kernel_rfl) (by kernel_rfl) ?_ (Or.inl ⟨?_,?_⟩) (by assumption) ?_;rotate_left 2
  ·(simp only[List.getElem?_toArray,List.getElem?_cons_succ,List.getElem?_cons_zero];rfl)
  ·first | exact fun _ _ _ h=>h | exact fun _ _ _ h=>by cases h.1
  ·rfl
  ·((intro wq cd;(try dsimp only at cd);go_simp);(try with_reducible rfl))
  try simp only[Act.put,List.setIfInBounds_toArray,List.set_cons_zero,List.set_cons_succ]
  refine wpAnyH_take (i:=2) (oi:=?_) (v:=?_) ?_ (by kernel_rfl) (by kernel_rfl) (by kernel_rfl) ?_ (Or.inl ⟨?_,?_⟩) (by assumption) ?_;rotate_left 2
  ·(simp only[List.getElem?_toArray,List.getElem?_cons_succ,List.getElem?_cons_zero];rfl)
  ·first | exact fun _ _ _ h=>h | exact fun _ _ _ h=>by cases h.1
  ·rfl
  ·((intro wq cd;(try dsimp only at cd);go_simp);(try with_reducible rfl))
  try simp only[Act.put,List.setIfInBounds_toArray,List.set_cons_zero,List.set_cons_succ]
  refine wpAnyH_take (i:=3) (oi:=?_) (v:=?_) ?_ (by kernel_rfl) (by kernel_rfl) (by kernel_rfl) ?_ (Or.inl ⟨?_,?_⟩) (by assumption) ?_;rotate_left 2
  ·(simp only[List.getElem?_toArray,List.getElem?_cons_succ,List.getElem?_cons_zero];rfl)
  ·first | exact fun _ _ _ h=>h | exact fun _ _ _ h=>by cases h.1
  ·rfl
  ·((intro wq cd;(try dsimp only at cd);go_simp);(try with_reducible rfl))
  try simp only[Act.put,List.setIfInBounds_toArray,List.set_cons_zero,List.set_cons_succ]
  have fy:=uD (off:=4) (dL:=N - 4) (dC:=N - 4) (ci:=o.ci) xr.out bm.out hI.out xx.out ql.out sm.out (by have:=sm.out;omega);refine jX [4] ?_;refine gN (fun K hK=>?_) AllReadyH.nil;go_simp
  have aN:(fun w':World=>Below b W2 w'∧w'.cell? ⟨n,0,none⟩=some (.int .i64 o.k)∧w'.cell? ⟨n,1,none⟩=some (.int .i64 o.wd)∧w'.cell? ⟨n,2,none⟩=some (.int .i64 o.s)∧w'.cell? ⟨n,3,none⟩=some (.int .i64 o.c)∧w'.cell? ⟨n,4,none⟩=some (.int .u32 o.st)∧w'.cell? ⟨n,5,none⟩=some (.slice o.I o.ni o.ci)∧w'.cell? ⟨n,6,none⟩=some (.int .i64 o.wr)∧w'.cell? ⟨n,7,none⟩=some (.slice o.R o.nr o.cr)) (wd.setRow b (dn (ke (zs N) 4 l))):=by
   obtain⟨h0,u0,u1,u2,u3,u4,u5,u6,u7⟩:=hHeld;have fU:n≠b:=by omega
   simp only[jR _ _ fU];exact⟨bs h0 b _ (Nat.le_refl _),u0,u1,u2,u3,u4,u5,u6,u7⟩
  refine hK.out _ _ aN (fun hHeld=>?_);clear hK K;try simp only[Act.put,List.setIfInBounds_toArray,List.set_cons_zero,List.set_cons_succ]
  refine bh ?_;clear ct;go_wp2_with fail;go_ret;exact LayR.row bm.out.row (by rw[fD (by rw[ql.out];exact sm.out)];exact ql.out) g3 nN.out (by rw[aq];exact cw.out.trans (hHeld.1.mono (by omega)))
 ·have eh:¬ aT o:=fun q=>h (of_decide_eq_true ((iB hk).symm.trans (decide_eq_true q)))
  have hL:bW o l=[]:=by unfold bW;rw[if_neg eh]
  have hz:=cH eh;rw[hL];rw[hz] at hs;obtain⟨N,hN⟩:∃ N:Nat,N=0:=⟨_,rfl⟩;have gl:∀ W,_:=fun W=>hs W
  have qE:=yi;unfold af at hs;have HS:=hid hs;clear hL hz hs gl eh h hk ho hI hl hB hN;have hn:=ObX.new w o;have hB:=bt w (.cells (af o) 26);unfold af at *;have HN:=hid hn;have HB:=hid hB;clear hn hB;go_enter Tryz.func66,Tryz.ntmps66;go_wp2_with fail;refine(HS.out _).mono ?_;rintro e w1 ⟨rfl,am⟩;have aO:=bv HB.out am;have bT:=hid aO;have bZ:w.heap.size≤w1.heap.size:=by have:=am.size;simp at this;omega
  clear aO am;go_wp2_with fail;go_ret;exact LayR.row (L:=[]) (RowB.new w1 (dn (zs 0)) 22) rfl (by omega) (fun z hz=>by cases hz) (bT.out.alloc bZ _)
theorem vf (o:Ob) (ho:o.Ok) (hk:o.k=2) (l:List Int) (B:Nat) (w:World) (hl:o.ni=l.length) (hI:Ws w B o.I l) (hB:B≤w.heap.size):Calls Tryz.prog 67 #[.agg (af o)] w (LayR w (bW o l)):=by
 have hs:=fun W=>jx o ho hk W
 by_cases h:cF o
 ·have bK:=eS h;obtain⟨q1,q2,q3,q4⟩:=f7 h;have kw:(l.length:Int)=o.wd:=by unfold cF aH at h;omega
  have m2:=dH (a:=(o.nr:Int)+2) (b:=o.wd) (by omega) (by omega) (by omega) (by omega);obtain⟨N,hN⟩:∃ N:Nat,av o=N:=⟨(av o).toNat,by omega⟩;obtain⟨D,hD⟩:∃ D:Nat,(1+o.nr:Int)=D:=⟨(1+o.nr:Int).toNat,by omega⟩;have mm:2*o.wd≤((o.nr:Int)+2)*o.wd:=Int.mul_le_mul_of_nonneg_right (by omega) (by omega);have uc:D+l.length≤N:=by omega
  have mF:D<N:=by omega
  have dQ:o.st=0:=by unfold cF at h;exact h.2.2.2
  have mB:fu o=D:=by unfold fu cQ;rw[gv hk,if_neg (by omega)];omega
  have hL:bW o l=ke (zs N) D l:=by unfold bW fe;rw[if_pos (.inr (.inl h)),if_neg (by omega),hN,mB,Int.toNat_natCast,Int.toNat_natCast];rw[dQ,sw]
  rw[hL];rw[hN] at hs;have hc:=fun W=>jH o q4 W
  rw[hD] at hc;unfold af at hc;have HC:=hid hc;clear hc;have g1:D<N:=mF;have g2:0<N:=by omega
  have g3:N≤300:=by omega
  have g4:¬ N=D:=by omega
  have g6:D≤N:=by omega
  have g7:(D:Int)≤(N:Int):=by omega
  have sm:=hid uc;have xx:=hid (show l≠[] by intro hh;rw[hh] at kw;simp at kw;omega);have ql:=hid (show(zs N).length=N by simp[zs]);have qE:=fun W=>BN N g3 W
  have xr:=hid hl;have HI:=hid hI;have nK:=hid hB;have nN:=hid (jB (Z:=(zs N)) D (mn N) hI.2);unfold af at hs;have HS:=hid hs;clear hL h hk bK q1 q2 q3 q4 kw hN mB ho hl hs hI hB uc mF dQ mm m2;have J7:=hid hD;clear hD;have hn:=ObX.new w o;have hB:=bt w (.cells (af o) 26);unfold af at *;have HN:=hid hn;have HB:=hid hB;clear hn hB;go_enter Tryz.func67,Tryz.ntmps67;go_wp2_with fail;refine(HS.out _).mono ?_;rintro e w1 ⟨rfl,am⟩;have aP:=ObX.kept HN.out am;have aO:=bv HB.out am;have iR:=HN.out.lt;have bZ:w.heap.size+1≤w1.heap.size:=by have:=am.size;simp at this;omega
  have bL:=RowB.new w1 (dn (zs N)) 22;have cz:=bt w1 (.cells (dn (zs N)) 22);have fC:(w1.alloc (.cells (dn (zs N)) 22)).heap.size=w1.heap.size+1:=by rw[World.size_alloc]
  obtain⟨W2,sR⟩:∃ W2,w1.alloc (.cells (dn (zs N)) 22)=W2:=⟨_,rfl⟩;rw[sR] at bL cz fC;obtain⟨b,hb⟩:∃ b,w1.heap.size=b:=⟨_,rfl⟩;obtain⟨n,aq⟩:∃ n,w.heap.size=n:=⟨_,rfl⟩;have cC:=aP.kept cz;have bz:=aO.trans (cz.mono (by omega));rw[aq] at aP cC bZ bz ⊢;rw[hb] at bL cz bZ fC;have HO:=hid cC;have HR:=hid bL;have cw:=hid bz;have bT:=hid aO;clear am aP cC bL cz aO bz;go_wp2_with fail;have ct:(fun w':World=>Below b W2 w'∧w'.cell? ⟨n,0,none⟩=some (.int .i64 o.k)∧w'.cell? ⟨n,1,none⟩=some (.int .i64 o.wd)∧w'.cell? ⟨n,2,none⟩=some (.int .i64 o.s)∧w'.cell? ⟨n,3,none⟩=some (.int .i64 o.c)∧w'.cell? ⟨n,4,none⟩=some (.int .u32 o.st)∧w'.cell? ⟨n,5,none⟩=some (.slice o.I o.ni o.ci)∧w'.cell? ⟨n,6,none⟩=some (.int .i64 o.wr)∧w'.cell? ⟨n,7,none⟩=some (.slice o.R o.nr o.cr)) W2.drew:=⟨(Below.refl _ W2).drew,(ObX.kept HO.out (Below.refl _ W2).drew).cells⟩;have bm:RowB W2.drew b (dn (zs N)) 22:=HR.out.kept (Below.refl _ W2).drew;have hI:Ws W2.drew B o.I l:=(HI.out.below (cw.out.mono (by have:=nK.out;omega)) (Nat.le_refl _)).below (Below.refl _ W2).drew (Nat.le_refl _);refine wp_region_held_drew (S:=(fun w':World=>Below b W2 w'∧w'.cell? ⟨n,0,none⟩=some (.int .i64 o.k)∧w'.cell? ⟨n,1,none⟩=some (.int .i64 o.wd)∧w'.cell? ⟨n,2,none⟩=some (.int .i64 o.s)∧w'.cell? ⟨n,3,none⟩=some (.int .i64 o.c)∧w'.cell? ⟨n,4,none⟩=some (.int .u32 o.st)∧w'.cell? ⟨n,5,none⟩=some (.slice o.I o.ni o.ci)∧w'.cell? ⟨n,6,none⟩=some (.int .i64 o.wr)∧w'.cell? ⟨n,7,none⟩=some (.slice o.R o.nr o.cr))) (by kernel_rfl) ct (fun hHeld=>?_);generalize W2.drew=wd at hHeld bm hI ⊢;have hHeld:(fun w':World=>Below b W2 w'∧w'.cell? ⟨n,0,none⟩=some (.int .i64 o.k)∧w'.cell? ⟨n,1,none⟩=some (.int .i64 o.wd)∧w'.cell? ⟨n,2,none⟩=some (.int .i64 o.s)∧w'.cell? ⟨n,3,none⟩=some (.int .i64 o.c)∧w'.cell? ⟨n,4,none⟩=some (.int .u32 o.st)∧w'.cell? ⟨n,5,none⟩=some (.slice o.I o.ni o.ci)∧w'.cell? ⟨n,6,none⟩=some (.int .i64 o.wr)∧w'.cell? ⟨n,7,none⟩=some (.slice o.R o.nr o.cr)) wd:=hHeld;replace bm:=hid bm;replace hI:=hid hI;refine wpAnyH_take (i:=0) (oi:=?_) (v:=?_) ?_ (by kernel_rfl) (by kernel_rfl) (by kernel_rfl) ?_ (Or.inl ⟨?_,?_⟩) (by assumption) ?_;rotate_left 2
  ·(simp only[List.getElem?_toArray,List.getElem?_cons_zero];rfl)
  ·first | exact fun _ _ _ h=>h | exact fun _ _ _ h=>by cases h.1
  ·rfl
  ·((intro wq cd;(try dsimp only at cd);go_simp);(try with_reducible rfl))
  try simp only[Act.put,List.setIfInBounds_toArray,List.set_cons_zero,List.set_cons_succ]
  refine wpAnyH_take (i:=1) (oi:=?_) (v:=?_) ?_ (by kernel_rfl) (by kernel_rfl) (by kernel_rfl) ?_ (Or.inl ⟨?_,?_⟩) (by assumption) ?_;rotate_left 2
  ·(simp only[List.getElem?_toArray,List.getElem?_cons_succ,List.getElem?_cons_zero];rfl)
  ·first | exact fun _ _ _ h=>h | exact fun _ _ _ h=>by cases h.1
  ·rfl
  ·((intro wq cd;(try dsimp only at cd);go_simp);(try with_reducible rfl))
  try simp only[Act.put,List.setIfInBounds_toArray,List.set_cons_zero,List.set_cons_succ]
  refine wpAnyH_take (i:=4) (oi:=?_) (v:=?_) ?_ (by kernel_rfl) (by kernel_rfl) (by kernel_rfl) ?_ (Or.inl ⟨?_,?_⟩) (by assumption) ?_;rotate_left 2
  ·(simp only[List.getElem?_toArray,List.getElem?_cons_succ,List.getElem?_cons_zero];rfl)
  ·first | exact fun _ _ _ h=>h | exact fun _ _ _ h=>by cases h.1
  ·rfl
  ·((intro wq cd;(try dsimp only at cd);go_simp);(try with_reducible rfl))
  try simp only[Act.put,List.setIfInBounds_toArray,List.set_cons_zero,List.set_cons_succ]
  refine wpAnyH_take (i:=5) (oi:=?_) (v:=?_) ?_ (by kernel_rfl) (by kernel_rfl) (by kernel_rfl) ?_ (Or.inl ⟨?_,?_⟩) (by assumption) ?_;rotate_left 2
  ·(simp only[List.getElem?_toArray,List.getElem?_cons_succ,List.getElem?_cons_zero];rfl)
  ·first | exact fun _ _ _ h=>h | exact fun _ _ _ h=>by cases h.1
  ·rfl
  ·((intro wq cd;(try dsimp only at cd);go_simp);(try with_reducible rfl))
  try simp only[Act.put,List.setIfInBounds_toArray,List.set_cons_zero,List.set_cons_succ]
  refine jX [2] ?_;refine gN (fun K hK=>?_) AllReadyH.nil;go_simp;refine(HC.out _).mono ?_;rintro ex wx ⟨rfl,br⟩
  have aN:(fun w':World=>Below b W2 w'∧w'.cell? ⟨n,0,none⟩=some (.int .i64 o.k)∧w'.cell? ⟨n,1,none⟩=some (.int .i64 o.wd)∧w'.cell? ⟨n,2,none⟩=some (.int .i64 o.s)∧w'.cell? ⟨n,3,none⟩=some (.int .i64 o.c)∧w'.cell? ⟨n,4,none⟩=some (.int .u32 o.st)∧w'.cell? ⟨n,5,none⟩=some (.slice o.I o.ni o.ci)∧w'.cell? ⟨n,6,none⟩=some (.int .i64 o.wr)∧w'.cell? ⟨n,7,none⟩=some (.slice o.R o.nr o.cr)) wx:=by
   obtain⟨h0,u0,u1,u2,u3,u4,u5,u6,u7⟩:=hHeld;have hk:∀ {i:Nat} {u:Value},_→wx.cell? ⟨n,i,none⟩=some u:=fun {i u} hc=>(br.cell (p:=⟨n,i,none⟩) (aX hc)).trans hc
   exact⟨bv h0 br,hk u0,hk u1,hk u2,hk u3,hk u4,hk u5,hk u6,hk u7⟩
  replace bm:=hid (bm.out.kept br);replace hI:=hid (hI.out.below (br.mono (by have:=hHeld.1.size;have:=cw.out.size;have:=nK.out;omega)) (Nat.le_refl _));clear br;refine hK.out _ _ aN (fun hHeld=>?_);clear hK K;try simp only[Act.put,List.setIfInBounds_toArray,List.set_cons_zero,List.set_cons_succ]
  refine wpAnyH_take (i:=3) (oi:=?_) (v:=?_) ?_ (by kernel_rfl) (by kernel_rfl) (by kernel_rfl) ?_ (Or.inl ⟨?_,?_⟩) (by assumption) ?_;rotate_left 2
  ·(simp only[List.getElem?_toArray,List.getElem?_cons_succ,List.getElem?_cons_zero];rfl)
  ·first | exact fun _ _ _ h=>h | exact fun _ _ _ h=>by cases h.1
  ·rfl
  ·((intro wq cd;(try dsimp only at cd);go_simp);(try with_reducible rfl))
  try simp only[Act.put,List.setIfInBounds_toArray,List.set_cons_zero,List.set_cons_succ]
  have fy:=uD (off:=D) (dL:=N - D) (dC:=N - D) (ci:=o.ci) xr.out bm.out hI.out xx.out ql.out sm.out (by have:=sm.out;omega);refine jX [6] ?_;refine gN (fun K hK=>?_) AllReadyH.nil;go_simp
  have aN:(fun w':World=>Below b W2 w'∧w'.cell? ⟨n,0,none⟩=some (.int .i64 o.k)∧w'.cell? ⟨n,1,none⟩=some (.int .i64 o.wd)∧w'.cell? ⟨n,2,none⟩=some (.int .i64 o.s)∧w'.cell? ⟨n,3,none⟩=some (.int .i64 o.c)∧w'.cell? ⟨n,4,none⟩=some (.int .u32 o.st)∧w'.cell? ⟨n,5,none⟩=some (.slice o.I o.ni o.ci)∧w'.cell? ⟨n,6,none⟩=some (.int .i64 o.wr)∧w'.cell? ⟨n,7,none⟩=some (.slice o.R o.nr o.cr)) (wx.setRow b (dn (ke (zs N) D l))):=by
   obtain⟨h0,u0,u1,u2,u3,u4,u5,u6,u7⟩:=hHeld;have fU:n≠b:=by omega
   simp only[jR _ _ fU];exact⟨bs h0 b _ (Nat.le_refl _),u0,u1,u2,u3,u4,u5,u6,u7⟩
  refine hK.out _ _ aN (fun hHeld=>?_);clear hK K;try simp only[Act.put,List.setIfInBounds_toArray,List.set_cons_zero,List.set_cons_succ]
  refine bh ?_;clear ct;go_wp2_with fail;go_ret;exact LayR.row bm.out.row (by rw[fD (by rw[ql.out];exact sm.out)];exact ql.out) g3 nN.out (by rw[aq];exact cw.out.trans (hHeld.1.mono (by omega)))
 ·have eh:¬ aT o:=fun q=>h (of_decide_eq_true ((ix hk).symm.trans (decide_eq_true q)))
  have hL:bW o l=[]:=by unfold bW;rw[if_neg eh]
  have hz:=cH eh;rw[hL];rw[hz] at hs;obtain⟨N,hN⟩:∃ N:Nat,N=0:=⟨_,rfl⟩;have gl:∀ W,_:=fun W=>hs W
  have qE:=yi;unfold af at hs;have HS:=hid hs;clear hL hz hs gl eh h hk ho hI hl hB hN;have hn:=ObX.new w o;have hB:=bt w (.cells (af o) 26);unfold af at *;have HN:=hid hn;have HB:=hid hB;clear hn hB;go_enter Tryz.func67,Tryz.ntmps67;go_wp2_with fail;refine(HS.out _).mono ?_;rintro e w1 ⟨rfl,am⟩;have aO:=bv HB.out am;have bT:=hid aO;have bZ:w.heap.size≤w1.heap.size:=by have:=am.size;simp at this;omega
  clear aO am;go_wp2_with fail;go_ret;exact LayR.row (L:=[]) (RowB.new w1 (dn (zs 0)) 22) rfl (by omega) (fun z hz=>by cases hz) (bT.out.alloc bZ _)
theorem wT (o:Ob) (ho:o.Ok) (hk:o.k=4) (l:List Int) (B:Nat) (w:World) (hl:o.ni=l.length) (hI:Ws w B o.I l) (hB:B≤w.heap.size):Calls Tryz.prog 69 #[.agg (af o)] w (LayR w (bW o l)):=by
 have hs:=fun W=>jw o ho hk W
 by_cases h:bY o
 ·have bK:=eU h;obtain⟨q1,q2,q3,q4,q5,q6,q7,q8⟩:=dc h;have kw:(l.length:Int)=o.wd:=by unfold bY aH at h;omega
  have p0:=Int.emod_nonneg o.st (show o.s≠0 by omega);have p1:=Int.emod_lt_of_pos o.st (show 0<o.s by omega);have m:=dH (a:=o.st%o.s) (b:=o.wd) (by omega) (by omega) (by omega) (by omega);have m2:=dH (a:=o.s) (b:=o.wd) (by omega) (by omega) (by omega) (by omega);obtain⟨N,hN⟩:∃ N:Nat,av o=N:=⟨(av o).toNat,by omega⟩;obtain⟨D,hD⟩:∃ D:Nat,(1+(o.st%o.s)*o.wd:Int)=D:=⟨(1+(o.st%o.s)*o.wd:Int).toNat,by omega⟩;have mm:(o.st%o.s)*o.wd+o.wd≤o.s*o.wd:=by have:=Int.mul_le_mul_of_nonneg_right (show o.st%o.s+1≤o.s by omega) (show 0≤o.wd by omega);rw[Int.add_mul] at this;omega
  have uc:D+l.length≤N:=by omega
  have mF:D<N:=by omega
  have mB:fu o=D:=by unfold fu cQ;rw[gq hk,if_pos hk];omega
  have hL:bW o l=ke ((zs N).set 0 o.st) D l:=by unfold bW fe;rw[if_pos (.inr (.inr (.inr (.inl h)))),if_neg (by omega),hN,mB,Int.toNat_natCast,Int.toNat_natCast]
  rw[hL];rw[hN] at hs;have hc:=fun W=>tQ o ho h W
  rw[hD] at hc;unfold af at hc;have HC:=hid hc;clear hc;have g1:D<N:=mF;have g2:0<N:=by omega
  have g3:N≤300:=by omega
  have g4:¬ N=D:=by omega
  have g6:D≤N:=by omega
  have g7:(D:Int)≤(N:Int):=by omega
  have sm:=hid uc;have xx:=hid (show l≠[] by intro hh;rw[hh] at kw;simp at kw;omega);have ql:=hid (show((zs N).set 0 o.st).length=N by simp[zs]);have qE:=fun W=>BN N g3 W
  have xr:=hid hl;have HI:=hid hI;have nK:=hid hB;have nN:=hid (jB (Z:=((zs N).set 0 o.st)) D (kA 0 (mn N) (ng ho)) hI.2);have B7:=hid (show(dn (zs N))[0]?=some (.int .u32 0) by rw[fA,zs,List.getElem?_replicate,if_pos g2];rfl);unfold af at hs;have HS:=hid hs;clear hL h hk bK q1 q2 q3 q4 q5 q6 q7 q8 kw hN mB ho hl hs hI hB uc mF mm m m2 p0 p1;have J7:=hid hD;clear hD;have hn:=ObX.new w o;have hB:=bt w (.cells (af o) 26);unfold af at *;have HN:=hid hn;have HB:=hid hB;clear hn hB;go_enter Tryz.func69,Tryz.ntmps69;go_wp2_with fail;refine(HS.out _).mono ?_;rintro e w1 ⟨rfl,am⟩;have aP:=ObX.kept HN.out am;have aO:=bv HB.out am;have iR:=HN.out.lt;have bZ:w.heap.size+1≤w1.heap.size:=by have:=am.size;simp at this;omega
  have bL:=RowB.new w1 (dn (zs N)) 22;have cz:=bt w1 (.cells (dn (zs N)) 22);have fC:(w1.alloc (.cells (dn (zs N)) 22)).heap.size=w1.heap.size+1:=by rw[World.size_alloc]
  obtain⟨W2a,sR⟩:∃ W2,w1.alloc (.cells (dn (zs N)) 22)=W2:=⟨_,rfl⟩;rw[sR] at bL cz fC;obtain⟨b,hb⟩:∃ b,w1.heap.size=b:=⟨_,rfl⟩;obtain⟨n,aq⟩:∃ n,w.heap.size=n:=⟨_,rfl⟩;have cC:=aP.kept cz;have bz:=aO.trans (cz.mono (by omega));rw[aq] at aP cC bZ bz ⊢;rw[hb] at bL cz bZ fC;have HO:=hid cC;have HR:=hid bL;have cw:=hid bz;have bT:=hid aO;clear am aP cC bL cz aO bz;have c0:W2a.cell? ⟨b,0,none⟩=some (.int .u32 0):=(HR.out.cell 0).trans B7.out;have f0:W2a.frozen? ⟨b,0,none⟩=false:=HR.out.frozen 0;have bC:=HR.out.set 0 (.int .u32 o.st);rw[fY] at bC;have eK:ObX (W2a.setCell ⟨b,0,none⟩ (.int .u32 o.st)) n o:=(dT W2a b 0 (.int .u32 o.st) n (by omega)).trans HO.out;have fI:=ce cw.out b 0 (by omega) (.int .u32 o.st);have GL:=rz W2a b 0 (.int .u32 o.st);obtain⟨d0,d1,d2,d3,d4,d5,d6,d7⟩:=HO.out.cells;obtain⟨W2,Lq⟩:∃ W,W2a.setCell ⟨b,0,none⟩ (.int .u32 o.st)=W:=⟨_,rfl⟩;rw[Lq] at bC eK fI GL;rw[fC] at GL;clear HR HO cw;have HR:=hid bC;have HO:=hid eK;have cw:=hid fI;clear bC eK fI;go_wp2_with fail;clear d0 d1 d2 d3 d4 d5 d6 d7 c0 f0;have ct:(fun w':World=>Below b W2 w'∧w'.cell? ⟨n,0,none⟩=some (.int .i64 o.k)∧w'.cell? ⟨n,1,none⟩=some (.int .i64 o.wd)∧w'.cell? ⟨n,2,none⟩=some (.int .i64 o.s)∧w'.cell? ⟨n,3,none⟩=some (.int .i64 o.c)∧w'.cell? ⟨n,4,none⟩=some (.int .u32 o.st)∧w'.cell? ⟨n,5,none⟩=some (.slice o.I o.ni o.ci)∧w'.cell? ⟨n,6,none⟩=some (.int .i64 o.wr)∧w'.cell? ⟨n,7,none⟩=some (.slice o.R o.nr o.cr)) W2.drew:=⟨(Below.refl _ W2).drew,(ObX.kept HO.out (Below.refl _ W2).drew).cells⟩;have bm:RowB W2.drew b (dn ((zs N).set 0 o.st)) 22:=HR.out.kept (Below.refl _ W2).drew;have hI:Ws W2.drew B o.I l:=(HI.out.below (cw.out.mono (by have:=nK.out;omega)) (Nat.le_refl _)).below (Below.refl _ W2).drew (Nat.le_refl _);refine wp_region_held_drew (S:=(fun w':World=>Below b W2 w'∧w'.cell? ⟨n,0,none⟩=some (.int .i64 o.k)∧w'.cell? ⟨n,1,none⟩=some (.int .i64 o.wd)∧w'.cell? ⟨n,2,none⟩=some (.int .i64 o.s)∧w'.cell? ⟨n,3,none⟩=some (.int .i64 o.c)∧w'.cell? ⟨n,4,none⟩=some (.int .u32 o.st)∧w'.cell? ⟨n,5,none⟩=some (.slice o.I o.ni o.ci)∧w'.cell? ⟨n,6,none⟩=some (.int .i64 o.wr)∧w'.cell? ⟨n,7,none⟩=some (.slice o.R o.nr o.cr))) (by kernel_rfl) ct (fun hHeld=>?_);generalize W2.drew=wd at hHeld bm hI ⊢;have hHeld:(fun w':World=>Below b W2 w'∧w'.cell? ⟨n,0,none⟩=some (.int .i64 o.k)∧w'.cell? ⟨n,1,none⟩=some (.int .i64 o.wd)∧w'.cell? ⟨n,2,none⟩=some (.int .i64 o.s)∧w'.cell? ⟨n,3,none⟩=some (.int .i64 o.c)∧w'.cell? ⟨n,4,none⟩=some (.int .u32 o.st)∧w'.cell? ⟨n,5,none⟩=some (.slice o.I o.ni o.ci)∧w'.cell? ⟨n,6,none⟩=some (.int .i64 o.wr)∧w'.cell? ⟨n,7,none⟩=some (.slice o.R o.nr o.cr)) wd:=hHeld;replace bm:=hid bm;replace hI:=hid hI;refine wpAnyH_take (i:=0) (oi:=?_) (v:=?_) ?_ (by kernel_rfl) (by kernel_rfl) (by kernel_rfl) ?_ (Or.inl ⟨?_,?_⟩) (by assumption) ?_;rotate_left 2
  ·(simp only[List.getElem?_toArray,List.getElem?_cons_zero];rfl)
  ·first | exact fun _ _ _ h=>h | exact fun _ _ _ h=>by cases h.1
  ·rfl
  ·((intro wq cd;(try dsimp only at cd);go_simp);(try with_reducible rfl))
  try simp only[Act.put,List.setIfInBounds_toArray,List.set_cons_zero,List.set_cons_succ]
  refine wpAnyH_take (i:=1) (oi:=?_) (v:=?_) ?_ (by kernel_rfl) (by kernel_rfl) (by kernel_rfl) ?_ (Or.inl ⟨?_,?_⟩) (by assumption) ?_;rotate_left 2
  ·(simp only[List.getElem?_toArray,List.getElem?_cons_succ,List.getElem?_cons_zero];rfl)
  ·first | exact fun _ _ _ h=>h | exact fun _ _ _ h=>by cases h.1
  ·rfl
  ·((intro wq cd;(try dsimp only at cd);go_simp);(try with_reducible rfl))
  try simp only[Act.put,List.setIfInBounds_toArray,List.set_cons_zero,List.set_cons_succ]
  refine wpAnyH_take (i:=2) (oi:=?_) (v:=?_) ?_ (by kernel_rfl) (by kernel_rfl) (by kernel_rfl) ?_ (Or.inl ⟨?_,?_⟩) (by assumption) ?_;rotate_left 2
  ·(simp only[List.getElem?_toArray,List.getElem?_cons_succ,List.getElem?_cons_zero];rfl)
  ·first | exact fun _ _ _ h=>h | exact fun _ _ _ h=>by cases h.1
  ·rfl
  ·((intro wq cd;(try dsimp only at cd);go_simp);(try with_reducible rfl))
  try simp only[Act.put,List.setIfInBounds_toArray,List.set_cons_zero,List.set_cons_succ]
  refine wpAnyH_take (i:=3) (oi:=?_) (v:=?_) ?_ (by kernel_rfl) (by kernel_rfl) (by kernel_rfl) ?_ (Or.inl ⟨?_,?_⟩) (by assumption) ?_;rotate_left 2
  ·(simp only[List.getElem?_toArray,List.getElem?_cons_succ,List.getElem?_cons_zero];rfl)
  ·first | exact fun _ _ _ h=>h | exact fun _ _ _ h=>by cases h.1
  ·rfl
  ·((intro wq cd;(try dsimp only at cd);go_simp);(try with_reducible rfl))
  try simp only[Act.put,List.setIfInBounds_toArray,List.set_cons_zero,List.set_cons_succ]
  refine wpAnyH_take (i:=6) (oi:=?_) (v:=?_) ?_ (by kernel_rfl) (by kernel_rfl) (by kernel_rfl) ?_ (Or.inl ⟨?_,?_⟩) (by assumption) ?_;rotate_left 2
  ·(simp only[List.getElem?_toArray,List.getElem?_cons_succ,List.getElem?_cons_zero];rfl)
  ·first | exact fun _ _ _ h=>h | exact fun _ _ _ h=>by cases h.1
  ·rfl
  ·((intro wq cd;(try dsimp only at cd);go_simp);(try with_reducible rfl))
  try simp only[Act.put,List.setIfInBounds_toArray,List.set_cons_zero,List.set_cons_succ]
  refine wpAnyH_take (i:=7) (oi:=?_) (v:=?_) ?_ (by kernel_rfl) (by kernel_rfl) (by kernel_rfl) ?_ (Or.inl ⟨?_,?_⟩) (by assumption) ?_;rotate_left 2
  ·(simp only[List.getElem?_toArray,List.getElem?_cons_succ,List.getElem?_cons_zero];rfl)
  ·first | exact fun _ _ _ h=>h | exact fun _ _ _ h=>by cases h.1
  ·rfl
  ·((intro wq cd;(try dsimp only at cd);go_simp);(try with_reducible rfl))
  try simp only[Act.put,List.setIfInBounds_toArray,List.set_cons_zero,List.set_cons_succ]
  refine jX [4] ?_;refine gN (fun K hK=>?_) AllReadyH.nil;go_simp;refine(HC.out _).mono ?_;rintro ex wx ⟨rfl,br⟩
  have aN:(fun w':World=>Below b W2 w'∧w'.cell? ⟨n,0,none⟩=some (.int .i64 o.k)∧w'.cell? ⟨n,1,none⟩=some (.int .i64 o.wd)∧w'.cell? ⟨n,2,none⟩=some (.int .i64 o.s)∧w'.cell? ⟨n,3,none⟩=some (.int .i64 o.c)∧w'.cell? ⟨n,4,none⟩=some (.int .u32 o.st)∧w'.cell? ⟨n,5,none⟩=some (.slice o.I o.ni o.ci)∧w'.cell? ⟨n,6,none⟩=some (.int .i64 o.wr)∧w'.cell? ⟨n,7,none⟩=some (.slice o.R o.nr o.cr)) wx:=by
   obtain⟨h0,u0,u1,u2,u3,u4,u5,u6,u7⟩:=hHeld;have hk:∀ {i:Nat} {u:Value},_→wx.cell? ⟨n,i,none⟩=some u:=fun {i u} hc=>(br.cell (p:=⟨n,i,none⟩) (aX hc)).trans hc
   exact⟨bv h0 br,hk u0,hk u1,hk u2,hk u3,hk u4,hk u5,hk u6,hk u7⟩
  replace bm:=hid (bm.out.kept br);replace hI:=hid (hI.out.below (br.mono (by have:=hHeld.1.size;have:=cw.out.size;have:=nK.out;omega)) (Nat.le_refl _));clear br;refine hK.out _ _ aN (fun hHeld=>?_);clear hK K;try simp only[Act.put,List.setIfInBounds_toArray,List.set_cons_zero,List.set_cons_succ]
  refine wpAnyH_take (i:=5) (oi:=?_) (v:=?_) ?_ (by kernel_rfl) (by kernel_rfl) (by kernel_rfl) ?_ (Or.inl ⟨?_,?_⟩) (by assumption) ?_;rotate_left 2
  ·(simp only[List.getElem?_toArray,List.getElem?_cons_succ,List.getElem?_cons_zero];rfl)
  ·first | exact fun _ _ _ h=>h | exact fun _ _ _ h=>by cases h.1
  ·rfl
  ·((intro wq cd;(try dsimp only at cd);go_simp);(try with_reducible rfl))
  try simp only[Act.put,List.setIfInBounds_toArray,List.set_cons_zero,List.set_cons_succ]
  have fy:=uD (off:=D) (dL:=N - D) (dC:=N - D) (ci:=o.ci) xr.out bm.out hI.out xx.out ql.out sm.out (by have:=sm.out;omega);refine jX [8] ?_;refine gN (fun K hK=>?_) AllReadyH.nil;go_simp
  have aN:(fun w':World=>Below b W2 w'∧w'.cell? ⟨n,0,none⟩=some (.int .i64 o.k)∧w'.cell? ⟨n,1,none⟩=some (.int .i64 o.wd)∧w'.cell? ⟨n,2,none⟩=some (.int .i64 o.s)∧w'.cell? ⟨n,3,none⟩=some (.int .i64 o.c)∧w'.cell? ⟨n,4,none⟩=some (.int .u32 o.st)∧w'.cell? ⟨n,5,none⟩=some (.slice o.I o.ni o.ci)∧w'.cell? ⟨n,6,none⟩=some (.int .i64 o.wr)∧w'.cell? ⟨n,7,none⟩=some (.slice o.R o.nr o.cr)) (wx.setRow b (dn (ke ((zs N).set 0 o.st) D l))):=by
   obtain⟨h0,u0,u1,u2,u3,u4,u5,u6,u7⟩:=hHeld;have fU:n≠b:=by omega
   simp only[jR _ _ fU];exact⟨bs h0 b _ (Nat.le_refl _),u0,u1,u2,u3,u4,u5,u6,u7⟩
  refine hK.out _ _ aN (fun hHeld=>?_);clear hK K;try simp only[Act.put,List.setIfInBounds_toArray,List.set_cons_zero,List.set_cons_succ]
  refine bh ?_;clear ct;go_wp2_with fail;go_ret;exact LayR.row bm.out.row (by rw[fD (by rw[ql.out];exact sm.out)];exact ql.out) g3 nN.out (by rw[aq];exact cw.out.trans (hHeld.1.mono (by omega)))
 ·have eh:¬ aT o:=fun q=>h (of_decide_eq_true ((ip hk).symm.trans (decide_eq_true q)))
  have hL:bW o l=[]:=by unfold bW;rw[if_neg eh]
  have hz:=cH eh;rw[hL];rw[hz] at hs;obtain⟨N,hN⟩:∃ N:Nat,N=0:=⟨_,rfl⟩;have gl:∀ W,_:=fun W=>hs W
  have qE:=yi;unfold af at hs;have HS:=hid hs;clear hL hz hs gl eh h hk ho hI hl hB hN;have hn:=ObX.new w o;have hB:=bt w (.cells (af o) 26);unfold af at *;have HN:=hid hn;have HB:=hid hB;clear hn hB;go_enter Tryz.func69,Tryz.ntmps69;go_wp2_with fail;refine(HS.out _).mono ?_;rintro e w1 ⟨rfl,am⟩;have aO:=bv HB.out am;have bT:=hid aO;have bZ:w.heap.size≤w1.heap.size:=by have:=am.size;simp at this;omega
  clear aO am;go_wp2_with fail;go_ret;exact LayR.row (L:=[]) (RowB.new w1 (dn (zs 0)) 22) rfl (by omega) (fun z hz=>by cases hz) (bT.out.alloc bZ _)
theorem xP (o:Ob) (ho:o.Ok) (hk:o.k=5) (l:List Int) (B:Nat) (w:World) (hl:o.ni=l.length) (hI:Ws w B o.I l) (hB:B≤w.heap.size):Calls Tryz.prog 70 #[.agg (af o)] w (LayR w (bW o l)):=by
 have hs:=fun W=>kx o ho hk W
 by_cases h:dK o
 ·have bK:=fG h;obtain⟨q1,q2,q3,q4,q5,q6,q7,q8⟩:=eM h;have kw:(l.length:Int)=o.wd:=by unfold dK aH at h;omega
  have m2:=dH (a:=o.s) (b:=o.wd) (by omega) (by omega) (by omega) (by omega);obtain⟨N,hN⟩:∃ N:Nat,av o=N:=⟨(av o).toNat,by omega⟩;obtain⟨D,hD⟩:∃ D:Nat,(1+o.nr:Int)=D:=⟨(1+o.nr:Int).toNat,by omega⟩;have mm:2*o.wd≤o.s*o.wd:=Int.mul_le_mul_of_nonneg_right (by omega) (by omega);have uc:D+l.length≤N:=by omega
  have mF:D<N:=by omega
  have dQ:o.st=0:=by unfold dK at h;exact h.2.2.2.2
  have mB:fu o=D:=by unfold fu cQ;rw[io hk,if_neg (by omega)];omega
  have hL:bW o l=ke (zs N) D l:=by unfold bW fe;rw[if_pos (.inr (.inr (.inr (.inr (.inl h))))),if_neg (by omega),hN,mB,Int.toNat_natCast,Int.toNat_natCast];rw[dQ,sw]
  rw[hL];rw[hN] at hs;have hc:=fun W=>ki o q4 W
  rw[hD] at hc;unfold af at hc;have HC:=hid hc;clear hc;have g1:D<N:=mF;have g2:0<N:=by omega
  have g3:N≤300:=by omega
  have g4:¬ N=D:=by omega
  have g6:D≤N:=by omega
  have g7:(D:Int)≤(N:Int):=by omega
  have sm:=hid uc;have xx:=hid (show l≠[] by intro hh;rw[hh] at kw;simp at kw;omega);have ql:=hid (show(zs N).length=N by simp[zs]);have qE:=fun W=>BN N g3 W
  have xr:=hid hl;have HI:=hid hI;have nK:=hid hB;have nN:=hid (jB (Z:=(zs N)) D (mn N) hI.2);unfold af at hs;have HS:=hid hs;clear hL h hk bK q1 q2 q3 q4 q5 q6 q7 q8 kw hN mB ho hl hs hI hB uc mF dQ mm m2;have J7:=hid hD;clear hD;have hn:=ObX.new w o;have hB:=bt w (.cells (af o) 26);unfold af at *;have HN:=hid hn;have HB:=hid hB;clear hn hB;go_enter Tryz.func70,Tryz.ntmps70;go_wp2_with fail;refine(HS.out _).mono ?_;rintro e w1 ⟨rfl,am⟩;have aP:=ObX.kept HN.out am;have aO:=bv HB.out am;have iR:=HN.out.lt;have bZ:w.heap.size+1≤w1.heap.size:=by have:=am.size;simp at this;omega
  have bL:=RowB.new w1 (dn (zs N)) 22;have cz:=bt w1 (.cells (dn (zs N)) 22);have fC:(w1.alloc (.cells (dn (zs N)) 22)).heap.size=w1.heap.size+1:=by rw[World.size_alloc]
  obtain⟨W2,sR⟩:∃ W2,w1.alloc (.cells (dn (zs N)) 22)=W2:=⟨_,rfl⟩;rw[sR] at bL cz fC;obtain⟨b,hb⟩:∃ b,w1.heap.size=b:=⟨_,rfl⟩;obtain⟨n,aq⟩:∃ n,w.heap.size=n:=⟨_,rfl⟩;have cC:=aP.kept cz;have bz:=aO.trans (cz.mono (by omega));rw[aq] at aP cC bZ bz ⊢;rw[hb] at bL cz bZ fC;have HO:=hid cC;have HR:=hid bL;have cw:=hid bz;have bT:=hid aO;clear am aP cC bL cz aO bz;go_wp2_with fail;have ct:(fun w':World=>Below b W2 w'∧w'.cell? ⟨n,0,none⟩=some (.int .i64 o.k)∧w'.cell? ⟨n,1,none⟩=some (.int .i64 o.wd)∧w'.cell? ⟨n,2,none⟩=some (.int .i64 o.s)∧w'.cell? ⟨n,3,none⟩=some (.int .i64 o.c)∧w'.cell? ⟨n,4,none⟩=some (.int .u32 o.st)∧w'.cell? ⟨n,5,none⟩=some (.slice o.I o.ni o.ci)∧w'.cell? ⟨n,6,none⟩=some (.int .i64 o.wr)∧w'.cell? ⟨n,7,none⟩=some (.slice o.R o.nr o.cr)) W2.drew:=⟨(Below.refl _ W2).drew,(ObX.kept HO.out (Below.refl _ W2).drew).cells⟩;have bm:RowB W2.drew b (dn (zs N)) 22:=HR.out.kept (Below.refl _ W2).drew;have hI:Ws W2.drew B o.I l:=(HI.out.below (cw.out.mono (by have:=nK.out;omega)) (Nat.le_refl _)).below (Below.refl _ W2).drew (Nat.le_refl _);refine wp_region_held_drew (S:=(fun w':World=>Below b W2 w'∧w'.cell? ⟨n,0,none⟩=some (.int .i64 o.k)∧w'.cell? ⟨n,1,none⟩=some (.int .i64 o.wd)∧w'.cell? ⟨n,2,none⟩=some (.int .i64 o.s)∧w'.cell? ⟨n,3,none⟩=some (.int .i64 o.c)∧w'.cell? ⟨n,4,none⟩=some (.int .u32 o.st)∧w'.cell? ⟨n,5,none⟩=some (.slice o.I o.ni o.ci)∧w'.cell? ⟨n,6,none⟩=some (.int .i64 o.wr)∧w'.cell? ⟨n,7,none⟩=some (.slice o.R o.nr o.cr))) (by kernel_rfl) ct (fun hHeld=>?_);generalize W2.drew=wd at hHeld bm hI ⊢;have hHeld:(fun w':World=>Below b W2 w'∧w'.cell? ⟨n,0,none⟩=some (.int .i64 o.k)∧w'.cell? ⟨n,1,none⟩=some (.int .i64 o.wd)∧w'.cell? ⟨n,2,none⟩=some (.int .i64 o.s)∧w'.cell? ⟨n,3,none⟩=some (.int .i64 o.c)∧w'.cell? ⟨n,4,none⟩=some (.int .u32 o.st)∧w'.cell? ⟨n,5,none⟩=some (.slice o.I o.ni o.ci)∧w'.cell? ⟨n,6,none⟩=some (.int .i64 o.wr)∧w'.cell? ⟨n,7,none⟩=some (.slice o.R o.nr o.cr)) wd:=hHeld;replace bm:=hid bm;replace hI:=hid hI;refine wpAnyH_take (i:=0) (oi:=?_) (v:=?_) ?_ (by kernel_rfl) (by kernel_rfl) (by kernel_rfl) ?_ (Or.inl ⟨?_,?_⟩) (by assumption) ?_;rotate_left 2
  ·(simp only[List.getElem?_toArray,List.getElem?_cons_zero];rfl)
  ·first | exact fun _ _ _ h=>h | exact fun _ _ _ h=>by cases h.1
  ·rfl
  ·((intro wq cd;(try dsimp only at cd);go_simp);(try with_reducible rfl))
  try simp only[Act.put,List.setIfInBounds_toArray,List.set_cons_zero,List.set_cons_succ]
  refine wpAnyH_take (i:=1) (oi:=?_) (v:=?_) ?_ (by kernel_rfl) (by kernel_rfl) (by kernel_rfl) ?_ (Or.inl ⟨?_,?_⟩) (by assumption) ?_;rotate_left 2
  ·(simp only[List.getElem?_toArray,List.getElem?_cons_succ,List.getElem?_cons_zero];rfl)
  ·first | exact fun _ _ _ h=>h | exact fun _ _ _ h=>by cases h.1
  ·rfl
  ·((intro wq cd;(try dsimp only at cd);go_simp);(try with_reducible rfl))
  try simp only[Act.put,List.setIfInBounds_toArray,List.set_cons_zero,List.set_cons_succ]
  refine wpAnyH_take (i:=4) (oi:=?_) (v:=?_) ?_ (by kernel_rfl) (by kernel_rfl) (by kernel_rfl) ?_ (Or.inl ⟨?_,?_⟩) (by assumption) ?_;rotate_left 2
  ·(simp only[List.getElem?_toArray,List.getElem?_cons_succ,List.getElem?_cons_zero];rfl)
  ·first | exact fun _ _ _ h=>h | exact fun _ _ _ h=>by cases h.1
  ·rfl
  ·((intro wq cd;(try dsimp only at cd);go_simp);(try with_reducible rfl))
  try simp only[Act.put,List.setIfInBounds_toArray,List.set_cons_zero,List.set_cons_succ]
  refine wpAnyH_take (i:=5) (oi:=?_) (v:=?_) ?_ (by kernel_rfl) (by kernel_rfl) (by kernel_rfl) ?_ (Or.inl ⟨?_,?_⟩) (by assumption) ?_;rotate_left 2
  ·(simp only[List.getElem?_toArray,List.getElem?_cons_succ,List.getElem?_cons_zero];rfl)
  ·first | exact fun _ _ _ h=>h | exact fun _ _ _ h=>by cases h.1
  ·rfl
  ·((intro wq cd;(try dsimp only at cd);go_simp);(try with_reducible rfl))
  try simp only[Act.put,List.setIfInBounds_toArray,List.set_cons_zero,List.set_cons_succ]
  refine jX [2] ?_;refine gN (fun K hK=>?_) AllReadyH.nil;go_simp;refine(HC.out _).mono ?_;rintro ex wx ⟨rfl,br⟩
  have aN:(fun w':World=>Below b W2 w'∧w'.cell? ⟨n,0,none⟩=some (.int .i64 o.k)∧w'.cell? ⟨n,1,none⟩=some (.int .i64 o.wd)∧w'.cell? ⟨n,2,none⟩=some (.int .i64 o.s)∧w'.cell? ⟨n,3,none⟩=some (.int .i64 o.c)∧w'.cell? ⟨n,4,none⟩=some (.int .u32 o.st)∧w'.cell? ⟨n,5,none⟩=some (.slice o.I o.ni o.ci)∧w'.cell? ⟨n,6,none⟩=some (.int .i64 o.wr)∧w'.cell? ⟨n,7,none⟩=some (.slice o.R o.nr o.cr)) wx:=by
   obtain⟨h0,u0,u1,u2,u3,u4,u5,u6,u7⟩:=hHeld;have hk:∀ {i:Nat} {u:Value},_→wx.cell? ⟨n,i,none⟩=some u:=fun {i u} hc=>(br.cell (p:=⟨n,i,none⟩) (aX hc)).trans hc
   exact⟨bv h0 br,hk u0,hk u1,hk u2,hk u3,hk u4,hk u5,hk u6,hk u7⟩
  replace bm:=hid (bm.out.kept br);replace hI:=hid (hI.out.below (br.mono (by have:=hHeld.1.size;have:=cw.out.size;have:=nK.out;omega)) (Nat.le_refl _));clear br;refine hK.out _ _ aN (fun hHeld=>?_);clear hK K;try simp only[Act.put,List.setIfInBounds_toArray,List.set_cons_zero,List.set_cons_succ]
  refine wpAnyH_take (i:=3) (oi:=?_) (v:=?_) ?_ (by kernel_rfl) (by kernel_rfl) (by kernel_rfl) ?_ (Or.inl ⟨?_,?_⟩) (by assumption) ?_;rotate_left 2
  ·(simp only[List.getElem?_toArray,List.getElem?_cons_succ,List.getElem?_cons_zero];rfl)
  ·first | exact fun _ _ _ h=>h | exact fun _ _ _ h=>by cases h.1
  ·rfl
  ·((intro wq cd;(try dsimp only at cd);go_simp);(try with_reducible rfl))
  try simp only[Act.put,List.setIfInBounds_toArray,List.set_cons_zero,List.set_cons_succ]
  have fy:=uD (off:=D) (dL:=N - D) (dC:=N - D) (ci:=o.ci) xr.out bm.out hI.out xx.out ql.out sm.out (by have:=sm.out;omega);refine jX [6] ?_;refine gN (fun K hK=>?_) AllReadyH.nil;go_simp
  have aN:(fun w':World=>Below b W2 w'∧w'.cell? ⟨n,0,none⟩=some (.int .i64 o.k)∧w'.cell? ⟨n,1,none⟩=some (.int .i64 o.wd)∧w'.cell? ⟨n,2,none⟩=some (.int .i64 o.s)∧w'.cell? ⟨n,3,none⟩=some (.int .i64 o.c)∧w'.cell? ⟨n,4,none⟩=some (.int .u32 o.st)∧w'.cell? ⟨n,5,none⟩=some (.slice o.I o.ni o.ci)∧w'.cell? ⟨n,6,none⟩=some (.int .i64 o.wr)∧w'.cell? ⟨n,7,none⟩=some (.slice o.R o.nr o.cr)) (wx.setRow b (dn (ke (zs N) D l))):=by
   obtain⟨h0,u0,u1,u2,u3,u4,u5,u6,u7⟩:=hHeld;have fU:n≠b:=by omega
   simp only[jR _ _ fU];exact⟨bs h0 b _ (Nat.le_refl _),u0,u1,u2,u3,u4,u5,u6,u7⟩
  refine hK.out _ _ aN (fun hHeld=>?_);clear hK K;try simp only[Act.put,List.setIfInBounds_toArray,List.set_cons_zero,List.set_cons_succ]
  refine bh ?_;clear ct;go_wp2_with fail;go_ret;exact LayR.row bm.out.row (by rw[fD (by rw[ql.out];exact sm.out)];exact ql.out) g3 nN.out (by rw[aq];exact cw.out.trans (hHeld.1.mono (by omega)))
 ·have eh:¬ aT o:=fun q=>h (of_decide_eq_true ((j8 hk).symm.trans (decide_eq_true q)))
  have hL:bW o l=[]:=by unfold bW;rw[if_neg eh]
  have hz:=cH eh;rw[hL];rw[hz] at hs;obtain⟨N,hN⟩:∃ N:Nat,N=0:=⟨_,rfl⟩;have gl:∀ W,_:=fun W=>hs W
  have qE:=yi;unfold af at hs;have HS:=hid hs;clear hL hz hs gl eh h hk ho hI hl hB hN;have hn:=ObX.new w o;have hB:=bt w (.cells (af o) 26);unfold af at *;have HN:=hid hn;have HB:=hid hB;clear hn hB;go_enter Tryz.func70,Tryz.ntmps70;go_wp2_with fail;refine(HS.out _).mono ?_;rintro e w1 ⟨rfl,am⟩;have aO:=bv HB.out am;have bT:=hid aO;have bZ:w.heap.size≤w1.heap.size:=by have:=am.size;simp at this;omega
  clear aO am;go_wp2_with fail;go_ret;exact LayR.row (L:=[]) (RowB.new w1 (dn (zs 0)) 22) rfl (by omega) (fun z hz=>by cases hz) (bT.out.alloc bZ _)
end Go.Proofs.YtolmpehgeinlkaaGreatDoor
