/- An object's words at the beginning: the kinds' Lay. -/
import Derived.Test.YtabfcjohdgjkoaaGreatDoorZcShG
namespace Go.Proofs.YtabfcjohdgjkoaaGreatDoor
open Go.RowKit
def zs (n:Nat):List Int:=List.replicate n 0
def lA (Z:List Int) (b:Nat) (l:List Int):List Int:=Z.take b++l++Z.drop (b+l.length)
def dw (o:Ob):Int:=if o.k=4 then o.st%o.s else 0
def jw (o:Ob):List Int:=if o.k=6 then ((zs (aB o).toNat).set 0 o.st).set 1 o.st else (zs (aB o).toNat).set 0 o.st
def et (o:Ob):Int:=dT o+dw o*o.wd
def aW (o:Ob) (l:List Int):List Int:=if bD o then lA (jw o) (et o).toNat l else []
def fa (l:List Int):Array Value:=(l.map (Value.int .u32)).toArray
theorem CB (l:List Int):(fa l).size=l.length:=by simp[fa]
theorem lE (l:List Int) (j:Nat):(fa l)[j]?=(l[j]?).map (Value.int .u32):=by simp[fa]
theorem nC (l:List Int) (j:Nat) (x:Int):(fa l).setIfInBounds j (.int .u32 x)=fa (l.set j x):=by
 apply Array.ext';simp[fa,List.map_set]
theorem jP {Z:List Int} {b:Nat} {l:List Int} (h:b+l.length≤Z.length):(lA Z b l).length=Z.length:=by
 simp[lA];omega
theorem BB {Z:List Int} {b:Nat} {l:List Int} {x:Int} (h:b+l.length<Z.length):(lA Z b l).set (b+l.length) x=lA Z b (l++[x]):=by
 apply List.ext_getElem?;intro j;unfold lA;simp only[List.getElem?_set,List.getElem?_append,List.length_append,List.length_take,List.getElem?_take,List.getElem?_drop,List.length_cons,List.length_nil];rw[show min b Z.length=b by omega]
 by_cases h1:j<b
 ·have a1:j<b+l.length:=by omega
  have a2:j<b+(l.length+(0+1)):=by omega
  have a3:¬ b+l.length=j:=by omega
  simp[h1,a1,a2,a3]
 ·by_cases h2:j<b+l.length
  ·have a3:¬ b+l.length=j:=by omega
   have a4:j<b+(l.length+(0+1)):=by omega
   have a5:j - b<l.length:=by omega
   simp[h1,h2,a3,a4,a5]
  ·by_cases h3:j=b+l.length
   ·subst h3;have a2:b+l.length<b+(l.length+(0+1)):=by omega
    simp;rw[if_pos (by omega),if_neg h1]
   ·have a3:¬ b+l.length=j:=by omega
    have a4:¬ j<b+(l.length+(0+1)):=by omega
    simp[h2,a3,a4]
    congr 1
    omega
theorem E2 (Z:List Int) (b:Nat):lA Z b []=Z:=by simp[lA]
theorem xU {Z:List Int} {b:Nat} {l:List Int}:((fa Z).toList.take b++l.map (Value.int .u32)++(fa Z).toList.drop (b+(l.map (Value.int .u32)).length)).toArray=fa (lA Z b l):=by
 simp[fa,lA,List.map_take,List.map_drop]
theorem JN (N:Nat) (h:N≤300) (w:World):(Instr.makeSlice 23 (.int .i64 (N:Int)) (.int .i64 (N:Int))).run Tryz.prog w=.ok (.slice (some ⟨w.heap.size,0,none⟩) N N) (w.alloc (.cells (fa (zs N)) 22)):=by
 obtain⟨i,hi,h1,h2,h3⟩:=info_parts (P:=Tryz.prog) (e:=22) (z:=.int .u32 0) (size:=1) (bytes:=4) (by kernel_rfl);have hr:=run_make (P:=Tryz.prog) w 23 22 i (.int .u32 0) Tryz.underlying23 hi h1 .i64 .i64 (N:Int) (N:Int) (by omega) (by omega) (by rw[h3];omega) (by omega);rw[hr,h2]
 have e:madeCells (Value.int .u32 0).cells ((N:Int).toNat*1)=fa (zs N):=by
  apply Array.ext';rw[show(Value.int .u32 0).cells=#[.int .u32 0] from rfl,toList_madeCells_one];simp[fa,zs]
 rw[e];rfl
theorem AR (w:World):(Instr.makeSlice 23 (.int .i64 0) (.int .i64 0)).run Tryz.prog w=.ok (.slice (some ⟨w.heap.size,0,none⟩) 0 0) (w.alloc (.cells (fa (zs 0)) 22)):=JN 0 (by omega) w
theorem vD {w:World} {b N off dL dC:Nat} {Z l:List Int} {B:Nat} {I:Option Addr} {ci ni:Nat} (Rr:ni=l.length) (hr:RowB w b (fa Z) 22) (hI:Ws w B I l) (h0:l≠[]) (hZ:Z.length=N) (hf:off+l.length≤N) (hd:l.length≤dL):
  (Builtin.copy_ #[23,23] 3 #[.slice (some ⟨b,off,none⟩) dL dC,.slice I ni ci]).run Tryz.prog w=.ok (.int .i64 ni) (w.setRow b (fa (lA Z off l))):=by
 subst Rr
 obtain⟨x,hx⟩:∃ x,l[0]?=some x:=by
  cases l with
  | nil=>exact absurd rfl h0
  | cons x t=>exact⟨x,rfl⟩
 obtain⟨_,sb,so,rfl,_,_⟩:=hI.get hx;rw[← xU]
 have:=run_copy_row (P:=Tryz.prog) w 23 23 3 22 b off dL dC ⟨sb,so,none⟩ l.length ci (fa Z) 22 (l.map (Value.int .u32)) Tryz.underlying23 (by kernel_rfl) hr (by rw[List.length_map];exact(Nat.min_eq_left hd).symm) (fun j v hv=>by
  rw[List.getElem?_map] at hv;cases hq:l[j]? with
  | none=>rw[hq] at hv;cases hv
  | some z=>
   rw[hq] at hv
   injection hv with hv
   subst hv;obtain⟨_,b2,o2,he,_,hc⟩:=hI.get hq
   injection he with he
   injection he with e1 e2 e3
   subst e1 e2;show w.cell? ((⟨sb,so,none⟩:Addr).add j)=_;rw[show(⟨sb,so,none⟩:Addr).add j=⟨sb,so+j,none⟩ by unfold Addr.add;split <;> simp_all];exact hc) (by rw[List.length_map,CB];omega) (fun v hv=>by
  rw[List.mem_map] at hv;obtain⟨z,_,rfl⟩:=hv;rfl)
 rw[this,List.length_map];rfl
def LayR (w:World) (L:List Int) (e:Ending) (w':World):Prop:=∃ A c,e=.returned (.slice A L.length c)∧(L.length≤c∧c≤maxLen)∧Ws w' w'.heap.size A L∧Below w.heap.size w w'
theorem I8 {w:World} {b:Nat} {L:List Int} (hr:RowB w b (fa L) 22) (hw:∀ z ∈ L,(Lit.int .u32 z).wf=true):Ws w w.heap.size (some ⟨b,0,none⟩) L:=by
 refine⟨fun k x hk=>⟨b,0,rfl,hr.lt,fun j u hu=>?_⟩,hw⟩
 have:j=0∧u=.int .u32 x:=by
  match j,hu with
  | 0,hu=>exact⟨rfl,by simpa [bn,Enc.of1] using hu.symm⟩
  | j+1,hu=>simp[bn,Enc.of1] at hu
 obtain⟨rfl,rfl⟩:=this;have:=hr.cell (0+(k*1+0));rw[lE] at this;simp[hk] at this
 simpa [bn,Enc.of1] using this
theorem LayR.row {w w':World} {b N:Nat} {L:List Int} (hr:RowB w' b (fa L) 22) (hN:L.length=N) (h3:N≤300) (hw:∀ z ∈ L,(Lit.int .u32 z).wf=true) (hb:Below w.heap.size w w'):LayR w L (.returned (.slice (some ⟨b,0,none⟩) N N)) w':=
 ⟨_,N,by rw[hN],⟨by omega,by unfold maxLen;omega⟩,I8 hr hw,hb⟩
theorem oZ (n:Nat):∀ z ∈ zs n,(Lit.int .u32 z).wf=true:=fun z hz=>by
 rw[zs,List.mem_replicate] at hz;rw[hz.2];rfl
theorem mD {l:List Int} {x:Int} (j:Nat) (h:∀ z ∈ l,(Lit.int .u32 z).wf=true) (hx:(Lit.int .u32 x).wf=true):∀ z ∈ l.set j x,(Lit.int .u32 z).wf=true:=fun z hz=>by
 rcases List.mem_or_eq_of_mem_set hz with q | q
 ·exact h z q
 ·rw[q];exact hx
theorem rD {Z l:List Int} (b:Nat) (h:∀ z ∈ Z,(Lit.int .u32 z).wf=true) (hl:∀ z ∈ l,(Lit.int .u32 z).wf=true):∀ z ∈ lA Z b l,(Lit.int .u32 z).wf=true:=fun z hz=>by
 unfold lA at hz;simp only[List.mem_append] at hz
 rcases hz with (q | q) | q
 ·exact h z (List.mem_of_mem_take q)
 ·exact hl z q
 ·exact h z (List.mem_of_mem_drop q)
theorem oY {o:Ob} (ho:o.Ok):(Lit.int .u32 o.st).wf=true:=by
 have h0:=ho.st0;have h1:=ho.st1;simp[Lit.wf,IntKind.min,IntKind.max,IntKind.signed,IntKind.bits];omega
theorem Fo {o:Ob} (ho:o.Ok):∀ z ∈ jw o,(Lit.int .u32 z).wf=true:=by
 unfold jw
 split
 ·exact mD 1 (mD 0 (oZ _) (oY ho)) (oY ho)
 ·exact mD 0 (oZ _) (oY ho)
theorem ll (o:Ob):(jw o).length=(aB o).toNat:=by
 unfold jw
 split <;> simp[zs]
open Go.Lib (hid)
attribute [local go_sem] Oper.semAt_some
set_option maxHeartbeats 2000000
set_option maxRecDepth 100000
abbrev yK (a0:World) (a1:Nat) (a2:Ob) (w':World):Prop:=Below a0.heap.size a0 w'∧w'.cell? ⟨a1,0,none⟩=some (.int .i64 a2.k)∧w'.cell? ⟨a1,1,none⟩=some (.int .i64 a2.wd)∧w'.cell? ⟨a1,2,none⟩=some (.int .i64 a2.s)∧w'.cell? ⟨a1,3,none⟩=some (.int .i64 a2.c)∧w'.cell? ⟨a1,4,none⟩=some (.int .u32 a2.st)∧w'.cell? ⟨a1,5,none⟩=some (.slice a2.I a2.ni a2.ci)∧w'.cell? ⟨a1,6,none⟩=some (.int .i64 a2.wr)∧w'.cell? ⟨a1,7,none⟩=some (.slice a2.R a2.nr a2.cr)
theorem u9 (N:Nat):(zs N).set 0 0=zs N:=by
 unfold zs;apply List.ext_getElem?;intro j;simp[List.getElem?_replicate]
theorem kT {w:World} {n b:Nat} (j:Nat) (cs:Array Value) (hn:n≠b):(w.setRow b cs).cell? ⟨n,j,none⟩=w.cell? ⟨n,j,none⟩:=by
 unfold World.cell?;rw[setRow_other _ _ _ _ hn]
theorem uL (o:Ob) (ho:o.Ok) (h:ce o) (w:World):Calls Tryz.prog 149 #[.agg (af o),.int .u32 o.st] w fun e w'=>e=.returned (.int .i64 (1+(o.st%o.s)*o.wd))∧Below w.heap.size w w':=by
 obtain⟨q1,q2,q3,q4,q5,q6,q7,q8⟩:=fh h;have z0:=ho.st0;have p0:=Int.emod_nonneg o.st (show o.s≠0 by omega);have p1:=Int.emod_lt_of_pos o.st (show 0<o.s by omega);have f1:IntKind.u32.wrap o.s=o.s:=aK (by omega) (by omega);have f2:o.st.tmod o.s=o.st%o.s:=Int.tmod_eq_emod_of_nonneg z0;have f3:IntKind.u32.wrap (o.st%o.s)=o.st%o.s:=aK (by omega) (by omega);have f4:IntKind.i64.wrap (o.st%o.s)=o.st%o.s:=ag (by omega) (by omega);have m:=fP (a:=o.st%o.s) (b:=o.wd) (by omega) (by omega) (by omega) (by omega);have e1:IntKind.i64.wrap (o.st%o.s*o.wd)=o.st%o.s*o.wd:=ag (by omega) (by omega);have e2:IntKind.i64.wrap (1+o.st%o.s*o.wd)=1+o.st%o.s*o.wd:=ag (by omega) (by omega);have nz:(o.s==0)=false:=by rw[beq_eq_false_iff_ne];omega
 have nz2:¬ o.s=0:=by omega
 clear h ho;obtain⟨W0,DX⟩:∃ W0,w.alloc (.cells #[.int .i64 o.k,.int .i64 o.wd,.int .i64 o.s,.int .i64 o.c,.int .u32 o.st,.slice o.I o.ni o.ci,.int .i64 o.wr,.slice o.R o.nr o.cr] 26)=W0:=⟨_,rfl⟩;have hn:=ObX.new w o;have hB:=bK w (.cells (af o) 26);unfold af at hn hB;rw[DX] at hn hB;obtain⟨n,aI⟩:∃ n,w.heap.size=n:=⟨_,rfl⟩;rw[aI] at hn hB;have HN:=hid hn;have HB:=hid hB;clear hn hB;rw[aI];unfold af;go_enter Tryz.func149,Tryz.ntmps149;go_wp2_with fail;have dc:(yK W0 n o) W0.drew:=⟨(Below.refl _ W0).drew,(ObX.kept HN.out (Below.refl _ W0).drew).cells⟩;refine wp_region_held_drew (S:=(yK W0 n o)) (by kernel_rfl) dc (fun hHeld=>?_);generalize W0.drew=wd at hHeld ⊢;have hHeld:(yK W0 n o) wd:=hHeld;refine wpAnyH_take (i:=0) (oi:=?_) (v:=?_) ?_ (by kernel_rfl) (by kernel_rfl) (by kernel_rfl) ?_ (Or.inl ⟨?_,?_⟩) (by assumption) ?_;rotate_left 2
 ·(simp only[List.getElem?_toArray,List.getElem?_cons_zero];rfl)
 ·first | exact fun _ _ _ h=>h | exact fun _ _ _ h=>by cases h.1
 ·rfl
 ·((intro wq cw;(try dsimp only at cw);go_simp);(try with_reducible rfl))
 try simp only[Act.put,List.setIfInBounds_toArray,List.set_cons_zero,List.set_cons_succ]
 refine wpAnyH_take (i:=1) (oi:=?_) (v:=?_) ?_ (by kernel_rfl) (by kernel_rfl) (by kernel_rfl) ?_ (Or.inl ⟨?_,?_⟩) (by assumption) ?_;rotate_left 2
 ·(simp only[List.getElem?_toArray,List.getElem?_cons_succ,List.getElem?_cons_zero];rfl)
 ·first | exact fun _ _ _ h=>h | exact fun _ _ _ h=>by cases h.1
 ·rfl
 ·((intro wq cw;(try dsimp only at cw);go_simp);(try with_reducible rfl))
 try simp only[Act.put,List.setIfInBounds_toArray,List.set_cons_zero,List.set_cons_succ]
 refine wpAnyH_take (i:=2) (oi:=?_) (v:=?_) ?_ (by kernel_rfl) (by kernel_rfl) (by kernel_rfl) ?_ (Or.inl ⟨?_,?_⟩) (by assumption) ?_;rotate_left 2
 ·(simp only[List.getElem?_toArray,List.getElem?_cons_succ,List.getElem?_cons_zero];rfl)
 ·first | exact fun _ _ _ h=>h | exact fun _ _ _ h=>by cases h.1
 ·rfl
 ·((intro wq cw;(try dsimp only at cw);go_simp);(try with_reducible rfl))
 try simp only[Act.put,List.setIfInBounds_toArray,List.set_cons_zero,List.set_cons_succ]
 refine wpAnyH_take (i:=3) (oi:=?_) (v:=?_) ?_ (by kernel_rfl) (by kernel_rfl) (by kernel_rfl) ?_ (Or.inl ⟨?_,?_⟩) (by assumption) ?_;rotate_left 2
 ·(simp only[List.getElem?_toArray,List.getElem?_cons_succ,List.getElem?_cons_zero];rfl)
 ·first | exact fun _ _ _ h=>h | exact fun _ _ _ h=>by cases h.1
 ·rfl
 ·((intro wq cw;(try dsimp only at cw);go_simp);(try with_reducible rfl))
 try simp only[Act.put,List.setIfInBounds_toArray,List.set_cons_zero,List.set_cons_succ]
 refine wpAnyH_take (i:=4) (oi:=?_) (v:=?_) ?_ (by kernel_rfl) (by kernel_rfl) (by kernel_rfl) ?_ (Or.inl ⟨?_,?_⟩) (by assumption) ?_;rotate_left 2
 ·(simp only[List.getElem?_toArray,List.getElem?_cons_succ,List.getElem?_cons_zero];rfl)
 ·first | exact fun _ _ _ h=>h | exact fun _ _ _ h=>by cases h.1
 ·rfl
 ·((intro wq cw;(try dsimp only at cw);go_simp);(try with_reducible rfl))
 try simp only[Act.put,List.setIfInBounds_toArray,List.set_cons_zero,List.set_cons_succ]
 refine wpAnyH_take (i:=5) (oi:=?_) (v:=?_) ?_ (by kernel_rfl) (by kernel_rfl) (by kernel_rfl) ?_ (Or.inl ⟨?_,?_⟩) (by assumption) ?_;rotate_left 2
 ·(simp only[List.getElem?_toArray,List.getElem?_cons_succ,List.getElem?_cons_zero];rfl)
 ·first | exact fun _ _ _ h=>h | exact fun _ _ _ h=>by cases h.1
 ·rfl
 ·((intro wq cw;(try dsimp only at cw);go_simp);(try with_reducible rfl))
 try simp only[Act.put,List.setIfInBounds_toArray,List.set_cons_zero,List.set_cons_succ]
 refine wpAnyH_take (i:=6) (oi:=?_) (v:=?_) ?_ (by kernel_rfl) (by kernel_rfl) (by kernel_rfl) ?_ (Or.inl ⟨?_,?_⟩) (by assumption) ?_;rotate_left 2
 ·(simp only[List.getElem?_toArray,List.getElem?_cons_succ,List.getElem?_cons_zero];rfl)
 ·first | exact fun _ _ _ h=>h | exact fun _ _ _ h=>by cases h.1
 ·rfl
 ·((intro wq cw;(try dsimp only at cw);go_simp);(try with_reducible rfl))
 try simp only[Act.put,List.setIfInBounds_toArray,List.set_cons_zero,List.set_cons_succ]
 refine wpAnyH_take (i:=7) (oi:=?_) (v:=?_) ?_ (by kernel_rfl) (by kernel_rfl) (by kernel_rfl) ?_ (Or.inl ⟨?_,?_⟩) (by assumption) ?_;rotate_left 2
 ·(simp only[List.getElem?_toArray,List.getElem?_cons_succ,List.getElem?_cons_zero];rfl)
 ·first | exact fun _ _ _ h=>h | exact fun _ _ _ h=>by cases h.1
 ·rfl
 ·((intro wq cw;(try dsimp only at cw);go_simp);(try with_reducible rfl))
 try simp only[Act.put,List.setIfInBounds_toArray,List.set_cons_zero,List.set_cons_succ]
 refine wpAnyH_take (i:=8) (oi:=?_) (v:=?_) ?_ (by kernel_rfl) (by kernel_rfl) (by kernel_rfl) ?_ (Or.inl ⟨?_,?_⟩) (by assumption) ?_;rotate_left 2
 ·(simp only[List.getElem?_toArray,List.getElem?_cons_succ,List.getElem?_cons_zero];rfl)
 ·first | exact fun _ _ _ h=>h | exact fun _ _ _ h=>by cases h.1
 ·rfl
 ·((intro wq cw;(try dsimp only at cw);go_simp);(try with_reducible rfl))
 try simp only[Act.put,List.setIfInBounds_toArray,List.set_cons_zero,List.set_cons_succ]
 refine wpAnyH_take (i:=9) (oi:=?_) (v:=?_) ?_ (by kernel_rfl) (by kernel_rfl) (by kernel_rfl) ?_ (Or.inl ⟨?_,?_⟩) (by assumption) ?_;rotate_left 2
 ·(simp only[List.getElem?_toArray,List.getElem?_cons_succ,List.getElem?_cons_zero];rfl)
 ·first | exact fun _ _ _ h=>h | exact fun _ _ _ h=>by cases h.1
 ·rfl
 ·((intro wq cw;(try dsimp only at cw);go_simp);(try with_reducible rfl))
 try simp only[Act.put,List.setIfInBounds_toArray,List.set_cons_zero,List.set_cons_succ]
 refine wpAnyH_take (i:=10) (oi:=?_) (v:=?_) ?_ (by kernel_rfl) (by kernel_rfl) (by kernel_rfl) ?_ (Or.inl ⟨?_,?_⟩) (by assumption) ?_;rotate_left 2
 ·(simp only[List.getElem?_toArray,List.getElem?_cons_succ,List.getElem?_cons_zero];rfl)
 ·first | exact fun _ _ _ h=>h | exact fun _ _ _ h=>by cases h.1
 ·rfl
 ·((intro wq cw;(try dsimp only at cw);go_simp);(try with_reducible rfl))
 try simp only[Act.put,List.setIfInBounds_toArray,List.set_cons_zero,List.set_cons_succ]
 refine aY ?_;clear dc;go_wp2_with fail;go_ret;exact⟨rfl,HB.out.trans (hHeld.1.mono (by have:=HB.out.size;omega))⟩
theorem wZ (o:Ob) (ho:o.Ok) (hk:o.k=1) (l:List Int) (B:Nat) (w:World) (hl:o.ni=l.length) (hI:Ws w B o.I l) (hB:B≤w.heap.size):Calls Tryz.prog 84 #[.agg (af o)] w (LayR w (aW o l)):=by
 have hs:=fun W=>kp o ho hk W
 by_cases h:cG o
 ·have bY:=gx h;obtain⟨q1,q2,q3,q4⟩:=kX h;have jV:(l.length:Int)=o.wd:=by unfold cG ax at h;omega
  obtain⟨N,hN⟩:∃ N:Nat,aB o=N:=⟨(aB o).toNat,by omega⟩;obtain⟨D,hD⟩:∃ D:Nat,(4:Int)=D:=⟨(4:Int).toNat,by omega⟩;have zu:D+l.length≤N:=by omega
  have n3:D<N:=by omega
  have du:o.st=0:=by unfold cG at h;exact h.2.2.2.1
  have gV:et o=D:=by unfold et dw;rw[mc hk,if_neg (by omega)];omega
  have hL:aW o l=lA (zs N) D l:=by unfold aW jw;rw[if_pos (.inl h),if_neg (by omega),hN,gV,Int.toNat_natCast,Int.toNat_natCast];rw[du,u9]
  rw[hL];rw[hN] at hs;have g1:D<N:=n3;have g2:0<N:=by omega
  have g3:N≤300:=by omega
  have g4:¬ N=D:=by omega
  have g6:D≤N:=by omega
  have g7:(D:Int)≤(N:Int):=by omega
  have uc:=hid zu;have uo:=hid (show l≠[] by intro hh;rw[hh] at jV;simp at jV;omega);have sB:=hid (show(zs N).length=N by simp[zs]);have vS:=fun W=>JN N g3 W
  have CM:=hid hl;have HI:=hid hI;have yf:=hid hB;have yG:=hid (rD (Z:=(zs N)) D (oZ N) hI.2);unfold af at hs;have HS:=hid hs;clear hL h hk bY q1 q2 q3 q4 jV hN gV ho hl hs hI hB zu n3 du;have SG:(4:Nat)=D:=by omega
  clear hD;subst SG;have g8:(4:Int)≤(N:Int):=by omega
  clear g7;have hn:=ObX.new w o;have hB:=bK w (.cells (af o) 26);unfold af at *;have HN:=hid hn;have HB:=hid hB;clear hn hB;go_enter Tryz.func84,Tryz.ntmps84;go_wp2_with fail;refine(HS.out _).mono ?_;rintro e w1 ⟨rfl,aq⟩;have bZ:=ObX.kept HN.out aq;have bF:=eC HB.out aq;have gT:=HN.out.lt;have bN:w.heap.size+1≤w1.heap.size:=by have:=aq.size;simp at this;omega
  have ah:=RowB.new w1 (fa (zs N)) 22;have cH:=bK w1 (.cells (fa (zs N)) 22);have cj:(w1.alloc (.cells (fa (zs N)) 22)).heap.size=w1.heap.size+1:=by rw[World.size_alloc]
  obtain⟨W2,gj⟩:∃ W2,w1.alloc (.cells (fa (zs N)) 22)=W2:=⟨_,rfl⟩;rw[gj] at ah cH cj;obtain⟨b,hb⟩:∃ b,w1.heap.size=b:=⟨_,rfl⟩;obtain⟨n,aI⟩:∃ n,w.heap.size=n:=⟨_,rfl⟩;have fk:=bZ.kept cH;have dO:=bF.trans (cH.mono (by omega));rw[aI] at bZ fk bN dO ⊢;rw[hb] at ah cH bN cj;have HO:=hid fk;have HR:=hid ah;have cD:=hid dO;have bT:=hid bF;clear aq bZ fk ah cH bF dO;go_wp2_with fail;have dc:(fun w':World=>Below b W2 w'∧w'.cell? ⟨n,0,none⟩=some (.int .i64 o.k)∧w'.cell? ⟨n,1,none⟩=some (.int .i64 o.wd)∧w'.cell? ⟨n,2,none⟩=some (.int .i64 o.s)∧w'.cell? ⟨n,3,none⟩=some (.int .i64 o.c)∧w'.cell? ⟨n,4,none⟩=some (.int .u32 o.st)∧w'.cell? ⟨n,5,none⟩=some (.slice o.I o.ni o.ci)∧w'.cell? ⟨n,6,none⟩=some (.int .i64 o.wr)∧w'.cell? ⟨n,7,none⟩=some (.slice o.R o.nr o.cr)) W2.drew:=⟨(Below.refl _ W2).drew,(ObX.kept HO.out (Below.refl _ W2).drew).cells⟩;have bH:RowB W2.drew b (fa (zs N)) 22:=HR.out.kept (Below.refl _ W2).drew;have hI:Ws W2.drew B o.I l:=(HI.out.below (cD.out.mono (by have:=yf.out;omega)) (Nat.le_refl _)).below (Below.refl _ W2).drew (Nat.le_refl _);refine wp_region_held_drew (S:=(fun w':World=>Below b W2 w'∧w'.cell? ⟨n,0,none⟩=some (.int .i64 o.k)∧w'.cell? ⟨n,1,none⟩=some (.int .i64 o.wd)∧w'.cell? ⟨n,2,none⟩=some (.int .i64 o.s)∧w'.cell? ⟨n,3,none⟩=some (.int .i64 o.c)∧w'.cell? ⟨n,4,none⟩=some (.int .u32 o.st)∧w'.cell? ⟨n,5,none⟩=some (.slice o.I o.ni o.ci)∧w'.cell? ⟨n,6,none⟩=some (.int .i64 o.wr)∧w'.cell? ⟨n,7,none⟩=some (.slice o.R o.nr o.cr))) (by kernel_rfl) dc (fun hHeld=>?_);generalize W2.drew=wd at hHeld bH hI ⊢;have hHeld:(fun w':World=>Below b W2 w'∧w'.cell? ⟨n,0,none⟩=some (.int .i64 o.k)∧w'.cell? ⟨n,1,none⟩=some (.int .i64 o.wd)∧w'.cell? ⟨n,2,none⟩=some (.int .i64 o.s)∧w'.cell? ⟨n,3,none⟩=some (.int .i64 o.c)∧w'.cell? ⟨n,4,none⟩=some (.int .u32 o.st)∧w'.cell? ⟨n,5,none⟩=some (.slice o.I o.ni o.ci)∧w'.cell? ⟨n,6,none⟩=some (.int .i64 o.wr)∧w'.cell? ⟨n,7,none⟩=some (.slice o.R o.nr o.cr)) wd:=hHeld;replace bH:=hid bH;replace hI:=hid hI;refine wpAnyH_take (i:=0) (oi:=?_) (v:=?_) ?_ (by kernel_rfl) (by kernel_rfl) (by kernel_rfl) ?_ (Or.inl ⟨?_,?_⟩) (by assumption) ?_;rotate_left 2
  ·(simp only[List.getElem?_toArray,List.getElem?_cons_zero];rfl)
  ·first | exact fun _ _ _ h=>h | exact fun _ _ _ h=>by cases h.1
  ·rfl
  ·((intro wq cw;(try dsimp only at cw);go_simp);(try with_reducible rfl))
  try simp only[Act.put,List.setIfInBounds_toArray,List.set_cons_zero,List.set_cons_succ]
  refine wpAnyH_take (i:=1) (oi:=?_) (v:=?_) ?_ (by kernel_rfl) (by kernel_rfl) (by kernel_rfl) ?_ (Or.inl ⟨?_,?_⟩) (by assumption) ?_;rotate_left 2
  ·(simp only[List.getElem?_toArray,List.getElem?_cons_succ,List.getElem?_cons_zero];rfl)
  ·first | exact fun _ _ _ h=>h | exact fun _ _ _ h=>by cases h.1
  ·rfl
  ·((intro wq cw;(try dsimp only at cw);go_simp);(try with_reducible rfl))
  try simp only[Act.put,List.setIfInBounds_toArray,List.set_cons_zero,List.set_cons_succ]
  refine wpAnyH_take (i:=2) (oi:=?_) (v:=?_) ?_ (by kernel_rfl) (by kernel_rfl) (by kernel_rfl) ?_ (Or.inl ⟨?_,?_⟩) (by assumption) ?_;rotate_left 2
  ·(simp only[List.getElem?_toArray,List.getElem?_cons_succ,List.getElem?_cons_zero];rfl)
  ·first | exact fun _ _ _ h=>h | exact fun _ _ _ h=>by cases h.1
  ·rfl
  ·((intro wq cw;(try dsimp only at cw);go_simp);(try with_reducible rfl))
  try simp only[Act.put,List.setIfInBounds_toArray,List.set_cons_zero,List.set_cons_succ]
  refine wpAnyH_take (i:=3) (oi:=?_) (v:=?_) ?_ (by kernel_rfl) (by kernel_rfl) (by kernel_rfl) ?_ (Or.inl ⟨?_,?_⟩) (by assumption) ?_;rotate_left 2
  ·(simp only[List.getElem?_toArray,List.getElem?_cons_succ,List.getElem?_cons_zero];rfl)
  ·first | exact fun _ _ _ h=>h | exact fun _ _ _ h=>by cases h.1
  ·rfl
  ·((intro wq cw;(try dsimp only at cw);go_simp);(try with_reducible rfl))
  try simp only[Act.put,List.setIfInBounds_toArray,List.set_cons_zero,List.set_cons_succ]
  have vO:=vD (off:=4) (dL:=N - 4) (dC:=N - 4) (ci:=o.ci) CM.out bH.out hI.out uo.out sB.out uc.out (by have:=uc.out;omega);refine dG [4] ?_;refine dp (fun K hK=>?_) AllReadyH.nil;go_simp
  have aw:(fun w':World=>Below b W2 w'∧w'.cell? ⟨n,0,none⟩=some (.int .i64 o.k)∧w'.cell? ⟨n,1,none⟩=some (.int .i64 o.wd)∧w'.cell? ⟨n,2,none⟩=some (.int .i64 o.s)∧w'.cell? ⟨n,3,none⟩=some (.int .i64 o.c)∧w'.cell? ⟨n,4,none⟩=some (.int .u32 o.st)∧w'.cell? ⟨n,5,none⟩=some (.slice o.I o.ni o.ci)∧w'.cell? ⟨n,6,none⟩=some (.int .i64 o.wr)∧w'.cell? ⟨n,7,none⟩=some (.slice o.R o.nr o.cr)) (wd.setRow b (fa (lA (zs N) 4 l))):=by
   obtain⟨h0,u0,u1,u2,u3,u4,u5,u6,u7⟩:=hHeld;have jI:n≠b:=by omega
   simp only[kT _ _ jI];exact⟨bc h0 b _ (Nat.le_refl _),u0,u1,u2,u3,u4,u5,u6,u7⟩
  refine hK.out _ _ aw (fun hHeld=>?_);clear hK K;try simp only[Act.put,List.setIfInBounds_toArray,List.set_cons_zero,List.set_cons_succ]
  refine aY ?_;clear dc;go_wp2_with fail;go_ret;exact LayR.row bH.out.row (by rw[jP (by rw[sB.out];exact uc.out)];exact sB.out) g3 yG.out (by rw[aI];exact cD.out.trans (hHeld.1.mono (by omega)))
 ·have gF:¬ bD o:=fun q=>h (of_decide_eq_true ((kR hk).symm.trans (decide_eq_true q)))
  have hL:aW o l=[]:=by unfold aW;rw[if_neg gF]
  have hz:=cZ gF;rw[hL];rw[hz] at hs;obtain⟨N,hN⟩:∃ N:Nat,N=0:=⟨_,rfl⟩;have cO:∀ W,_:=fun W=>hs W
  have vS:=AR;unfold af at hs;have HS:=hid hs;clear hL hz hs cO gF h hk ho hI hl hB hN;have hn:=ObX.new w o;have hB:=bK w (.cells (af o) 26);unfold af at *;have HN:=hid hn;have HB:=hid hB;clear hn hB;go_enter Tryz.func84,Tryz.ntmps84;go_wp2_with fail;refine(HS.out _).mono ?_;rintro e w1 ⟨rfl,aq⟩;have bF:=eC HB.out aq;have bT:=hid bF;have bN:w.heap.size≤w1.heap.size:=by have:=aq.size;simp at this;omega
  clear bF aq;go_wp2_with fail;go_ret;exact LayR.row (L:=[]) (RowB.new w1 (fa (zs 0)) 22) rfl (by omega) (fun z hz=>by cases hz) (bT.out.alloc bN _)
theorem wP (o:Ob) (ho:o.Ok) (hk:o.k=2) (l:List Int) (B:Nat) (w:World) (hl:o.ni=l.length) (hI:Ws w B o.I l) (hB:B≤w.heap.size):Calls Tryz.prog 85 #[.agg (af o)] w (LayR w (aW o l)):=by
 have hs:=fun W=>kg o ho hk W
 by_cases h:cF o
 ·have bY:=gv h;obtain⟨q1,q2,q3,q4⟩:=kU h;have jV:(l.length:Int)=o.wd:=by unfold cF ax at h;omega
  have m2:=fP (a:=(o.nr:Int)+2) (b:=o.wd) (by omega) (by omega) (by omega) (by omega);obtain⟨N,hN⟩:∃ N:Nat,aB o=N:=⟨(aB o).toNat,by omega⟩;obtain⟨D,hD⟩:∃ D:Nat,(1+o.nr:Int)=D:=⟨(1+o.nr:Int).toNat,by omega⟩;have mm:2*o.wd≤((o.nr:Int)+2)*o.wd:=Int.mul_le_mul_of_nonneg_right (by omega) (by omega);have zu:D+l.length≤N:=by omega
  have n3:D<N:=by omega
  have du:o.st=0:=by unfold cF at h;exact h.2.2.2
  have gV:et o=D:=by unfold et dw;rw[ma hk,if_neg (by omega)];omega
  have hL:aW o l=lA (zs N) D l:=by unfold aW jw;rw[if_pos (.inr (.inl h)),if_neg (by omega),hN,gV,Int.toNat_natCast,Int.toNat_natCast];rw[du,u9]
  rw[hL];rw[hN] at hs;have hc:=fun W=>kf o q4 W
  rw[hD] at hc;unfold af at hc;have HC:=hid hc;clear hc;have g1:D<N:=n3;have g2:0<N:=by omega
  have g3:N≤300:=by omega
  have g4:¬ N=D:=by omega
  have g6:D≤N:=by omega
  have g7:(D:Int)≤(N:Int):=by omega
  have uc:=hid zu;have uo:=hid (show l≠[] by intro hh;rw[hh] at jV;simp at jV;omega);have sB:=hid (show(zs N).length=N by simp[zs]);have vS:=fun W=>JN N g3 W
  have CM:=hid hl;have HI:=hid hI;have yf:=hid hB;have yG:=hid (rD (Z:=(zs N)) D (oZ N) hI.2);unfold af at hs;have HS:=hid hs;clear hL h hk bY q1 q2 q3 q4 jV hN gV ho hl hs hI hB zu n3 du mm m2;have Qy:=hid hD;clear hD;have hn:=ObX.new w o;have hB:=bK w (.cells (af o) 26);unfold af at *;have HN:=hid hn;have HB:=hid hB;clear hn hB;go_enter Tryz.func85,Tryz.ntmps85;go_wp2_with fail;refine(HS.out _).mono ?_;rintro e w1 ⟨rfl,aq⟩;have bZ:=ObX.kept HN.out aq;have bF:=eC HB.out aq;have gT:=HN.out.lt;have bN:w.heap.size+1≤w1.heap.size:=by have:=aq.size;simp at this;omega
  have ah:=RowB.new w1 (fa (zs N)) 22;have cH:=bK w1 (.cells (fa (zs N)) 22);have cj:(w1.alloc (.cells (fa (zs N)) 22)).heap.size=w1.heap.size+1:=by rw[World.size_alloc]
  obtain⟨W2,gj⟩:∃ W2,w1.alloc (.cells (fa (zs N)) 22)=W2:=⟨_,rfl⟩;rw[gj] at ah cH cj;obtain⟨b,hb⟩:∃ b,w1.heap.size=b:=⟨_,rfl⟩;obtain⟨n,aI⟩:∃ n,w.heap.size=n:=⟨_,rfl⟩;have fk:=bZ.kept cH;have dO:=bF.trans (cH.mono (by omega));rw[aI] at bZ fk bN dO ⊢;rw[hb] at ah cH bN cj;have HO:=hid fk;have HR:=hid ah;have cD:=hid dO;have bT:=hid bF;clear aq bZ fk ah cH bF dO;go_wp2_with fail;have dc:(fun w':World=>Below b W2 w'∧w'.cell? ⟨n,0,none⟩=some (.int .i64 o.k)∧w'.cell? ⟨n,1,none⟩=some (.int .i64 o.wd)∧w'.cell? ⟨n,2,none⟩=some (.int .i64 o.s)∧w'.cell? ⟨n,3,none⟩=some (.int .i64 o.c)∧w'.cell? ⟨n,4,none⟩=some (.int .u32 o.st)∧w'.cell? ⟨n,5,none⟩=some (.slice o.I o.ni o.ci)∧w'.cell? ⟨n,6,none⟩=some (.int .i64 o.wr)∧w'.cell? ⟨n,7,none⟩=some (.slice o.R o.nr o.cr)) W2.drew:=⟨(Below.refl _ W2).drew,(ObX.kept HO.out (Below.refl _ W2).drew).cells⟩;have bH:RowB W2.drew b (fa (zs N)) 22:=HR.out.kept (Below.refl _ W2).drew;have hI:Ws W2.drew B o.I l:=(HI.out.below (cD.out.mono (by have:=yf.out;omega)) (Nat.le_refl _)).below (Below.refl _ W2).drew (Nat.le_refl _);refine wp_region_held_drew (S:=(fun w':World=>Below b W2 w'∧w'.cell? ⟨n,0,none⟩=some (.int .i64 o.k)∧w'.cell? ⟨n,1,none⟩=some (.int .i64 o.wd)∧w'.cell? ⟨n,2,none⟩=some (.int .i64 o.s)∧w'.cell? ⟨n,3,none⟩=some (.int .i64 o.c)∧w'.cell? ⟨n,4,none⟩=some (.int .u32 o.st)∧w'.cell? ⟨n,5,none⟩=some (.slice o.I o.ni o.ci)∧w'.cell? ⟨n,6,none⟩=some (.int .i64 o.wr)∧w'.cell? ⟨n,7,none⟩=some (.slice o.R o.nr o.cr))) (by kernel_rfl) dc (fun hHeld=>?_);generalize W2.drew=wd at hHeld bH hI ⊢;have hHeld:(fun w':World=>Below b W2 w'∧w'.cell? ⟨n,0,none⟩=some (.int .i64 o.k)∧w'.cell? ⟨n,1,none⟩=some (.int .i64 o.wd)∧w'.cell? ⟨n,2,none⟩=some (.int .i64 o.s)∧w'.cell? ⟨n,3,none⟩=some (.int .i64 o.c)∧w'.cell? ⟨n,4,none⟩=some (.int .u32 o.st)∧w'.cell? ⟨n,5,none⟩=some (.slice o.I o.ni o.ci)∧w'.cell? ⟨n,6,none⟩=some (.int .i64 o.wr)∧w'.cell? ⟨n,7,none⟩=some (.slice o.R o.nr o.cr)) wd:=hHeld;replace bH:=hid bH;replace hI:=hid hI;refine wpAnyH_take (i:=0) (oi:=?_) (v:=?_) ?_ (by kernel_rfl) (by kernel_rfl) (by kernel_rfl) ?_ (Or.inl ⟨?_,?_⟩) (by assumption) ?_;rotate_left 2
  ·(simp only[List.getElem?_toArray,List.getElem?_cons_zero];rfl)
  ·first | exact fun _ _ _ h=>h | exact fun _ _ _ h=>by cases h.1
  ·rfl
  ·((intro wq cw;(try dsimp only at cw);go_simp);(try with_reducible rfl))
  try simp only[Act.put,List.setIfInBounds_toArray,List.set_cons_zero,List.set_cons_succ]
  refine wpAnyH_take (i:=1) (oi:=?_) (v:=?_) ?_ (by kernel_rfl) (by kernel_rfl) (by kernel_rfl) ?_ (Or.inl ⟨?_,?_⟩) (by assumption) ?_;rotate_left 2
  ·(simp only[List.getElem?_toArray,List.getElem?_cons_succ,List.getElem?_cons_zero];rfl)
  ·first | exact fun _ _ _ h=>h | exact fun _ _ _ h=>by cases h.1
  ·rfl
  ·((intro wq cw;(try dsimp only at cw);go_simp);(try with_reducible rfl))
  try simp only[Act.put,List.setIfInBounds_toArray,List.set_cons_zero,List.set_cons_succ]
  refine wpAnyH_take (i:=4) (oi:=?_) (v:=?_) ?_ (by kernel_rfl) (by kernel_rfl) (by kernel_rfl) ?_ (Or.inl ⟨?_,?_⟩) (by assumption) ?_;rotate_left 2
  ·(simp only[List.getElem?_toArray,List.getElem?_cons_succ,List.getElem?_cons_zero];rfl)
  ·first | exact fun _ _ _ h=>h | exact fun _ _ _ h=>by cases h.1
  ·rfl
  ·((intro wq cw;(try dsimp only at cw);go_simp);(try with_reducible rfl))
  try simp only[Act.put,List.setIfInBounds_toArray,List.set_cons_zero,List.set_cons_succ]
  refine wpAnyH_take (i:=5) (oi:=?_) (v:=?_) ?_ (by kernel_rfl) (by kernel_rfl) (by kernel_rfl) ?_ (Or.inl ⟨?_,?_⟩) (by assumption) ?_;rotate_left 2
  ·(simp only[List.getElem?_toArray,List.getElem?_cons_succ,List.getElem?_cons_zero];rfl)
  ·first | exact fun _ _ _ h=>h | exact fun _ _ _ h=>by cases h.1
  ·rfl
  ·((intro wq cw;(try dsimp only at cw);go_simp);(try with_reducible rfl))
  try simp only[Act.put,List.setIfInBounds_toArray,List.set_cons_zero,List.set_cons_succ]
  refine dG [2] ?_;refine dp (fun K hK=>?_) AllReadyH.nil;go_simp;refine(HC.out _).mono ?_;rintro ex wx ⟨rfl,ar⟩
  have aw:(fun w':World=>Below b W2 w'∧w'.cell? ⟨n,0,none⟩=some (.int .i64 o.k)∧w'.cell? ⟨n,1,none⟩=some (.int .i64 o.wd)∧w'.cell? ⟨n,2,none⟩=some (.int .i64 o.s)∧w'.cell? ⟨n,3,none⟩=some (.int .i64 o.c)∧w'.cell? ⟨n,4,none⟩=some (.int .u32 o.st)∧w'.cell? ⟨n,5,none⟩=some (.slice o.I o.ni o.ci)∧w'.cell? ⟨n,6,none⟩=some (.int .i64 o.wr)∧w'.cell? ⟨n,7,none⟩=some (.slice o.R o.nr o.cr)) wx:=by
   obtain⟨h0,u0,u1,u2,u3,u4,u5,u6,u7⟩:=hHeld;have hk:∀ {i:Nat} {u:Value},_→wx.cell? ⟨n,i,none⟩=some u:=fun {i u} hc=>(ar.cell (p:=⟨n,i,none⟩) (aM hc)).trans hc
   exact⟨eC h0 ar,hk u0,hk u1,hk u2,hk u3,hk u4,hk u5,hk u6,hk u7⟩
  replace bH:=hid (bH.out.kept ar);replace hI:=hid (hI.out.below (ar.mono (by have:=hHeld.1.size;have:=cD.out.size;have:=yf.out;omega)) (Nat.le_refl _));clear ar;refine hK.out _ _ aw (fun hHeld=>?_);clear hK K;try simp only[Act.put,List.setIfInBounds_toArray,List.set_cons_zero,List.set_cons_succ]
  refine wpAnyH_take (i:=3) (oi:=?_) (v:=?_) ?_ (by kernel_rfl) (by kernel_rfl) (by kernel_rfl) ?_ (Or.inl ⟨?_,?_⟩) (by assumption) ?_;rotate_left 2
  ·(simp only[List.getElem?_toArray,List.getElem?_cons_succ,List.getElem?_cons_zero];rfl)
  ·first | exact fun _ _ _ h=>h | exact fun _ _ _ h=>by cases h.1
  ·rfl
  ·((intro wq cw;(try dsimp only at cw);go_simp);(try with_reducible rfl))
  try simp only[Act.put,List.setIfInBounds_toArray,List.set_cons_zero,List.set_cons_succ]
  have vO:=vD (off:=D) (dL:=N - D) (dC:=N - D) (ci:=o.ci) CM.out bH.out hI.out uo.out sB.out uc.out (by have:=uc.out;omega);refine dG [6] ?_;refine dp (fun K hK=>?_) AllReadyH.nil;go_simp
  have aw:(fun w':World=>Below b W2 w'∧w'.cell? ⟨n,0,none⟩=some (.int .i64 o.k)∧w'.cell? ⟨n,1,none⟩=some (.int .i64 o.wd)∧w'.cell? ⟨n,2,none⟩=some (.int .i64 o.s)∧w'.cell? ⟨n,3,none⟩=some (.int .i64 o.c)∧w'.cell? ⟨n,4,none⟩=some (.int .u32 o.st)∧w'.cell? ⟨n,5,none⟩=some (.slice o.I o.ni o.ci)∧w'.cell? ⟨n,6,none⟩=some (.int .i64 o.wr)∧w'.cell? ⟨n,7,none⟩=some (.slice o.R o.nr o.cr)) (wx.setRow b (fa (lA (zs N) D l))):=by
   obtain⟨h0,u0,u1,u2,u3,u4,u5,u6,u7⟩:=hHeld;have jI:n≠b:=by omega
   simp only[kT _ _ jI];exact⟨bc h0 b _ (Nat.le_refl _),u0,u1,u2,u3,u4,u5,u6,u7⟩
  refine hK.out _ _ aw (fun hHeld=>?_);clear hK K;try simp only[Act.put,List.setIfInBounds_toArray,List.set_cons_zero,List.set_cons_succ]
  refine aY ?_;clear dc;go_wp2_with fail;go_ret;exact LayR.row bH.out.row (by rw[jP (by rw[sB.out];exact uc.out)];exact sB.out) g3 yG.out (by rw[aI];exact cD.out.trans (hHeld.1.mono (by omega)))
 ·have gF:¬ bD o:=fun q=>h (of_decide_eq_true ((kQ hk).symm.trans (decide_eq_true q)))
  have hL:aW o l=[]:=by unfold aW;rw[if_neg gF]
  have hz:=cZ gF;rw[hL];rw[hz] at hs;obtain⟨N,hN⟩:∃ N:Nat,N=0:=⟨_,rfl⟩;have cO:∀ W,_:=fun W=>hs W
  have vS:=AR;unfold af at hs;have HS:=hid hs;clear hL hz hs cO gF h hk ho hI hl hB hN;have hn:=ObX.new w o;have hB:=bK w (.cells (af o) 26);unfold af at *;have HN:=hid hn;have HB:=hid hB;clear hn hB;go_enter Tryz.func85,Tryz.ntmps85;go_wp2_with fail;refine(HS.out _).mono ?_;rintro e w1 ⟨rfl,aq⟩;have bF:=eC HB.out aq;have bT:=hid bF;have bN:w.heap.size≤w1.heap.size:=by have:=aq.size;simp at this;omega
  clear bF aq;go_wp2_with fail;go_ret;exact LayR.row (L:=[]) (RowB.new w1 (fa (zs 0)) 22) rfl (by omega) (fun z hz=>by cases hz) (bT.out.alloc bN _)
theorem xT (o:Ob) (ho:o.Ok) (hk:o.k=4) (l:List Int) (B:Nat) (w:World) (hl:o.ni=l.length) (hI:Ws w B o.I l) (hB:B≤w.heap.size):Calls Tryz.prog 87 #[.agg (af o)] w (LayR w (aW o l)):=by
 have hs:=fun W=>kB o ho hk W
 by_cases h:ce o
 ·have bY:=gy h;obtain⟨q1,q2,q3,q4,q5,q6,q7,q8⟩:=fh h;have jV:(l.length:Int)=o.wd:=by unfold ce ax at h;omega
  have p0:=Int.emod_nonneg o.st (show o.s≠0 by omega);have p1:=Int.emod_lt_of_pos o.st (show 0<o.s by omega);have m:=fP (a:=o.st%o.s) (b:=o.wd) (by omega) (by omega) (by omega) (by omega);have m2:=fP (a:=o.s) (b:=o.wd) (by omega) (by omega) (by omega) (by omega);obtain⟨N,hN⟩:∃ N:Nat,aB o=N:=⟨(aB o).toNat,by omega⟩;obtain⟨D,hD⟩:∃ D:Nat,(1+(o.st%o.s)*o.wd:Int)=D:=⟨(1+(o.st%o.s)*o.wd:Int).toNat,by omega⟩;have mm:(o.st%o.s)*o.wd+o.wd≤o.s*o.wd:=by have:=Int.mul_le_mul_of_nonneg_right (show o.st%o.s+1≤o.s by omega) (show 0≤o.wd by omega);rw[Int.add_mul] at this;omega
  have zu:D+l.length≤N:=by omega
  have n3:D<N:=by omega
  have gV:et o=D:=by unfold et dw;rw[me hk,if_pos hk];omega
  have hL:aW o l=lA ((zs N).set 0 o.st) D l:=by unfold aW jw;rw[if_pos (.inr (.inr (.inr (.inl h)))),if_neg (by omega),hN,gV,Int.toNat_natCast,Int.toNat_natCast]
  rw[hL];rw[hN] at hs;have hc:=fun W=>uL o ho h W
  rw[hD] at hc;unfold af at hc;have HC:=hid hc;clear hc;have g1:D<N:=n3;have g2:0<N:=by omega
  have g3:N≤300:=by omega
  have g4:¬ N=D:=by omega
  have g6:D≤N:=by omega
  have g7:(D:Int)≤(N:Int):=by omega
  have uc:=hid zu;have uo:=hid (show l≠[] by intro hh;rw[hh] at jV;simp at jV;omega);have sB:=hid (show((zs N).set 0 o.st).length=N by simp[zs]);have vS:=fun W=>JN N g3 W
  have CM:=hid hl;have HI:=hid hI;have yf:=hid hB;have yG:=hid (rD (Z:=((zs N).set 0 o.st)) D (mD 0 (oZ N) (oY ho)) hI.2);have Nr:=hid (show(fa (zs N))[0]?=some (.int .u32 0) by rw[lE,zs,List.getElem?_replicate,if_pos g2];rfl);unfold af at hs;have HS:=hid hs;clear hL h hk bY q1 q2 q3 q4 q5 q6 q7 q8 jV hN gV ho hl hs hI hB zu n3 mm m m2 p0 p1;have Qy:=hid hD;clear hD;have hn:=ObX.new w o;have hB:=bK w (.cells (af o) 26);unfold af at *;have HN:=hid hn;have HB:=hid hB;clear hn hB;go_enter Tryz.func87,Tryz.ntmps87;go_wp2_with fail;refine(HS.out _).mono ?_;rintro e w1 ⟨rfl,aq⟩;have bZ:=ObX.kept HN.out aq;have bF:=eC HB.out aq;have gT:=HN.out.lt;have bN:w.heap.size+1≤w1.heap.size:=by have:=aq.size;simp at this;omega
  have ah:=RowB.new w1 (fa (zs N)) 22;have cH:=bK w1 (.cells (fa (zs N)) 22);have cj:(w1.alloc (.cells (fa (zs N)) 22)).heap.size=w1.heap.size+1:=by rw[World.size_alloc]
  obtain⟨W2a,gj⟩:∃ W2,w1.alloc (.cells (fa (zs N)) 22)=W2:=⟨_,rfl⟩;rw[gj] at ah cH cj;obtain⟨b,hb⟩:∃ b,w1.heap.size=b:=⟨_,rfl⟩;obtain⟨n,aI⟩:∃ n,w.heap.size=n:=⟨_,rfl⟩;have fk:=bZ.kept cH;have dO:=bF.trans (cH.mono (by omega));rw[aI] at bZ fk bN dO ⊢;rw[hb] at ah cH bN cj;have HO:=hid fk;have HR:=hid ah;have cD:=hid dO;have bT:=hid bF;clear aq bZ fk ah cH bF dO;have c0:W2a.cell? ⟨b,0,none⟩=some (.int .u32 0):=(HR.out.cell 0).trans Nr.out;have f0:W2a.frozen? ⟨b,0,none⟩=false:=HR.out.frozen 0;have bS:=HR.out.set 0 (.int .u32 o.st);rw[nC] at bS;have OF:ObX (W2a.setCell ⟨b,0,none⟩ (.int .u32 o.st)) n o:=(ie W2a b 0 (.int .u32 o.st) n (by omega)).trans HO.out;have iN:=eG cD.out b 0 (by omega) (.int .u32 o.st);have LF:=tC W2a b 0 (.int .u32 o.st);obtain⟨d0,d1,d2,d3,d4,d5,d6,d7⟩:=HO.out.cells;obtain⟨W2,SN⟩:∃ W,W2a.setCell ⟨b,0,none⟩ (.int .u32 o.st)=W:=⟨_,rfl⟩;rw[SN] at bS OF iN LF;rw[cj] at LF;clear HR HO cD;have HR:=hid bS;have HO:=hid OF;have cD:=hid iN;clear bS OF iN;go_wp2_with fail;clear d0 d1 d2 d3 d4 d5 d6 d7 c0 f0;have dc:(fun w':World=>Below b W2 w'∧w'.cell? ⟨n,0,none⟩=some (.int .i64 o.k)∧w'.cell? ⟨n,1,none⟩=some (.int .i64 o.wd)∧w'.cell? ⟨n,2,none⟩=some (.int .i64 o.s)∧w'.cell? ⟨n,3,none⟩=some (.int .i64 o.c)∧w'.cell? ⟨n,4,none⟩=some (.int .u32 o.st)∧w'.cell? ⟨n,5,none⟩=some (.slice o.I o.ni o.ci)∧w'.cell? ⟨n,6,none⟩=some (.int .i64 o.wr)∧w'.cell? ⟨n,7,none⟩=some (.slice o.R o.nr o.cr)) W2.drew:=⟨(Below.refl _ W2).drew,(ObX.kept HO.out (Below.refl _ W2).drew).cells⟩;have bH:RowB W2.drew b (fa ((zs N).set 0 o.st)) 22:=HR.out.kept (Below.refl _ W2).drew;have hI:Ws W2.drew B o.I l:=(HI.out.below (cD.out.mono (by have:=yf.out;omega)) (Nat.le_refl _)).below (Below.refl _ W2).drew (Nat.le_refl _);refine wp_region_held_drew (S:=(fun w':World=>Below b W2 w'∧w'.cell? ⟨n,0,none⟩=some (.int .i64 o.k)∧w'.cell? ⟨n,1,none⟩=some (.int .i64 o.wd)∧w'.cell? ⟨n,2,none⟩=some (.int .i64 o.s)∧w'.cell? ⟨n,3,none⟩=some (.int .i64 o.c)∧w'.cell? ⟨n,4,none⟩=some (.int .u32 o.st)∧w'.cell? ⟨n,5,none⟩=some (.slice o.I o.ni o.ci)∧w'.cell? ⟨n,6,none⟩=some (.int .i64 o.wr)∧w'.cell? ⟨n,7,none⟩=some (.slice o.R o.nr o.cr))) (by kernel_rfl) dc (fun hHeld=>?_);generalize W2.drew=wd at hHeld bH hI ⊢;have hHeld:(fun w':World=>Below b W2 w'∧w'.cell? ⟨n,0,none⟩=some (.int .i64 o.k)∧w'.cell? ⟨n,1,none⟩=some (.int .i64 o.wd)∧w'.cell? ⟨n,2,none⟩=some (.int .i64 o.s)∧w'.cell? ⟨n,3,none⟩=some (.int .i64 o.c)∧w'.cell? ⟨n,4,none⟩=some (.int .u32 o.st)∧w'.cell? ⟨n,5,none⟩=some (.slice o.I o.ni o.ci)∧w'.cell? ⟨n,6,none⟩=some (.int .i64 o.wr)∧w'.cell? ⟨n,7,none⟩=some (.slice o.R o.nr o.cr)) wd:=hHeld;replace bH:=hid bH;replace hI:=hid hI;refine wpAnyH_take (i:=0) (oi:=?_) (v:=?_) ?_ (by kernel_rfl) (by kernel_rfl) (by kernel_rfl) ?_ (Or.inl ⟨?_,?_⟩) (by assumption) ?_;rotate_left 2
  ·(simp only[List.getElem?_toArray,List.getElem?_cons_zero];rfl)
  ·first | exact fun _ _ _ h=>h | exact fun _ _ _ h=>by cases h.1
  ·rfl
  ·((intro wq cw;(try dsimp only at cw);go_simp);(try with_reducible rfl))
  try simp only[Act.put,List.setIfInBounds_toArray,List.set_cons_zero,List.set_cons_succ]
  refine wpAnyH_take (i:=1) (oi:=?_) (v:=?_) ?_ (by kernel_rfl) (by kernel_rfl) (by kernel_rfl) ?_ (Or.inl ⟨?_,?_⟩) (by assumption) ?_;rotate_left 2
  ·(simp only[List.getElem?_toArray,List.getElem?_cons_succ,List.getElem?_cons_zero];rfl)
  ·first | exact fun _ _ _ h=>h | exact fun _ _ _ h=>by cases h.1
  ·rfl
  ·((intro wq cw;(try dsimp only at cw);go_simp);(try with_reducible rfl))
  try simp only[Act.put,List.setIfInBounds_toArray,List.set_cons_zero,List.set_cons_succ]
  refine wpAnyH_take (i:=2) (oi:=?_) (v:=?_) ?_ (by kernel_rfl) (by kernel_rfl) (by kernel_rfl) ?_ (Or.inl ⟨?_,?_⟩) (by assumption) ?_;rotate_left 2
  ·(simp only[List.getElem?_toArray,List.getElem?_cons_succ,List.getElem?_cons_zero];rfl)
  ·first | exact fun _ _ _ h=>h | exact fun _ _ _ h=>by cases h.1
  ·rfl
  ·((intro wq cw;(try dsimp only at cw);go_simp);(try with_reducible rfl))
  try simp only[Act.put,List.setIfInBounds_toArray,List.set_cons_zero,List.set_cons_succ]
  refine wpAnyH_take (i:=3) (oi:=?_) (v:=?_) ?_ (by kernel_rfl) (by kernel_rfl) (by kernel_rfl) ?_ (Or.inl ⟨?_,?_⟩) (by assumption) ?_;rotate_left 2
  ·(simp only[List.getElem?_toArray,List.getElem?_cons_succ,List.getElem?_cons_zero];rfl)
  ·first | exact fun _ _ _ h=>h | exact fun _ _ _ h=>by cases h.1
  ·rfl
  ·((intro wq cw;(try dsimp only at cw);go_simp);(try with_reducible rfl))
  try simp only[Act.put,List.setIfInBounds_toArray,List.set_cons_zero,List.set_cons_succ]
  refine wpAnyH_take (i:=6) (oi:=?_) (v:=?_) ?_ (by kernel_rfl) (by kernel_rfl) (by kernel_rfl) ?_ (Or.inl ⟨?_,?_⟩) (by assumption) ?_;rotate_left 2
  ·(simp only[List.getElem?_toArray,List.getElem?_cons_succ,List.getElem?_cons_zero];rfl)
  ·first | exact fun _ _ _ h=>h | exact fun _ _ _ h=>by cases h.1
  ·rfl
  ·((intro wq cw;(try dsimp only at cw);go_simp);(try with_reducible rfl))
  try simp only[Act.put,List.setIfInBounds_toArray,List.set_cons_zero,List.set_cons_succ]
  refine wpAnyH_take (i:=7) (oi:=?_) (v:=?_) ?_ (by kernel_rfl) (by kernel_rfl) (by kernel_rfl) ?_ (Or.inl ⟨?_,?_⟩) (by assumption) ?_;rotate_left 2
  ·(simp only[List.getElem?_toArray,List.getElem?_cons_succ,List.getElem?_cons_zero];rfl)
  ·first | exact fun _ _ _ h=>h | exact fun _ _ _ h=>by cases h.1
  ·rfl
  ·((intro wq cw;(try dsimp only at cw);go_simp);(try with_reducible rfl))
  try simp only[Act.put,List.setIfInBounds_toArray,List.set_cons_zero,List.set_cons_succ]
  refine dG [4] ?_;refine dp (fun K hK=>?_) AllReadyH.nil;go_simp;refine(HC.out _).mono ?_;rintro ex wx ⟨rfl,ar⟩
  have aw:(fun w':World=>Below b W2 w'∧w'.cell? ⟨n,0,none⟩=some (.int .i64 o.k)∧w'.cell? ⟨n,1,none⟩=some (.int .i64 o.wd)∧w'.cell? ⟨n,2,none⟩=some (.int .i64 o.s)∧w'.cell? ⟨n,3,none⟩=some (.int .i64 o.c)∧w'.cell? ⟨n,4,none⟩=some (.int .u32 o.st)∧w'.cell? ⟨n,5,none⟩=some (.slice o.I o.ni o.ci)∧w'.cell? ⟨n,6,none⟩=some (.int .i64 o.wr)∧w'.cell? ⟨n,7,none⟩=some (.slice o.R o.nr o.cr)) wx:=by
   obtain⟨h0,u0,u1,u2,u3,u4,u5,u6,u7⟩:=hHeld;have hk:∀ {i:Nat} {u:Value},_→wx.cell? ⟨n,i,none⟩=some u:=fun {i u} hc=>(ar.cell (p:=⟨n,i,none⟩) (aM hc)).trans hc
   exact⟨eC h0 ar,hk u0,hk u1,hk u2,hk u3,hk u4,hk u5,hk u6,hk u7⟩
  replace bH:=hid (bH.out.kept ar);replace hI:=hid (hI.out.below (ar.mono (by have:=hHeld.1.size;have:=cD.out.size;have:=yf.out;omega)) (Nat.le_refl _));clear ar;refine hK.out _ _ aw (fun hHeld=>?_);clear hK K;try simp only[Act.put,List.setIfInBounds_toArray,List.set_cons_zero,List.set_cons_succ]
  refine wpAnyH_take (i:=5) (oi:=?_) (v:=?_) ?_ (by kernel_rfl) (by kernel_rfl) (by kernel_rfl) ?_ (Or.inl ⟨?_,?_⟩) (by assumption) ?_;rotate_left 2
  ·(simp only[List.getElem?_toArray,List.getElem?_cons_succ,List.getElem?_cons_zero];rfl)
  ·first | exact fun _ _ _ h=>h | exact fun _ _ _ h=>by cases h.1
  ·rfl
  ·((intro wq cw;(try dsimp only at cw);go_simp);(try with_reducible rfl))
  try simp only[Act.put,List.setIfInBounds_toArray,List.set_cons_zero,List.set_cons_succ]
  have vO:=vD (off:=D) (dL:=N - D) (dC:=N - D) (ci:=o.ci) CM.out bH.out hI.out uo.out sB.out uc.out (by have:=uc.out;omega);refine dG [8] ?_;refine dp (fun K hK=>?_) AllReadyH.nil;go_simp
  have aw:(fun w':World=>Below b W2 w'∧w'.cell? ⟨n,0,none⟩=some (.int .i64 o.k)∧w'.cell? ⟨n,1,none⟩=some (.int .i64 o.wd)∧w'.cell? ⟨n,2,none⟩=some (.int .i64 o.s)∧w'.cell? ⟨n,3,none⟩=some (.int .i64 o.c)∧w'.cell? ⟨n,4,none⟩=some (.int .u32 o.st)∧w'.cell? ⟨n,5,none⟩=some (.slice o.I o.ni o.ci)∧w'.cell? ⟨n,6,none⟩=some (.int .i64 o.wr)∧w'.cell? ⟨n,7,none⟩=some (.slice o.R o.nr o.cr)) (wx.setRow b (fa (lA ((zs N).set 0 o.st) D l))):=by
   obtain⟨h0,u0,u1,u2,u3,u4,u5,u6,u7⟩:=hHeld;have jI:n≠b:=by omega
   simp only[kT _ _ jI];exact⟨bc h0 b _ (Nat.le_refl _),u0,u1,u2,u3,u4,u5,u6,u7⟩
  refine hK.out _ _ aw (fun hHeld=>?_);clear hK K;try simp only[Act.put,List.setIfInBounds_toArray,List.set_cons_zero,List.set_cons_succ]
  refine aY ?_;clear dc;go_wp2_with fail;go_ret;exact LayR.row bH.out.row (by rw[jP (by rw[sB.out];exact uc.out)];exact sB.out) g3 yG.out (by rw[aI];exact cD.out.trans (hHeld.1.mono (by omega)))
 ·have gF:¬ bD o:=fun q=>h (of_decide_eq_true ((kS hk).symm.trans (decide_eq_true q)))
  have hL:aW o l=[]:=by unfold aW;rw[if_neg gF]
  have hz:=cZ gF;rw[hL];rw[hz] at hs;obtain⟨N,hN⟩:∃ N:Nat,N=0:=⟨_,rfl⟩;have cO:∀ W,_:=fun W=>hs W
  have vS:=AR;unfold af at hs;have HS:=hid hs;clear hL hz hs cO gF h hk ho hI hl hB hN;have hn:=ObX.new w o;have hB:=bK w (.cells (af o) 26);unfold af at *;have HN:=hid hn;have HB:=hid hB;clear hn hB;go_enter Tryz.func87,Tryz.ntmps87;go_wp2_with fail;refine(HS.out _).mono ?_;rintro e w1 ⟨rfl,aq⟩;have bF:=eC HB.out aq;have bT:=hid bF;have bN:w.heap.size≤w1.heap.size:=by have:=aq.size;simp at this;omega
  clear bF aq;go_wp2_with fail;go_ret;exact LayR.row (L:=[]) (RowB.new w1 (fa (zs 0)) 22) rfl (by omega) (fun z hz=>by cases hz) (bT.out.alloc bN _)
theorem yT (o:Ob) (ho:o.Ok) (hk:o.k=5) (l:List Int) (B:Nat) (w:World) (hl:o.ni=l.length) (hI:Ws w B o.I l) (hB:B≤w.heap.size):Calls Tryz.prog 88 #[.agg (af o)] w (LayR w (aW o l)):=by
 have hs:=fun W=>lZ o ho hk W
 by_cases h:eh o
 ·have bY:=iq h;obtain⟨q1,q2,q3,q4,q5,q6,q7,q8⟩:=gP h;have jV:(l.length:Int)=o.wd:=by unfold eh ax at h;omega
  have m2:=fP (a:=o.s) (b:=o.wd) (by omega) (by omega) (by omega) (by omega);obtain⟨N,hN⟩:∃ N:Nat,aB o=N:=⟨(aB o).toNat,by omega⟩;obtain⟨D,hD⟩:∃ D:Nat,(1+o.nr:Int)=D:=⟨(1+o.nr:Int).toNat,by omega⟩;have mm:2*o.wd≤o.s*o.wd:=Int.mul_le_mul_of_nonneg_right (by omega) (by omega);have zu:D+l.length≤N:=by omega
  have n3:D<N:=by omega
  have du:o.st=0:=by unfold eh at h;exact h.2.2.2.2
  have gV:et o=D:=by unfold et dw;rw[oq hk,if_neg (by omega)];omega
  have hL:aW o l=lA (zs N) D l:=by unfold aW jw;rw[if_pos (.inr (.inr (.inr (.inr (.inl h))))),if_neg (by omega),hN,gV,Int.toNat_natCast,Int.toNat_natCast];rw[du,u9]
  rw[hL];rw[hN] at hs;have hc:=fun W=>lY o q4 W
  rw[hD] at hc;unfold af at hc;have HC:=hid hc;clear hc;have g1:D<N:=n3;have g2:0<N:=by omega
  have g3:N≤300:=by omega
  have g4:¬ N=D:=by omega
  have g6:D≤N:=by omega
  have g7:(D:Int)≤(N:Int):=by omega
  have uc:=hid zu;have uo:=hid (show l≠[] by intro hh;rw[hh] at jV;simp at jV;omega);have sB:=hid (show(zs N).length=N by simp[zs]);have vS:=fun W=>JN N g3 W
  have CM:=hid hl;have HI:=hid hI;have yf:=hid hB;have yG:=hid (rD (Z:=(zs N)) D (oZ N) hI.2);unfold af at hs;have HS:=hid hs;clear hL h hk bY q1 q2 q3 q4 q5 q6 q7 q8 jV hN gV ho hl hs hI hB zu n3 du mm m2;have Qy:=hid hD;clear hD;have hn:=ObX.new w o;have hB:=bK w (.cells (af o) 26);unfold af at *;have HN:=hid hn;have HB:=hid hB;clear hn hB;go_enter Tryz.func88,Tryz.ntmps88;go_wp2_with fail;refine(HS.out _).mono ?_;rintro e w1 ⟨rfl,aq⟩;have bZ:=ObX.kept HN.out aq;have bF:=eC HB.out aq;have gT:=HN.out.lt;have bN:w.heap.size+1≤w1.heap.size:=by have:=aq.size;simp at this;omega
  have ah:=RowB.new w1 (fa (zs N)) 22;have cH:=bK w1 (.cells (fa (zs N)) 22);have cj:(w1.alloc (.cells (fa (zs N)) 22)).heap.size=w1.heap.size+1:=by rw[World.size_alloc]
  obtain⟨W2,gj⟩:∃ W2,w1.alloc (.cells (fa (zs N)) 22)=W2:=⟨_,rfl⟩;rw[gj] at ah cH cj;obtain⟨b,hb⟩:∃ b,w1.heap.size=b:=⟨_,rfl⟩;obtain⟨n,aI⟩:∃ n,w.heap.size=n:=⟨_,rfl⟩;have fk:=bZ.kept cH;have dO:=bF.trans (cH.mono (by omega));rw[aI] at bZ fk bN dO ⊢;rw[hb] at ah cH bN cj;have HO:=hid fk;have HR:=hid ah;have cD:=hid dO;have bT:=hid bF;clear aq bZ fk ah cH bF dO;go_wp2_with fail;have dc:(fun w':World=>Below b W2 w'∧w'.cell? ⟨n,0,none⟩=some (.int .i64 o.k)∧w'.cell? ⟨n,1,none⟩=some (.int .i64 o.wd)∧w'.cell? ⟨n,2,none⟩=some (.int .i64 o.s)∧w'.cell? ⟨n,3,none⟩=some (.int .i64 o.c)∧w'.cell? ⟨n,4,none⟩=some (.int .u32 o.st)∧w'.cell? ⟨n,5,none⟩=some (.slice o.I o.ni o.ci)∧w'.cell? ⟨n,6,none⟩=some (.int .i64 o.wr)∧w'.cell? ⟨n,7,none⟩=some (.slice o.R o.nr o.cr)) W2.drew:=⟨(Below.refl _ W2).drew,(ObX.kept HO.out (Below.refl _ W2).drew).cells⟩;have bH:RowB W2.drew b (fa (zs N)) 22:=HR.out.kept (Below.refl _ W2).drew;have hI:Ws W2.drew B o.I l:=(HI.out.below (cD.out.mono (by have:=yf.out;omega)) (Nat.le_refl _)).below (Below.refl _ W2).drew (Nat.le_refl _);refine wp_region_held_drew (S:=(fun w':World=>Below b W2 w'∧w'.cell? ⟨n,0,none⟩=some (.int .i64 o.k)∧w'.cell? ⟨n,1,none⟩=some (.int .i64 o.wd)∧w'.cell? ⟨n,2,none⟩=some (.int .i64 o.s)∧w'.cell? ⟨n,3,none⟩=some (.int .i64 o.c)∧w'.cell? ⟨n,4,none⟩=some (.int .u32 o.st)∧w'.cell? ⟨n,5,none⟩=some (.slice o.I o.ni o.ci)∧w'.cell? ⟨n,6,none⟩=some (.int .i64 o.wr)∧w'.cell? ⟨n,7,none⟩=some (.slice o.R o.nr o.cr))) (by kernel_rfl) dc (fun hHeld=>?_);generalize W2.drew=wd at hHeld bH hI ⊢;have hHeld:(fun w':World=>Below b W2 w'∧w'.cell? ⟨n,0,none⟩=some (.int .i64 o.k)∧w'.cell? ⟨n,1,none⟩=some (.int .i64 o.wd)∧w'.cell? ⟨n,2,none⟩=some (.int .i64 o.s)∧w'.cell? ⟨n,3,none⟩=some (.int .i64 o.c)∧w'.cell? ⟨n,4,none⟩=some (.int .u32 o.st)∧w'.cell? ⟨n,5,none⟩=some (.slice o.I o.ni o.ci)∧w'.cell? ⟨n,6,none⟩=some (.int .i64 o.wr)∧w'.cell? ⟨n,7,none⟩=some (.slice o.R o.nr o.cr)) wd:=hHeld;replace bH:=hid bH;replace hI:=hid hI;refine wpAnyH_take (i:=0) (oi:=?_) (v:=?_) ?_ (by kernel_rfl) (by kernel_rfl) (by kernel_rfl) ?_ (Or.inl ⟨?_,?_⟩) (by assumption) ?_;rotate_left 2
  ·(simp only[List.getElem?_toArray,List.getElem?_cons_zero];rfl)
  ·first | exact fun _ _ _ h=>h | exact fun _ _ _ h=>by cases h.1
  ·rfl
  ·((intro wq cw;(try dsimp only at cw);go_simp);(try with_reducible rfl))
  try simp only[Act.put,List.setIfInBounds_toArray,List.set_cons_zero,List.set_cons_succ]
  refine wpAnyH_take (i:=1) (oi:=?_) (v:=?_) ?_ (by kernel_rfl) (by kernel_rfl) (by kernel_rfl) ?_ (Or.inl ⟨?_,?_⟩) (by assumption) ?_;rotate_left 2
  ·(simp only[List.getElem?_toArray,List.getElem?_cons_succ,List.getElem?_cons_zero];rfl)
  ·first | exact fun _ _ _ h=>h | exact fun _ _ _ h=>by cases h.1
  ·rfl
  ·((intro wq cw;(try dsimp only at cw);go_simp);(try with_reducible rfl))
  try simp only[Act.put,List.setIfInBounds_toArray,List.set_cons_zero,List.set_cons_succ]
  refine wpAnyH_take (i:=4) (oi:=?_) (v:=?_) ?_ (by kernel_rfl) (by kernel_rfl) (by kernel_rfl) ?_ (Or.inl ⟨?_,?_⟩) (by assumption) ?_;rotate_left 2
  ·(simp only[List.getElem?_toArray,List.getElem?_cons_succ,List.getElem?_cons_zero];rfl)
  ·first | exact fun _ _ _ h=>h | exact fun _ _ _ h=>by cases h.1
  ·rfl
  ·((intro wq cw;(try dsimp only at cw);go_simp);(try with_reducible rfl))
  try simp only[Act.put,List.setIfInBounds_toArray,List.set_cons_zero,List.set_cons_succ]
  refine wpAnyH_take (i:=5) (oi:=?_) (v:=?_) ?_ (by kernel_rfl) (by kernel_rfl) (by kernel_rfl) ?_ (Or.inl ⟨?_,?_⟩) (by assumption) ?_;rotate_left 2
  ·(simp only[List.getElem?_toArray,List.getElem?_cons_succ,List.getElem?_cons_zero];rfl)
  ·first | exact fun _ _ _ h=>h | exact fun _ _ _ h=>by cases h.1
  ·rfl
  ·((intro wq cw;(try dsimp only at cw);go_simp);(try with_reducible rfl))
  try simp only[Act.put,List.setIfInBounds_toArray,List.set_cons_zero,List.set_cons_succ]
  refine dG [2] ?_;refine dp (fun K hK=>?_) AllReadyH.nil;go_simp;refine(HC.out _).mono ?_;rintro ex wx ⟨rfl,ar⟩
  have aw:(fun w':World=>Below b W2 w'∧w'.cell? ⟨n,0,none⟩=some (.int .i64 o.k)∧w'.cell? ⟨n,1,none⟩=some (.int .i64 o.wd)∧w'.cell? ⟨n,2,none⟩=some (.int .i64 o.s)∧w'.cell? ⟨n,3,none⟩=some (.int .i64 o.c)∧w'.cell? ⟨n,4,none⟩=some (.int .u32 o.st)∧w'.cell? ⟨n,5,none⟩=some (.slice o.I o.ni o.ci)∧w'.cell? ⟨n,6,none⟩=some (.int .i64 o.wr)∧w'.cell? ⟨n,7,none⟩=some (.slice o.R o.nr o.cr)) wx:=by
   obtain⟨h0,u0,u1,u2,u3,u4,u5,u6,u7⟩:=hHeld;have hk:∀ {i:Nat} {u:Value},_→wx.cell? ⟨n,i,none⟩=some u:=fun {i u} hc=>(ar.cell (p:=⟨n,i,none⟩) (aM hc)).trans hc
   exact⟨eC h0 ar,hk u0,hk u1,hk u2,hk u3,hk u4,hk u5,hk u6,hk u7⟩
  replace bH:=hid (bH.out.kept ar);replace hI:=hid (hI.out.below (ar.mono (by have:=hHeld.1.size;have:=cD.out.size;have:=yf.out;omega)) (Nat.le_refl _));clear ar;refine hK.out _ _ aw (fun hHeld=>?_);clear hK K;try simp only[Act.put,List.setIfInBounds_toArray,List.set_cons_zero,List.set_cons_succ]
  refine wpAnyH_take (i:=3) (oi:=?_) (v:=?_) ?_ (by kernel_rfl) (by kernel_rfl) (by kernel_rfl) ?_ (Or.inl ⟨?_,?_⟩) (by assumption) ?_;rotate_left 2
  ·(simp only[List.getElem?_toArray,List.getElem?_cons_succ,List.getElem?_cons_zero];rfl)
  ·first | exact fun _ _ _ h=>h | exact fun _ _ _ h=>by cases h.1
  ·rfl
  ·((intro wq cw;(try dsimp only at cw);go_simp);(try with_reducible rfl))
  try simp only[Act.put,List.setIfInBounds_toArray,List.set_cons_zero,List.set_cons_succ]
  have vO:=vD (off:=D) (dL:=N - D) (dC:=N - D) (ci:=o.ci) CM.out bH.out hI.out uo.out sB.out uc.out (by have:=uc.out;omega);refine dG [6] ?_;refine dp (fun K hK=>?_) AllReadyH.nil;go_simp
  have aw:(fun w':World=>Below b W2 w'∧w'.cell? ⟨n,0,none⟩=some (.int .i64 o.k)∧w'.cell? ⟨n,1,none⟩=some (.int .i64 o.wd)∧w'.cell? ⟨n,2,none⟩=some (.int .i64 o.s)∧w'.cell? ⟨n,3,none⟩=some (.int .i64 o.c)∧w'.cell? ⟨n,4,none⟩=some (.int .u32 o.st)∧w'.cell? ⟨n,5,none⟩=some (.slice o.I o.ni o.ci)∧w'.cell? ⟨n,6,none⟩=some (.int .i64 o.wr)∧w'.cell? ⟨n,7,none⟩=some (.slice o.R o.nr o.cr)) (wx.setRow b (fa (lA (zs N) D l))):=by
   obtain⟨h0,u0,u1,u2,u3,u4,u5,u6,u7⟩:=hHeld;have jI:n≠b:=by omega
   simp only[kT _ _ jI];exact⟨bc h0 b _ (Nat.le_refl _),u0,u1,u2,u3,u4,u5,u6,u7⟩
  refine hK.out _ _ aw (fun hHeld=>?_);clear hK K;try simp only[Act.put,List.setIfInBounds_toArray,List.set_cons_zero,List.set_cons_succ]
  refine aY ?_;clear dc;go_wp2_with fail;go_ret;exact LayR.row bH.out.row (by rw[jP (by rw[sB.out];exact uc.out)];exact sB.out) g3 yG.out (by rw[aI];exact cD.out.trans (hHeld.1.mono (by omega)))
 ·have gF:¬ bD o:=fun q=>h (of_decide_eq_true ((nf hk).symm.trans (decide_eq_true q)))
  have hL:aW o l=[]:=by unfold aW;rw[if_neg gF]
  have hz:=cZ gF;rw[hL];rw[hz] at hs;obtain⟨N,hN⟩:∃ N:Nat,N=0:=⟨_,rfl⟩;have cO:∀ W,_:=fun W=>hs W
  have vS:=AR;unfold af at hs;have HS:=hid hs;clear hL hz hs cO gF h hk ho hI hl hB hN;have hn:=ObX.new w o;have hB:=bK w (.cells (af o) 26);unfold af at *;have HN:=hid hn;have HB:=hid hB;clear hn hB;go_enter Tryz.func88,Tryz.ntmps88;go_wp2_with fail;refine(HS.out _).mono ?_;rintro e w1 ⟨rfl,aq⟩;have bF:=eC HB.out aq;have bT:=hid bF;have bN:w.heap.size≤w1.heap.size:=by have:=aq.size;simp at this;omega
  clear bF aq;go_wp2_with fail;go_ret;exact LayR.row (L:=[]) (RowB.new w1 (fa (zs 0)) 22) rfl (by omega) (fun z hz=>by cases hz) (bT.out.alloc bN _)
end Go.Proofs.YtabfcjohdgjkoaaGreatDoor
