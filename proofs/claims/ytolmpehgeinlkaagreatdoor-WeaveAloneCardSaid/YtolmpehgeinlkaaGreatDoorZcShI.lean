/- An object's words at the beginning: the kinds' Lay. -/
import Derived.Test.YtolmpehgeinlkaaGreatDoorZcShG
import Derived.Test.YtolmpehgeinlkaaGreatDoorZcA
import Derived.Laws.CopyRow
import Derived.Laws.MakeOwn
namespace Go.Proofs.YtolmpehgeinlkaaGreatDoor
open Go.RowKit
def zs (n:Nat):List Int:=List.replicate n 0
def spl (Z:List Int) (b:Nat) (l:List Int):List Int:=Z.take b++l++Z.drop (b+l.length)
def slotZ (o:Ob):Int:=if o.k=4 then o.st%o.s else 0
def layB (o:Ob):List Int:=if o.k=6 then ((zs (sizeZ o).toNat).set 0 o.st).set 1 o.st else (zs (sizeZ o).toNat).set 0 o.st
def offZ (o:Ob):Int:=headZ o+slotZ o*o.wd
def layZ (o:Ob) (l:List Int):List Int:=if anyR o then spl (layB o) (offZ o).toNat l else []
def wsA (l:List Int):Array Value:=(l.map (Value.int .u32)).toArray
theorem wsA_size (l:List Int):(wsA l).size=l.length:=by simp[wsA]
theorem wsA_get (l:List Int) (j:Nat):(wsA l)[j]?=(l[j]?).map (Value.int .u32):=by simp[wsA]
theorem wsA_set (l:List Int) (j:Nat) (x:Int):(wsA l).setIfInBounds j (.int .u32 x)=wsA (l.set j x):=by
 apply Array.ext';simp[wsA,List.map_set]
theorem spl_len {Z:List Int} {b:Nat} {l:List Int} (h:b+l.length≤Z.length):(spl Z b l).length=Z.length:=by
 simp[spl];omega
theorem spl_snoc {Z:List Int} {b:Nat} {l:List Int} {x:Int} (h:b+l.length<Z.length):(spl Z b l).set (b+l.length) x=spl Z b (l++[x]):=by
 apply List.ext_getElem?;intro j;unfold spl;simp only[List.getElem?_set,List.getElem?_append,List.length_append,List.length_take,List.getElem?_take,List.getElem?_drop,List.length_cons,List.length_nil];rw[show min b Z.length=b by omega]
 by_cases h1:j<b
 ·have a1:j<b+l.length:=by omega
  have a2:j<b+(l.length+(0+1)):=by omega
  have a3:¬ b+l.length=j:=by omega
  simp[h1,a1,a2,a3]
 ·by_cases h2:j<b+l.length
  ·have a3:¬ b+l.length=j:=by omega
   have a4:j<b+(l.length+(0+1)):=by omega
   have a5:j - b<l.length:=by omega
   simp[h1,h2,a3,a4,a5]
  ·by_cases h3:j=b+l.length
   ·subst h3;have a2:b+l.length<b+(l.length+(0+1)):=by omega
    simp;rw[if_pos (by omega),if_neg h1]
   ·have a3:¬ b+l.length=j:=by omega
    have a4:¬ j<b+(l.length+(0+1)):=by omega
    simp[h2,a3,a4]
    congr 1
    omega
theorem spl_nil (Z:List Int) (b:Nat):spl Z b []=Z:=by simp[spl]
theorem rows_copy {Z:List Int} {b:Nat} {l:List Int}:((wsA Z).toList.take b++l.map (Value.int .u32)++(wsA Z).toList.drop (b+(l.map (Value.int .u32)).length)).toArray=wsA (spl Z b l):=by
 simp[wsA,spl,List.map_take,List.map_drop]
theorem mkW (N:Nat) (h:N≤300) (w:World):(Instr.makeSlice 23 (.int .i64 (N:Int)) (.int .i64 (N:Int))).run Tryz.prog w=.ok (.slice (some ⟨w.heap.size,0,none⟩) N N) (w.alloc (.cells (wsA (zs N)) 22)):=by
 obtain⟨i,hi,h1,h2,h3⟩:=info_parts (P:=Tryz.prog) (e:=22) (z:=.int .u32 0) (size:=1) (bytes:=4) (by kernel_rfl);have hr:=run_make (P:=Tryz.prog) w 23 22 i (.int .u32 0) Tryz.underlying23 hi h1 .i64 .i64 (N:Int) (N:Int) (by omega) (by omega) (by rw[h3];omega) (by omega);rw[hr,h2]
 have e:madeCells (Value.int .u32 0).cells ((N:Int).toNat*1)=wsA (zs N):=by
  apply Array.ext';rw[show(Value.int .u32 0).cells=#[.int .u32 0] from rfl,toList_madeCells_one];simp[wsA,zs]
 rw[e];rfl
theorem mkW0 (w:World):(Instr.makeSlice 23 (.int .i64 0) (.int .i64 0)).run Tryz.prog w=.ok (.slice (some ⟨w.heap.size,0,none⟩) 0 0) (w.alloc (.cells (wsA (zs 0)) 22)):=mkW 0 (by omega) w
theorem copyW {w:World} {b N off dL dC:Nat} {Z l:List Int} {B:Nat} {I:Option Addr} {ci ni:Nat} (hni:ni=l.length) (hr:RowB w b (wsA Z) 22) (hI:Ws w B I l) (h0:l≠[]) (hZ:Z.length=N) (hf:off+l.length≤N) (hd:l.length≤dL):
  (Builtin.copy_ #[23,23] 3 #[.slice (some ⟨b,off,none⟩) dL dC,.slice I ni ci]).run Tryz.prog w=.ok (.int .i64 ni) (w.setRow b (wsA (spl Z off l))):=by
 subst hni
 obtain⟨x,hx⟩:∃ x,l[0]?=some x:=by
  cases l with
  | nil=>exact absurd rfl h0
  | cons x t=>exact⟨x,rfl⟩
 obtain⟨_,sb,so,rfl,_,_⟩:=hI.get hx;rw[← rows_copy]
 have:=run_copy_row (P:=Tryz.prog) w 23 23 3 22 b off dL dC ⟨sb,so,none⟩ l.length ci (wsA Z) 22 (l.map (Value.int .u32)) Tryz.underlying23 (by kernel_rfl) hr (by rw[List.length_map];exact(Nat.min_eq_left hd).symm) (fun j v hv=>by
  rw[List.getElem?_map] at hv;cases hq:l[j]? with
  | none=>rw[hq] at hv;cases hv
  | some z=>
   rw[hq] at hv
   injection hv with hv
   subst hv;obtain⟨_,b2,o2,he,_,hc⟩:=hI.get hq
   injection he with he
   injection he with e1 e2 e3
   subst e1 e2;show w.cell? ((⟨sb,so,none⟩:Addr).add j)=_;rw[show(⟨sb,so,none⟩:Addr).add j=⟨sb,so+j,none⟩ by unfold Addr.add;split <;> simp_all];exact hc) (by rw[List.length_map,wsA_size];omega) (fun v hv=>by
  rw[List.mem_map] at hv;obtain⟨z,_,rfl⟩:=hv;rfl)
 rw[this,List.length_map];rfl
def LayR (w:World) (L:List Int) (e:Ending) (w':World):Prop:=∃ A c,e=.returned (.slice A L.length c)∧(L.length≤c∧c≤maxLen)∧Ws w' w'.heap.size A L∧Below w.heap.size w w'
theorem ws_row {w:World} {b:Nat} {L:List Int} (hr:RowB w b (wsA L) 22) (hw:∀ z ∈ L,(Lit.int .u32 z).wf=true):Ws w w.heap.size (some ⟨b,0,none⟩) L:=by
 refine⟨fun k x hk=>⟨b,0,rfl,hr.lt,fun j u hu=>?_⟩,hw⟩
 have:j=0∧u=.int .u32 x:=by
  match j,hu with
  | 0,hu=>exact⟨rfl,by simpa [ints,Enc.of1] using hu.symm⟩
  | j+1,hu=>simp[ints,Enc.of1] at hu
 obtain⟨rfl,rfl⟩:=this;have:=hr.cell (0+(k*1+0));rw[wsA_get] at this;simp[hk] at this
 simpa [ints,Enc.of1] using this
theorem LayR.row {w w':World} {b N:Nat} {L:List Int} (hr:RowB w' b (wsA L) 22) (hN:L.length=N) (h3:N≤300) (hw:∀ z ∈ L,(Lit.int .u32 z).wf=true) (hb:Below w.heap.size w w'):LayR w L (.returned (.slice (some ⟨b,0,none⟩) N N)) w':=
 ⟨_,N,by rw[hN],⟨by omega,by unfold maxLen;omega⟩,ws_row hr hw,hb⟩
theorem wf_zs (n:Nat):∀ z ∈ zs n,(Lit.int .u32 z).wf=true:=fun z hz=>by
 rw[zs,List.mem_replicate] at hz;rw[hz.2];rfl
theorem wf_set {l:List Int} {x:Int} (j:Nat) (h:∀ z ∈ l,(Lit.int .u32 z).wf=true) (hx:(Lit.int .u32 x).wf=true):∀ z ∈ l.set j x,(Lit.int .u32 z).wf=true:=fun z hz=>by
 rcases List.mem_or_eq_of_mem_set hz with q | q
 ·exact h z q
 ·rw[q];exact hx
theorem wf_spl {Z l:List Int} (b:Nat) (h:∀ z ∈ Z,(Lit.int .u32 z).wf=true) (hl:∀ z ∈ l,(Lit.int .u32 z).wf=true):∀ z ∈ spl Z b l,(Lit.int .u32 z).wf=true:=fun z hz=>by
 unfold spl at hz;simp only[List.mem_append] at hz
 rcases hz with (q | q) | q
 ·exact h z (List.mem_of_mem_take q)
 ·exact hl z q
 ·exact h z (List.mem_of_mem_drop q)
theorem wf_st {o:Ob} (ho:o.Ok):(Lit.int .u32 o.st).wf=true:=by
 have h0:=ho.st0;have h1:=ho.st1;simp[Lit.wf,IntKind.min,IntKind.max,IntKind.signed,IntKind.bits];omega
theorem wf_layB {o:Ob} (ho:o.Ok):∀ z ∈ layB o,(Lit.int .u32 z).wf=true:=by
 unfold layB
 split
 ·exact wf_set 1 (wf_set 0 (wf_zs _) (wf_st ho)) (wf_st ho)
 ·exact wf_set 0 (wf_zs _) (wf_st ho)
theorem layB_len (o:Ob):(layB o).length=(sizeZ o).toNat:=by
 unfold layB
 split <;> simp[zs]
end Go.Proofs.YtolmpehgeinlkaaGreatDoor

namespace Go.Proofs.YtolmpehgeinlkaaGreatDoor
open Go.RowKit
open Go.Lib (hid)
attribute [local go_sem] Oper.semAt_some
set_option maxHeartbeats 2000000
set_option maxRecDepth 100000
abbrev QShI0 (a0:World) (a1:Nat) (a2:Ob) (w':World):Prop:=Below a0.heap.size a0 w'∧w'.cell? ⟨a1,0,none⟩=some (.int .i64 a2.k)∧w'.cell? ⟨a1,1,none⟩=some (.int .i64 a2.wd)∧w'.cell? ⟨a1,2,none⟩=some (.int .i64 a2.s)∧w'.cell? ⟨a1,3,none⟩=some (.int .i64 a2.c)∧w'.cell? ⟨a1,4,none⟩=some (.int .u32 a2.st)∧w'.cell? ⟨a1,5,none⟩=some (.slice a2.I a2.ni a2.ci)∧w'.cell? ⟨a1,6,none⟩=some (.int .i64 a2.wr)∧w'.cell? ⟨a1,7,none⟩=some (.slice a2.R a2.nr a2.cr)
theorem zs_set (N:Nat):(zs N).set 0 0=zs N:=by
 unfold zs;apply List.ext_getElem?;intro j;simp[List.getElem?_replicate]
theorem cell_row {w:World} {n b:Nat} (j:Nat) (cs:Array Value) (hn:n≠b):(w.setRow b cs).cell? ⟨n,j,none⟩=w.cell? ⟨n,j,none⟩:=by
 unfold World.cell?;rw[setRow_other _ _ _ _ hn]
theorem ringFrom_o (o:Ob) (ho:o.Ok) (h:ringR o) (w:World):Calls Tryz.prog 119 #[.agg (obA o),.int .u32 o.st] w fun e w'=>e=.returned (.int .i64 (1+(o.st%o.s)*o.wd))∧Below w.heap.size w w':=by
 obtain⟨q1,q2,q3,q4,q5,q6,q7,q8⟩:=ring_bd h;have z0:=ho.st0;have p0:=Int.emod_nonneg o.st (show o.s≠0 by omega);have p1:=Int.emod_lt_of_pos o.st (show 0<o.s by omega);have f1:IntKind.u32.wrap o.s=o.s:=sh_wrap32 (by omega) (by omega);have f2:o.st.tmod o.s=o.st%o.s:=Int.tmod_eq_emod_of_nonneg z0;have f3:IntKind.u32.wrap (o.st%o.s)=o.st%o.s:=sh_wrap32 (by omega) (by omega);have f4:IntKind.i64.wrap (o.st%o.s)=o.st%o.s:=sh_wrap (by omega) (by omega);have m:=mul_bd (a:=o.st%o.s) (b:=o.wd) (by omega) (by omega) (by omega) (by omega);have e1:IntKind.i64.wrap (o.st%o.s*o.wd)=o.st%o.s*o.wd:=sh_wrap (by omega) (by omega);have e2:IntKind.i64.wrap (1+o.st%o.s*o.wd)=1+o.st%o.s*o.wd:=sh_wrap (by omega) (by omega);have nz:(o.s==0)=false:=by rw[beq_eq_false_iff_ne];omega
 have nz2:¬ o.s=0:=by omega
 clear h ho;obtain⟨W0,hW0⟩:∃ W0,w.alloc (.cells #[.int .i64 o.k,.int .i64 o.wd,.int .i64 o.s,.int .i64 o.c,.int .u32 o.st,.slice o.I o.ni o.ci,.int .i64 o.wr,.slice o.R o.nr o.cr] 26)=W0:=⟨_,rfl⟩;have hn:=ObX.new w o;have hB:=(Below.refl w.heap.size w).alloc (Nat.le_refl _) (.cells (obA o) 26);unfold obA at hn hB;rw[hW0] at hn hB;obtain⟨n,hn0⟩:∃ n,w.heap.size=n:=⟨_,rfl⟩;rw[hn0] at hn hB;have HN:=hid hn;have HB:=hid hB;clear hn hB;rw[hn0];unfold obA;go_enter Tryz.func119,Tryz.ntmps119;go_wp2_with fail;have hSd:(QShI0 W0 n o) W0.drew:=⟨(Below.refl _ W0).drew,(ObX.kept HN.out (Below.refl _ W0).drew).cells⟩;refine wp_region_held_drew (S:=(QShI0 W0 n o)) (by kernel_rfl) hSd (fun hHeld=>?_);generalize W0.drew=wd at hHeld ⊢;have hHeld:(QShI0 W0 n o) wd:=hHeld;refine wpAnyH_take (i:=0) (oi:=?_) (v:=?_) ?_ (by kernel_rfl) (by kernel_rfl) (by kernel_rfl) ?_ (Or.inl ⟨?_,?_⟩) (by assumption) ?_;rotate_left 2
 ·(simp only[List.getElem?_toArray,List.getElem?_cons_zero];rfl)
 ·first | exact fun _ _ _ h=>h | exact fun _ _ _ h=>by cases h.1
 ·rfl
 ·((intro wq hSq;(try dsimp only at hSq);go_simp);(try with_reducible rfl))
 try simp only[Act.put,List.setIfInBounds_toArray,List.set_cons_zero,List.set_cons_succ]
 refine wpAnyH_take (i:=1) (oi:=?_) (v:=?_) ?_ (by kernel_rfl) (by kernel_rfl) (by kernel_rfl) ?_ (Or.inl ⟨?_,?_⟩) (by assumption) ?_;rotate_left 2
 ·(simp only[List.getElem?_toArray,List.getElem?_cons_succ,List.getElem?_cons_zero];rfl)
 ·first | exact fun _ _ _ h=>h | exact fun _ _ _ h=>by cases h.1
 ·rfl
 ·((intro wq hSq;(try dsimp only at hSq);go_simp);(try with_reducible rfl))
 try simp only[Act.put,List.setIfInBounds_toArray,List.set_cons_zero,List.set_cons_succ]
 refine wpAnyH_take (i:=2) (oi:=?_) (v:=?_) ?_ (by kernel_rfl) (by kernel_rfl) (by kernel_rfl) ?_ (Or.inl ⟨?_,?_⟩) (by assumption) ?_;rotate_left 2
 ·(simp only[List.getElem?_toArray,List.getElem?_cons_succ,List.getElem?_cons_zero];rfl)
 ·first | exact fun _ _ _ h=>h | exact fun _ _ _ h=>by cases h.1
 ·rfl
 ·((intro wq hSq;(try dsimp only at hSq);go_simp);(try with_reducible rfl))
 try simp only[Act.put,List.setIfInBounds_toArray,List.set_cons_zero,List.set_cons_succ]
 refine wpAnyH_take (i:=3) (oi:=?_) (v:=?_) ?_ (by kernel_rfl) (by kernel_rfl) (by kernel_rfl) ?_ (Or.inl ⟨?_,?_⟩) (by assumption) ?_;rotate_left 2
 ·(simp only[List.getElem?_toArray,List.getElem?_cons_succ,List.getElem?_cons_zero];rfl)
 ·first | exact fun _ _ _ h=>h | exact fun _ _ _ h=>by cases h.1
 ·rfl
 ·((intro wq hSq;(try dsimp only at hSq);go_simp);(try with_reducible rfl))
 try simp only[Act.put,List.setIfInBounds_toArray,List.set_cons_zero,List.set_cons_succ]
 refine wpAnyH_take (i:=4) (oi:=?_) (v:=?_) ?_ (by kernel_rfl) (by kernel_rfl) (by kernel_rfl) ?_ (Or.inl ⟨?_,?_⟩) (by assumption) ?_;rotate_left 2
 ·(simp only[List.getElem?_toArray,List.getElem?_cons_succ,List.getElem?_cons_zero];rfl)
 ·first | exact fun _ _ _ h=>h | exact fun _ _ _ h=>by cases h.1
 ·rfl
 ·((intro wq hSq;(try dsimp only at hSq);go_simp);(try with_reducible rfl))
 try simp only[Act.put,List.setIfInBounds_toArray,List.set_cons_zero,List.set_cons_succ]
 refine wpAnyH_take (i:=5) (oi:=?_) (v:=?_) ?_ (by kernel_rfl) (by kernel_rfl) (by kernel_rfl) ?_ (Or.inl ⟨?_,?_⟩) (by assumption) ?_;rotate_left 2
 ·(simp only[List.getElem?_toArray,List.getElem?_cons_succ,List.getElem?_cons_zero];rfl)
 ·first | exact fun _ _ _ h=>h | exact fun _ _ _ h=>by cases h.1
 ·rfl
 ·((intro wq hSq;(try dsimp only at hSq);go_simp);(try with_reducible rfl))
 try simp only[Act.put,List.setIfInBounds_toArray,List.set_cons_zero,List.set_cons_succ]
 refine wpAnyH_take (i:=6) (oi:=?_) (v:=?_) ?_ (by kernel_rfl) (by kernel_rfl) (by kernel_rfl) ?_ (Or.inl ⟨?_,?_⟩) (by assumption) ?_;rotate_left 2
 ·(simp only[List.getElem?_toArray,List.getElem?_cons_succ,List.getElem?_cons_zero];rfl)
 ·first | exact fun _ _ _ h=>h | exact fun _ _ _ h=>by cases h.1
 ·rfl
 ·((intro wq hSq;(try dsimp only at hSq);go_simp);(try with_reducible rfl))
 try simp only[Act.put,List.setIfInBounds_toArray,List.set_cons_zero,List.set_cons_succ]
 refine wpAnyH_take (i:=7) (oi:=?_) (v:=?_) ?_ (by kernel_rfl) (by kernel_rfl) (by kernel_rfl) ?_ (Or.inl ⟨?_,?_⟩) (by assumption) ?_;rotate_left 2
 ·(simp only[List.getElem?_toArray,List.getElem?_cons_succ,List.getElem?_cons_zero];rfl)
 ·first | exact fun _ _ _ h=>h | exact fun _ _ _ h=>by cases h.1
 ·rfl
 ·((intro wq hSq;(try dsimp only at hSq);go_simp);(try with_reducible rfl))
 try simp only[Act.put,List.setIfInBounds_toArray,List.set_cons_zero,List.set_cons_succ]
 refine wpAnyH_take (i:=8) (oi:=?_) (v:=?_) ?_ (by kernel_rfl) (by kernel_rfl) (by kernel_rfl) ?_ (Or.inl ⟨?_,?_⟩) (by assumption) ?_;rotate_left 2
 ·(simp only[List.getElem?_toArray,List.getElem?_cons_succ,List.getElem?_cons_zero];rfl)
 ·first | exact fun _ _ _ h=>h | exact fun _ _ _ h=>by cases h.1
 ·rfl
 ·((intro wq hSq;(try dsimp only at hSq);go_simp);(try with_reducible rfl))
 try simp only[Act.put,List.setIfInBounds_toArray,List.set_cons_zero,List.set_cons_succ]
 refine wpAnyH_take (i:=9) (oi:=?_) (v:=?_) ?_ (by kernel_rfl) (by kernel_rfl) (by kernel_rfl) ?_ (Or.inl ⟨?_,?_⟩) (by assumption) ?_;rotate_left 2
 ·(simp only[List.getElem?_toArray,List.getElem?_cons_succ,List.getElem?_cons_zero];rfl)
 ·first | exact fun _ _ _ h=>h | exact fun _ _ _ h=>by cases h.1
 ·rfl
 ·((intro wq hSq;(try dsimp only at hSq);go_simp);(try with_reducible rfl))
 try simp only[Act.put,List.setIfInBounds_toArray,List.set_cons_zero,List.set_cons_succ]
 refine wpAnyH_take (i:=10) (oi:=?_) (v:=?_) ?_ (by kernel_rfl) (by kernel_rfl) (by kernel_rfl) ?_ (Or.inl ⟨?_,?_⟩) (by assumption) ?_;rotate_left 2
 ·(simp only[List.getElem?_toArray,List.getElem?_cons_succ,List.getElem?_cons_zero];rfl)
 ·first | exact fun _ _ _ h=>h | exact fun _ _ _ h=>by cases h.1
 ·rfl
 ·((intro wq hSq;(try dsimp only at hSq);go_simp);(try with_reducible rfl))
 try simp only[Act.put,List.setIfInBounds_toArray,List.set_cons_zero,List.set_cons_succ]
 refine dnH ?_;clear hSd;go_wp2_with fail;go_ret;exact⟨rfl,HB.out.trans (hHeld.1.mono (by have:=HB.out.size;omega))⟩
theorem fourLay_o (o:Ob) (ho:o.Ok) (hk:o.k=1) (l:List Int) (B:Nat) (w:World) (hl:o.ni=l.length) (hI:Ws w B o.I l) (hB:B≤w.heap.size):Calls Tryz.prog 66 #[.agg (obA o)] w (LayR w (layZ o l)):=by
 have hs:=fun W=>fourSize_o o ho hk W
 by_cases h:fourR o
 ·have hsz:=sizeZ_four h;obtain⟨q1,q2,q3,q4⟩:=four_bd h;have hlw:(l.length:Int)=o.wd:=by unfold fourR wordsR at h;omega
  obtain⟨N,hN⟩:∃ N:Nat,sizeZ o=N:=⟨(sizeZ o).toNat,by omega⟩;obtain⟨D,hD⟩:∃ D:Nat,(4:Int)=D:=⟨(4:Int).toNat,by omega⟩;have hDN:D+l.length≤N:=by omega
  have hDlt:D<N:=by omega
  have hst:o.st=0:=by unfold fourR at h;exact h.2.2.2.1
  have hoff:offZ o=D:=by unfold offZ slotZ;rw[head_four hk,if_neg (by omega)];omega
  have hL:layZ o l=spl (zs N) D l:=by unfold layZ layB;rw[if_pos (.inl h),if_neg (by omega),hN,hoff,Int.toNat_natCast,Int.toNat_natCast];rw[hst,zs_set]
  rw[hL];rw[hN] at hs;have g1:D<N:=hDlt;have g2:0<N:=by omega
  have g3:N≤300:=by omega
  have g4:¬ N=D:=by omega
  have g6:D≤N:=by omega
  have g7:(D:Int)≤(N:Int):=by omega
  have hNl:=hid hDN;have hl0:=hid (show l≠[] by intro hh;rw[hh] at hlw;simp at hlw;omega);have hZN:=hid (show(zs N).length=N by simp[zs]);have hmk:=fun W=>mkW N g3 W
  have hl2:=hid hl;have HI:=hid hI;have HBw:=hid hB;have HWF:=hid (wf_spl (Z:=(zs N)) D (wf_zs N) hI.2);unfold obA at hs;have HS:=hid hs;clear hL h hk hsz q1 q2 q3 q4 hlw hN hoff ho hl hs hI hB hDN hDlt hst;have hD4:(4:Nat)=D:=by omega
  clear hD;subst hD4;have g8:(4:Int)≤(N:Int):=by omega
  clear g7;have hn:=ObX.new w o;have hB:=(Below.refl w.heap.size w).alloc (Nat.le_refl _) (.cells (obA o) 26);unfold obA at *;have HN:=hid hn;have HB:=hid hB;clear hn hB;go_enter Tryz.func66,Tryz.ntmps66;go_wp2_with fail;refine(HS.out _).mono ?_;rintro e w1 ⟨rfl,hb1⟩;have ho1:=ObX.kept HN.out hb1;have hB1:=HB.out.trans (hb1.mono (by have:=HB.out.size;omega));have hn1:=HN.out.lt;have hs1:w.heap.size+1≤w1.heap.size:=by have:=hb1.size;simp at this;omega
  have hnew:=RowB.new w1 (wsA (zs N)) 22;have hbb:=(Below.refl w1.heap.size w1).alloc (Nat.le_refl _) (.cells (wsA (zs N)) 22);have hsz2:(w1.alloc (.cells (wsA (zs N)) 22)).heap.size=w1.heap.size+1:=by rw[World.size_alloc]
  obtain⟨W2,hW2⟩:∃ W2,w1.alloc (.cells (wsA (zs N)) 22)=W2:=⟨_,rfl⟩;rw[hW2] at hnew hbb hsz2;obtain⟨b,hb⟩:∃ b,w1.heap.size=b:=⟨_,rfl⟩;obtain⟨n,hn0⟩:∃ n,w.heap.size=n:=⟨_,rfl⟩;have ho2:=ho1.kept hbb;have hB2:=hB1.trans (hbb.mono (by omega));rw[hn0] at ho1 ho2 hs1 hB2 ⊢;rw[hb] at hnew hbb hs1 hsz2;have HO:=hid ho2;have HR:=hid hnew;have HB2:=hid hB2;have HB1:=hid hB1;clear hb1 ho1 ho2 hnew hbb hB1 hB2;go_wp2_with fail;have hSd:(fun w':World=>Below b W2 w'∧w'.cell? ⟨n,0,none⟩=some (.int .i64 o.k)∧w'.cell? ⟨n,1,none⟩=some (.int .i64 o.wd)∧w'.cell? ⟨n,2,none⟩=some (.int .i64 o.s)∧w'.cell? ⟨n,3,none⟩=some (.int .i64 o.c)∧w'.cell? ⟨n,4,none⟩=some (.int .u32 o.st)∧w'.cell? ⟨n,5,none⟩=some (.slice o.I o.ni o.ci)∧w'.cell? ⟨n,6,none⟩=some (.int .i64 o.wr)∧w'.cell? ⟨n,7,none⟩=some (.slice o.R o.nr o.cr)) W2.drew:=⟨(Below.refl _ W2).drew,(ObX.kept HO.out (Below.refl _ W2).drew).cells⟩;have hrow:RowB W2.drew b (wsA (zs N)) 22:=HR.out.kept (Below.refl _ W2).drew;have hI:Ws W2.drew B o.I l:=(HI.out.below (HB2.out.mono (by have:=HBw.out;omega)) (Nat.le_refl _)).below (Below.refl _ W2).drew (Nat.le_refl _);refine wp_region_held_drew (S:=(fun w':World=>Below b W2 w'∧w'.cell? ⟨n,0,none⟩=some (.int .i64 o.k)∧w'.cell? ⟨n,1,none⟩=some (.int .i64 o.wd)∧w'.cell? ⟨n,2,none⟩=some (.int .i64 o.s)∧w'.cell? ⟨n,3,none⟩=some (.int .i64 o.c)∧w'.cell? ⟨n,4,none⟩=some (.int .u32 o.st)∧w'.cell? ⟨n,5,none⟩=some (.slice o.I o.ni o.ci)∧w'.cell? ⟨n,6,none⟩=some (.int .i64 o.wr)∧w'.cell? ⟨n,7,none⟩=some (.slice o.R o.nr o.cr))) (by kernel_rfl) hSd (fun hHeld=>?_);generalize W2.drew=wd at hHeld hrow hI ⊢;have hHeld:(fun w':World=>Below b W2 w'∧w'.cell? ⟨n,0,none⟩=some (.int .i64 o.k)∧w'.cell? ⟨n,1,none⟩=some (.int .i64 o.wd)∧w'.cell? ⟨n,2,none⟩=some (.int .i64 o.s)∧w'.cell? ⟨n,3,none⟩=some (.int .i64 o.c)∧w'.cell? ⟨n,4,none⟩=some (.int .u32 o.st)∧w'.cell? ⟨n,5,none⟩=some (.slice o.I o.ni o.ci)∧w'.cell? ⟨n,6,none⟩=some (.int .i64 o.wr)∧w'.cell? ⟨n,7,none⟩=some (.slice o.R o.nr o.cr)) wd:=hHeld;replace hrow:=hid hrow;replace hI:=hid hI;refine wpAnyH_take (i:=0) (oi:=?_) (v:=?_) ?_ (by kernel_rfl) (by kernel_rfl) (by kernel_rfl) ?_ (Or.inl ⟨?_,?_⟩) (by assumption) ?_;rotate_left 2
  ·(simp only[List.getElem?_toArray,List.getElem?_cons_zero];rfl)
  ·first | exact fun _ _ _ h=>h | exact fun _ _ _ h=>by cases h.1
  ·rfl
  ·((intro wq hSq;(try dsimp only at hSq);go_simp);(try with_reducible rfl))
  try simp only[Act.put,List.setIfInBounds_toArray,List.set_cons_zero,List.set_cons_succ]
  refine wpAnyH_take (i:=1) (oi:=?_) (v:=?_) ?_ (by kernel_rfl) (by kernel_rfl) (by kernel_rfl) ?_ (Or.inl ⟨?_,?_⟩) (by assumption) ?_;rotate_left 2
  ·(simp only[List.getElem?_toArray,List.getElem?_cons_succ,List.getElem?_cons_zero];rfl)
  ·first | exact fun _ _ _ h=>h | exact fun _ _ _ h=>by cases h.1
  ·rfl
  ·((intro wq hSq;(try dsimp only at hSq);go_simp);(try with_reducible rfl))
  try simp only[Act.put,List.setIfInBounds_toArray,List.set_cons_zero,List.set_cons_succ]
  refine wpAnyH_take (i:=2) (oi:=?_) (v:=?_) ?_ (by kernel_rfl) (by kernel_rfl) (by kernel_rfl) ?_ (Or.inl ⟨?_,?_⟩) (by assumption) ?_;rotate_left 2
  ·(simp only[List.getElem?_toArray,List.getElem?_cons_succ,List.getElem?_cons_zero];rfl)
  ·first | exact fun _ _ _ h=>h | exact fun _ _ _ h=>by cases h.1
  ·rfl
  ·((intro wq hSq;(try dsimp only at hSq);go_simp);(try with_reducible rfl))
  try simp only[Act.put,List.setIfInBounds_toArray,List.set_cons_zero,List.set_cons_succ]
  refine wpAnyH_take (i:=3) (oi:=?_) (v:=?_) ?_ (by kernel_rfl) (by kernel_rfl) (by kernel_rfl) ?_ (Or.inl ⟨?_,?_⟩) (by assumption) ?_;rotate_left 2
  ·(simp only[List.getElem?_toArray,List.getElem?_cons_succ,List.getElem?_cons_zero];rfl)
  ·first | exact fun _ _ _ h=>h | exact fun _ _ _ h=>by cases h.1
  ·rfl
  ·((intro wq hSq;(try dsimp only at hSq);go_simp);(try with_reducible rfl))
  try simp only[Act.put,List.setIfInBounds_toArray,List.set_cons_zero,List.set_cons_succ]
  have hcp:=copyW (off:=4) (dL:=N - 4) (dC:=N - 4) (ci:=o.ci) hl2.out hrow.out hI.out hl0.out hZN.out hNl.out (by have:=hNl.out;omega);refine rdH [4] ?_;refine cnH (fun K hK=>?_) AllReadyH.nil;go_simp
  have hSx:(fun w':World=>Below b W2 w'∧w'.cell? ⟨n,0,none⟩=some (.int .i64 o.k)∧w'.cell? ⟨n,1,none⟩=some (.int .i64 o.wd)∧w'.cell? ⟨n,2,none⟩=some (.int .i64 o.s)∧w'.cell? ⟨n,3,none⟩=some (.int .i64 o.c)∧w'.cell? ⟨n,4,none⟩=some (.int .u32 o.st)∧w'.cell? ⟨n,5,none⟩=some (.slice o.I o.ni o.ci)∧w'.cell? ⟨n,6,none⟩=some (.int .i64 o.wr)∧w'.cell? ⟨n,7,none⟩=some (.slice o.R o.nr o.cr)) (wd.setRow b (wsA (spl (zs N) 4 l))):=by
   obtain⟨h0,u0,u1,u2,u3,u4,u5,u6,u7⟩:=hHeld;have hnb:n≠b:=by omega
   simp only[cell_row _ _ hnb];exact⟨below_setRow h0 b _ (Nat.le_refl _),u0,u1,u2,u3,u4,u5,u6,u7⟩
  refine hK.out _ _ hSx (fun hHeld=>?_);clear hK K;try simp only[Act.put,List.setIfInBounds_toArray,List.set_cons_zero,List.set_cons_succ]
  refine dnH ?_;clear hSd;go_wp2_with fail;go_ret;exact LayR.row hrow.out.row (by rw[spl_len (by rw[hZN.out];exact hNl.out)];exact hZN.out) g3 HWF.out (by rw[hn0];exact HB2.out.trans (hHeld.1.mono (by omega)))
 ·have hna:¬ anyR o:=fun q=>h (of_decide_eq_true ((any_four hk).symm.trans (decide_eq_true q)))
  have hL:layZ o l=[]:=by unfold layZ;rw[if_neg hna]
  have hz:=sizeZ_no hna;rw[hL];rw[hz] at hs;obtain⟨N,hN⟩:∃ N:Nat,N=0:=⟨_,rfl⟩;have hs2:∀ W,_:=fun W=>hs W
  have hmk:=mkW0;unfold obA at hs;have HS:=hid hs;clear hL hz hs hs2 hna h hk ho hI hl hB hN;have hn:=ObX.new w o;have hB:=(Below.refl w.heap.size w).alloc (Nat.le_refl _) (.cells (obA o) 26);unfold obA at *;have HN:=hid hn;have HB:=hid hB;clear hn hB;go_enter Tryz.func66,Tryz.ntmps66;go_wp2_with fail;refine(HS.out _).mono ?_;rintro e w1 ⟨rfl,hb1⟩;have hB1:=HB.out.trans (hb1.mono (by have:=HB.out.size;omega));have HB1:=hid hB1;have hs1:w.heap.size≤w1.heap.size:=by have:=hb1.size;simp at this;omega
  clear hB1 hb1;go_wp2_with fail;go_ret;exact LayR.row (L:=[]) (RowB.new w1 (wsA (zs 0)) 22) rfl (by omega) (fun z hz=>by cases hz) (HB1.out.alloc hs1 _)
theorem chenLay_o (o:Ob) (ho:o.Ok) (hk:o.k=2) (l:List Int) (B:Nat) (w:World) (hl:o.ni=l.length) (hI:Ws w B o.I l) (hB:B≤w.heap.size):Calls Tryz.prog 67 #[.agg (obA o)] w (LayR w (layZ o l)):=by
 have hs:=fun W=>chenSize_o o ho hk W
 by_cases h:chenR o
 ·have hsz:=sizeZ_chen h;obtain⟨q1,q2,q3,q4⟩:=chen_bd h;have hlw:(l.length:Int)=o.wd:=by unfold chenR wordsR at h;omega
  have m2:=mul_bd (a:=(o.nr:Int)+2) (b:=o.wd) (by omega) (by omega) (by omega) (by omega);obtain⟨N,hN⟩:∃ N:Nat,sizeZ o=N:=⟨(sizeZ o).toNat,by omega⟩;obtain⟨D,hD⟩:∃ D:Nat,(1+o.nr:Int)=D:=⟨(1+o.nr:Int).toNat,by omega⟩;have mm:2*o.wd≤((o.nr:Int)+2)*o.wd:=Int.mul_le_mul_of_nonneg_right (by omega) (by omega);have hDN:D+l.length≤N:=by omega
  have hDlt:D<N:=by omega
  have hst:o.st=0:=by unfold chenR at h;exact h.2.2.2
  have hoff:offZ o=D:=by unfold offZ slotZ;rw[head_chen hk,if_neg (by omega)];omega
  have hL:layZ o l=spl (zs N) D l:=by unfold layZ layB;rw[if_pos (.inr (.inl h)),if_neg (by omega),hN,hoff,Int.toNat_natCast,Int.toNat_natCast];rw[hst,zs_set]
  rw[hL];rw[hN] at hs;have hc:=fun W=>chenData_o o q4 W
  rw[hD] at hc;unfold obA at hc;have HC:=hid hc;clear hc;have g1:D<N:=hDlt;have g2:0<N:=by omega
  have g3:N≤300:=by omega
  have g4:¬ N=D:=by omega
  have g6:D≤N:=by omega
  have g7:(D:Int)≤(N:Int):=by omega
  have hNl:=hid hDN;have hl0:=hid (show l≠[] by intro hh;rw[hh] at hlw;simp at hlw;omega);have hZN:=hid (show(zs N).length=N by simp[zs]);have hmk:=fun W=>mkW N g3 W
  have hl2:=hid hl;have HI:=hid hI;have HBw:=hid hB;have HWF:=hid (wf_spl (Z:=(zs N)) D (wf_zs N) hI.2);unfold obA at hs;have HS:=hid hs;clear hL h hk hsz q1 q2 q3 q4 hlw hN hoff ho hl hs hI hB hDN hDlt hst mm m2;have hD2:=hid hD;clear hD;have hn:=ObX.new w o;have hB:=(Below.refl w.heap.size w).alloc (Nat.le_refl _) (.cells (obA o) 26);unfold obA at *;have HN:=hid hn;have HB:=hid hB;clear hn hB;go_enter Tryz.func67,Tryz.ntmps67;go_wp2_with fail;refine(HS.out _).mono ?_;rintro e w1 ⟨rfl,hb1⟩;have ho1:=ObX.kept HN.out hb1;have hB1:=HB.out.trans (hb1.mono (by have:=HB.out.size;omega));have hn1:=HN.out.lt;have hs1:w.heap.size+1≤w1.heap.size:=by have:=hb1.size;simp at this;omega
  have hnew:=RowB.new w1 (wsA (zs N)) 22;have hbb:=(Below.refl w1.heap.size w1).alloc (Nat.le_refl _) (.cells (wsA (zs N)) 22);have hsz2:(w1.alloc (.cells (wsA (zs N)) 22)).heap.size=w1.heap.size+1:=by rw[World.size_alloc]
  obtain⟨W2,hW2⟩:∃ W2,w1.alloc (.cells (wsA (zs N)) 22)=W2:=⟨_,rfl⟩;rw[hW2] at hnew hbb hsz2;obtain⟨b,hb⟩:∃ b,w1.heap.size=b:=⟨_,rfl⟩;obtain⟨n,hn0⟩:∃ n,w.heap.size=n:=⟨_,rfl⟩;have ho2:=ho1.kept hbb;have hB2:=hB1.trans (hbb.mono (by omega));rw[hn0] at ho1 ho2 hs1 hB2 ⊢;rw[hb] at hnew hbb hs1 hsz2;have HO:=hid ho2;have HR:=hid hnew;have HB2:=hid hB2;have HB1:=hid hB1;clear hb1 ho1 ho2 hnew hbb hB1 hB2;go_wp2_with fail;have hSd:(fun w':World=>Below b W2 w'∧w'.cell? ⟨n,0,none⟩=some (.int .i64 o.k)∧w'.cell? ⟨n,1,none⟩=some (.int .i64 o.wd)∧w'.cell? ⟨n,2,none⟩=some (.int .i64 o.s)∧w'.cell? ⟨n,3,none⟩=some (.int .i64 o.c)∧w'.cell? ⟨n,4,none⟩=some (.int .u32 o.st)∧w'.cell? ⟨n,5,none⟩=some (.slice o.I o.ni o.ci)∧w'.cell? ⟨n,6,none⟩=some (.int .i64 o.wr)∧w'.cell? ⟨n,7,none⟩=some (.slice o.R o.nr o.cr)) W2.drew:=⟨(Below.refl _ W2).drew,(ObX.kept HO.out (Below.refl _ W2).drew).cells⟩;have hrow:RowB W2.drew b (wsA (zs N)) 22:=HR.out.kept (Below.refl _ W2).drew;have hI:Ws W2.drew B o.I l:=(HI.out.below (HB2.out.mono (by have:=HBw.out;omega)) (Nat.le_refl _)).below (Below.refl _ W2).drew (Nat.le_refl _);refine wp_region_held_drew (S:=(fun w':World=>Below b W2 w'∧w'.cell? ⟨n,0,none⟩=some (.int .i64 o.k)∧w'.cell? ⟨n,1,none⟩=some (.int .i64 o.wd)∧w'.cell? ⟨n,2,none⟩=some (.int .i64 o.s)∧w'.cell? ⟨n,3,none⟩=some (.int .i64 o.c)∧w'.cell? ⟨n,4,none⟩=some (.int .u32 o.st)∧w'.cell? ⟨n,5,none⟩=some (.slice o.I o.ni o.ci)∧w'.cell? ⟨n,6,none⟩=some (.int .i64 o.wr)∧w'.cell? ⟨n,7,none⟩=some (.slice o.R o.nr o.cr))) (by kernel_rfl) hSd (fun hHeld=>?_);generalize W2.drew=wd at hHeld hrow hI ⊢;have hHeld:(fun w':World=>Below b W2 w'∧w'.cell? ⟨n,0,none⟩=some (.int .i64 o.k)∧w'.cell? ⟨n,1,none⟩=some (.int .i64 o.wd)∧w'.cell? ⟨n,2,none⟩=some (.int .i64 o.s)∧w'.cell? ⟨n,3,none⟩=some (.int .i64 o.c)∧w'.cell? ⟨n,4,none⟩=some (.int .u32 o.st)∧w'.cell? ⟨n,5,none⟩=some (.slice o.I o.ni o.ci)∧w'.cell? ⟨n,6,none⟩=some (.int .i64 o.wr)∧w'.cell? ⟨n,7,none⟩=some (.slice o.R o.nr o.cr)) wd:=hHeld;replace hrow:=hid hrow;replace hI:=hid hI;refine wpAnyH_take (i:=0) (oi:=?_) (v:=?_) ?_ (by kernel_rfl) (by kernel_rfl) (by kernel_rfl) ?_ (Or.inl ⟨?_,?_⟩) (by assumption) ?_;rotate_left 2
  ·(simp only[List.getElem?_toArray,List.getElem?_cons_zero];rfl)
  ·first | exact fun _ _ _ h=>h | exact fun _ _ _ h=>by cases h.1
  ·rfl
  ·((intro wq hSq;(try dsimp only at hSq);go_simp);(try with_reducible rfl))
  try simp only[Act.put,List.setIfInBounds_toArray,List.set_cons_zero,List.set_cons_succ]
  refine wpAnyH_take (i:=1) (oi:=?_) (v:=?_) ?_ (by kernel_rfl) (by kernel_rfl) (by kernel_rfl) ?_ (Or.inl ⟨?_,?_⟩) (by assumption) ?_;rotate_left 2
  ·(simp only[List.getElem?_toArray,List.getElem?_cons_succ,List.getElem?_cons_zero];rfl)
  ·first | exact fun _ _ _ h=>h | exact fun _ _ _ h=>by cases h.1
  ·rfl
  ·((intro wq hSq;(try dsimp only at hSq);go_simp);(try with_reducible rfl))
  try simp only[Act.put,List.setIfInBounds_toArray,List.set_cons_zero,List.set_cons_succ]
  refine wpAnyH_take (i:=4) (oi:=?_) (v:=?_) ?_ (by kernel_rfl) (by kernel_rfl) (by kernel_rfl) ?_ (Or.inl ⟨?_,?_⟩) (by assumption) ?_;rotate_left 2
  ·(simp only[List.getElem?_toArray,List.getElem?_cons_succ,List.getElem?_cons_zero];rfl)
  ·first | exact fun _ _ _ h=>h | exact fun _ _ _ h=>by cases h.1
  ·rfl
  ·((intro wq hSq;(try dsimp only at hSq);go_simp);(try with_reducible rfl))
  try simp only[Act.put,List.setIfInBounds_toArray,List.set_cons_zero,List.set_cons_succ]
  refine wpAnyH_take (i:=5) (oi:=?_) (v:=?_) ?_ (by kernel_rfl) (by kernel_rfl) (by kernel_rfl) ?_ (Or.inl ⟨?_,?_⟩) (by assumption) ?_;rotate_left 2
  ·(simp only[List.getElem?_toArray,List.getElem?_cons_succ,List.getElem?_cons_zero];rfl)
  ·first | exact fun _ _ _ h=>h | exact fun _ _ _ h=>by cases h.1
  ·rfl
  ·((intro wq hSq;(try dsimp only at hSq);go_simp);(try with_reducible rfl))
  try simp only[Act.put,List.setIfInBounds_toArray,List.set_cons_zero,List.set_cons_succ]
  refine rdH [2] ?_;refine cnH (fun K hK=>?_) AllReadyH.nil;go_simp;refine(HC.out _).mono ?_;rintro ex wx ⟨rfl,hbx⟩
  have hSx:(fun w':World=>Below b W2 w'∧w'.cell? ⟨n,0,none⟩=some (.int .i64 o.k)∧w'.cell? ⟨n,1,none⟩=some (.int .i64 o.wd)∧w'.cell? ⟨n,2,none⟩=some (.int .i64 o.s)∧w'.cell? ⟨n,3,none⟩=some (.int .i64 o.c)∧w'.cell? ⟨n,4,none⟩=some (.int .u32 o.st)∧w'.cell? ⟨n,5,none⟩=some (.slice o.I o.ni o.ci)∧w'.cell? ⟨n,6,none⟩=some (.int .i64 o.wr)∧w'.cell? ⟨n,7,none⟩=some (.slice o.R o.nr o.cr)) wx:=by
   obtain⟨h0,u0,u1,u2,u3,u4,u5,u6,u7⟩:=hHeld;have hk:∀ {i:Nat} {u:Value},_→wx.cell? ⟨n,i,none⟩=some u:=fun {i u} hc=>(hbx.cell (p:=⟨n,i,none⟩) (cell_lt hc)).trans hc
   exact⟨h0.trans (hbx.mono (by have:=h0.size;omega)),hk u0,hk u1,hk u2,hk u3,hk u4,hk u5,hk u6,hk u7⟩
  replace hrow:=hid (hrow.out.kept hbx);replace hI:=hid (hI.out.below (hbx.mono (by have:=hHeld.1.size;have:=HB2.out.size;have:=HBw.out;omega)) (Nat.le_refl _));clear hbx;refine hK.out _ _ hSx (fun hHeld=>?_);clear hK K;try simp only[Act.put,List.setIfInBounds_toArray,List.set_cons_zero,List.set_cons_succ]
  refine wpAnyH_take (i:=3) (oi:=?_) (v:=?_) ?_ (by kernel_rfl) (by kernel_rfl) (by kernel_rfl) ?_ (Or.inl ⟨?_,?_⟩) (by assumption) ?_;rotate_left 2
  ·(simp only[List.getElem?_toArray,List.getElem?_cons_succ,List.getElem?_cons_zero];rfl)
  ·first | exact fun _ _ _ h=>h | exact fun _ _ _ h=>by cases h.1
  ·rfl
  ·((intro wq hSq;(try dsimp only at hSq);go_simp);(try with_reducible rfl))
  try simp only[Act.put,List.setIfInBounds_toArray,List.set_cons_zero,List.set_cons_succ]
  have hcp:=copyW (off:=D) (dL:=N - D) (dC:=N - D) (ci:=o.ci) hl2.out hrow.out hI.out hl0.out hZN.out hNl.out (by have:=hNl.out;omega);refine rdH [6] ?_;refine cnH (fun K hK=>?_) AllReadyH.nil;go_simp
  have hSx:(fun w':World=>Below b W2 w'∧w'.cell? ⟨n,0,none⟩=some (.int .i64 o.k)∧w'.cell? ⟨n,1,none⟩=some (.int .i64 o.wd)∧w'.cell? ⟨n,2,none⟩=some (.int .i64 o.s)∧w'.cell? ⟨n,3,none⟩=some (.int .i64 o.c)∧w'.cell? ⟨n,4,none⟩=some (.int .u32 o.st)∧w'.cell? ⟨n,5,none⟩=some (.slice o.I o.ni o.ci)∧w'.cell? ⟨n,6,none⟩=some (.int .i64 o.wr)∧w'.cell? ⟨n,7,none⟩=some (.slice o.R o.nr o.cr)) (wx.setRow b (wsA (spl (zs N) D l))):=by
   obtain⟨h0,u0,u1,u2,u3,u4,u5,u6,u7⟩:=hHeld;have hnb:n≠b:=by omega
   simp only[cell_row _ _ hnb];exact⟨below_setRow h0 b _ (Nat.le_refl _),u0,u1,u2,u3,u4,u5,u6,u7⟩
  refine hK.out _ _ hSx (fun hHeld=>?_);clear hK K;try simp only[Act.put,List.setIfInBounds_toArray,List.set_cons_zero,List.set_cons_succ]
  refine dnH ?_;clear hSd;go_wp2_with fail;go_ret;exact LayR.row hrow.out.row (by rw[spl_len (by rw[hZN.out];exact hNl.out)];exact hZN.out) g3 HWF.out (by rw[hn0];exact HB2.out.trans (hHeld.1.mono (by omega)))
 ·have hna:¬ anyR o:=fun q=>h (of_decide_eq_true ((any_chen hk).symm.trans (decide_eq_true q)))
  have hL:layZ o l=[]:=by unfold layZ;rw[if_neg hna]
  have hz:=sizeZ_no hna;rw[hL];rw[hz] at hs;obtain⟨N,hN⟩:∃ N:Nat,N=0:=⟨_,rfl⟩;have hs2:∀ W,_:=fun W=>hs W
  have hmk:=mkW0;unfold obA at hs;have HS:=hid hs;clear hL hz hs hs2 hna h hk ho hI hl hB hN;have hn:=ObX.new w o;have hB:=(Below.refl w.heap.size w).alloc (Nat.le_refl _) (.cells (obA o) 26);unfold obA at *;have HN:=hid hn;have HB:=hid hB;clear hn hB;go_enter Tryz.func67,Tryz.ntmps67;go_wp2_with fail;refine(HS.out _).mono ?_;rintro e w1 ⟨rfl,hb1⟩;have hB1:=HB.out.trans (hb1.mono (by have:=HB.out.size;omega));have HB1:=hid hB1;have hs1:w.heap.size≤w1.heap.size:=by have:=hb1.size;simp at this;omega
  clear hB1 hb1;go_wp2_with fail;go_ret;exact LayR.row (L:=[]) (RowB.new w1 (wsA (zs 0)) 22) rfl (by omega) (fun z hz=>by cases hz) (HB1.out.alloc hs1 _)
theorem ringLay_o (o:Ob) (ho:o.Ok) (hk:o.k=4) (l:List Int) (B:Nat) (w:World) (hl:o.ni=l.length) (hI:Ws w B o.I l) (hB:B≤w.heap.size):Calls Tryz.prog 69 #[.agg (obA o)] w (LayR w (layZ o l)):=by
 have hs:=fun W=>ringSize_o o ho hk W
 by_cases h:ringR o
 ·have hsz:=sizeZ_ring h;obtain⟨q1,q2,q3,q4,q5,q6,q7,q8⟩:=ring_bd h;have hlw:(l.length:Int)=o.wd:=by unfold ringR wordsR at h;omega
  have p0:=Int.emod_nonneg o.st (show o.s≠0 by omega);have p1:=Int.emod_lt_of_pos o.st (show 0<o.s by omega);have m:=mul_bd (a:=o.st%o.s) (b:=o.wd) (by omega) (by omega) (by omega) (by omega);have m2:=mul_bd (a:=o.s) (b:=o.wd) (by omega) (by omega) (by omega) (by omega);obtain⟨N,hN⟩:∃ N:Nat,sizeZ o=N:=⟨(sizeZ o).toNat,by omega⟩;obtain⟨D,hD⟩:∃ D:Nat,(1+(o.st%o.s)*o.wd:Int)=D:=⟨(1+(o.st%o.s)*o.wd:Int).toNat,by omega⟩;have mm:(o.st%o.s)*o.wd+o.wd≤o.s*o.wd:=by have:=Int.mul_le_mul_of_nonneg_right (show o.st%o.s+1≤o.s by omega) (show 0≤o.wd by omega);rw[Int.add_mul] at this;omega
  have hDN:D+l.length≤N:=by omega
  have hDlt:D<N:=by omega
  have hoff:offZ o=D:=by unfold offZ slotZ;rw[head_ring hk,if_pos hk];omega
  have hL:layZ o l=spl ((zs N).set 0 o.st) D l:=by unfold layZ layB;rw[if_pos (.inr (.inr (.inr (.inl h)))),if_neg (by omega),hN,hoff,Int.toNat_natCast,Int.toNat_natCast]
  rw[hL];rw[hN] at hs;have hc:=fun W=>ringFrom_o o ho h W
  rw[hD] at hc;unfold obA at hc;have HC:=hid hc;clear hc;have g1:D<N:=hDlt;have g2:0<N:=by omega
  have g3:N≤300:=by omega
  have g4:¬ N=D:=by omega
  have g6:D≤N:=by omega
  have g7:(D:Int)≤(N:Int):=by omega
  have hNl:=hid hDN;have hl0:=hid (show l≠[] by intro hh;rw[hh] at hlw;simp at hlw;omega);have hZN:=hid (show((zs N).set 0 o.st).length=N by simp[zs]);have hmk:=fun W=>mkW N g3 W
  have hl2:=hid hl;have HI:=hid hI;have HBw:=hid hB;have HWF:=hid (wf_spl (Z:=((zs N).set 0 o.st)) D (wf_set 0 (wf_zs N) (wf_st ho)) hI.2);have HZ0:=hid (show(wsA (zs N))[0]?=some (.int .u32 0) by rw[wsA_get,zs,List.getElem?_replicate,if_pos g2];rfl);unfold obA at hs;have HS:=hid hs;clear hL h hk hsz q1 q2 q3 q4 q5 q6 q7 q8 hlw hN hoff ho hl hs hI hB hDN hDlt mm m m2 p0 p1;have hD2:=hid hD;clear hD;have hn:=ObX.new w o;have hB:=(Below.refl w.heap.size w).alloc (Nat.le_refl _) (.cells (obA o) 26);unfold obA at *;have HN:=hid hn;have HB:=hid hB;clear hn hB;go_enter Tryz.func69,Tryz.ntmps69;go_wp2_with fail;refine(HS.out _).mono ?_;rintro e w1 ⟨rfl,hb1⟩;have ho1:=ObX.kept HN.out hb1;have hB1:=HB.out.trans (hb1.mono (by have:=HB.out.size;omega));have hn1:=HN.out.lt;have hs1:w.heap.size+1≤w1.heap.size:=by have:=hb1.size;simp at this;omega
  have hnew:=RowB.new w1 (wsA (zs N)) 22;have hbb:=(Below.refl w1.heap.size w1).alloc (Nat.le_refl _) (.cells (wsA (zs N)) 22);have hsz2:(w1.alloc (.cells (wsA (zs N)) 22)).heap.size=w1.heap.size+1:=by rw[World.size_alloc]
  obtain⟨W2a,hW2⟩:∃ W2,w1.alloc (.cells (wsA (zs N)) 22)=W2:=⟨_,rfl⟩;rw[hW2] at hnew hbb hsz2;obtain⟨b,hb⟩:∃ b,w1.heap.size=b:=⟨_,rfl⟩;obtain⟨n,hn0⟩:∃ n,w.heap.size=n:=⟨_,rfl⟩;have ho2:=ho1.kept hbb;have hB2:=hB1.trans (hbb.mono (by omega));rw[hn0] at ho1 ho2 hs1 hB2 ⊢;rw[hb] at hnew hbb hs1 hsz2;have HO:=hid ho2;have HR:=hid hnew;have HB2:=hid hB2;have HB1:=hid hB1;clear hb1 ho1 ho2 hnew hbb hB1 hB2;have c0:W2a.cell? ⟨b,0,none⟩=some (.int .u32 0):=(HR.out.cell 0).trans HZ0.out;have f0:W2a.frozen? ⟨b,0,none⟩=false:=HR.out.frozen 0;have hr3:=HR.out.set 0 (.int .u32 o.st);rw[wsA_set] at hr3;have ho3:ObX (W2a.setCell ⟨b,0,none⟩ (.int .u32 o.st)) n o:=(heap_set W2a b 0 (.int .u32 o.st) n (by omega)).trans HO.out;have hB3:=below_set1 HB2.out b 0 (by omega) (.int .u32 o.st);have hsz3:=size_set W2a b 0 (.int .u32 o.st);obtain⟨d0,d1,d2,d3,d4,d5,d6,d7⟩:=HO.out.cells;obtain⟨W2,hW3⟩:∃ W,W2a.setCell ⟨b,0,none⟩ (.int .u32 o.st)=W:=⟨_,rfl⟩;rw[hW3] at hr3 ho3 hB3 hsz3;rw[hsz2] at hsz3;clear HR HO HB2;have HR:=hid hr3;have HO:=hid ho3;have HB2:=hid hB3;clear hr3 ho3 hB3;go_wp2_with fail;clear d0 d1 d2 d3 d4 d5 d6 d7 c0 f0;have hSd:(fun w':World=>Below b W2 w'∧w'.cell? ⟨n,0,none⟩=some (.int .i64 o.k)∧w'.cell? ⟨n,1,none⟩=some (.int .i64 o.wd)∧w'.cell? ⟨n,2,none⟩=some (.int .i64 o.s)∧w'.cell? ⟨n,3,none⟩=some (.int .i64 o.c)∧w'.cell? ⟨n,4,none⟩=some (.int .u32 o.st)∧w'.cell? ⟨n,5,none⟩=some (.slice o.I o.ni o.ci)∧w'.cell? ⟨n,6,none⟩=some (.int .i64 o.wr)∧w'.cell? ⟨n,7,none⟩=some (.slice o.R o.nr o.cr)) W2.drew:=⟨(Below.refl _ W2).drew,(ObX.kept HO.out (Below.refl _ W2).drew).cells⟩;have hrow:RowB W2.drew b (wsA ((zs N).set 0 o.st)) 22:=HR.out.kept (Below.refl _ W2).drew;have hI:Ws W2.drew B o.I l:=(HI.out.below (HB2.out.mono (by have:=HBw.out;omega)) (Nat.le_refl _)).below (Below.refl _ W2).drew (Nat.le_refl _);refine wp_region_held_drew (S:=(fun w':World=>Below b W2 w'∧w'.cell? ⟨n,0,none⟩=some (.int .i64 o.k)∧w'.cell? ⟨n,1,none⟩=some (.int .i64 o.wd)∧w'.cell? ⟨n,2,none⟩=some (.int .i64 o.s)∧w'.cell? ⟨n,3,none⟩=some (.int .i64 o.c)∧w'.cell? ⟨n,4,none⟩=some (.int .u32 o.st)∧w'.cell? ⟨n,5,none⟩=some (.slice o.I o.ni o.ci)∧w'.cell? ⟨n,6,none⟩=some (.int .i64 o.wr)∧w'.cell? ⟨n,7,none⟩=some (.slice o.R o.nr o.cr))) (by kernel_rfl) hSd (fun hHeld=>?_);generalize W2.drew=wd at hHeld hrow hI ⊢;have hHeld:(fun w':World=>Below b W2 w'∧w'.cell? ⟨n,0,none⟩=some (.int .i64 o.k)∧w'.cell? ⟨n,1,none⟩=some (.int .i64 o.wd)∧w'.cell? ⟨n,2,none⟩=some (.int .i64 o.s)∧w'.cell? ⟨n,3,none⟩=some (.int .i64 o.c)∧w'.cell? ⟨n,4,none⟩=some (.int .u32 o.st)∧w'.cell? ⟨n,5,none⟩=some (.slice o.I o.ni o.ci)∧w'.cell? ⟨n,6,none⟩=some (.int .i64 o.wr)∧w'.cell? ⟨n,7,none⟩=some (.slice o.R o.nr o.cr)) wd:=hHeld;replace hrow:=hid hrow;replace hI:=hid hI;refine wpAnyH_take (i:=0) (oi:=?_) (v:=?_) ?_ (by kernel_rfl) (by kernel_rfl) (by kernel_rfl) ?_ (Or.inl ⟨?_,?_⟩) (by assumption) ?_;rotate_left 2
  ·(simp only[List.getElem?_toArray,List.getElem?_cons_zero];rfl)
  ·first | exact fun _ _ _ h=>h | exact fun _ _ _ h=>by cases h.1
  ·rfl
  ·((intro wq hSq;(try dsimp only at hSq);go_simp);(try with_reducible rfl))
  try simp only[Act.put,List.setIfInBounds_toArray,List.set_cons_zero,List.set_cons_succ]
  refine wpAnyH_take (i:=1) (oi:=?_) (v:=?_) ?_ (by kernel_rfl) (by kernel_rfl) (by kernel_rfl) ?_ (Or.inl ⟨?_,?_⟩) (by assumption) ?_;rotate_left 2
  ·(simp only[List.getElem?_toArray,List.getElem?_cons_succ,List.getElem?_cons_zero];rfl)
  ·first | exact fun _ _ _ h=>h | exact fun _ _ _ h=>by cases h.1
  ·rfl
  ·((intro wq hSq;(try dsimp only at hSq);go_simp);(try with_reducible rfl))
  try simp only[Act.put,List.setIfInBounds_toArray,List.set_cons_zero,List.set_cons_succ]
  refine wpAnyH_take (i:=2) (oi:=?_) (v:=?_) ?_ (by kernel_rfl) (by kernel_rfl) (by kernel_rfl) ?_ (Or.inl ⟨?_,?_⟩) (by assumption) ?_;rotate_left 2
  ·(simp only[List.getElem?_toArray,List.getElem?_cons_succ,List.getElem?_cons_zero];rfl)
  ·first | exact fun _ _ _ h=>h | exact fun _ _ _ h=>by cases h.1
  ·rfl
  ·((intro wq hSq;(try dsimp only at hSq);go_simp);(try with_reducible rfl))
  try simp only[Act.put,List.setIfInBounds_toArray,List.set_cons_zero,List.set_cons_succ]
  refine wpAnyH_take (i:=3) (oi:=?_) (v:=?_) ?_ (by kernel_rfl) (by kernel_rfl) (by kernel_rfl) ?_ (Or.inl ⟨?_,?_⟩) (by assumption) ?_;rotate_left 2
  ·(simp only[List.getElem?_toArray,List.getElem?_cons_succ,List.getElem?_cons_zero];rfl)
  ·first | exact fun _ _ _ h=>h | exact fun _ _ _ h=>by cases h.1
  ·rfl
  ·((intro wq hSq;(try dsimp only at hSq);go_simp);(try with_reducible rfl))
  try simp only[Act.put,List.setIfInBounds_toArray,List.set_cons_zero,List.set_cons_succ]
  refine wpAnyH_take (i:=6) (oi:=?_) (v:=?_) ?_ (by kernel_rfl) (by kernel_rfl) (by kernel_rfl) ?_ (Or.inl ⟨?_,?_⟩) (by assumption) ?_;rotate_left 2
  ·(simp only[List.getElem?_toArray,List.getElem?_cons_succ,List.getElem?_cons_zero];rfl)
  ·first | exact fun _ _ _ h=>h | exact fun _ _ _ h=>by cases h.1
  ·rfl
  ·((intro wq hSq;(try dsimp only at hSq);go_simp);(try with_reducible rfl))
  try simp only[Act.put,List.setIfInBounds_toArray,List.set_cons_zero,List.set_cons_succ]
  refine wpAnyH_take (i:=7) (oi:=?_) (v:=?_) ?_ (by kernel_rfl) (by kernel_rfl) (by kernel_rfl) ?_ (Or.inl ⟨?_,?_⟩) (by assumption) ?_;rotate_left 2
  ·(simp only[List.getElem?_toArray,List.getElem?_cons_succ,List.getElem?_cons_zero];rfl)
  ·first | exact fun _ _ _ h=>h | exact fun _ _ _ h=>by cases h.1
  ·rfl
  ·((intro wq hSq;(try dsimp only at hSq);go_simp);(try with_reducible rfl))
  try simp only[Act.put,List.setIfInBounds_toArray,List.set_cons_zero,List.set_cons_succ]
  refine rdH [4] ?_;refine cnH (fun K hK=>?_) AllReadyH.nil;go_simp;refine(HC.out _).mono ?_;rintro ex wx ⟨rfl,hbx⟩
  have hSx:(fun w':World=>Below b W2 w'∧w'.cell? ⟨n,0,none⟩=some (.int .i64 o.k)∧w'.cell? ⟨n,1,none⟩=some (.int .i64 o.wd)∧w'.cell? ⟨n,2,none⟩=some (.int .i64 o.s)∧w'.cell? ⟨n,3,none⟩=some (.int .i64 o.c)∧w'.cell? ⟨n,4,none⟩=some (.int .u32 o.st)∧w'.cell? ⟨n,5,none⟩=some (.slice o.I o.ni o.ci)∧w'.cell? ⟨n,6,none⟩=some (.int .i64 o.wr)∧w'.cell? ⟨n,7,none⟩=some (.slice o.R o.nr o.cr)) wx:=by
   obtain⟨h0,u0,u1,u2,u3,u4,u5,u6,u7⟩:=hHeld;have hk:∀ {i:Nat} {u:Value},_→wx.cell? ⟨n,i,none⟩=some u:=fun {i u} hc=>(hbx.cell (p:=⟨n,i,none⟩) (cell_lt hc)).trans hc
   exact⟨h0.trans (hbx.mono (by have:=h0.size;omega)),hk u0,hk u1,hk u2,hk u3,hk u4,hk u5,hk u6,hk u7⟩
  replace hrow:=hid (hrow.out.kept hbx);replace hI:=hid (hI.out.below (hbx.mono (by have:=hHeld.1.size;have:=HB2.out.size;have:=HBw.out;omega)) (Nat.le_refl _));clear hbx;refine hK.out _ _ hSx (fun hHeld=>?_);clear hK K;try simp only[Act.put,List.setIfInBounds_toArray,List.set_cons_zero,List.set_cons_succ]
  refine wpAnyH_take (i:=5) (oi:=?_) (v:=?_) ?_ (by kernel_rfl) (by kernel_rfl) (by kernel_rfl) ?_ (Or.inl ⟨?_,?_⟩) (by assumption) ?_;rotate_left 2
  ·(simp only[List.getElem?_toArray,List.getElem?_cons_succ,List.getElem?_cons_zero];rfl)
  ·first | exact fun _ _ _ h=>h | exact fun _ _ _ h=>by cases h.1
  ·rfl
  ·((intro wq hSq;(try dsimp only at hSq);go_simp);(try with_reducible rfl))
  try simp only[Act.put,List.setIfInBounds_toArray,List.set_cons_zero,List.set_cons_succ]
  have hcp:=copyW (off:=D) (dL:=N - D) (dC:=N - D) (ci:=o.ci) hl2.out hrow.out hI.out hl0.out hZN.out hNl.out (by have:=hNl.out;omega);refine rdH [8] ?_;refine cnH (fun K hK=>?_) AllReadyH.nil;go_simp
  have hSx:(fun w':World=>Below b W2 w'∧w'.cell? ⟨n,0,none⟩=some (.int .i64 o.k)∧w'.cell? ⟨n,1,none⟩=some (.int .i64 o.wd)∧w'.cell? ⟨n,2,none⟩=some (.int .i64 o.s)∧w'.cell? ⟨n,3,none⟩=some (.int .i64 o.c)∧w'.cell? ⟨n,4,none⟩=some (.int .u32 o.st)∧w'.cell? ⟨n,5,none⟩=some (.slice o.I o.ni o.ci)∧w'.cell? ⟨n,6,none⟩=some (.int .i64 o.wr)∧w'.cell? ⟨n,7,none⟩=some (.slice o.R o.nr o.cr)) (wx.setRow b (wsA (spl ((zs N).set 0 o.st) D l))):=by
   obtain⟨h0,u0,u1,u2,u3,u4,u5,u6,u7⟩:=hHeld;have hnb:n≠b:=by omega
   simp only[cell_row _ _ hnb];exact⟨below_setRow h0 b _ (Nat.le_refl _),u0,u1,u2,u3,u4,u5,u6,u7⟩
  refine hK.out _ _ hSx (fun hHeld=>?_);clear hK K;try simp only[Act.put,List.setIfInBounds_toArray,List.set_cons_zero,List.set_cons_succ]
  refine dnH ?_;clear hSd;go_wp2_with fail;go_ret;exact LayR.row hrow.out.row (by rw[spl_len (by rw[hZN.out];exact hNl.out)];exact hZN.out) g3 HWF.out (by rw[hn0];exact HB2.out.trans (hHeld.1.mono (by omega)))
 ·have hna:¬ anyR o:=fun q=>h (of_decide_eq_true ((any_ring hk).symm.trans (decide_eq_true q)))
  have hL:layZ o l=[]:=by unfold layZ;rw[if_neg hna]
  have hz:=sizeZ_no hna;rw[hL];rw[hz] at hs;obtain⟨N,hN⟩:∃ N:Nat,N=0:=⟨_,rfl⟩;have hs2:∀ W,_:=fun W=>hs W
  have hmk:=mkW0;unfold obA at hs;have HS:=hid hs;clear hL hz hs hs2 hna h hk ho hI hl hB hN;have hn:=ObX.new w o;have hB:=(Below.refl w.heap.size w).alloc (Nat.le_refl _) (.cells (obA o) 26);unfold obA at *;have HN:=hid hn;have HB:=hid hB;clear hn hB;go_enter Tryz.func69,Tryz.ntmps69;go_wp2_with fail;refine(HS.out _).mono ?_;rintro e w1 ⟨rfl,hb1⟩;have hB1:=HB.out.trans (hb1.mono (by have:=HB.out.size;omega));have HB1:=hid hB1;have hs1:w.heap.size≤w1.heap.size:=by have:=hb1.size;simp at this;omega
  clear hB1 hb1;go_wp2_with fail;go_ret;exact LayR.row (L:=[]) (RowB.new w1 (wsA (zs 0)) 22) rfl (by omega) (fun z hz=>by cases hz) (HB1.out.alloc hs1 _)
theorem cabLay_o (o:Ob) (ho:o.Ok) (hk:o.k=5) (l:List Int) (B:Nat) (w:World) (hl:o.ni=l.length) (hI:Ws w B o.I l) (hB:B≤w.heap.size):Calls Tryz.prog 70 #[.agg (obA o)] w (LayR w (layZ o l)):=by
 have hs:=fun W=>cabSize_o o ho hk W
 by_cases h:cabR o
 ·have hsz:=sizeZ_cab h;obtain⟨q1,q2,q3,q4,q5,q6,q7,q8⟩:=cab_bd h;have hlw:(l.length:Int)=o.wd:=by unfold cabR wordsR at h;omega
  have m2:=mul_bd (a:=o.s) (b:=o.wd) (by omega) (by omega) (by omega) (by omega);obtain⟨N,hN⟩:∃ N:Nat,sizeZ o=N:=⟨(sizeZ o).toNat,by omega⟩;obtain⟨D,hD⟩:∃ D:Nat,(1+o.nr:Int)=D:=⟨(1+o.nr:Int).toNat,by omega⟩;have mm:2*o.wd≤o.s*o.wd:=Int.mul_le_mul_of_nonneg_right (by omega) (by omega);have hDN:D+l.length≤N:=by omega
  have hDlt:D<N:=by omega
  have hst:o.st=0:=by unfold cabR at h;exact h.2.2.2.2
  have hoff:offZ o=D:=by unfold offZ slotZ;rw[head_cab hk,if_neg (by omega)];omega
  have hL:layZ o l=spl (zs N) D l:=by unfold layZ layB;rw[if_pos (.inr (.inr (.inr (.inr (.inl h))))),if_neg (by omega),hN,hoff,Int.toNat_natCast,Int.toNat_natCast];rw[hst,zs_set]
  rw[hL];rw[hN] at hs;have hc:=fun W=>cabData_o o q4 W
  rw[hD] at hc;unfold obA at hc;have HC:=hid hc;clear hc;have g1:D<N:=hDlt;have g2:0<N:=by omega
  have g3:N≤300:=by omega
  have g4:¬ N=D:=by omega
  have g6:D≤N:=by omega
  have g7:(D:Int)≤(N:Int):=by omega
  have hNl:=hid hDN;have hl0:=hid (show l≠[] by intro hh;rw[hh] at hlw;simp at hlw;omega);have hZN:=hid (show(zs N).length=N by simp[zs]);have hmk:=fun W=>mkW N g3 W
  have hl2:=hid hl;have HI:=hid hI;have HBw:=hid hB;have HWF:=hid (wf_spl (Z:=(zs N)) D (wf_zs N) hI.2);unfold obA at hs;have HS:=hid hs;clear hL h hk hsz q1 q2 q3 q4 q5 q6 q7 q8 hlw hN hoff ho hl hs hI hB hDN hDlt hst mm m2;have hD2:=hid hD;clear hD;have hn:=ObX.new w o;have hB:=(Below.refl w.heap.size w).alloc (Nat.le_refl _) (.cells (obA o) 26);unfold obA at *;have HN:=hid hn;have HB:=hid hB;clear hn hB;go_enter Tryz.func70,Tryz.ntmps70;go_wp2_with fail;refine(HS.out _).mono ?_;rintro e w1 ⟨rfl,hb1⟩;have ho1:=ObX.kept HN.out hb1;have hB1:=HB.out.trans (hb1.mono (by have:=HB.out.size;omega));have hn1:=HN.out.lt;have hs1:w.heap.size+1≤w1.heap.size:=by have:=hb1.size;simp at this;omega
  have hnew:=RowB.new w1 (wsA (zs N)) 22;have hbb:=(Below.refl w1.heap.size w1).alloc (Nat.le_refl _) (.cells (wsA (zs N)) 22);have hsz2:(w1.alloc (.cells (wsA (zs N)) 22)).heap.size=w1.heap.size+1:=by rw[World.size_alloc]
  obtain⟨W2,hW2⟩:∃ W2,w1.alloc (.cells (wsA (zs N)) 22)=W2:=⟨_,rfl⟩;rw[hW2] at hnew hbb hsz2;obtain⟨b,hb⟩:∃ b,w1.heap.size=b:=⟨_,rfl⟩;obtain⟨n,hn0⟩:∃ n,w.heap.size=n:=⟨_,rfl⟩;have ho2:=ho1.kept hbb;have hB2:=hB1.trans (hbb.mono (by omega));rw[hn0] at ho1 ho2 hs1 hB2 ⊢;rw[hb] at hnew hbb hs1 hsz2;have HO:=hid ho2;have HR:=hid hnew;have HB2:=hid hB2;have HB1:=hid hB1;clear hb1 ho1 ho2 hnew hbb hB1 hB2;go_wp2_with fail;have hSd:(fun w':World=>Below b W2 w'∧w'.cell? ⟨n,0,none⟩=some (.int .i64 o.k)∧w'.cell? ⟨n,1,none⟩=some (.int .i64 o.wd)∧w'.cell? ⟨n,2,none⟩=some (.int .i64 o.s)∧w'.cell? ⟨n,3,none⟩=some (.int .i64 o.c)∧w'.cell? ⟨n,4,none⟩=some (.int .u32 o.st)∧w'.cell? ⟨n,5,none⟩=some (.slice o.I o.ni o.ci)∧w'.cell? ⟨n,6,none⟩=some (.int .i64 o.wr)∧w'.cell? ⟨n,7,none⟩=some (.slice o.R o.nr o.cr)) W2.drew:=⟨(Below.refl _ W2).drew,(ObX.kept HO.out (Below.refl _ W2).drew).cells⟩;have hrow:RowB W2.drew b (wsA (zs N)) 22:=HR.out.kept (Below.refl _ W2).drew;have hI:Ws W2.drew B o.I l:=(HI.out.below (HB2.out.mono (by have:=HBw.out;omega)) (Nat.le_refl _)).below (Below.refl _ W2).drew (Nat.le_refl _);refine wp_region_held_drew (S:=(fun w':World=>Below b W2 w'∧w'.cell? ⟨n,0,none⟩=some (.int .i64 o.k)∧w'.cell? ⟨n,1,none⟩=some (.int .i64 o.wd)∧w'.cell? ⟨n,2,none⟩=some (.int .i64 o.s)∧w'.cell? ⟨n,3,none⟩=some (.int .i64 o.c)∧w'.cell? ⟨n,4,none⟩=some (.int .u32 o.st)∧w'.cell? ⟨n,5,none⟩=some (.slice o.I o.ni o.ci)∧w'.cell? ⟨n,6,none⟩=some (.int .i64 o.wr)∧w'.cell? ⟨n,7,none⟩=some (.slice o.R o.nr o.cr))) (by kernel_rfl) hSd (fun hHeld=>?_);generalize W2.drew=wd at hHeld hrow hI ⊢;have hHeld:(fun w':World=>Below b W2 w'∧w'.cell? ⟨n,0,none⟩=some (.int .i64 o.k)∧w'.cell? ⟨n,1,none⟩=some (.int .i64 o.wd)∧w'.cell? ⟨n,2,none⟩=some (.int .i64 o.s)∧w'.cell? ⟨n,3,none⟩=some (.int .i64 o.c)∧w'.cell? ⟨n,4,none⟩=some (.int .u32 o.st)∧w'.cell? ⟨n,5,none⟩=some (.slice o.I o.ni o.ci)∧w'.cell? ⟨n,6,none⟩=some (.int .i64 o.wr)∧w'.cell? ⟨n,7,none⟩=some (.slice o.R o.nr o.cr)) wd:=hHeld;replace hrow:=hid hrow;replace hI:=hid hI;refine wpAnyH_take (i:=0) (oi:=?_) (v:=?_) ?_ (by kernel_rfl) (by kernel_rfl) (by kernel_rfl) ?_ (Or.inl ⟨?_,?_⟩) (by assumption) ?_;rotate_left 2
  ·(simp only[List.getElem?_toArray,List.getElem?_cons_zero];rfl)
  ·first | exact fun _ _ _ h=>h | exact fun _ _ _ h=>by cases h.1
  ·rfl
  ·((intro wq hSq;(try dsimp only at hSq);go_simp);(try with_reducible rfl))
  try simp only[Act.put,List.setIfInBounds_toArray,List.set_cons_zero,List.set_cons_succ]
  refine wpAnyH_take (i:=1) (oi:=?_) (v:=?_) ?_ (by kernel_rfl) (by kernel_rfl) (by kernel_rfl) ?_ (Or.inl ⟨?_,?_⟩) (by assumption) ?_;rotate_left 2
  ·(simp only[List.getElem?_toArray,List.getElem?_cons_succ,List.getElem?_cons_zero];rfl)
  ·first | exact fun _ _ _ h=>h | exact fun _ _ _ h=>by cases h.1
  ·rfl
  ·((intro wq hSq;(try dsimp only at hSq);go_simp);(try with_reducible rfl))
  try simp only[Act.put,List.setIfInBounds_toArray,List.set_cons_zero,List.set_cons_succ]
  refine wpAnyH_take (i:=4) (oi:=?_) (v:=?_) ?_ (by kernel_rfl) (by kernel_rfl) (by kernel_rfl) ?_ (Or.inl ⟨?_,?_⟩) (by assumption) ?_;rotate_left 2
  ·(simp only[List.getElem?_toArray,List.getElem?_cons_succ,List.getElem?_cons_zero];rfl)
  ·first | exact fun _ _ _ h=>h | exact fun _ _ _ h=>by cases h.1
  ·rfl
  ·((intro wq hSq;(try dsimp only at hSq);go_simp);(try with_reducible rfl))
  try simp only[Act.put,List.setIfInBounds_toArray,List.set_cons_zero,List.set_cons_succ]
  refine wpAnyH_take (i:=5) (oi:=?_) (v:=?_) ?_ (by kernel_rfl) (by kernel_rfl) (by kernel_rfl) ?_ (Or.inl ⟨?_,?_⟩) (by assumption) ?_;rotate_left 2
  ·(simp only[List.getElem?_toArray,List.getElem?_cons_succ,List.getElem?_cons_zero];rfl)
  ·first | exact fun _ _ _ h=>h | exact fun _ _ _ h=>by cases h.1
  ·rfl
  ·((intro wq hSq;(try dsimp only at hSq);go_simp);(try with_reducible rfl))
  try simp only[Act.put,List.setIfInBounds_toArray,List.set_cons_zero,List.set_cons_succ]
  refine rdH [2] ?_;refine cnH (fun K hK=>?_) AllReadyH.nil;go_simp;refine(HC.out _).mono ?_;rintro ex wx ⟨rfl,hbx⟩
  have hSx:(fun w':World=>Below b W2 w'∧w'.cell? ⟨n,0,none⟩=some (.int .i64 o.k)∧w'.cell? ⟨n,1,none⟩=some (.int .i64 o.wd)∧w'.cell? ⟨n,2,none⟩=some (.int .i64 o.s)∧w'.cell? ⟨n,3,none⟩=some (.int .i64 o.c)∧w'.cell? ⟨n,4,none⟩=some (.int .u32 o.st)∧w'.cell? ⟨n,5,none⟩=some (.slice o.I o.ni o.ci)∧w'.cell? ⟨n,6,none⟩=some (.int .i64 o.wr)∧w'.cell? ⟨n,7,none⟩=some (.slice o.R o.nr o.cr)) wx:=by
   obtain⟨h0,u0,u1,u2,u3,u4,u5,u6,u7⟩:=hHeld;have hk:∀ {i:Nat} {u:Value},_→wx.cell? ⟨n,i,none⟩=some u:=fun {i u} hc=>(hbx.cell (p:=⟨n,i,none⟩) (cell_lt hc)).trans hc
   exact⟨h0.trans (hbx.mono (by have:=h0.size;omega)),hk u0,hk u1,hk u2,hk u3,hk u4,hk u5,hk u6,hk u7⟩
  replace hrow:=hid (hrow.out.kept hbx);replace hI:=hid (hI.out.below (hbx.mono (by have:=hHeld.1.size;have:=HB2.out.size;have:=HBw.out;omega)) (Nat.le_refl _));clear hbx;refine hK.out _ _ hSx (fun hHeld=>?_);clear hK K;try simp only[Act.put,List.setIfInBounds_toArray,List.set_cons_zero,List.set_cons_succ]
  refine wpAnyH_take (i:=3) (oi:=?_) (v:=?_) ?_ (by kernel_rfl) (by kernel_rfl) (by kernel_rfl) ?_ (Or.inl ⟨?_,?_⟩) (by assumption) ?_;rotate_left 2
  ·(simp only[List.getElem?_toArray,List.getElem?_cons_succ,List.getElem?_cons_zero];rfl)
  ·first | exact fun _ _ _ h=>h | exact fun _ _ _ h=>by cases h.1
  ·rfl
  ·((intro wq hSq;(try dsimp only at hSq);go_simp);(try with_reducible rfl))
  try simp only[Act.put,List.setIfInBounds_toArray,List.set_cons_zero,List.set_cons_succ]
  have hcp:=copyW (off:=D) (dL:=N - D) (dC:=N - D) (ci:=o.ci) hl2.out hrow.out hI.out hl0.out hZN.out hNl.out (by have:=hNl.out;omega);refine rdH [6] ?_;refine cnH (fun K hK=>?_) AllReadyH.nil;go_simp
  have hSx:(fun w':World=>Below b W2 w'∧w'.cell? ⟨n,0,none⟩=some (.int .i64 o.k)∧w'.cell? ⟨n,1,none⟩=some (.int .i64 o.wd)∧w'.cell? ⟨n,2,none⟩=some (.int .i64 o.s)∧w'.cell? ⟨n,3,none⟩=some (.int .i64 o.c)∧w'.cell? ⟨n,4,none⟩=some (.int .u32 o.st)∧w'.cell? ⟨n,5,none⟩=some (.slice o.I o.ni o.ci)∧w'.cell? ⟨n,6,none⟩=some (.int .i64 o.wr)∧w'.cell? ⟨n,7,none⟩=some (.slice o.R o.nr o.cr)) (wx.setRow b (wsA (spl (zs N) D l))):=by
   obtain⟨h0,u0,u1,u2,u3,u4,u5,u6,u7⟩:=hHeld;have hnb:n≠b:=by omega
   simp only[cell_row _ _ hnb];exact⟨below_setRow h0 b _ (Nat.le_refl _),u0,u1,u2,u3,u4,u5,u6,u7⟩
  refine hK.out _ _ hSx (fun hHeld=>?_);clear hK K;try simp only[Act.put,List.setIfInBounds_toArray,List.set_cons_zero,List.set_cons_succ]
  refine dnH ?_;clear hSd;go_wp2_with fail;go_ret;exact LayR.row hrow.out.row (by rw[spl_len (by rw[hZN.out];exact hNl.out)];exact hZN.out) g3 HWF.out (by rw[hn0];exact HB2.out.trans (hHeld.1.mono (by omega)))
 ·have hna:¬ anyR o:=fun q=>h (of_decide_eq_true ((any_cab hk).symm.trans (decide_eq_true q)))
  have hL:layZ o l=[]:=by unfold layZ;rw[if_neg hna]
  have hz:=sizeZ_no hna;rw[hL];rw[hz] at hs;obtain⟨N,hN⟩:∃ N:Nat,N=0:=⟨_,rfl⟩;have hs2:∀ W,_:=fun W=>hs W
  have hmk:=mkW0;unfold obA at hs;have HS:=hid hs;clear hL hz hs hs2 hna h hk ho hI hl hB hN;have hn:=ObX.new w o;have hB:=(Below.refl w.heap.size w).alloc (Nat.le_refl _) (.cells (obA o) 26);unfold obA at *;have HN:=hid hn;have HB:=hid hB;clear hn hB;go_enter Tryz.func70,Tryz.ntmps70;go_wp2_with fail;refine(HS.out _).mono ?_;rintro e w1 ⟨rfl,hb1⟩;have hB1:=HB.out.trans (hb1.mono (by have:=HB.out.size;omega));have HB1:=hid hB1;have hs1:w.heap.size≤w1.heap.size:=by have:=hb1.size;simp at this;omega
  clear hB1 hb1;go_wp2_with fail;go_ret;exact LayR.row (L:=[]) (RowB.new w1 (wsA (zs 0)) 22) rfl (by omega) (fun z hz=>by cases hz) (HB1.out.alloc hs1 _)
end Go.Proofs.YtolmpehgeinlkaaGreatDoor
