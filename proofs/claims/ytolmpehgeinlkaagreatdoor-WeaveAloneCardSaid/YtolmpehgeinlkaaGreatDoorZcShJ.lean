/- An object's words at the beginning: fifo.Lay, seq.Lay, object.Lay. -/
import Derived.Test.YtolmpehgeinlkaaGreatDoorZcShI
namespace Go.Proofs.YtolmpehgeinlkaaGreatDoor
open Go.RowKit
open Go.Lib (hid)
attribute [local go_sem] Oper.semAt_some
set_option maxHeartbeats 2000000
set_option maxRecDepth 100000
theorem fifoLay_o (o:Ob) (ho:o.Ok) (hk:¬ o.k=1∧¬ o.k=2∧¬ o.k=3∧¬ o.k=4∧¬ o.k=5) (l:List Int) (B:Nat) (w:World) (hl:o.ni=l.length) (hI:Ws w B o.I l) (_hB:B≤w.heap.size):Calls Tryz.prog 71 #[.agg (obA o)] w (LayR w (layZ o l)):=by
 have hs:=fun W=>fifoSize_o o ho hk W
 by_cases h:fifoR o
 ·have hsz:=sizeZ_fifo h;obtain⟨q1,q2,q3,q4,q5,q6⟩:=fifo_bd h;have hk6:o.k=6:=kind_of.2.2.2.2.2 h;have m2:=mul_bd (a:=o.s) (b:=o.wd) (by omega) (by omega) (by omega) (by omega);have hl0:l=[]:=List.eq_nil_of_length_eq_zero (by unfold fifoR wordsR at h;omega);subst hl0;obtain⟨N,hN⟩:∃ N:Nat,sizeZ o=N:=⟨(sizeZ o).toNat,by omega⟩;have hL:layZ o []=(((zs N).set 0 o.st).set 1 o.st):=by unfold layZ layB;rw[if_pos (.inr (.inr (.inr (.inr (.inr h))))),if_pos hk6,hN,Int.toNat_natCast,spl_nil]
  rw[hL];rw[hN] at hs;have g0:1<N:=by omega
  have g2:0<N:=by omega
  have g3:N≤300:=by omega
  have g4:(1:Int)<(N:Int):=by omega
  have g5:(0:Int)<(N:Int):=by omega
  have hZN:=hid (show(((zs N).set 0 o.st).set 1 o.st).length=N by simp[zs]);have hmk:=fun W=>mkW N g3 W
  have HWF:=hid (wf_set 1 (wf_set 0 (wf_zs N) (wf_st ho)) (wf_st ho));have HZ0:=hid (show(wsA (zs N))[0]?=some (.int .u32 0) by rw[wsA_get,zs,List.getElem?_replicate,if_pos g2];rfl);have HZ1:=hid (show(wsA ((zs N).set 0 o.st))[1]?=some (.int .u32 0) by rw[wsA_get,List.getElem?_set_ne (by omega),zs,List.getElem?_replicate,if_pos g0];rfl);unfold obA at hs;have HS:=hid hs;clear hL h hk hk6 hsz q1 q2 q3 q4 q5 q6 m2 hN ho hl hs hI _hB;have hn:=ObX.new w o;have hB:=(Below.refl w.heap.size w).alloc (Nat.le_refl _) (.cells (obA o) 26);unfold obA at *;have HN:=hid hn;have HB:=hid hB;clear hn hB;go_enter Tryz.func71,Tryz.ntmps71;go_wp2_with fail;refine(HS.out _).mono ?_;rintro e w1 ⟨rfl,hb1⟩;have ho1:=ObX.kept HN.out hb1;have hB1:=HB.out.trans (hb1.mono (by have:=HB.out.size;omega));have hn1:=HN.out.lt;have hs1:w.heap.size+1≤w1.heap.size:=by have:=hb1.size;simp at this;omega
  have hnew:=RowB.new w1 (wsA (zs N)) 22;have hbb:=(Below.refl w1.heap.size w1).alloc (Nat.le_refl _) (.cells (wsA (zs N)) 22);have hsz2:(w1.alloc (.cells (wsA (zs N)) 22)).heap.size=w1.heap.size+1:=by rw[World.size_alloc]
  obtain⟨W2,hW2⟩:∃ W2,w1.alloc (.cells (wsA (zs N)) 22)=W2:=⟨_,rfl⟩;rw[hW2] at hnew hbb hsz2;obtain⟨b,hb⟩:∃ b,w1.heap.size=b:=⟨_,rfl⟩;obtain⟨n,hn0⟩:∃ n,w.heap.size=n:=⟨_,rfl⟩;have ho2:=ho1.kept hbb;have hB2:=hB1.trans (hbb.mono (by omega));rw[hn0] at ho1 ho2 hs1 hB2 ⊢;rw[hb] at hnew hbb hs1 hsz2;have HO:=hid ho2;have HR:=hid hnew;have HB2:=hid hB2;have HB1:=hid hB1;clear hb1 ho1 ho2 hnew hbb hB1 hB2;go_wp2_with fail;have hSd:(fun w':World=>Below b W2 w'∧w'.cell? ⟨n,0,none⟩=some (.int .i64 o.k)∧w'.cell? ⟨n,1,none⟩=some (.int .i64 o.wd)∧w'.cell? ⟨n,2,none⟩=some (.int .i64 o.s)∧w'.cell? ⟨n,3,none⟩=some (.int .i64 o.c)∧w'.cell? ⟨n,4,none⟩=some (.int .u32 o.st)∧w'.cell? ⟨n,5,none⟩=some (.slice o.I o.ni o.ci)∧w'.cell? ⟨n,6,none⟩=some (.int .i64 o.wr)∧w'.cell? ⟨n,7,none⟩=some (.slice o.R o.nr o.cr)) W2.drew:=⟨(Below.refl _ W2).drew,(ObX.kept HO.out (Below.refl _ W2).drew).cells⟩;have hrow:RowB W2.drew b (wsA (zs N)) 22:=HR.out.kept (Below.refl _ W2).drew;refine wp_region_held_drew (S:=(fun w':World=>Below b W2 w'∧w'.cell? ⟨n,0,none⟩=some (.int .i64 o.k)∧w'.cell? ⟨n,1,none⟩=some (.int .i64 o.wd)∧w'.cell? ⟨n,2,none⟩=some (.int .i64 o.s)∧w'.cell? ⟨n,3,none⟩=some (.int .i64 o.c)∧w'.cell? ⟨n,4,none⟩=some (.int .u32 o.st)∧w'.cell? ⟨n,5,none⟩=some (.slice o.I o.ni o.ci)∧w'.cell? ⟨n,6,none⟩=some (.int .i64 o.wr)∧w'.cell? ⟨n,7,none⟩=some (.slice o.R o.nr o.cr))) (by kernel_rfl) hSd (fun hHeld=>?_);generalize W2.drew=wd at hHeld hrow ⊢;have hHeld:(fun w':World=>Below b W2 w'∧w'.cell? ⟨n,0,none⟩=some (.int .i64 o.k)∧w'.cell? ⟨n,1,none⟩=some (.int .i64 o.wd)∧w'.cell? ⟨n,2,none⟩=some (.int .i64 o.s)∧w'.cell? ⟨n,3,none⟩=some (.int .i64 o.c)∧w'.cell? ⟨n,4,none⟩=some (.int .u32 o.st)∧w'.cell? ⟨n,5,none⟩=some (.slice o.I o.ni o.ci)∧w'.cell? ⟨n,6,none⟩=some (.int .i64 o.wr)∧w'.cell? ⟨n,7,none⟩=some (.slice o.R o.nr o.cr)) wd:=hHeld;replace hrow:=hid hrow;refine wpAnyH_take (i:=0) (oi:=?_) (v:=?_) ?_ (by kernel_rfl) (by kernel_rfl) (by kernel_rfl) ?_ (Or.inl ⟨?_,?_⟩) (by assumption) ?_;rotate_left 2
  ·(simp only[List.getElem?_toArray,List.getElem?_cons_zero];rfl)
  ·first | exact fun _ _ _ h=>h | exact fun _ _ _ h=>by cases h.1
  ·rfl
  ·((intro wq hSq;(try dsimp only at hSq);go_simp);(try with_reducible rfl))
  try simp only[Act.put,List.setIfInBounds_toArray,List.set_cons_zero,List.set_cons_succ]
  refine wpAnyH_take (i:=1) (oi:=?_) (v:=?_) ?_ (by kernel_rfl) (by kernel_rfl) (by kernel_rfl) ?_ (Or.inl ⟨?_,?_⟩) (by assumption) ?_;rotate_left 2
  ·(simp only[List.getElem?_toArray,List.getElem?_cons_succ,List.getElem?_cons_zero];rfl)
  ·first | exact fun _ _ _ h=>h | exact fun _ _ _ h=>by cases h.1
  ·rfl
  ·((intro wq hSq;(try dsimp only at hSq);go_simp);(try with_reducible rfl))
  try simp only[Act.put,List.setIfInBounds_toArray,List.set_cons_zero,List.set_cons_succ]
  refine wpAnyH_take (i:=2) (oi:=?_) (v:=?_) ?_ (by kernel_rfl) (by kernel_rfl) (by kernel_rfl) ?_ (Or.inl ⟨?_,?_⟩) (by assumption) ?_;rotate_left 2
  ·(simp only[List.getElem?_toArray,List.getElem?_cons_succ,List.getElem?_cons_zero];rfl)
  ·first | exact fun _ _ _ h=>h | exact fun _ _ _ h=>by cases h.1
  ·rfl
  ·((intro wq hSq;(try dsimp only at hSq);go_simp);(try with_reducible rfl))
  try simp only[Act.put,List.setIfInBounds_toArray,List.set_cons_zero,List.set_cons_succ]
  refine wpAnyH_take (i:=3) (oi:=?_) (v:=?_) ?_ (by kernel_rfl) (by kernel_rfl) (by kernel_rfl) ?_ (Or.inl ⟨?_,?_⟩) (by assumption) ?_;rotate_left 2
  ·(simp only[List.getElem?_toArray,List.getElem?_cons_succ,List.getElem?_cons_zero];rfl)
  ·first | exact fun _ _ _ h=>h | exact fun _ _ _ h=>by cases h.1
  ·rfl
  ·((intro wq hSq;(try dsimp only at hSq);go_simp);(try with_reducible rfl))
  try simp only[Act.put,List.setIfInBounds_toArray,List.set_cons_zero,List.set_cons_succ]
  refine wpAnyH_take (i:=4) (oi:=?_) (v:=?_) ?_ (by kernel_rfl) (by kernel_rfl) (by kernel_rfl) ?_ (Or.inl ⟨?_,?_⟩) (by assumption) ?_;rotate_left 2
  ·(simp only[List.getElem?_toArray,List.getElem?_cons_succ,List.getElem?_cons_zero];rfl)
  ·first | exact fun _ _ _ h=>h | exact fun _ _ _ h=>by cases h.1
  ·rfl
  ·((intro wq hSq;(try dsimp only at hSq);go_simp);(try with_reducible rfl))
  try simp only[Act.put,List.setIfInBounds_toArray,List.set_cons_zero,List.set_cons_succ]
  refine wpAnyH_take (i:=5) (oi:=?_) (v:=?_) ?_ (by kernel_rfl) (by kernel_rfl) (by kernel_rfl) ?_ (Or.inl ⟨?_,?_⟩) (by assumption) ?_;rotate_left 2
  ·(simp only[List.getElem?_toArray,List.getElem?_cons_succ,List.getElem?_cons_zero];rfl)
  ·first | exact fun _ _ _ h=>h | exact fun _ _ _ h=>by cases h.1
  ·rfl
  ·((intro wq hSq;(try dsimp only at hSq);go_simp);(try with_reducible rfl))
  try simp only[Act.put,List.setIfInBounds_toArray,List.set_cons_zero,List.set_cons_succ]
  refine wpAnyH_take (i:=6) (oi:=?_) (v:=?_) ?_ (by kernel_rfl) (by kernel_rfl) (by kernel_rfl) ?_ (Or.inl ⟨?_,?_⟩) (by assumption) ?_;rotate_left 2
  ·(simp only[List.getElem?_toArray,List.getElem?_cons_succ,List.getElem?_cons_zero];rfl)
  ·first | exact fun _ _ _ h=>h | exact fun _ _ _ h=>by cases h.1
  ·rfl
  ·((intro wq hSq;(try dsimp only at hSq);go_simp);(try with_reducible rfl))
  try simp only[Act.put,List.setIfInBounds_toArray,List.set_cons_zero,List.set_cons_succ]
  have c0:wd.cell? ⟨b,0,none⟩=some (.int .u32 0):=(hrow.out.cell 0).trans HZ0.out;have f0:wd.frozen? ⟨b,0,none⟩=false:=hrow.out.frozen 0;refine rdH [7] ?_;refine cnH (fun K hK=>?_) AllReadyH.nil;go_simp
  have hSx:(fun w':World=>Below b W2 w'∧w'.cell? ⟨n,0,none⟩=some (.int .i64 o.k)∧w'.cell? ⟨n,1,none⟩=some (.int .i64 o.wd)∧w'.cell? ⟨n,2,none⟩=some (.int .i64 o.s)∧w'.cell? ⟨n,3,none⟩=some (.int .i64 o.c)∧w'.cell? ⟨n,4,none⟩=some (.int .u32 o.st)∧w'.cell? ⟨n,5,none⟩=some (.slice o.I o.ni o.ci)∧w'.cell? ⟨n,6,none⟩=some (.int .i64 o.wr)∧w'.cell? ⟨n,7,none⟩=some (.slice o.R o.nr o.cr)) (wd.setCell ⟨b,0,none⟩ (.int .u32 o.st)):=by
   obtain⟨h0,u0,u1,u2,u3,u4,u5,u6,u7⟩:=hHeld
   have hk:∀ {i:Nat} {u:Value},wd.cell? ⟨n,i,none⟩=some u→(wd.setCell ⟨b,0,none⟩ (.int .u32 o.st)).cell? ⟨n,i,none⟩=some u:=fun {i u} hc=>by
    unfold World.cell? at hc ⊢;rw[heap_set _ _ _ _ _ (show n≠b by omega)];exact hc
   exact⟨below_set1 h0 b 0 (Nat.le_refl _) _,hk u0,hk u1,hk u2,hk u3,hk u4,hk u5,hk u6,hk u7⟩
  have hrow2:=hrow.out.set 0 (.int .u32 o.st);rw[wsA_set] at hrow2;replace hrow:=hid hrow2;clear hrow2 c0 f0;refine hK.out _ _ hSx (fun hHeld=>?_);clear hK K;try simp only[Act.put,List.setIfInBounds_toArray,List.set_cons_zero,List.set_cons_succ]
  obtain⟨we,hWwe⟩:∃ W,wd.setCell ⟨b,0,none⟩ (.int .u32 o.st)=W:=⟨_,rfl⟩;rw[hWwe] at hHeld hrow ⊢;clear hWwe;refine wpAnyH_take (i:=8) (oi:=?_) (v:=?_) ?_ (by kernel_rfl) (by kernel_rfl) (by kernel_rfl) ?_ (Or.inl ⟨?_,?_⟩) (by assumption) ?_;rotate_left 2
  ·(simp only[List.getElem?_toArray,List.getElem?_cons_succ,List.getElem?_cons_zero];rfl)
  ·first | exact fun _ _ _ h=>h | exact fun _ _ _ h=>by cases h.1
  ·rfl
  ·((intro wq hSq;(try dsimp only at hSq);go_simp);(try with_reducible rfl))
  try simp only[Act.put,List.setIfInBounds_toArray,List.set_cons_zero,List.set_cons_succ]
  have c0:we.cell? ⟨b,1,none⟩=some (.int .u32 0):=(hrow.out.cell 1).trans HZ1.out;have f0:we.frozen? ⟨b,1,none⟩=false:=hrow.out.frozen 1;refine rdH [9] ?_;refine cnH (fun K hK=>?_) AllReadyH.nil;go_simp
  have hSx:(fun w':World=>Below b W2 w'∧w'.cell? ⟨n,0,none⟩=some (.int .i64 o.k)∧w'.cell? ⟨n,1,none⟩=some (.int .i64 o.wd)∧w'.cell? ⟨n,2,none⟩=some (.int .i64 o.s)∧w'.cell? ⟨n,3,none⟩=some (.int .i64 o.c)∧w'.cell? ⟨n,4,none⟩=some (.int .u32 o.st)∧w'.cell? ⟨n,5,none⟩=some (.slice o.I o.ni o.ci)∧w'.cell? ⟨n,6,none⟩=some (.int .i64 o.wr)∧w'.cell? ⟨n,7,none⟩=some (.slice o.R o.nr o.cr)) (we.setCell ⟨b,1,none⟩ (.int .u32 o.st)):=by
   obtain⟨h0,u0,u1,u2,u3,u4,u5,u6,u7⟩:=hHeld
   have hk:∀ {i:Nat} {u:Value},we.cell? ⟨n,i,none⟩=some u→(we.setCell ⟨b,1,none⟩ (.int .u32 o.st)).cell? ⟨n,i,none⟩=some u:=fun {i u} hc=>by
    unfold World.cell? at hc ⊢;rw[heap_set _ _ _ _ _ (show n≠b by omega)];exact hc
   exact⟨below_set1 h0 b 1 (Nat.le_refl _) _,hk u0,hk u1,hk u2,hk u3,hk u4,hk u5,hk u6,hk u7⟩
  have hrow2:=hrow.out.set 1 (.int .u32 o.st);rw[wsA_set] at hrow2;replace hrow:=hid hrow2;clear hrow2 c0 f0;refine hK.out _ _ hSx (fun hHeld=>?_);clear hK K;try simp only[Act.put,List.setIfInBounds_toArray,List.set_cons_zero,List.set_cons_succ]
  obtain⟨wf,hWwf⟩:∃ W,we.setCell ⟨b,1,none⟩ (.int .u32 o.st)=W:=⟨_,rfl⟩;rw[hWwf] at hHeld hrow ⊢;clear hWwf;refine dnH ?_;clear hSd;go_wp2_with fail;go_ret;exact LayR.row hrow.out hZN.out g3 HWF.out (by rw[hn0];exact HB2.out.trans (hHeld.1.mono (by omega)))
 ·have hna:¬ anyR o:=fun q=>h (of_decide_eq_true ((any_fifo hk).symm.trans (decide_eq_true q)))
  have hL:layZ o l=[]:=by unfold layZ;rw[if_neg hna]
  have hz:=sizeZ_no hna;rw[hL];rw[hz] at hs;obtain⟨N,hN⟩:∃ N:Nat,N=0:=⟨_,rfl⟩;have hs2:∀ W,_:=fun W=>hs W
  have hmk:=mkW0;unfold obA at hs;have HS:=hid hs;clear hL hz hs hs2 hna h hk ho hI hl _hB hN;have hn:=ObX.new w o;have hB:=(Below.refl w.heap.size w).alloc (Nat.le_refl _) (.cells (obA o) 26);unfold obA at *;have HN:=hid hn;have HB:=hid hB;clear hn hB;go_enter Tryz.func71,Tryz.ntmps71;go_wp2_with fail;refine(HS.out _).mono ?_;rintro e w1 ⟨rfl,hb1⟩;have hB1:=HB.out.trans (hb1.mono (by have:=HB.out.size;omega));have HB1:=hid hB1;have hs1:w.heap.size≤w1.heap.size:=by have:=hb1.size;simp at this;omega
  clear hB1 hb1;go_wp2_with fail;go_ret;exact LayR.row (L:=[]) (RowB.new w1 (wsA (zs 0)) 22) rfl (by omega) (fun z hz=>by cases hz) (HB1.out.alloc hs1 _)
theorem seqLay_o (o:Ob) (ho:o.Ok) (hk:o.k=3) (l:List Int) (B:Nat) (w:World) (hl:o.ni=l.length) (hI:Ws w B o.I l) (hB:B≤w.heap.size):Calls Tryz.prog 68 #[.agg (obA o)] w (LayR w (layZ o l)):=by
 by_cases h:seqR o
 ·have hr:=fun W=>seqRight_o o ho W
  rw[decide_eq_true h] at hr;have hsz:=sizeZ_seq h;obtain⟨q1,q2,q3,q4,q5,q6⟩:=seq_bd h;have hlw:(l.length:Int)=o.wd:=by unfold seqR wordsR at h;omega
  have hL:layZ o l=o.st::l:=by
   unfold layZ layB offZ slotZ;rw[if_pos (.inr (.inr (.inl h))),if_neg (by omega),if_neg (by omega),head_seq hk,hsz];have e1:(1+0*o.wd).toNat=1:=by simp
   have e2:(1+o.wd).toNat=l.length+1:=by omega
   rw[e1,e2];unfold spl zs;rw[List.drop_of_length_le (by simp;omega)];simp[List.replicate_succ]
  rw[hL];have hx:l≠[]:=by intro hh;rw[hh] at hlw;simp at hlw;omega
  obtain⟨x0,hx0⟩:∃ x,l[0]?=some x:=by
   cases l with
   | nil=>exact absurd rfl hx
   | cons x t=>exact⟨x,rfl⟩
  obtain⟨_,sb,so,hA,hsb,_⟩:=hI.get hx0
  have hc:∀ (j:Nat) u,((ints .u32).all l)[j]?=some u→w.cell? ((⟨sb,so,none⟩:Addr).add j)=some u:=by
   intro j u hu;have hall:(ints .u32).all l=l.map (Value.int .u32):=of1_all _ _ l;rw[hall,List.getElem?_map] at hu;obtain⟨z,hz,rfl⟩:=Option.map_eq_some_iff.1 hu;obtain⟨_,b2,o2,hA2,_,hcell⟩:=hI.get hz;rw[hA] at hA2
   injection hA2 with hA2
   injection hA2 with e1 e2 e3
   subst e1 e2;rw[Addr.add_lit];exact hcell
  have hl8:l.length≤8:=by omega
  have hst:=wf_st ho;have HWF:=hid (show ∀ z ∈ o.st::l,(Lit.int .u32 z).wf=true from fun z hz=>(List.mem_cons.1 hz).elim (fun q=>by rw[q];exact hst) (hI.2 z));have HC:=hid hc;unfold obA at hr;have HR:=hid hr;have HBw:=hid hB;have HL:=hid hl;have HA:=hid hA;obtain⟨i0,hi,hz0,hz1,hz2⟩:=info_parts (P:=Tryz.prog) (e:=22) (z:=.int .u32 0) (size:=1) (bytes:=4) (by kernel_rfl);clear hL h hk hsz q1 q2 q3 q4 q5 q6 hlw ho hl hI hB hr hc hx hx0 hst hA;have hn:=ObX.new w o;have hB:=(Below.refl w.heap.size w).alloc (Nat.le_refl _) (.cells (obA o) 26);unfold obA at *;have HN:=hid hn;have HB:=hid hB;clear hn hB;go_enter Tryz.func68,Tryz.ntmps68;go_wp2_with fail;refine(HR.out _).mono ?_;rintro e w1 ⟨rfl,hb1⟩;have ho1:=ObX.kept HN.out hb1;have hB1:=HB.out.trans (hb1.mono (by have:=HB.out.size;omega));have hn1:=HN.out.lt;have hs1:w.heap.size+1≤w1.heap.size:=by have:=hb1.size;simp at this;omega
  obtain⟨d0,d1,d2,d3,d4,d5,d6,d7⟩:=ho1.cells;have hnew:=World.ownsRow_lit (base:=w1.heap.size) (e:=22) (size:=1) w1 #[.int .u32 o.st] 1 (Nat.le_refl _) (by simp[maxLen]) rfl
  have hca:∀ (j:Nat) u,((ints .u32).all l)[j]?=some u→(w1.alloc (.cells #[.int .u32 o.st] 22)).cell? ((⟨sb,so,none⟩:Addr).add j)=some u:=fun j u hu=>by
   have h:=HC.out j u hu;have h2:=(hB1.cell (p:=(⟨sb,so,none⟩:Addr).add j) (by rw[add_block];show sb<_;have:=HBw.out;omega)).trans h;rw[World.cell?_alloc_lt w1 _ _ (cell_lt h2)];exact h2
  have hbl:=(Below.refl w1.heap.size w1).alloc (Nat.le_refl _) (.cells #[.int .u32 o.st] 22);have HCA:=hid hca;have HNW:=hid hnew;have HB1:=hid hB1;have HBL:=hid hbl;have HS1:=hid hs1;clear hb1 ho1 hca hnew hB1 hbl HC HR HN HB;have hA2:=HA.out;have hl2:=HL.out;have hsl:w.heap.size<w1.heap.size:=by have:=HS1.out;omega
  clear hn1;go_wp2_with (at_builtin;refine wpList_append_own_at _ rfl _ _ 23 rfl w1.heap.size 22 i0 (.int .u32 0) 1 4 Tryz.underlying23 hi hz0 hz1 hz2 rfl (by omega) _ 1 _ rfl HNW.out ⟨sb,so,none⟩ l.length o.ci ((ints .u32).all l) (by simp[go_sem]) (by rw[Enc.all_len];rfl) HCA.out ((ints .u32).all_one l) (by unfold maxLen;omega) (by omega) (by simp) ?_;intro v' w2 hown1 hgrow1 _ _);go_ret;have hown:OwnW w1.heap.size w2 v' (o.st::l):=⟨by have:=hown1;simpa [Own,ints,Enc.of1,Enc.all,Nat.add_comm] using this,HWF.out⟩;obtain⟨A,c,hv,hc2,hw2⟩:=hown.ws;exact⟨A,c,by rw[hv];rfl,hc2,hw2,HB1.out.trans ((HBL.out.trans (grown_below HNW.out hgrow1 (Nat.le_refl _) (by simp))).mono (by omega))⟩
 ·have hna:¬ anyR o:=fun q=>h (of_decide_eq_true ((any_seq hk).symm.trans (decide_eq_true q)))
  have hL:layZ o l=[]:=by unfold layZ;rw[if_neg hna]
  rw[hL];have hr:=fun W=>seqRight_o o ho W
  rw[decide_eq_false h] at hr;unfold obA at hr;have HR:=hid hr;clear hr h hna hk ho hl hI hB hL;have hn:=ObX.new w o;have hB:=(Below.refl w.heap.size w).alloc (Nat.le_refl _) (.cells (obA o) 26);unfold obA at *;have HN:=hid hn;have HB:=hid hB;clear hn hB;go_enter Tryz.func68,Tryz.ntmps68;go_wp2_with fail;refine(HR.out _).mono ?_;rintro e w1 ⟨rfl,hb1⟩;have hB1:=HB.out.trans (hb1.mono (by have:=HB.out.size;omega));have HB1:=hid hB1;clear hB1 hb1;go_wp2_with fail;go_ret;exact⟨none,0,rfl,⟨Nat.le_refl _,Nat.zero_le _⟩,⟨SlOf.nil,fun z hz=>by cases hz⟩,HB1.out⟩
theorem lay_o (o:Ob) (ho:o.Ok) (l:List Int) (B:Nat) (w:World) (hl:o.ni=l.length) (hI:Ws w B o.I l) (hB:B≤w.heap.size):Calls Tryz.prog 33 #[.agg (obA o)] w (LayR w (layZ o l)):=by
 obtain⟨Z,hZ⟩:∃ Z,layZ o l=Z:=⟨_,rfl⟩;rw[hZ];have hcall:∀ (f:FuncId),(∀ W,Below w.heap.size w W→Calls Tryz.prog f #[.agg (obA o)] W (LayR W Z))→∀ W,Below w.heap.size w W→Calls Tryz.prog f #[.agg (obA o)] W (LayR W Z):=fun _ h=>h
 have hIB:∀ W,Below w.heap.size w W→Ws W B o.I l∧B≤W.heap.size:=fun W hb=>⟨hI.below (hb.mono hB) (Nat.le_refl _),by have:=hb.size;omega⟩
 have hn:=ObX.new w o;have hB2:=(Below.refl w.heap.size w).alloc (Nat.le_refl _) (.cells (obA o) 26);have HW:=hid hn
 by_cases hk1:o.k=1
 ·have kb1:(o.k==1)=true:=by simpa using hk1
  have hr:=(fourLay_o o ho hk1 l B (w.alloc (.cells (obA o) 26)) hl (hIB _ hB2).1 (hIB _ hB2).2);rw[hZ] at hr;clear hZ hcall hIB;clear hk1;have HB:=hid hB2;obtain⟨d0,d1,d2,d3,d4,d5,d6,d7⟩:=hn.cells;unfold obA at hr;have HR:=hid hr;clear hr hn hB2 HW hI hl hB ho;unfold obA at *;go_enter Tryz.func33,Tryz.ntmps33;go_wp2_with fail;refine HR.out.mono ?_;rintro e w1 ⟨A,c,rfl,hc,hws,hb⟩;have HC:=hid hc;have HWS:=hid hws;have HBB:=hid hb;clear hc hws hb d0 d1 d2 d3 d4 d5 d6 d7;go_wp2_with fail;go_ret;exact⟨A,c,rfl,HC.out,HWS.out,HB.out.trans (HBB.out.mono (by simp))⟩
 ·have kb1:(o.k==1)=false:=by simpa using hk1
  by_cases hk2:o.k=2
  ·have kb2:(o.k==2)=true:=by simpa using hk2
   have hr:=(chenLay_o o ho hk2 l B (w.alloc (.cells (obA o) 26)) hl (hIB _ hB2).1 (hIB _ hB2).2);rw[hZ] at hr;clear hZ hcall hIB;clear hk1;clear hk2;have HB:=hid hB2;obtain⟨d0,d1,d2,d3,d4,d5,d6,d7⟩:=hn.cells;unfold obA at hr;have HR:=hid hr;clear hr hn hB2 HW hI hl hB ho;unfold obA at *;go_enter Tryz.func33,Tryz.ntmps33;go_wp2_with fail;refine HR.out.mono ?_;rintro e w1 ⟨A,c,rfl,hc,hws,hb⟩;have HC:=hid hc;have HWS:=hid hws;have HBB:=hid hb;clear hc hws hb d0 d1 d2 d3 d4 d5 d6 d7;go_wp2_with fail;go_ret;exact⟨A,c,rfl,HC.out,HWS.out,HB.out.trans (HBB.out.mono (by simp))⟩
  ·have kb2:(o.k==2)=false:=by simpa using hk2
   by_cases hk3:o.k=3
   ·have kb3:(o.k==3)=true:=by simpa using hk3
    have hr:=(seqLay_o o ho hk3 l B (w.alloc (.cells (obA o) 26)) hl (hIB _ hB2).1 (hIB _ hB2).2);rw[hZ] at hr;clear hZ hcall hIB;clear hk1;clear hk2;clear hk3;have HB:=hid hB2;obtain⟨d0,d1,d2,d3,d4,d5,d6,d7⟩:=hn.cells;unfold obA at hr;have HR:=hid hr;clear hr hn hB2 HW hI hl hB ho;unfold obA at *;go_enter Tryz.func33,Tryz.ntmps33;go_wp2_with fail;refine HR.out.mono ?_;rintro e w1 ⟨A,c,rfl,hc,hws,hb⟩;have HC:=hid hc;have HWS:=hid hws;have HBB:=hid hb;clear hc hws hb d0 d1 d2 d3 d4 d5 d6 d7;go_wp2_with fail;go_ret;exact⟨A,c,rfl,HC.out,HWS.out,HB.out.trans (HBB.out.mono (by simp))⟩
   ·have kb3:(o.k==3)=false:=by simpa using hk3
    by_cases hk4:o.k=4
    ·have kb4:(o.k==4)=true:=by simpa using hk4
     have hr:=(ringLay_o o ho hk4 l B (w.alloc (.cells (obA o) 26)) hl (hIB _ hB2).1 (hIB _ hB2).2);rw[hZ] at hr;clear hZ hcall hIB;clear hk1;clear hk2;clear hk3;clear hk4;have HB:=hid hB2;obtain⟨d0,d1,d2,d3,d4,d5,d6,d7⟩:=hn.cells;unfold obA at hr;have HR:=hid hr;clear hr hn hB2 HW hI hl hB ho;unfold obA at *;go_enter Tryz.func33,Tryz.ntmps33;go_wp2_with fail;refine HR.out.mono ?_;rintro e w1 ⟨A,c,rfl,hc,hws,hb⟩;have HC:=hid hc;have HWS:=hid hws;have HBB:=hid hb;clear hc hws hb d0 d1 d2 d3 d4 d5 d6 d7;go_wp2_with fail;go_ret;exact⟨A,c,rfl,HC.out,HWS.out,HB.out.trans (HBB.out.mono (by simp))⟩
    ·have kb4:(o.k==4)=false:=by simpa using hk4
     by_cases hk5:o.k=5
     ·have kb5:(o.k==5)=true:=by simpa using hk5
      have hr:=(cabLay_o o ho hk5 l B (w.alloc (.cells (obA o) 26)) hl (hIB _ hB2).1 (hIB _ hB2).2);rw[hZ] at hr;clear hZ hcall hIB;clear hk1;clear hk2;clear hk3;clear hk4;clear hk5;have HB:=hid hB2;obtain⟨d0,d1,d2,d3,d4,d5,d6,d7⟩:=hn.cells;unfold obA at hr;have HR:=hid hr;clear hr hn hB2 HW hI hl hB ho;unfold obA at *;go_enter Tryz.func33,Tryz.ntmps33;go_wp2_with fail;refine HR.out.mono ?_;rintro e w1 ⟨A,c,rfl,hc,hws,hb⟩;have HC:=hid hc;have HWS:=hid hws;have HBB:=hid hb;clear hc hws hb d0 d1 d2 d3 d4 d5 d6 d7;go_wp2_with fail;go_ret;exact⟨A,c,rfl,HC.out,HWS.out,HB.out.trans (HBB.out.mono (by simp))⟩
     ·have kb5:(o.k==5)=false:=by simpa using hk5
      have hr:=(fifoLay_o o ho ⟨hk1,hk2,hk3,hk4,hk5⟩ l B (w.alloc (.cells (obA o) 26)) hl (hIB _ hB2).1 (hIB _ hB2).2);rw[hZ] at hr;clear hZ hcall hIB;clear hk1;clear hk2;clear hk3;clear hk4;clear hk5;have HB:=hid hB2;obtain⟨d0,d1,d2,d3,d4,d5,d6,d7⟩:=hn.cells;unfold obA at hr;have HR:=hid hr;clear hr hn hB2 HW hI hl hB ho;unfold obA at *;go_enter Tryz.func33,Tryz.ntmps33;go_wp2_with fail;refine HR.out.mono ?_;rintro e w1 ⟨A,c,rfl,hc,hws,hb⟩;have HC:=hid hc;have HWS:=hid hws;have HBB:=hid hb;clear hc hws hb d0 d1 d2 d3 d4 d5 d6 d7;go_wp2_with fail;go_ret;exact⟨A,c,rfl,HC.out,HWS.out,HB.out.trans (HBB.out.mono (by simp))⟩
end Go.Proofs.YtolmpehgeinlkaaGreatDoor
