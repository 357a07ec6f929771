/- An object's words at the beginning: fifo.Lay, seq.Lay, object.Lay. -/
import Derived.Test.YtolmpehgeinlkaaGreatDoorZcShI
namespace Go.Proofs.YtolmpehgeinlkaaGreatDoor
open Go.RowKit
open Go.Lib (hid)
attribute [local go_sem] Oper.semAt_some
set_option maxHeartbeats 2000000
set_option maxRecDepth 100000
theorem vh (o:Ob) (ho:o.Ok) (hk:¬ o.k=1∧¬ o.k=2∧¬ o.k=3∧¬ o.k=4∧¬ o.k=5) (l:List Int) (B:Nat) (w:World) (hl:o.ni=l.length) (hI:Ws w B o.I l) (_hB:B≤w.heap.size):Calls Tryz.prog 71 #[.agg (af o)] w (LayR w (bW o l)):=by
 have hs:=fun W=>ju o ho hk W
 by_cases h:bS o
 ·have bK:=eP h;obtain⟨q1,q2,q3,q4,q5,q6⟩:=ea h;have l6:o.k=6:=bo.2.2.2.2.2 h;have m2:=dH (a:=o.s) (b:=o.wd) (by omega) (by omega) (by omega) (by omega);have xx:l=[]:=List.eq_nil_of_length_eq_zero (by unfold bS aH at h;omega);subst xx;obtain⟨N,hN⟩:∃ N:Nat,av o=N:=⟨(av o).toNat,by omega⟩;have hL:bW o []=(((zs N).set 0 o.st).set 1 o.st):=by unfold bW fe;rw[if_pos (.inr (.inr (.inr (.inr (.inr h))))),if_pos l6,hN,Int.toNat_natCast,lC]
  rw[hL];rw[hN] at hs;have g0:1<N:=by omega
  have g2:0<N:=by omega
  have g3:N≤300:=by omega
  have g4:(1:Int)<(N:Int):=by omega
  have g5:(0:Int)<(N:Int):=by omega
  have ql:=hid (show(((zs N).set 0 o.st).set 1 o.st).length=N by simp[zs]);have qE:=fun W=>BN N g3 W
  have nN:=hid (kA 1 (kA 0 (mn N) (ng ho)) (ng ho));have B7:=hid (show(dn (zs N))[0]?=some (.int .u32 0) by rw[fA,zs,List.getElem?_replicate,if_pos g2];rfl);have Iz:=hid (show(dn ((zs N).set 0 o.st))[1]?=some (.int .u32 0) by rw[fA,List.getElem?_set_ne (by omega),zs,List.getElem?_replicate,if_pos g0];rfl);unfold af at hs;have HS:=hid hs;clear hL h hk l6 bK q1 q2 q3 q4 q5 q6 m2 hN ho hl hs hI _hB;have hn:=ObX.new w o;have hB:=bt w (.cells (af o) 26);unfold af at *;have HN:=hid hn;have HB:=hid hB;clear hn hB;go_enter Tryz.func71,Tryz.ntmps71;go_wp2_with fail;refine(HS.out _).mono ?_;rintro e w1 ⟨rfl,am⟩;have aP:=ObX.kept HN.out am;have aO:=bv HB.out am;have iR:=HN.out.lt;have bZ:w.heap.size+1≤w1.heap.size:=by have:=am.size;simp at this;omega
  have bL:=RowB.new w1 (dn (zs N)) 22;have cz:=bt w1 (.cells (dn (zs N)) 22);have fC:(w1.alloc (.cells (dn (zs N)) 22)).heap.size=w1.heap.size+1:=by rw[World.size_alloc]
  obtain⟨W2,sR⟩:∃ W2,w1.alloc (.cells (dn (zs N)) 22)=W2:=⟨_,rfl⟩;rw[sR] at bL cz fC;obtain⟨b,hb⟩:∃ b,w1.heap.size=b:=⟨_,rfl⟩;obtain⟨n,aq⟩:∃ n,w.heap.size=n:=⟨_,rfl⟩;have cC:=aP.kept cz;have bz:=aO.trans (cz.mono (by omega));rw[aq] at aP cC bZ bz ⊢;rw[hb] at bL cz bZ fC;have HO:=hid cC;have HR:=hid bL;have cw:=hid bz;have bT:=hid aO;clear am aP cC bL cz aO bz;go_wp2_with fail;have ct:(fun w':World=>Below b W2 w'∧w'.cell? ⟨n,0,none⟩=some (.int .i64 o.k)∧w'.cell? ⟨n,1,none⟩=some (.int .i64 o.wd)∧w'.cell? ⟨n,2,none⟩=some (.int .i64 o.s)∧w'.cell? ⟨n,3,none⟩=some (.int .i64 o.c)∧w'.cell? ⟨n,4,none⟩=some (.int .u32 o.st)∧w'.cell? ⟨n,5,none⟩=some (.slice o.I o.ni o.ci)∧w'.cell? ⟨n,6,none⟩=some (.int .i64 o.wr)∧w'.cell? ⟨n,7,none⟩=some (.slice o.R o.nr o.cr)) W2.drew:=⟨(Below.refl _ W2).drew,(ObX.kept HO.out (Below.refl _ W2).drew).cells⟩;have bm:RowB W2.drew b (dn (zs N)) 22:=HR.out.kept (Below.refl _ W2).drew;refine wp_region_held_drew (S:=(fun w':World=>Below b W2 w'∧w'.cell? ⟨n,0,none⟩=some (.int .i64 o.k)∧w'.cell? ⟨n,1,none⟩=some (.int .i64 o.wd)∧w'.cell? ⟨n,2,none⟩=some (.int .i64 o.s)∧w'.cell? ⟨n,3,none⟩=some (.int .i64 o.c)∧w'.cell? ⟨n,4,none⟩=some (.int .u32 o.st)∧w'.cell? ⟨n,5,none⟩=some (.slice o.I o.ni o.ci)∧w'.cell? ⟨n,6,none⟩=some (.int .i64 o.wr)∧w'.cell? ⟨n,7,none⟩=some (.slice o.R o.nr o.cr))) (by kernel_rfl) ct (fun hHeld=>?_);generalize W2.drew=wd at hHeld bm ⊢;have hHeld:(fun w':World=>Below b W2 w'∧w'.cell? ⟨n,0,none⟩=some (.int .i64 o.k)∧w'.cell? ⟨n,1,none⟩=some (.int .i64 o.wd)∧w'.cell? ⟨n,2,none⟩=some (.int .i64 o.s)∧w'.cell? ⟨n,3,none⟩=some (.int .i64 o.c)∧w'.cell? ⟨n,4,none⟩=some (.int .u32 o.st)∧w'.cell? ⟨n,5,none⟩=some (.slice o.I o.ni o.ci)∧w'.cell? ⟨n,6,none⟩=some (.int .i64 o.wr)∧w'.cell? ⟨n,7,none⟩=some (.slice o.R o.nr o.cr)) wd:=hHeld;replace bm:=hid bm;refine wpAnyH_take (i:=0) (oi:=?_) (v:=?_) ?_ (by kernel_rfl) (by kernel_rfl) (by kernel_rfl) ?_ (Or.inl ⟨?_,?_⟩) (by assumption) ?_;rotate_left 2
  ·(simp only[List.getElem?_toArray,List.getElem?_cons_zero];rfl)
  ·first | exact fun _ _ _ h=>h | exact fun _ _ _ h=>by cases h.1
  ·rfl
  ·((intro wq cd;(try dsimp only at cd);go_simp);(try with_reducible rfl))
  try simp only[Act.put,List.setIfInBounds_toArray,List.set_cons_zero,List.set_cons_succ]
  refine wpAnyH_take (i:=1) (oi:=?_) (v:=?_) ?_ (by kernel_rfl) (by kernel_rfl) (by kernel_rfl) ?_ (Or.inl ⟨?_,?_⟩) (by assumption) ?_;rotate_left 2
  ·(simp only[List.getElem?_toArray,List.getElem?_cons_succ,List.getElem?_cons_zero];rfl)
  ·first | exact fun _ _ _ h=>h | exact fun _ _ _ h=>by cases h.1
  ·rfl
  ·((intro wq cd;(try dsimp only at cd);go_simp);(try with_reducible rfl))
  try simp only[Act.put,List.setIfInBounds_toArray,List.set_cons_zero,List.set_cons_succ]
  refine wpAnyH_take (i:=2) (oi:=?_) (v:=?_) ?_ (by kernel_rfl) (by kernel_rfl) (by kernel_rfl) ?_ (Or.inl ⟨?_,?_⟩) (by assumption) ?_;rotate_left 2
  ·(simp only[List.getElem?_toArray,List.getElem?_cons_succ,List.getElem?_cons_zero];rfl)
  ·first | exact fun _ _ _ h=>h | exact fun _ _ _ h=>by cases h.1
  ·rfl
  ·((intro wq cd;(try dsimp only at cd);go_simp);(try with_reducible rfl))
  try simp only[Act.put,List.setIfInBounds_toArray,List.set_cons_zero,List.set_cons_succ]
  refine wpAnyH_take (i:=3) (oi:=?_) (v:=?_) ?_ (by kernel_rfl) (by kernel_rfl) (by kernel_rfl) ?_ (Or.inl ⟨?_,?_⟩) (by assumption) ?_;rotate_left 2
  ·(simp only[List.getElem?_toArray,List.getElem?_cons_succ,List.getElem?_cons_zero];rfl)
  ·first | exact fun _ _ _ h=>h | exact fun _ _ _ h=>by cases h.1
  ·rfl
  ·((intro wq cd;(try dsimp only at cd);go_simp);(try with_reducible rfl))
  try simp only[Act.put,List.setIfInBounds_toArray,List.set_cons_zero,List.set_cons_succ]
  refine wpAnyH_take (i:=4) (oi:=?_) (v:=?_) ?_ (by kernel_rfl) (by kernel_rfl) (by kernel_rfl) ?_ (Or.inl ⟨?_,?_⟩) (by assumption) ?_;rotate_left 2
  ·(simp only[List.getElem?_toArray,List.getElem?_cons_succ,List.getElem?_cons_zero];rfl)
  ·first | exact fun _ _ _ h=>h | exact fun _ _ _ h=>by cases h.1
  ·rfl
  ·((intro wq cd;(try dsimp only at cd);go_simp);(try with_reducible rfl))
  try simp only[Act.put,List.setIfInBounds_toArray,List.set_cons_zero,List.set_cons_succ]
  refine wpAnyH_take (i:=5) (oi:=?_) (v:=?_) ?_ (by kernel_rfl) (by kernel_rfl) (by kernel_rfl) ?_ (Or.inl ⟨?_,?_⟩) (by assumption) ?_;rotate_left 2
  ·(simp only[List.getElem?_toArray,List.getElem?_cons_succ,List.getElem?_cons_zero];rfl)
  ·first | exact fun _ _ _ h=>h | exact fun _ _ _ h=>by cases h.1
  ·rfl
  ·((intro wq cd;(try dsimp only at cd);go_simp);(try with_reducible rfl))
  try simp only[Act.put,List.setIfInBounds_toArray,List.set_cons_zero,List.set_cons_succ]
  refine wpAnyH_take (i:=6) (oi:=?_) (v:=?_) ?_ (by kernel_rfl) (by kernel_rfl) (by kernel_rfl) ?_ (Or.inl ⟨?_,?_⟩) (by assumption) ?_;rotate_left 2
  ·(simp only[List.getElem?_toArray,List.getElem?_cons_succ,List.getElem?_cons_zero];rfl)
  ·first | exact fun _ _ _ h=>h | exact fun _ _ _ h=>by cases h.1
  ·rfl
  ·((intro wq cd;(try dsimp only at cd);go_simp);(try with_reducible rfl))
  try simp only[Act.put,List.setIfInBounds_toArray,List.set_cons_zero,List.set_cons_succ]
  have c0:wd.cell? ⟨b,0,none⟩=some (.int .u32 0):=(bm.out.cell 0).trans B7.out;have f0:wd.frozen? ⟨b,0,none⟩=false:=bm.out.frozen 0;refine jX [7] ?_;refine gN (fun K hK=>?_) AllReadyH.nil;go_simp
  have aN:(fun w':World=>Below b W2 w'∧w'.cell? ⟨n,0,none⟩=some (.int .i64 o.k)∧w'.cell? ⟨n,1,none⟩=some (.int .i64 o.wd)∧w'.cell? ⟨n,2,none⟩=some (.int .i64 o.s)∧w'.cell? ⟨n,3,none⟩=some (.int .i64 o.c)∧w'.cell? ⟨n,4,none⟩=some (.int .u32 o.st)∧w'.cell? ⟨n,5,none⟩=some (.slice o.I o.ni o.ci)∧w'.cell? ⟨n,6,none⟩=some (.int .i64 o.wr)∧w'.cell? ⟨n,7,none⟩=some (.slice o.R o.nr o.cr)) (wd.setCell ⟨b,0,none⟩ (.int .u32 o.st)):=by
   obtain⟨h0,u0,u1,u2,u3,u4,u5,u6,u7⟩:=hHeld
   have hk:∀ {i:Nat} {u:Value},wd.cell? ⟨n,i,none⟩=some u→(wd.setCell ⟨b,0,none⟩ (.int .u32 o.st)).cell? ⟨n,i,none⟩=some u:=fun {i u} hc=>by
    unfold World.cell? at hc ⊢;rw[dT _ _ _ _ _ (show n≠b by omega)];exact hc
   exact⟨ce h0 b 0 (Nat.le_refl _) _,hk u0,hk u1,hk u2,hk u3,hk u4,hk u5,hk u6,hk u7⟩
  have mh:=bm.out.set 0 (.int .u32 o.st);rw[fY] at mh;replace bm:=hid mh;clear mh c0 f0;refine hK.out _ _ aN (fun hHeld=>?_);clear hK K;try simp only[Act.put,List.setIfInBounds_toArray,List.set_cons_zero,List.set_cons_succ]
  obtain⟨we,GY⟩:∃ W,wd.setCell ⟨b,0,none⟩ (.int .u32 o.st)=W:=⟨_,rfl⟩;rw[GY] at hHeld bm ⊢;clear GY;refine wpAnyH_take (i:=8) (oi:=?_) (v:=?_) ?_ (by kernel_rfl) (by kernel_rfl) (by kernel_rfl) ?_ (Or.inl ⟨?_,?_⟩) (by assumption) ?_;rotate_left 2
  ·(simp only[List.getElem?_toArray,List.getElem?_cons_succ,List.getElem?_cons_zero];rfl)
  ·first | exact fun _ _ _ h=>h | exact fun _ _ _ h=>by cases h.1
  ·rfl
  ·((intro wq cd;(try dsimp only at cd);go_simp);(try with_reducible rfl))
  try simp only[Act.put,List.setIfInBounds_toArray,List.set_cons_zero,List.set_cons_succ]
  have c0:we.cell? ⟨b,1,none⟩=some (.int .u32 0):=(bm.out.cell 1).trans Iz.out;have f0:we.frozen? ⟨b,1,none⟩=false:=bm.out.frozen 1;refine jX [9] ?_;refine gN (fun K hK=>?_) AllReadyH.nil;go_simp
  have aN:(fun w':World=>Below b W2 w'∧w'.cell? ⟨n,0,none⟩=some (.int .i64 o.k)∧w'.cell? ⟨n,1,none⟩=some (.int .i64 o.wd)∧w'.cell? ⟨n,2,none⟩=some (.int .i64 o.s)∧w'.cell? ⟨n,3,none⟩=some (.int .i64 o.c)∧w'.cell? ⟨n,4,none⟩=some (.int .u32 o.st)∧w'.cell? ⟨n,5,none⟩=some (.slice o.I o.ni o.ci)∧w'.cell? ⟨n,6,none⟩=some (.int .i64 o.wr)∧w'.cell? ⟨n,7,none⟩=some (.slice o.R o.nr o.cr)) (we.setCell ⟨b,1,none⟩ (.int .u32 o.st)):=by
   obtain⟨h0,u0,u1,u2,u3,u4,u5,u6,u7⟩:=hHeld
   have hk:∀ {i:Nat} {u:Value},we.cell? ⟨n,i,none⟩=some u→(we.setCell ⟨b,1,none⟩ (.int .u32 o.st)).cell? ⟨n,i,none⟩=some u:=fun {i u} hc=>by
    unfold World.cell? at hc ⊢;rw[dT _ _ _ _ _ (show n≠b by omega)];exact hc
   exact⟨ce h0 b 1 (Nat.le_refl _) _,hk u0,hk u1,hk u2,hk u3,hk u4,hk u5,hk u6,hk u7⟩
  have mh:=bm.out.set 1 (.int .u32 o.st);rw[fY] at mh;replace bm:=hid mh;clear mh c0 f0;refine hK.out _ _ aN (fun hHeld=>?_);clear hK K;try simp only[Act.put,List.setIfInBounds_toArray,List.set_cons_zero,List.set_cons_succ]
  obtain⟨wf,F5⟩:∃ W,we.setCell ⟨b,1,none⟩ (.int .u32 o.st)=W:=⟨_,rfl⟩;rw[F5] at hHeld bm ⊢;clear F5;refine bh ?_;clear ct;go_wp2_with fail;go_ret;exact LayR.row bm.out ql.out g3 nN.out (by rw[aq];exact cw.out.trans (hHeld.1.mono (by omega)))
 ·have eh:¬ aT o:=fun q=>h (of_decide_eq_true ((gB hk).symm.trans (decide_eq_true q)))
  have hL:bW o l=[]:=by unfold bW;rw[if_neg eh]
  have hz:=cH eh;rw[hL];rw[hz] at hs;obtain⟨N,hN⟩:∃ N:Nat,N=0:=⟨_,rfl⟩;have gl:∀ W,_:=fun W=>hs W
  have qE:=yi;unfold af at hs;have HS:=hid hs;clear hL hz hs gl eh h hk ho hI hl _hB hN;have hn:=ObX.new w o;have hB:=bt w (.cells (af o) 26);unfold af at *;have HN:=hid hn;have HB:=hid hB;clear hn hB;go_enter Tryz.func71,Tryz.ntmps71;go_wp2_with fail;refine(HS.out _).mono ?_;rintro e w1 ⟨rfl,am⟩;have aO:=bv HB.out am;have bT:=hid aO;have bZ:w.heap.size≤w1.heap.size:=by have:=am.size;simp at this;omega
  clear aO am;go_wp2_with fail;go_ret;exact LayR.row (L:=[]) (RowB.new w1 (dn (zs 0)) 22) rfl (by omega) (fun z hz=>by cases hz) (bT.out.alloc bZ _)
theorem yI (o:Ob) (ho:o.Ok) (hk:o.k=3) (l:List Int) (B:Nat) (w:World) (hl:o.ni=l.length) (hI:Ws w B o.I l) (hB:B≤w.heap.size):Calls Tryz.prog 68 #[.agg (af o)] w (LayR w (bW o l)):=by
 by_cases h:dB o
 ·have hr:=fun W=>ee o ho W
  rw[decide_eq_true h] at hr;have bK:=fE h;obtain⟨q1,q2,q3,q4,q5,q6⟩:=gj h;have kw:(l.length:Int)=o.wd:=by unfold dB aH at h;omega
  have hL:bW o l=o.st::l:=by
   unfold bW fe fu cQ;rw[if_pos (.inr (.inr (.inl h))),if_neg (by omega),if_neg (by omega),iq hk,bK];have e1:(1+0*o.wd).toNat=1:=by simp
   have e2:(1+o.wd).toNat=l.length+1:=by omega
   rw[e1,e2];unfold ke zs;rw[List.drop_of_length_le (by simp;omega)];simp[List.replicate_succ]
  rw[hL];have hx:l≠[]:=by intro hh;rw[hh] at kw;simp at kw;omega
  obtain⟨x0,iV⟩:∃ x,l[0]?=some x:=by
   cases l with
   | nil=>exact absurd rfl hx
   | cons x t=>exact⟨x,rfl⟩
  obtain⟨_,sb,so,hA,F2,_⟩:=hI.get iV
  have hc:∀ (j:Nat) u,((bB .u32).all l)[j]?=some u→w.cell? ((⟨sb,so,none⟩:Addr).add j)=some u:=by
   intro j u hu;have iY:(bB .u32).all l=l.map (Value.int .u32):=eY _ _ l;rw[iY,List.getElem?_map] at hu;obtain⟨z,hz,rfl⟩:=Option.map_eq_some_iff.1 hu;obtain⟨_,b2,o2,nj,_,ba⟩:=hI.get hz;rw[hA] at nj
   injection nj with nj
   injection nj with e1 e2 e3
   subst e1 e2;rw[Addr.add_lit];exact ba
  have Nr:l.length≤8:=by omega
  have dQ:=ng ho;have nN:=hid (show ∀ z ∈ o.st::l,(Lit.int .u32 z).wf=true from fun z hz=>(List.mem_cons.1 hz).elim (fun q=>by rw[q];exact dQ) (hI.2 z));have HC:=hid hc;unfold af at hr;have HR:=hid hr;have nK:=hid hB;have HL:=hid hl;have HA:=hid hA;obtain⟨i0,hi,dU,dA,n8⟩:=info_parts (P:=Tryz.prog) (e:=22) (z:=.int .u32 0) (size:=1) (bytes:=4) (by kernel_rfl);clear hL h hk bK q1 q2 q3 q4 q5 q6 kw ho hl hI hB hr hc hx iV dQ hA;have hn:=ObX.new w o;have hB:=bt w (.cells (af o) 26);unfold af at *;have HN:=hid hn;have HB:=hid hB;clear hn hB;go_enter Tryz.func68,Tryz.ntmps68;go_wp2_with fail;refine(HR.out _).mono ?_;rintro e w1 ⟨rfl,am⟩;have aP:=ObX.kept HN.out am;have aO:=bv HB.out am;have iR:=HN.out.lt;have bZ:w.heap.size+1≤w1.heap.size:=by have:=am.size;simp at this;omega
  obtain⟨d0,d1,d2,d3,d4,d5,d6,d7⟩:=aP.cells;have bL:=World.ownsRow_lit (base:=w1.heap.size) (e:=22) (size:=1) w1 #[.int .u32 o.st] 1 (Nat.le_refl _) (by simp[maxLen]) rfl
  have Ho:∀ (j:Nat) u,((bB .u32).all l)[j]?=some u→(w1.alloc (.cells #[.int .u32 o.st] 22)).cell? ((⟨sb,so,none⟩:Addr).add j)=some u:=fun j u hu=>by
   have h:=HC.out j u hu;have h2:=(aO.cell (p:=(⟨sb,so,none⟩:Addr).add j) (by rw[nY];show sb<_;have:=nK.out;omega)).trans h;rw[World.cell?_alloc_lt w1 _ _ (aX h2)];exact h2
  have jU:=bt w1 (.cells #[.int .u32 o.st] 22);have IU:=hid Ho;have la:=hid bL;have bT:=hid aO;have BO:=hid jU;have ai:=hid bZ;clear am aP Ho bL aO jU HC HR HN HB;have nj:=HA.out;have xr:=HL.out;have bH:w.heap.size<w1.heap.size:=by have:=ai.out;omega
  clear iR;go_wp2_with (at_builtin;refine wpList_append_own_at _ rfl _ _ 23 rfl w1.heap.size 22 i0 (.int .u32 0) 1 4 Tryz.underlying23 hi dU dA n8 rfl (by omega) _ 1 _ rfl la.out ⟨sb,so,none⟩ l.length o.ci ((bB .u32).all l) (by simp[go_sem]) (by rw[Enc.all_len];rfl) IU.out ((bB .u32).all_one l) (by unfold maxLen;omega) (by omega) (by simp) ?_;intro v' w2 yl sH _ _);go_ret;have cT:OwnW w1.heap.size w2 v' (o.st::l):=⟨by have:=yl;simpa [Own,bB,Enc.of1,Enc.all,Nat.add_comm] using this,nN.out⟩;obtain⟨A,c,hv,FS,gm⟩:=cT.ws;exact⟨A,c,by rw[hv];rfl,FS,gm,bT.out.trans ((BO.out.trans (dG la.out sH (Nat.le_refl _) (by simp))).mono (by omega))⟩
 ·have eh:¬ aT o:=fun q=>h (of_decide_eq_true ((jT hk).symm.trans (decide_eq_true q)))
  have hL:bW o l=[]:=by unfold bW;rw[if_neg eh]
  rw[hL];have hr:=fun W=>ee o ho W
  rw[decide_eq_false h] at hr;unfold af at hr;have HR:=hid hr;clear hr h eh hk ho hl hI hB hL;have hn:=ObX.new w o;have hB:=bt w (.cells (af o) 26);unfold af at *;have HN:=hid hn;have HB:=hid hB;clear hn hB;go_enter Tryz.func68,Tryz.ntmps68;go_wp2_with fail;refine(HR.out _).mono ?_;rintro e w1 ⟨rfl,am⟩;have aO:=bv HB.out am;have bT:=hid aO;clear aO am;go_wp2_with fail;go_ret;exact⟨none,0,rfl,⟨Nat.le_refl _,Nat.zero_le _⟩,⟨SlOf.nil,fun z hz=>by cases hz⟩,bT.out⟩
theorem FH (o:Ob) (ho:o.Ok) (l:List Int) (B:Nat) (w:World) (hl:o.ni=l.length) (hI:Ws w B o.I l) (hB:B≤w.heap.size):Calls Tryz.prog 33 #[.agg (af o)] w (LayR w (bW o l)):=by
 obtain⟨Z,hZ⟩:∃ Z,bW o l=Z:=⟨_,rfl⟩;rw[hZ];have gW:∀ (f:FuncId),(∀ W,Below w.heap.size w W→Calls Tryz.prog f #[.agg (af o)] W (LayR W Z))→∀ W,Below w.heap.size w W→Calls Tryz.prog f #[.agg (af o)] W (LayR W Z):=fun _ h=>h
 have pT:∀ W,Below w.heap.size w W→Ws W B o.I l∧B≤W.heap.size:=fun W hb=>⟨hI.below (hb.mono hB) (Nat.le_refl _),by have:=hb.size;omega⟩
 have hn:=ObX.new w o;have bz:=bt w (.cells (af o) 26);have HW:=hid hn
 by_cases cP:o.k=1
 ·have kb1:(o.k==1)=true:=by simpa using cP
  have hr:=(vw o ho cP l B (w.alloc (.cells (af o) 26)) hl (pT _ bz).1 (pT _ bz).2);rw[hZ] at hr;clear hZ gW pT;clear cP;have HB:=hid bz;obtain⟨d0,d1,d2,d3,d4,d5,d6,d7⟩:=hn.cells;unfold af at hr;have HR:=hid hr;clear hr hn bz HW hI hl hB ho;unfold af at *;go_enter Tryz.func33,Tryz.ntmps33;go_wp2_with fail;refine HR.out.mono ?_;rintro e w1 ⟨A,c,rfl,hc,gF,hb⟩;have HC:=hid hc;have zK:=hid gF;have ia:=hid hb;clear hc gF hb d0 d1 d2 d3 d4 d5 d6 d7;go_wp2_with fail;go_ret;exact⟨A,c,rfl,HC.out,zK.out,HB.out.trans (ia.out.mono (by simp))⟩
 ·have kb1:(o.k==1)=false:=by simpa using cP
  by_cases dg:o.k=2
  ·have kb2:(o.k==2)=true:=by simpa using dg
   have hr:=(vf o ho dg l B (w.alloc (.cells (af o) 26)) hl (pT _ bz).1 (pT _ bz).2);rw[hZ] at hr;clear hZ gW pT;clear cP;clear dg;have HB:=hid bz;obtain⟨d0,d1,d2,d3,d4,d5,d6,d7⟩:=hn.cells;unfold af at hr;have HR:=hid hr;clear hr hn bz HW hI hl hB ho;unfold af at *;go_enter Tryz.func33,Tryz.ntmps33;go_wp2_with fail;refine HR.out.mono ?_;rintro e w1 ⟨A,c,rfl,hc,gF,hb⟩;have HC:=hid hc;have zK:=hid gF;have ia:=hid hb;clear hc gF hb d0 d1 d2 d3 d4 d5 d6 d7;go_wp2_with fail;go_ret;exact⟨A,c,rfl,HC.out,zK.out,HB.out.trans (ia.out.mono (by simp))⟩
  ·have kb2:(o.k==2)=false:=by simpa using dg
   by_cases hk3:o.k=3
   ·have kb3:(o.k==3)=true:=by simpa using hk3
    have hr:=(yI o ho hk3 l B (w.alloc (.cells (af o) 26)) hl (pT _ bz).1 (pT _ bz).2);rw[hZ] at hr;clear hZ gW pT;clear cP;clear dg;clear hk3;have HB:=hid bz;obtain⟨d0,d1,d2,d3,d4,d5,d6,d7⟩:=hn.cells;unfold af at hr;have HR:=hid hr;clear hr hn bz HW hI hl hB ho;unfold af at *;go_enter Tryz.func33,Tryz.ntmps33;go_wp2_with fail;refine HR.out.mono ?_;rintro e w1 ⟨A,c,rfl,hc,gF,hb⟩;have HC:=hid hc;have zK:=hid gF;have ia:=hid hb;clear hc gF hb d0 d1 d2 d3 d4 d5 d6 d7;go_wp2_with fail;go_ret;exact⟨A,c,rfl,HC.out,zK.out,HB.out.trans (ia.out.mono (by simp))⟩
   ·have kb3:(o.k==3)=false:=by simpa using hk3
    by_cases fk:o.k=4
    ·have kb4:(o.k==4)=true:=by simpa using fk
     have hr:=(wT o ho fk l B (w.alloc (.cells (af o) 26)) hl (pT _ bz).1 (pT _ bz).2);rw[hZ] at hr;clear hZ gW pT;clear cP;clear dg;clear hk3;clear fk;have HB:=hid bz;obtain⟨d0,d1,d2,d3,d4,d5,d6,d7⟩:=hn.cells;unfold af at hr;have HR:=hid hr;clear hr hn bz HW hI hl hB ho;unfold af at *;go_enter Tryz.func33,Tryz.ntmps33;go_wp2_with fail;refine HR.out.mono ?_;rintro e w1 ⟨A,c,rfl,hc,gF,hb⟩;have HC:=hid hc;have zK:=hid gF;have ia:=hid hb;clear hc gF hb d0 d1 d2 d3 d4 d5 d6 d7;go_wp2_with fail;go_ret;exact⟨A,c,rfl,HC.out,zK.out,HB.out.trans (ia.out.mono (by simp))⟩
    ·have kb4:(o.k==4)=false:=by simpa using fk
     by_cases hk5:o.k=5
     ·have kb5:(o.k==5)=true:=by simpa using hk5
      have hr:=(xP o ho hk5 l B (w.alloc (.cells (af o) 26)) hl (pT _ bz).1 (pT _ bz).2);rw[hZ] at hr;clear hZ gW pT;clear cP;clear dg;clear hk3;clear fk;clear hk5;have HB:=hid bz;obtain⟨d0,d1,d2,d3,d4,d5,d6,d7⟩:=hn.cells;unfold af at hr;have HR:=hid hr;clear hr hn bz HW hI hl hB ho;unfold af at *;go_enter Tryz.func33,Tryz.ntmps33;go_wp2_with fail;refine HR.out.mono ?_;rintro e w1 ⟨A,c,rfl,hc,gF,hb⟩;have HC:=hid hc;have zK:=hid gF;have ia:=hid hb;clear hc gF hb d0 d1 d2 d3 d4 d5 d6 d7;go_wp2_with fail;go_ret;exact⟨A,c,rfl,HC.out,zK.out,HB.out.trans (ia.out.mono (by simp))⟩
     ·have kb5:(o.k==5)=false:=by simpa using hk5
      have hr:=(vh o ho ⟨cP,dg,hk3,fk,hk5⟩ l B (w.alloc (.cells (af o) 26)) hl (pT _ bz).1 (pT _ bz).2);rw[hZ] at hr;clear hZ gW pT;clear cP;clear dg;clear hk3;clear fk;clear hk5;have HB:=hid bz;obtain⟨d0,d1,d2,d3,d4,d5,d6,d7⟩:=hn.cells;unfold af at hr;have HR:=hid hr;clear hr hn bz HW hI hl hB ho;unfold af at *;go_enter Tryz.func33,Tryz.ntmps33;go_wp2_with fail;refine HR.out.mono ?_;rintro e w1 ⟨A,c,rfl,hc,gF,hb⟩;have HC:=hid hc;have zK:=hid gF;have ia:=hid hb;clear hc gF hb d0 d1 d2 d3 d4 d5 d6 d7;go_wp2_with fail;go_ret;exact⟨A,c,rfl,HC.out,zK.out,HB.out.trans (ia.out.mono (by simp))⟩
end Go.Proofs.YtolmpehgeinlkaaGreatDoor
