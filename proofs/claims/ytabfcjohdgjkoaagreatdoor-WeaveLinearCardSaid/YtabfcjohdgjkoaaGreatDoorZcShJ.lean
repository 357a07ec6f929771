/- An object's words at the beginning: fifo.Lay, seq.Lay, object.Lay. -/
import Derived.Test.YtabfcjohdgjkoaaGreatDoorZcShI
namespace Go.Proofs.YtabfcjohdgjkoaaGreatDoor
open Go.RowKit
open Go.Lib (hid)
attribute [local go_sem] Oper.semAt_some
set_option maxHeartbeats 2000000
set_option maxRecDepth 100000
theorem wX (o:Ob) (ho:o.Ok) (hk:¬ o.k=1∧¬ o.k=2∧¬ o.k=3∧¬ o.k=4∧¬ o.k=5) (l:List Int) (B:Nat) (w:World) (hl:o.ni=l.length) (hI:Ws w B o.I l) (_hB:B≤w.heap.size):Calls Tryz.prog 89 #[.agg (af o)] w (LayR w (aW o l)):=by
 have hs:=fun W=>km o ho hk W
 by_cases h:bL o
 ·have bY:=gw h;obtain⟨q1,q2,q3,q4,q5,q6⟩:=gG h;have py:o.k=6:=cm.2.2.2.2.2 h;have m2:=fP (a:=o.s) (b:=o.wd) (by omega) (by omega) (by omega) (by omega);have uo:l=[]:=List.eq_nil_of_length_eq_zero (by unfold bL ax at h;omega);subst uo;obtain⟨N,hN⟩:∃ N:Nat,aB o=N:=⟨(aB o).toNat,by omega⟩;have hL:aW o []=(((zs N).set 0 o.st).set 1 o.st):=by unfold aW jw;rw[if_pos (.inr (.inr (.inr (.inr (.inr h))))),if_pos py,hN,Int.toNat_natCast,E2]
  rw[hL];rw[hN] at hs;have g0:1<N:=by omega
  have g2:0<N:=by omega
  have g3:N≤300:=by omega
  have g4:(1:Int)<(N:Int):=by omega
  have g5:(0:Int)<(N:Int):=by omega
  have sB:=hid (show(((zs N).set 0 o.st).set 1 o.st).length=N by simp[zs]);have vS:=fun W=>JN N g3 W
  have yG:=hid (mD 1 (mD 0 (oZ N) (oY ho)) (oY ho));have Nr:=hid (show(fa (zs N))[0]?=some (.int .u32 0) by rw[lE,zs,List.getElem?_replicate,if_pos g2];rfl);have So:=hid (show(fa ((zs N).set 0 o.st))[1]?=some (.int .u32 0) by rw[lE,List.getElem?_set_ne (by omega),zs,List.getElem?_replicate,if_pos g0];rfl);unfold af at hs;have HS:=hid hs;clear hL h hk py bY q1 q2 q3 q4 q5 q6 m2 hN ho hl hs hI _hB;have hn:=ObX.new w o;have hB:=bK w (.cells (af o) 26);unfold af at *;have HN:=hid hn;have HB:=hid hB;clear hn hB;go_enter Tryz.func89,Tryz.ntmps89;go_wp2_with fail;refine(HS.out _).mono ?_;rintro e w1 ⟨rfl,aq⟩;have bZ:=ObX.kept HN.out aq;have bF:=eC HB.out aq;have gT:=HN.out.lt;have bN:w.heap.size+1≤w1.heap.size:=by have:=aq.size;simp at this;omega
  have ah:=RowB.new w1 (fa (zs N)) 22;have cH:=bK w1 (.cells (fa (zs N)) 22);have cj:(w1.alloc (.cells (fa (zs N)) 22)).heap.size=w1.heap.size+1:=by rw[World.size_alloc]
  obtain⟨W2,gj⟩:∃ W2,w1.alloc (.cells (fa (zs N)) 22)=W2:=⟨_,rfl⟩;rw[gj] at ah cH cj;obtain⟨b,hb⟩:∃ b,w1.heap.size=b:=⟨_,rfl⟩;obtain⟨n,aI⟩:∃ n,w.heap.size=n:=⟨_,rfl⟩;have fk:=bZ.kept cH;have dO:=bF.trans (cH.mono (by omega));rw[aI] at bZ fk bN dO ⊢;rw[hb] at ah cH bN cj;have HO:=hid fk;have HR:=hid ah;have cD:=hid dO;have bT:=hid bF;clear aq bZ fk ah cH bF dO;go_wp2_with fail;have dc:(fun w':World=>Below b W2 w'∧w'.cell? ⟨n,0,none⟩=some (.int .i64 o.k)∧w'.cell? ⟨n,1,none⟩=some (.int .i64 o.wd)∧w'.cell? ⟨n,2,none⟩=some (.int .i64 o.s)∧w'.cell? ⟨n,3,none⟩=some (.int .i64 o.c)∧w'.cell? ⟨n,4,none⟩=some (.int .u32 o.st)∧w'.cell? ⟨n,5,none⟩=some (.slice o.I o.ni o.ci)∧w'.cell? ⟨n,6,none⟩=some (.int .i64 o.wr)∧w'.cell? ⟨n,7,none⟩=some (.slice o.R o.nr o.cr)) W2.drew:=⟨(Below.refl _ W2).drew,(ObX.kept HO.out (Below.refl _ W2).drew).cells⟩;have bH:RowB W2.drew b (fa (zs N)) 22:=HR.out.kept (Below.refl _ W2).drew;refine wp_region_held_drew (S:=(fun w':World=>Below b W2 w'∧w'.cell? ⟨n,0,none⟩=some (.int .i64 o.k)∧w'.cell? ⟨n,1,none⟩=some (.int .i64 o.wd)∧w'.cell? ⟨n,2,none⟩=some (.int .i64 o.s)∧w'.cell? ⟨n,3,none⟩=some (.int .i64 o.c)∧w'.cell? ⟨n,4,none⟩=some (.int .u32 o.st)∧w'.cell? ⟨n,5,none⟩=some (.slice o.I o.ni o.ci)∧w'.cell? ⟨n,6,none⟩=some (.int .i64 o.wr)∧w'.cell? ⟨n,7,none⟩=some (.slice o.R o.nr o.cr))) (by kernel_rfl) dc (fun hHeld=>?_);generalize W2.drew=wd at hHeld bH ⊢;have hHeld:(fun w':World=>Below b W2 w'∧w'.cell? ⟨n,0,none⟩=some (.int .i64 o.k)∧w'.cell? ⟨n,1,none⟩=some (.int .i64 o.wd)∧w'.cell? ⟨n,2,none⟩=some (.int .i64 o.s)∧w'.cell? ⟨n,3,none⟩=some (.int .i64 o.c)∧w'.cell? ⟨n,4,none⟩=some (.int .u32 o.st)∧w'.cell? ⟨n,5,none⟩=some (.slice o.I o.ni o.ci)∧w'.cell? ⟨n,6,none⟩=some (.int .i64 o.wr)∧w'.cell? ⟨n,7,none⟩=some (.slice o.R o.nr o.cr)) wd:=hHeld;replace bH:=hid bH;refine wpAnyH_take (i:=0) (oi:=?_) (v:=?_) ?_ (by kernel_rfl) (by kernel_rfl) (by kernel_rfl) ?_ (Or.inl ⟨?_,?_⟩) (by assumption) ?_;rotate_left 2
  ·(simp only[List.getElem?_toArray,List.getElem?_cons_zero];rfl)
  ·first | exact fun _ _ _ h=>h | exact fun _ _ _ h=>by cases h.1
  ·rfl
  ·((intro wq cw;(try dsimp only at cw);go_simp);(try with_reducible rfl))
  try simp only[Act.put,List.setIfInBounds_toArray,List.set_cons_zero,List.set_cons_succ]
  refine wpAnyH_take (i:=1) (oi:=?_) (v:=?_) ?_ (by kernel_rfl) (by kernel_rfl) (by kernel_rfl) ?_ (Or.inl ⟨?_,?_⟩) (by assumption) ?_;rotate_left 2
  ·(simp only[List.getElem?_toArray,List.getElem?_cons_succ,List.getElem?_cons_zero];rfl)
  ·first | exact fun _ _ _ h=>h | exact fun _ _ _ h=>by cases h.1
  ·rfl
  ·((intro wq cw;(try dsimp only at cw);go_simp);(try with_reducible rfl))
  try simp only[Act.put,List.setIfInBounds_toArray,List.set_cons_zero,List.set_cons_succ]
  refine wpAnyH_take (i:=2) (oi:=?_) (v:=?_) ?_ (by kernel_rfl) (by kernel_rfl) (by kernel_rfl) ?_ (Or.inl ⟨?_,?_⟩) (by assumption) ?_;rotate_left 2
  ·(simp only[List.getElem?_toArray,List.getElem?_cons_succ,List.getElem?_cons_zero];rfl)
  ·first | exact fun _ _ _ h=>h | exact fun _ _ _ h=>by cases h.1
  ·rfl
  ·((intro wq cw;(try dsimp only at cw);go_simp);(try with_reducible rfl))
  try simp only[Act.put,List.setIfInBounds_toArray,List.set_cons_zero,List.set_cons_succ]
  refine wpAnyH_take (i:=3) (oi:=?_) (v:=?_) ?_ (by kernel_rfl) (by kernel_rfl) (by kernel_rfl) ?_ (Or.inl ⟨?_,?_⟩) (by assumption) ?_;rotate_left 2
  ·(simp only[List.getElem?_toArray,List.getElem?_cons_succ,List.getElem?_cons_zero];rfl)
  ·first | exact fun _ _ _ h=>h | exact fun _ _ _ h=>by cases h.1
  ·rfl
  ·((intro wq cw;(try dsimp only at cw);go_simp);(try with_reducible rfl))
  try simp only[Act.put,List.setIfInBounds_toArray,List.set_cons_zero,List.set_cons_succ]
  refine wpAnyH_take (i:=4) (oi:=?_) (v:=?_) ?_ (by kernel_rfl) (by kernel_rfl) (by kernel_rfl) ?_ (Or.inl ⟨?_,?_⟩) (by assumption) ?_;rotate_left 2
  ·(simp only[List.getElem?_toArray,List.getElem?_cons_succ,List.getElem?_cons_zero];rfl)
  ·first | exact fun _ _ _ h=>h | exact fun _ _ _ h=>by cases h.1
  ·rfl
  ·((intro wq cw;(try dsimp only at cw);go_simp);(try with_reducible rfl))
  try simp only[Act.put,List.setIfInBounds_toArray,List.set_cons_zero,List.set_cons_succ]
  refine wpAnyH_take (i:=5) (oi:=?_) (v:=?_) ?_ (by kernel_rfl) (by kernel_rfl) (by kernel_rfl) ?_ (Or.inl ⟨?_,?_⟩) (by assumption) ?_;rotate_left 2
  ·(simp only[List.getElem?_toArray,List.getElem?_cons_succ,List.getElem?_cons_zero];rfl)
  ·first | exact fun _ _ _ h=>h | exact fun _ _ _ h=>by cases h.1
  ·rfl
  ·((intro wq cw;(try dsimp only at cw);go_simp);(try with_reducible rfl))
  try simp only[Act.put,List.setIfInBounds_toArray,List.set_cons_zero,List.set_cons_succ]
  refine wpAnyH_take (i:=6) (oi:=?_) (v:=?_) ?_ (by kernel_rfl) (by kernel_rfl) (by kernel_rfl) ?_ (Or.inl ⟨?_,?_⟩) (by assumption) ?_;rotate_left 2
  ·(simp only[List.getElem?_toArray,List.getElem?_cons_succ,List.getElem?_cons_zero];rfl)
  ·first | exact fun _ _ _ h=>h | exact fun _ _ _ h=>by cases h.1
  ·rfl
  ·((intro wq cw;(try dsimp only at cw);go_simp);(try with_reducible rfl))
  try simp only[Act.put,List.setIfInBounds_toArray,List.set_cons_zero,List.set_cons_succ]
  have c0:wd.cell? ⟨b,0,none⟩=some (.int .u32 0):=(bH.out.cell 0).trans Nr.out;have f0:wd.frozen? ⟨b,0,none⟩=false:=bH.out.frozen 0;refine dG [7] ?_;refine dp (fun K hK=>?_) AllReadyH.nil;go_simp
  have aw:(fun w':World=>Below b W2 w'∧w'.cell? ⟨n,0,none⟩=some (.int .i64 o.k)∧w'.cell? ⟨n,1,none⟩=some (.int .i64 o.wd)∧w'.cell? ⟨n,2,none⟩=some (.int .i64 o.s)∧w'.cell? ⟨n,3,none⟩=some (.int .i64 o.c)∧w'.cell? ⟨n,4,none⟩=some (.int .u32 o.st)∧w'.cell? ⟨n,5,none⟩=some (.slice o.I o.ni o.ci)∧w'.cell? ⟨n,6,none⟩=some (.int .i64 o.wr)∧w'.cell? ⟨n,7,none⟩=some (.slice o.R o.nr o.cr)) (wd.setCell ⟨b,0,none⟩ (.int .u32 o.st)):=by
   obtain⟨h0,u0,u1,u2,u3,u4,u5,u6,u7⟩:=hHeld
   have hk:∀ {i:Nat} {u:Value},wd.cell? ⟨n,i,none⟩=some u→(wd.setCell ⟨b,0,none⟩ (.int .u32 o.st)).cell? ⟨n,i,none⟩=some u:=fun {i u} hc=>by
    unfold World.cell? at hc ⊢;rw[ie _ _ _ _ _ (show n≠b by omega)];exact hc
   exact⟨eG h0 b 0 (Nat.le_refl _) _,hk u0,hk u1,hk u2,hk u3,hk u4,hk u5,hk u6,hk u7⟩
  have ox:=bH.out.set 0 (.int .u32 o.st);rw[nC] at ox;replace bH:=hid ox;clear ox c0 f0;refine hK.out _ _ aw (fun hHeld=>?_);clear hK K;try simp only[Act.put,List.setIfInBounds_toArray,List.set_cons_zero,List.set_cons_succ]
  obtain⟨we,KN⟩:∃ W,wd.setCell ⟨b,0,none⟩ (.int .u32 o.st)=W:=⟨_,rfl⟩;rw[KN] at hHeld bH ⊢;clear KN;refine wpAnyH_take (i:=8) (oi:=?_) (v:=?_) ?_ (by kernel_rfl) (by kernel_rfl) (by kernel_rfl) ?_ (Or.inl ⟨?_,?_⟩) (by assumption) ?_;rotate_left 2
  ·(simp only[List.getElem?_toArray,List.getElem?_cons_succ,List.getElem?_cons_zero];rfl)
  ·first | exact fun _ _ _ h=>h | exact fun _ _ _ h=>by cases h.1
  ·rfl
  ·((intro wq cw;(try dsimp only at cw);go_simp);(try with_reducible rfl))
  try simp only[Act.put,List.setIfInBounds_toArray,List.set_cons_zero,List.set_cons_succ]
  have c0:we.cell? ⟨b,1,none⟩=some (.int .u32 0):=(bH.out.cell 1).trans So.out;have f0:we.frozen? ⟨b,1,none⟩=false:=bH.out.frozen 1;refine dG [9] ?_;refine dp (fun K hK=>?_) AllReadyH.nil;go_simp
  have aw:(fun w':World=>Below b W2 w'∧w'.cell? ⟨n,0,none⟩=some (.int .i64 o.k)∧w'.cell? ⟨n,1,none⟩=some (.int .i64 o.wd)∧w'.cell? ⟨n,2,none⟩=some (.int .i64 o.s)∧w'.cell? ⟨n,3,none⟩=some (.int .i64 o.c)∧w'.cell? ⟨n,4,none⟩=some (.int .u32 o.st)∧w'.cell? ⟨n,5,none⟩=some (.slice o.I o.ni o.ci)∧w'.cell? ⟨n,6,none⟩=some (.int .i64 o.wr)∧w'.cell? ⟨n,7,none⟩=some (.slice o.R o.nr o.cr)) (we.setCell ⟨b,1,none⟩ (.int .u32 o.st)):=by
   obtain⟨h0,u0,u1,u2,u3,u4,u5,u6,u7⟩:=hHeld
   have hk:∀ {i:Nat} {u:Value},we.cell? ⟨n,i,none⟩=some u→(we.setCell ⟨b,1,none⟩ (.int .u32 o.st)).cell? ⟨n,i,none⟩=some u:=fun {i u} hc=>by
    unfold World.cell? at hc ⊢;rw[ie _ _ _ _ _ (show n≠b by omega)];exact hc
   exact⟨eG h0 b 1 (Nat.le_refl _) _,hk u0,hk u1,hk u2,hk u3,hk u4,hk u5,hk u6,hk u7⟩
  have ox:=bH.out.set 1 (.int .u32 o.st);rw[nC] at ox;replace bH:=hid ox;clear ox c0 f0;refine hK.out _ _ aw (fun hHeld=>?_);clear hK K;try simp only[Act.put,List.setIfInBounds_toArray,List.set_cons_zero,List.set_cons_succ]
  obtain⟨wf,KO⟩:∃ W,we.setCell ⟨b,1,none⟩ (.int .u32 o.st)=W:=⟨_,rfl⟩;rw[KO] at hHeld bH ⊢;clear KO;refine aY ?_;clear dc;go_wp2_with fail;go_ret;exact LayR.row bH.out sB.out g3 yG.out (by rw[aI];exact cD.out.trans (hHeld.1.mono (by omega)))
 ·have gF:¬ bD o:=fun q=>h (of_decide_eq_true ((ja hk).symm.trans (decide_eq_true q)))
  have hL:aW o l=[]:=by unfold aW;rw[if_neg gF]
  have hz:=cZ gF;rw[hL];rw[hz] at hs;obtain⟨N,hN⟩:∃ N:Nat,N=0:=⟨_,rfl⟩;have cO:∀ W,_:=fun W=>hs W
  have vS:=AR;unfold af at hs;have HS:=hid hs;clear hL hz hs cO gF h hk ho hI hl _hB hN;have hn:=ObX.new w o;have hB:=bK w (.cells (af o) 26);unfold af at *;have HN:=hid hn;have HB:=hid hB;clear hn hB;go_enter Tryz.func89,Tryz.ntmps89;go_wp2_with fail;refine(HS.out _).mono ?_;rintro e w1 ⟨rfl,aq⟩;have bF:=eC HB.out aq;have bT:=hid bF;have bN:w.heap.size≤w1.heap.size:=by have:=aq.size;simp at this;omega
  clear bF aq;go_wp2_with fail;go_ret;exact LayR.row (L:=[]) (RowB.new w1 (fa (zs 0)) 22) rfl (by omega) (fun z hz=>by cases hz) (bT.out.alloc bN _)
theorem BA (o:Ob) (ho:o.Ok) (hk:o.k=3) (l:List Int) (B:Nat) (w:World) (hl:o.ni=l.length) (hI:Ws w B o.I l) (hB:B≤w.heap.size):Calls Tryz.prog 86 #[.agg (af o)] w (LayR w (aW o l)):=by
 by_cases h:ee o
 ·have hr:=fun W=>gu o ho W
  rw[decide_eq_true h] at hr;have bY:=ir h;obtain⟨q1,q2,q3,q4,q5,q6⟩:=kC h;have jV:(l.length:Int)=o.wd:=by unfold ee ax at h;omega
  have hL:aW o l=o.st::l:=by
   unfold aW jw et dw;rw[if_pos (.inr (.inr (.inl h))),if_neg (by omega),if_neg (by omega),ot hk,bY];have e1:(1+0*o.wd).toNat=1:=by simp
   have e2:(1+o.wd).toNat=l.length+1:=by omega
   rw[e1,e2];unfold lA zs;rw[List.drop_of_length_le (by simp;omega)];simp[List.replicate_succ]
  rw[hL];have hx:l≠[]:=by intro hh;rw[hh] at jV;simp at jV;omega
  obtain⟨x0,kx⟩:∃ x,l[0]?=some x:=by
   cases l with
   | nil=>exact absurd rfl hx
   | cons x t=>exact⟨x,rfl⟩
  obtain⟨_,sb,so,hA,fH,_⟩:=hI.get kx
  have hc:∀ (j:Nat) u,((bn .u32).all l)[j]?=some u→w.cell? ((⟨sb,so,none⟩:Addr).add j)=some u:=by
   intro j u hu;have eS:(bn .u32).all l=l.map (Value.int .u32):=iI _ _ l;rw[eS,List.getElem?_map] at hu;obtain⟨z,hz,rfl⟩:=Option.map_eq_some_iff.1 hu;obtain⟨_,b2,o2,dZ,_,cJ⟩:=hI.get hz;rw[hA] at dZ
   injection dZ with dZ
   injection dZ with e1 e2 e3
   subst e1 e2;rw[Addr.add_lit];exact cJ
  have UR:l.length≤8:=by omega
  have du:=oY ho;have yG:=hid (show ∀ z ∈ o.st::l,(Lit.int .u32 z).wf=true from fun z hz=>(List.mem_cons.1 hz).elim (fun q=>by rw[q];exact du) (hI.2 z));have HC:=hid hc;unfold af at hr;have HR:=hid hr;have yf:=hid hB;have HL:=hid hl;have HA:=hid hA;obtain⟨i0,hi,eJ,d8,lN⟩:=info_parts (P:=Tryz.prog) (e:=22) (z:=.int .u32 0) (size:=1) (bytes:=4) (by kernel_rfl);clear hL h hk bY q1 q2 q3 q4 q5 q6 jV ho hl hI hB hr hc hx kx du hA;have hn:=ObX.new w o;have hB:=bK w (.cells (af o) 26);unfold af at *;have HN:=hid hn;have HB:=hid hB;clear hn hB;go_enter Tryz.func86,Tryz.ntmps86;go_wp2_with fail;refine(HR.out _).mono ?_;rintro e w1 ⟨rfl,aq⟩;have bZ:=ObX.kept HN.out aq;have bF:=eC HB.out aq;have gT:=HN.out.lt;have bN:w.heap.size+1≤w1.heap.size:=by have:=aq.size;simp at this;omega
  obtain⟨d0,d1,d2,d3,d4,d5,d6,d7⟩:=bZ.cells;have ah:=World.ownsRow_lit (base:=w1.heap.size) (e:=22) (size:=1) w1 #[.int .u32 o.st] 1 (Nat.le_refl _) (by simp[maxLen]) rfl
  have QZ:∀ (j:Nat) u,((bn .u32).all l)[j]?=some u→(w1.alloc (.cells #[.int .u32 o.st] 22)).cell? ((⟨sb,so,none⟩:Addr).add j)=some u:=fun j u hu=>by
   have h:=HC.out j u hu;have h2:=(bF.cell (p:=(⟨sb,so,none⟩:Addr).add j) (by rw[pR];show sb<_;have:=yf.out;omega)).trans h;rw[World.cell?_alloc_lt w1 _ _ (aM h2)];exact h2
  have tK:=bK w1 (.cells #[.int .u32 o.st] 22);have MU:=hid QZ;have pJ:=hid ah;have bT:=hid bF;have Mg:=hid tK;have al:=hid bN;clear aq bZ QZ ah bF tK HC HR HN HB;have dZ:=HA.out;have CM:=HL.out;have aj:w.heap.size<w1.heap.size:=by have:=al.out;omega
  clear gT;go_wp2_with (at_builtin;refine wpList_append_own_at _ rfl _ _ 23 rfl w1.heap.size 22 i0 (.int .u32 0) 1 4 Tryz.underlying23 hi eJ d8 lN rfl (by omega) _ 1 _ rfl pJ.out ⟨sb,so,none⟩ l.length o.ci ((bn .u32).all l) (by simp[go_sem]) (by rw[Enc.all_len];rfl) MU.out ((bn .u32).all_one l) (by unfold maxLen;omega) (by omega) (by simp) ?_;intro v' w2 lg uj _ _);go_ret;have bU:OwnW w1.heap.size w2 v' (o.st::l):=⟨by have:=lg;simpa [Own,bn,Enc.of1,Enc.all,Nat.add_comm] using this,yG.out⟩;obtain⟨A,c,hv,df,tL⟩:=bU.ws;exact⟨A,c,by rw[hv];rfl,df,tL,bT.out.trans ((Mg.out.trans (gI pJ.out uj (Nat.le_refl _) (by simp))).mono (by omega))⟩
 ·have gF:¬ bD o:=fun q=>h (of_decide_eq_true ((ng hk).symm.trans (decide_eq_true q)))
  have hL:aW o l=[]:=by unfold aW;rw[if_neg gF]
  rw[hL];have hr:=fun W=>gu o ho W
  rw[decide_eq_false h] at hr;unfold af at hr;have HR:=hid hr;clear hr h gF hk ho hl hI hB hL;have hn:=ObX.new w o;have hB:=bK w (.cells (af o) 26);unfold af at *;have HN:=hid hn;have HB:=hid hB;clear hn hB;go_enter Tryz.func86,Tryz.ntmps86;go_wp2_with fail;refine(HR.out _).mono ?_;rintro e w1 ⟨rfl,aq⟩;have bF:=eC HB.out aq;have bT:=hid bF;clear bF aq;go_wp2_with fail;go_ret;exact⟨none,0,rfl,⟨Nat.le_refl _,Nat.zero_le _⟩,⟨SlOf.nil,fun z hz=>by cases hz⟩,bT.out⟩
theorem LU (o:Ob) (ho:o.Ok) (l:List Int) (B:Nat) (w:World) (hl:o.ni=l.length) (hI:Ws w B o.I l) (hB:B≤w.heap.size):Calls Tryz.prog 51 #[.agg (af o)] w (LayR w (aW o l)):=by
 obtain⟨Z,hZ⟩:∃ Z,aW o l=Z:=⟨_,rfl⟩;rw[hZ];have iO:∀ (f:FuncId),(∀ W,Below w.heap.size w W→Calls Tryz.prog f #[.agg (af o)] W (LayR W Z))→∀ W,Below w.heap.size w W→Calls Tryz.prog f #[.agg (af o)] W (LayR W Z):=fun _ h=>h
 have rK:∀ W,Below w.heap.size w W→Ws W B o.I l∧B≤W.heap.size:=fun W hb=>⟨hI.below (hb.mono hB) (Nat.le_refl _),by have:=hb.size;omega⟩
 have hn:=ObX.new w o;have dO:=bK w (.cells (af o) 26);have HW:=hid hn
 by_cases dU:o.k=1
 ·have kb1:(o.k==1)=true:=by simpa using dU
  have hr:=(wZ o ho dU l B (w.alloc (.cells (af o) 26)) hl (rK _ dO).1 (rK _ dO).2);rw[hZ] at hr;clear hZ iO rK;clear dU;have HB:=hid dO;obtain⟨d0,d1,d2,d3,d4,d5,d6,d7⟩:=hn.cells;unfold af at hr;have HR:=hid hr;clear hr hn dO HW hI hl hB ho;unfold af at *;go_enter Tryz.func51,Tryz.ntmps51;go_wp2_with fail;refine HR.out.mono ?_;rintro e w1 ⟨A,c,rfl,hc,dV,hb⟩;have HC:=hid hc;have o7:=hid dV;have tI:=hid hb;clear hc dV hb d0 d1 d2 d3 d4 d5 d6 d7;go_wp2_with fail;go_ret;exact⟨A,c,rfl,HC.out,o7.out,HB.out.trans (tI.out.mono (by simp))⟩
 ·have kb1:(o.k==1)=false:=by simpa using dU
  by_cases eW:o.k=2
  ·have kb2:(o.k==2)=true:=by simpa using eW
   have hr:=(wP o ho eW l B (w.alloc (.cells (af o) 26)) hl (rK _ dO).1 (rK _ dO).2);rw[hZ] at hr;clear hZ iO rK;clear dU;clear eW;have HB:=hid dO;obtain⟨d0,d1,d2,d3,d4,d5,d6,d7⟩:=hn.cells;unfold af at hr;have HR:=hid hr;clear hr hn dO HW hI hl hB ho;unfold af at *;go_enter Tryz.func51,Tryz.ntmps51;go_wp2_with fail;refine HR.out.mono ?_;rintro e w1 ⟨A,c,rfl,hc,dV,hb⟩;have HC:=hid hc;have o7:=hid dV;have tI:=hid hb;clear hc dV hb d0 d1 d2 d3 d4 d5 d6 d7;go_wp2_with fail;go_ret;exact⟨A,c,rfl,HC.out,o7.out,HB.out.trans (tI.out.mono (by simp))⟩
  ·have kb2:(o.k==2)=false:=by simpa using eW
   by_cases fW:o.k=3
   ·have kb3:(o.k==3)=true:=by simpa using fW
    have hr:=(BA o ho fW l B (w.alloc (.cells (af o) 26)) hl (rK _ dO).1 (rK _ dO).2);rw[hZ] at hr;clear hZ iO rK;clear dU;clear eW;clear fW;have HB:=hid dO;obtain⟨d0,d1,d2,d3,d4,d5,d6,d7⟩:=hn.cells;unfold af at hr;have HR:=hid hr;clear hr hn dO HW hI hl hB ho;unfold af at *;go_enter Tryz.func51,Tryz.ntmps51;go_wp2_with fail;refine HR.out.mono ?_;rintro e w1 ⟨A,c,rfl,hc,dV,hb⟩;have HC:=hid hc;have o7:=hid dV;have tI:=hid hb;clear hc dV hb d0 d1 d2 d3 d4 d5 d6 d7;go_wp2_with fail;go_ret;exact⟨A,c,rfl,HC.out,o7.out,HB.out.trans (tI.out.mono (by simp))⟩
   ·have kb3:(o.k==3)=false:=by simpa using fW
    by_cases fX:o.k=4
    ·have kb4:(o.k==4)=true:=by simpa using fX
     have hr:=(xT o ho fX l B (w.alloc (.cells (af o) 26)) hl (rK _ dO).1 (rK _ dO).2);rw[hZ] at hr;clear hZ iO rK;clear dU;clear eW;clear fW;clear fX;have HB:=hid dO;obtain⟨d0,d1,d2,d3,d4,d5,d6,d7⟩:=hn.cells;unfold af at hr;have HR:=hid hr;clear hr hn dO HW hI hl hB ho;unfold af at *;go_enter Tryz.func51,Tryz.ntmps51;go_wp2_with fail;refine HR.out.mono ?_;rintro e w1 ⟨A,c,rfl,hc,dV,hb⟩;have HC:=hid hc;have o7:=hid dV;have tI:=hid hb;clear hc dV hb d0 d1 d2 d3 d4 d5 d6 d7;go_wp2_with fail;go_ret;exact⟨A,c,rfl,HC.out,o7.out,HB.out.trans (tI.out.mono (by simp))⟩
    ·have kb4:(o.k==4)=false:=by simpa using fX
     by_cases gZ:o.k=5
     ·have kb5:(o.k==5)=true:=by simpa using gZ
      have hr:=(yT o ho gZ l B (w.alloc (.cells (af o) 26)) hl (rK _ dO).1 (rK _ dO).2);rw[hZ] at hr;clear hZ iO rK;clear dU;clear eW;clear fW;clear fX;clear gZ;have HB:=hid dO;obtain⟨d0,d1,d2,d3,d4,d5,d6,d7⟩:=hn.cells;unfold af at hr;have HR:=hid hr;clear hr hn dO HW hI hl hB ho;unfold af at *;go_enter Tryz.func51,Tryz.ntmps51;go_wp2_with fail;refine HR.out.mono ?_;rintro e w1 ⟨A,c,rfl,hc,dV,hb⟩;have HC:=hid hc;have o7:=hid dV;have tI:=hid hb;clear hc dV hb d0 d1 d2 d3 d4 d5 d6 d7;go_wp2_with fail;go_ret;exact⟨A,c,rfl,HC.out,o7.out,HB.out.trans (tI.out.mono (by simp))⟩
     ·have kb5:(o.k==5)=false:=by simpa using gZ
      have hr:=(wX o ho ⟨dU,eW,fW,fX,gZ⟩ l B (w.alloc (.cells (af o) 26)) hl (rK _ dO).1 (rK _ dO).2);rw[hZ] at hr;clear hZ iO rK;clear dU;clear eW;clear fW;clear fX;clear gZ;have HB:=hid dO;obtain⟨d0,d1,d2,d3,d4,d5,d6,d7⟩:=hn.cells;unfold af at hr;have HR:=hid hr;clear hr hn dO HW hI hl hB ho;unfold af at *;go_enter Tryz.func51,Tryz.ntmps51;go_wp2_with fail;refine HR.out.mono ?_;rintro e w1 ⟨A,c,rfl,hc,dV,hb⟩;have HC:=hid hc;have o7:=hid dV;have tI:=hid hb;clear hc dV hb d0 d1 d2 d3 d4 d5 d6 d7;go_wp2_with fail;go_ret;exact⟨A,c,rfl,HC.out,o7.out,HB.out.trans (tI.out.mono (by simp))⟩
end Go.Proofs.YtabfcjohdgjkoaaGreatDoor
