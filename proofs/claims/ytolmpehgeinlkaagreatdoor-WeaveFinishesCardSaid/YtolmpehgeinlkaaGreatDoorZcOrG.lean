/- The document's operation: the kind ring. -/
import Derived.Test.YtolmpehgeinlkaaGreatDoorZcOrF
namespace Go.Proofs.YtolmpehgeinlkaaGreatDoor
open Go.RowKit
open Go.Lib (hid)
attribute [local go_sem] Oper.semAt_some
set_option maxHeartbeats 1000000
set_option maxRecDepth 100000
abbrev og (a0:Nat) (a1:Kc) (a2 a3:Nat) (a4:Int) (w':World):Prop:=w'.cell? ⟨a0,16,none⟩=some (.int .u32 a1.A)∧w'.cell? ⟨a2,a3,none⟩=some (.int .u32 a4)
section
variable (yb lb cap:Nat) (o:Ob) (c:Kc) (rv:Value) (l:List Int)
theorem vo (B LL CC:Nat) (w:World) (h:SR w yb lb cap o c rv l) (az:c.base=B) (aD:B+LL=l.length) (hk:bG o.k=true) (ae:c.ph=0) (hs:1≤c.sl) (hj:0<LL):Calls Tryz.prog 87 #[.pointer (some ⟨yb,0,none⟩),.slice (some ⟨lb,B,none⟩) LL CC,.bool true] w (aU yb lb cap o w rv (({ c with A:=Kc.incR (c.rdm l 0%((c.sl:Int)*1048576)) ((c.sl:Int)*1048576) }:Kc).go 1) l (.tuple #[])):=by
 obtain⟨aj,ay,ah,HF,bp,aS,bx,bj⟩:=h.start;have ax:=hid (And.intro az aD);have cD:=hid hk;have aI:=hid ae;clear h ah az aD hk ae;have cM:=HF.out.sl1;have e1:IntKind.u32.wrap (c.sl:Int)=(c.sl:Int):=aa (by omega) (by omega);have e2:IntKind.u32.wrap ((c.sl:Int)*1048576)=(c.sl:Int)*1048576:=aa (by omega) (by omega);obtain⟨M,hM⟩:∃ x:Int,(c.sl:Int)*1048576=x:=⟨_,rfl⟩;have eN:0<M:=by omega
 have fV:M<4294967296:=by omega
 have jt:=hid hM;rw[hM] at e2;have e2b:((c.sl:Int)*1048576)%4294967296=M:=by rw[hM];omega
 have mm0:(M==0)=false:=by simp;omega
 have mm1:¬ M=0:=by omega
 clear hM cM;obtain⟨mz_0,gz_0,zb0,zb1⟩:=aj.out.cellB ax.out.1 ax.out.2 (0) (hj);obtain⟨z,ao⟩:∃ x,c.rdm l (0)=x:=⟨_,rfl⟩;rw[ao] at mz_0 zb0 zb1;try rw[ao]
 have cm:=hid ao;clear ao;rw[Nat.add_zero] at mz_0 gz_0;rw[jt.out];have t1:z.tmod M=z%M:=Int.tmod_eq_emod_of_nonneg zb0;have q0:=Int.emod_nonneg z mm1;have q1:=Int.emod_lt_of_pos z eN;obtain⟨Q,hQ⟩:∃ x,z%M=x:=⟨_,rfl⟩;rw[hQ] at t1 q0 q1 ⊢;have t2:IntKind.u32.wrap Q=Q:=aa q0 (by omega);have q2:Q<4294967296:=by omega
 clear hQ;have gZ:(0:Int)<(LL:Int):=by omega
 have ri:=hid fun W=>sM Q M W ⟨q0,q2⟩ ⟨eN,fV⟩
 have AR:=pA (a:=Q) eN;obtain⟨X,hX⟩:∃ x,Kc.incR Q M=x:=⟨_,rfl⟩;rw[hX] at ri AR ⊢;have jK:X<4294967296:=by omega
 have zf:=hid (And.intro AR.1 jK);clear hX AR jK;have ag:=aj.out.row;have c2_0:=ag.at 2 (.int .i64 (c.sl:Int)) (by rw[← aS.out];rfl);have c11_0:=ag.ph 11 0 aI;have c16_0:=ag.at 16 (.int .u32 c.A);have f16_0:=ag.frozen 16;clear ag;go_enter Tryz.func87,Tryz.ntmps87;go_wp2_with fail;obtain⟨ai,au⟩:=fW (aj.out.setA (Q) ⟨q0,q2⟩) ay;refine(ri.out _).mono ?_;rintro ex wq ⟨rfl,db⟩;rw[db];clear db;go_wp2_with fail;obtain⟨gl,oW⟩:=ai.out.setA X zf.out;have ar:=hid (show SR ((w.setCell ⟨yb,16,none⟩ (.int .u32 (Q))).setCell ⟨yb,16,none⟩ (.int .u32 X)) yb lb cap o { c with A:=X } rv l from gl);have aE:=hid (au.out.trans oW);clear gl oW;refine(dO yb lb cap o _ _ _ (1) 1 _ ar.out rfl).mono (bF aE fun w3 aM bf=>?_);go_wp2_with fail
 go_end0
 exact⟨_,rfl,aM.out,bf.out⟩
theorem vJ (B LL CC:Nat) (w:World) (h:SR w yb lb cap o c rv l) (az:c.base=B) (aD:B+LL=l.length) (hk:bG o.k=true) (ae:c.ph=1) (eH:bn o=((1:Nat):Int)) (dy:c.wr=true→c.i<c.rc.length) (gm:c.rc.length≤1000000) (gn:c.i<1000) (hj:1+(c.A%c.sl).toNat*c.wd+c.i<LL) (hs:1≤c.sl):Calls Tryz.prog 87 #[.pointer (some ⟨yb,0,none⟩),.slice (some ⟨lb,B,none⟩) LL CC,.bool true] w (aU yb lb cap o w rv (c.word l (1+(c.A%c.sl).toNat*c.wd) (·.go 2)).1 (c.word l (1+(c.A%c.sl).toNat*c.wd) (·.go 2)).2 (.tuple #[])):=by
 obtain⟨aj,ay,ah,HF,bp,aS,bx,bj⟩:=h.start;have ax:=hid (And.intro az aD);have cD:=hid hk;have aI:=hid ae;clear h ah az aD hk ae;have fo:=hid (And.intro eH (show(1:Nat)≤5 from(by omega)));have mS:=hid dy;have jA:=hid gm;have kg:=hid gn;have HJ:=hid hj;clear eH dy gm gn hj;have cM:=HF.out.sl1;have e1:IntKind.u32.wrap (c.sl:Int)=(c.sl:Int):=aa (by omega) (by omega);have m0:((c.sl:Int)==0)=false:=by simp;omega
 have m1:¬ (c.sl:Int)=0:=by omega
 have m2:¬ c.sl=0:=by omega
 have t1:c.A.tmod (c.sl:Int)=c.A%(c.sl:Int):=Int.tmod_eq_emod_of_nonneg HF.out.A0;have q0:=Int.emod_nonneg c.A m1;have q1:=Int.emod_lt_of_pos c.A (show(0:Int)<(c.sl:Int) by omega);have lO:=hid (show 0≤c.A%(c.sl:Int)∧c.A%(c.sl:Int)≤20 by omega);have t2:IntKind.u32.wrap (c.A%(c.sl:Int))=c.A%(c.sl:Int):=aa q0 (by omega);clear q0 q1 hs;have e2:IntKind.u32.wrap ((c.sl:Int)*1048576)=(c.sl:Int)*1048576:=aa (by omega) (by omega);have ag:=aj.out.row;have c11_0:=ag.ph 11 1 aI;have c2_0:=ag.at 2 (.int .i64 (c.sl:Int)) (by rw[← aS.out];rfl);have c16_0:=ag.at 16 (.int .u32 c.A);clear ag;go_enter Tryz.func87,Tryz.ntmps87;go_wp2_with fail;refine(dX yb lb cap o c rv l B LL CC (c.A%(c.sl:Int)) ((1:Nat)) _ 2 _ aj.out ax.out.1 ax.out.2 cD.out fo.out.1 fo.out.2 lO.out rfl HJ.out kg.out mS.out jA.out).mono (cS ay fun w1 rv1 ai au=>?_);go_wp2_with fail
 go_end0
 exact⟨_,rfl,ai.out,au.out⟩
theorem ww (B LL CC:Nat) (w:World) (h:SR w yb lb cap o c rv l) (az:c.base=B) (aD:B+LL=l.length) (hk:bG o.k=true) (ae:c.ph=2) (hs:1≤c.sl) (hj:0<LL):Calls Tryz.prog 87 #[.pointer (some ⟨yb,0,none⟩),.slice (some ⟨lb,B,none⟩) LL CC,.bool true] w (aU yb lb cap o w rv (c.fin 0) (c.wrm l 0 c.A) (.tuple #[])):=by
 obtain⟨aj,ay,ah,HF,bp,aS,bx,bj⟩:=h.start;have ax:=hid (And.intro az aD);have cD:=hid hk;have aI:=hid ae;clear h ah az aD hk ae;have cM:=HF.out.sl1;have e1:IntKind.u32.wrap (c.sl:Int)=(c.sl:Int):=aa (by omega) (by omega);have e2:IntKind.u32.wrap ((c.sl:Int)*1048576)=(c.sl:Int)*1048576:=aa (by omega) (by omega);obtain⟨M,hM⟩:∃ x:Int,(c.sl:Int)*1048576=x:=⟨_,rfl⟩;have eN:0<M:=by omega
 have fV:M<4294967296:=by omega
 have jt:=hid hM;rw[hM] at e2;have e2b:((c.sl:Int)*1048576)%4294967296=M:=by rw[hM];omega
 have mm0:(M==0)=false:=by simp;omega
 have mm1:¬ M=0:=by omega
 clear hM cM;have gZ:(0:Int)<(LL:Int):=by omega
 obtain⟨my_0,gy_0,_,_⟩:=aj.out.cellB ax.out.1 ax.out.2 (0) (hj);rw[Nat.add_zero] at my_0 gy_0;have ag:=aj.out.row;have c2_0:=ag.at 2 (.int .i64 (c.sl:Int)) (by rw[← aS.out];rfl);have c11_0:=ag.ph 11 2 aI;have c16_0:=ag.at 16 (.int .u32 c.A);clear ag;go_enter Tryz.func87,Tryz.ntmps87;go_wp2_with fail;obtain⟨hs,hm⟩:=aj.out.putB ax.out.1 ax.out.2 (0) (hj) (c.A) (⟨HF.out.A0,HF.out.A1⟩);rw[Nat.add_zero] at hs hm;obtain⟨ai,au⟩:=nx hs ay hm;clear hs hm;refine(eu yb lb cap o _ _ _ 0 _ ai.out cD.out).mono (cS au fun w2 rv2 ar aE=>?_);go_wp2_with fail
 go_end0
 exact⟨_,rfl,ar.out,aE.out⟩
theorem wH (B LL CC:Nat) (w:World) (h:SR w yb lb cap o c rv l) (az:c.base=B) (aD:B+LL=l.length) (hk:bG o.k=true) (ae:c.ph=0) (hs:1≤c.sl) (hj:0<LL):Calls Tryz.prog 87 #[.pointer (some ⟨yb,0,none⟩),.slice (some ⟨lb,B,none⟩) LL CC,.bool false] w (aU yb lb cap o w rv (({ c with A:=c.rdm l 0%((c.sl:Int)*1048576) }:Kc).go 1) l (.tuple #[])):=by
 obtain⟨aj,ay,ah,HF,bp,aS,bx,bj⟩:=h.start;have ax:=hid (And.intro az aD);have cD:=hid hk;have aI:=hid ae;clear h ah az aD hk ae;have cM:=HF.out.sl1;have e1:IntKind.u32.wrap (c.sl:Int)=(c.sl:Int):=aa (by omega) (by omega);have e2:IntKind.u32.wrap ((c.sl:Int)*1048576)=(c.sl:Int)*1048576:=aa (by omega) (by omega);obtain⟨M,hM⟩:∃ x:Int,(c.sl:Int)*1048576=x:=⟨_,rfl⟩;have eN:0<M:=by omega
 have fV:M<4294967296:=by omega
 have jt:=hid hM;rw[hM] at e2;have e2b:((c.sl:Int)*1048576)%4294967296=M:=by rw[hM];omega
 have mm0:(M==0)=false:=by simp;omega
 have mm1:¬ M=0:=by omega
 clear hM cM;obtain⟨mz_0,gz_0,zb0,zb1⟩:=aj.out.cellB ax.out.1 ax.out.2 (0) (hj);obtain⟨z,ao⟩:∃ x,c.rdm l (0)=x:=⟨_,rfl⟩;rw[ao] at mz_0 zb0 zb1;try rw[ao]
 have cm:=hid ao;clear ao;rw[Nat.add_zero] at mz_0 gz_0;rw[jt.out];have t1:z.tmod M=z%M:=Int.tmod_eq_emod_of_nonneg zb0;have q0:=Int.emod_nonneg z mm1;have q1:=Int.emod_lt_of_pos z eN;obtain⟨Q,hQ⟩:∃ x,z%M=x:=⟨_,rfl⟩;rw[hQ] at t1 q0 q1 ⊢;have t2:IntKind.u32.wrap Q=Q:=aa q0 (by omega);have q2:Q<4294967296:=by omega
 clear hQ;have gZ:(0:Int)<(LL:Int):=by omega
 have ag:=aj.out.row;have c2_0:=ag.at 2 (.int .i64 (c.sl:Int)) (by rw[← aS.out];rfl);have c11_0:=ag.ph 11 0 aI;have c16_0:=ag.at 16 (.int .u32 c.A);have f16_0:=ag.frozen 16;clear ag;go_enter Tryz.func87,Tryz.ntmps87;go_wp2_with fail;obtain⟨ai,au⟩:=fW (aj.out.setA (Q) ⟨q0,q2⟩) ay;refine(dO yb lb cap o _ _ _ (1) 1 _ ai.out rfl).mono (bF au fun w2 ar aE=>?_);go_wp2_with fail
 go_end0
 exact⟨_,rfl,ar.out,aE.out⟩
theorem vk (B LL CC:Nat) (w:World) (h:SR w yb lb cap o c rv l) (az:c.base=B) (aD:B+LL=l.length) (hk:bG o.k=true) (ae:c.ph=1) (eH:bn o=((1:Nat):Int)) (dy:c.wr=true→c.i<c.rc.length) (gm:c.rc.length≤1000000) (gn:c.i<1000) (hj:1+(c.A%c.sl).toNat*c.wd+c.i<LL) (hs:1≤c.sl):Calls Tryz.prog 87 #[.pointer (some ⟨yb,0,none⟩),.slice (some ⟨lb,B,none⟩) LL CC,.bool false] w (aU yb lb cap o w rv (c.word l (1+(c.A%c.sl).toNat*c.wd) (·.go 2)).1 (c.word l (1+(c.A%c.sl).toNat*c.wd) (·.go 2)).2 (.tuple #[])):=by
 obtain⟨aj,ay,ah,HF,bp,aS,bx,bj⟩:=h.start;have ax:=hid (And.intro az aD);have cD:=hid hk;have aI:=hid ae;clear h ah az aD hk ae;have fo:=hid (And.intro eH (show(1:Nat)≤5 from(by omega)));have mS:=hid dy;have jA:=hid gm;have kg:=hid gn;have HJ:=hid hj;clear eH dy gm gn hj;have cM:=HF.out.sl1;have e1:IntKind.u32.wrap (c.sl:Int)=(c.sl:Int):=aa (by omega) (by omega);have m0:((c.sl:Int)==0)=false:=by simp;omega
 have m1:¬ (c.sl:Int)=0:=by omega
 have m2:¬ c.sl=0:=by omega
 have t1:c.A.tmod (c.sl:Int)=c.A%(c.sl:Int):=Int.tmod_eq_emod_of_nonneg HF.out.A0;have q0:=Int.emod_nonneg c.A m1;have q1:=Int.emod_lt_of_pos c.A (show(0:Int)<(c.sl:Int) by omega);have lO:=hid (show 0≤c.A%(c.sl:Int)∧c.A%(c.sl:Int)≤20 by omega);have t2:IntKind.u32.wrap (c.A%(c.sl:Int))=c.A%(c.sl:Int):=aa q0 (by omega);clear q0 q1 hs;have e2:IntKind.u32.wrap ((c.sl:Int)*1048576)=(c.sl:Int)*1048576:=aa (by omega) (by omega);have ag:=aj.out.row;have c11_0:=ag.ph 11 1 aI;have c2_0:=ag.at 2 (.int .i64 (c.sl:Int)) (by rw[← aS.out];rfl);have c16_0:=ag.at 16 (.int .u32 c.A);clear ag;go_enter Tryz.func87,Tryz.ntmps87;go_wp2_with fail;refine(dX yb lb cap o c rv l B LL CC (c.A%(c.sl:Int)) ((1:Nat)) _ 2 _ aj.out ax.out.1 ax.out.2 cD.out fo.out.1 fo.out.2 lO.out rfl HJ.out kg.out mS.out jA.out).mono (cS ay fun w1 rv1 ai au=>?_);go_wp2_with fail
 go_end0
 exact⟨_,rfl,ai.out,au.out⟩
theorem pu (B LL CC:Nat) (w:World) (h:SR w yb lb cap o c rv l) (az:c.base=B) (aD:B+LL=l.length) (hk:bG o.k=true) (ae:c.ph=2) (hs:1≤c.sl) (_ht:c.tr<1000) (hj:0<LL) (he:Kc.gapR c.A (c.rdm l 0) ((c.sl:Int)*1048576)+1<(c.sl:Int)):Calls Tryz.prog 87 #[.pointer (some ⟨yb,0,none⟩),.slice (some ⟨lb,B,none⟩) LL CC,.bool false] w (aU yb lb cap o w rv (c.fin 0) l (.tuple #[])):=by
 obtain⟨aj,ay,ah,HF,bp,aS,bx,bj⟩:=h.start;have ax:=hid (And.intro az aD);have cD:=hid hk;have aI:=hid ae;clear h ah az aD hk ae;have cM:=HF.out.sl1;have e1:IntKind.u32.wrap (c.sl:Int)=(c.sl:Int):=aa (by omega) (by omega);have e2:IntKind.u32.wrap ((c.sl:Int)*1048576)=(c.sl:Int)*1048576:=aa (by omega) (by omega);obtain⟨M,hM⟩:∃ x:Int,(c.sl:Int)*1048576=x:=⟨_,rfl⟩;have eN:0<M:=by omega
 have fV:M<4294967296:=by omega
 have jt:=hid hM;rw[hM] at e2;have e2b:((c.sl:Int)*1048576)%4294967296=M:=by rw[hM];omega
 have mm0:(M==0)=false:=by simp;omega
 have mm1:¬ M=0:=by omega
 clear hM cM;obtain⟨mz_0,gz_0,zb0,zb1⟩:=aj.out.cellB ax.out.1 ax.out.2 (0) (hj);obtain⟨z,ao⟩:∃ x,c.rdm l (0)=x:=⟨_,rfl⟩;rw[ao] at mz_0 zb0 zb1;try rw[ao]
 have cm:=hid ao;clear ao;rw[Nat.add_zero] at mz_0 gz_0;rw[jt.out,cm.out] at he;have ir:=hid hj;have gZ:(0:Int)<(LL:Int):=by omega
 have mZ:=hid fun W=>iC c.A z M W ⟨HF.out.A0,HF.out.A1⟩ ⟨zb0,zb1⟩ ⟨eN,fV⟩
 have Db:=o5 (a:=c.A) (b:=z) eN;obtain⟨G,hG⟩:∃ x,Kc.gapR c.A z M=x:=⟨_,rfl⟩;rw[hG] at mZ Db he;have e5:IntKind.u32.wrap (G+1)=G+1:=aa (by omega) (by have:=jt.out;have:=HF.out.sl1;omega);have hd:decide (G+1<(c.sl:Int))=true:=decide_eq_true he;clear hG Db he;clear _ht;have ag:=aj.out.row;have c2_0:=ag.at 2 (.int .i64 (c.sl:Int)) (by rw[← aS.out];rfl);have c11_0:=ag.ph 11 2 aI;clear ag;go_enter Tryz.func87,Tryz.ntmps87;go_wp2_with fail;refine kj (S:=(og yb c lb B z)) aj ay (fun ai=>⟨(ai.out.row.cell 16).trans rfl,(ai.out.cell0 ax.out.1 ax.out.2 ir.out).trans (by show some (Value.int .u32 (c.rdm l 0))=_;rw[cm.out])⟩) fun w1 ai au hHeld=>?_
 refine ap 0 1 2 3 ?_;refine ap 4 5 6 7 ?_;refine aF 10 ?_;refine aJ 8 (fun K hK=>?_)
 ·go_simp;refine(mZ.out _).mono ?_;rintro ex w2 ⟨rfl,hb⟩;have ar:=hid (ai.out.below hb);have aE:=hid (au.out.trans (Mv.below hb _));clear hb;have aN:(og yb c lb B z) w2:=⟨(ar.out.row.cell 16).trans rfl,(ar.out.cell0 ax.out.1 ax.out.2 ir.out).trans (by show some (Value.int .u32 (c.rdm l 0))=_;rw[cm.out])⟩;refine kH hK aN fun hHeld=>?_
  clear hK K;refine bw 9 11 ?_;refine bh ?_;clear hHeld aN;go_wp2_with fail;refine(eu yb lb cap o _ _ _ 0 _ ar.out cD.out).mono (cS aE fun w3 rv3 aM bf=>?_);go_wp2_with fail
  go_end0
  exact⟨_,rfl,aM.out,bf.out⟩
theorem lp (B LL CC:Nat) (w:World) (h:SR w yb lb cap o c rv l) (az:c.base=B) (aD:B+LL=l.length) (hk:bG o.k=true) (ae:c.ph=2) (hs:1≤c.sl) (ht:c.tr<1000) (hj:0<LL) (he:¬ (Kc.gapR c.A (c.rdm l 0) ((c.sl:Int)*1048576)+1<(c.sl:Int))) (ak:¬ (c.cap≤c.tr+1)):Calls Tryz.prog 87 #[.pointer (some ⟨yb,0,none⟩),.slice (some ⟨lb,B,none⟩) LL CC,.bool false] w (aU yb lb cap o w rv (c.fail (·.fin 1)) l (.tuple #[])):=by
 obtain⟨aj,ay,ah,HF,bp,aS,bx,bj⟩:=h.start;have ax:=hid (And.intro az aD);have cD:=hid hk;have aI:=hid ae;clear h ah az aD hk ae;have cM:=HF.out.sl1;have e1:IntKind.u32.wrap (c.sl:Int)=(c.sl:Int):=aa (by omega) (by omega);have e2:IntKind.u32.wrap ((c.sl:Int)*1048576)=(c.sl:Int)*1048576:=aa (by omega) (by omega);obtain⟨M,hM⟩:∃ x:Int,(c.sl:Int)*1048576=x:=⟨_,rfl⟩;have eN:0<M:=by omega
 have fV:M<4294967296:=by omega
 have jt:=hid hM;rw[hM] at e2;have e2b:((c.sl:Int)*1048576)%4294967296=M:=by rw[hM];omega
 have mm0:(M==0)=false:=by simp;omega
 have mm1:¬ M=0:=by omega
 clear hM cM;obtain⟨mz_0,gz_0,zb0,zb1⟩:=aj.out.cellB ax.out.1 ax.out.2 (0) (hj);obtain⟨z,ao⟩:∃ x,c.rdm l (0)=x:=⟨_,rfl⟩;rw[ao] at mz_0 zb0 zb1;try rw[ao]
 have cm:=hid ao;clear ao;rw[Nat.add_zero] at mz_0 gz_0;rw[jt.out,cm.out] at he;have ir:=hid hj;have gZ:(0:Int)<(LL:Int):=by omega
 have mZ:=hid fun W=>iC c.A z M W ⟨HF.out.A0,HF.out.A1⟩ ⟨zb0,zb1⟩ ⟨eN,fV⟩
 have Db:=o5 (a:=c.A) (b:=z) eN;obtain⟨G,hG⟩:∃ x,Kc.gapR c.A z M=x:=⟨_,rfl⟩;rw[hG] at mZ Db he;have e5:IntKind.u32.wrap (G+1)=G+1:=aa (by omega) (by have:=jt.out;have:=HF.out.sl1;omega);have hd:decide (G+1<(c.sl:Int))=false:=decide_eq_false he;clear hG Db he;have ey:=fun W (h:SR W yb lb cap o c rv l)=>iD yb lb cap o c rv l W h ht
 have fZ:decide ((c.cap:Int)≤(c.tr:Int)+1)=false:=decide_eq_false (by omega);rw[fZ] at ey;have iW:=hid ey;clear ey fZ;unfold Kc.fail;simp only[ge_iff_le];rw[if_neg ak];clear ak ht;have ag:=aj.out.row;have c2_0:=ag.at 2 (.int .i64 (c.sl:Int)) (by rw[← aS.out];rfl);have c11_0:=ag.ph 11 2 aI;clear ag;go_enter Tryz.func87,Tryz.ntmps87;go_wp2_with fail;refine kj (S:=(og yb c lb B z)) aj ay (fun ai=>⟨(ai.out.row.cell 16).trans rfl,(ai.out.cell0 ax.out.1 ax.out.2 ir.out).trans (by show some (Value.int .u32 (c.rdm l 0))=_;rw[cm.out])⟩) fun w1 ai au hHeld=>?_
 refine ap 0 1 2 3 ?_;refine ap 4 5 6 7 ?_;refine aF 10 ?_;refine aJ 8 (fun K hK=>?_)
 ·go_simp;refine(mZ.out _).mono ?_;rintro ex w2 ⟨rfl,hb⟩;have ar:=hid (ai.out.below hb);have aE:=hid (au.out.trans (Mv.below hb _));clear hb;have aN:(og yb c lb B z) w2:=⟨(ar.out.row.cell 16).trans rfl,(ar.out.cell0 ax.out.1 ax.out.2 ir.out).trans (by show some (Value.int .u32 (c.rdm l 0))=_;rw[cm.out])⟩;refine kH hK aN fun hHeld=>?_
  clear hK K;refine bw 9 11 ?_;refine bh ?_;clear hHeld aN;go_wp2_with fail;refine(iW.out _ ar.out).mono (cS aE fun w3 rv3 aM bf=>?_);go_wp2_with fail
  go_end0
  exact⟨_,rfl,aM.out,bf.out⟩
theorem mM (B LL CC:Nat) (w:World) (h:SR w yb lb cap o c rv l) (az:c.base=B) (aD:B+LL=l.length) (hk:bG o.k=true) (ae:c.ph=2) (hs:1≤c.sl) (ht:c.tr<1000) (hj:0<LL) (he:¬ (Kc.gapR c.A (c.rdm l 0) ((c.sl:Int)*1048576)+1<(c.sl:Int))) (ak:c.cap≤c.tr+1):Calls Tryz.prog 87 #[.pointer (some ⟨yb,0,none⟩),.slice (some ⟨lb,B,none⟩) LL CC,.bool false] w (aU yb lb cap o w rv (c.fail (·.fin 1)) l (.tuple #[])):=by
 obtain⟨aj,ay,ah,HF,bp,aS,bx,bj⟩:=h.start;have ax:=hid (And.intro az aD);have cD:=hid hk;have aI:=hid ae;clear h ah az aD hk ae;have cM:=HF.out.sl1;have e1:IntKind.u32.wrap (c.sl:Int)=(c.sl:Int):=aa (by omega) (by omega);have e2:IntKind.u32.wrap ((c.sl:Int)*1048576)=(c.sl:Int)*1048576:=aa (by omega) (by omega);obtain⟨M,hM⟩:∃ x:Int,(c.sl:Int)*1048576=x:=⟨_,rfl⟩;have eN:0<M:=by omega
 have fV:M<4294967296:=by omega
 have jt:=hid hM;rw[hM] at e2;have e2b:((c.sl:Int)*1048576)%4294967296=M:=by rw[hM];omega
 have mm0:(M==0)=false:=by simp;omega
 have mm1:¬ M=0:=by omega
 clear hM cM;obtain⟨mz_0,gz_0,zb0,zb1⟩:=aj.out.cellB ax.out.1 ax.out.2 (0) (hj);obtain⟨z,ao⟩:∃ x,c.rdm l (0)=x:=⟨_,rfl⟩;rw[ao] at mz_0 zb0 zb1;try rw[ao]
 have cm:=hid ao;clear ao;rw[Nat.add_zero] at mz_0 gz_0;rw[jt.out,cm.out] at he;have ir:=hid hj;have gZ:(0:Int)<(LL:Int):=by omega
 have mZ:=hid fun W=>iC c.A z M W ⟨HF.out.A0,HF.out.A1⟩ ⟨zb0,zb1⟩ ⟨eN,fV⟩
 have Db:=o5 (a:=c.A) (b:=z) eN;obtain⟨G,hG⟩:∃ x,Kc.gapR c.A z M=x:=⟨_,rfl⟩;rw[hG] at mZ Db he;have e5:IntKind.u32.wrap (G+1)=G+1:=aa (by omega) (by have:=jt.out;have:=HF.out.sl1;omega);have hd:decide (G+1<(c.sl:Int))=false:=decide_eq_false he;clear hG Db he;have ey:=fun W (h:SR W yb lb cap o c rv l)=>iD yb lb cap o c rv l W h ht
 have fZ:decide ((c.cap:Int)≤(c.tr:Int)+1)=true:=decide_eq_true (by omega);rw[fZ] at ey;have iW:=hid ey;clear ey fZ;unfold Kc.fail;simp only[ge_iff_le];rw[if_pos ak];clear ak ht;have ag:=aj.out.row;have c2_0:=ag.at 2 (.int .i64 (c.sl:Int)) (by rw[← aS.out];rfl);have c11_0:=ag.ph 11 2 aI;clear ag;go_enter Tryz.func87,Tryz.ntmps87;go_wp2_with fail;refine kj (S:=(og yb c lb B z)) aj ay (fun ai=>⟨(ai.out.row.cell 16).trans rfl,(ai.out.cell0 ax.out.1 ax.out.2 ir.out).trans (by show some (Value.int .u32 (c.rdm l 0))=_;rw[cm.out])⟩) fun w1 ai au hHeld=>?_
 refine ap 0 1 2 3 ?_;refine ap 4 5 6 7 ?_;refine aF 10 ?_;refine aJ 8 (fun K hK=>?_)
 ·go_simp;refine(mZ.out _).mono ?_;rintro ex w2 ⟨rfl,hb⟩;have ar:=hid (ai.out.below hb);have aE:=hid (au.out.trans (Mv.below hb _));clear hb;have aN:(og yb c lb B z) w2:=⟨(ar.out.row.cell 16).trans rfl,(ar.out.cell0 ax.out.1 ax.out.2 ir.out).trans (by show some (Value.int .u32 (c.rdm l 0))=_;rw[cm.out])⟩;refine kH hK aN fun hHeld=>?_
  clear hK K;refine bw 9 11 ?_;refine bh ?_;clear hHeld aN;go_wp2_with fail;refine(iW.out _ ar.out).mono (cS aE fun w3 rv3 aM bf=>?_);go_wp2_with fail;refine(eu yb lb cap o _ _ _ 1 _ aM.out cD.out).mono (cS bf fun w4 rv4 cq dd=>?_);go_wp2_with fail
  go_end0
  exact⟨_,rfl,cq.out,dd.out⟩
end
end Go.Proofs.YtolmpehgeinlkaaGreatDoor
