/- The document's operation: the kind fifo. -/
import Derived.Test.YtolmpehgeinlkaaGreatDoorZcOrF
namespace Go.Proofs.YtolmpehgeinlkaaGreatDoor
open Go.RowKit
open Go.Lib (hid)
attribute [local go_sem] Oper.semAt_some
set_option maxHeartbeats 1000000
set_option maxRecDepth 100000
abbrev lg (a0:Nat) (a1:Kc) (a2 a3:Nat) (a4:Int) (w':World):Prop:=w'.cell? ⟨a0,16,none⟩=some (.int .u32 a1.A)∧w'.cell? ⟨a2,a3+1,none⟩=some (.int .u32 a4)
abbrev un (a0:Nat) (a1:Kc) (a2 a3:Nat) (a4:Int) (w':World):Prop:=w'.cell? ⟨a0,16,none⟩=some (.int .u32 a1.A)∧w'.cell? ⟨a2,a3,none⟩=some (.int .u32 a4)
section
variable (yb lb cap:Nat) (o:Ob) (c:Kc) (rv:Value) (l:List Int)
theorem vz (B LL CC:Nat) (w:World) (h:SR w yb lb cap o c rv l) (az:c.base=B) (aD:B+LL=l.length) (hk:bG o.k=true) (ae:c.ph=0) (hs:1≤c.sl) (hj:1<LL):Calls Tryz.prog 90 #[.pointer (some ⟨yb,0,none⟩),.slice (some ⟨lb,B,none⟩) LL CC,.bool true] w (aU yb lb cap o w rv (({ c with A:=c.rdm l 1%(2*(c.sl:Int)) }:Kc).go 1) l (.tuple #[])):=by
 obtain⟨aj,ay,ah,HF,bp,aS,bx,bj⟩:=h.start;have ax:=hid (And.intro az aD);have cD:=hid hk;have aI:=hid ae;clear h ah az aD hk ae;have cM:=HF.out.sl1;have e1:IntKind.u32.wrap (c.sl:Int)=(c.sl:Int):=aa (by omega) (by omega);have e2:IntKind.u32.wrap (2*(c.sl:Int))=2*(c.sl:Int):=aa (by omega) (by omega);obtain⟨M,hM⟩:∃ x:Int,2*(c.sl:Int)=x:=⟨_,rfl⟩;have eN:0<M:=by omega
 have fV:M<4294967296:=by omega
 have jt:=hid hM;rw[hM] at e2;have e2b:(2*(c.sl:Int))%4294967296=M:=by rw[hM];omega
 have mm0:(M==0)=false:=by simp;omega
 have mm1:¬ M=0:=by omega
 clear hM cM;obtain⟨mz_0,gz_0,zb0,zb1⟩:=aj.out.cellB ax.out.1 ax.out.2 (1) (hj);obtain⟨z,ao⟩:∃ x,c.rdm l (1)=x:=⟨_,rfl⟩;rw[ao] at mz_0 zb0 zb1;try rw[ao]
 have cm:=hid ao;clear ao;rw[jt.out];have t1:z.tmod M=z%M:=Int.tmod_eq_emod_of_nonneg zb0;have q0:=Int.emod_nonneg z mm1;have q1:=Int.emod_lt_of_pos z eN;obtain⟨Q,hQ⟩:∃ x,z%M=x:=⟨_,rfl⟩;rw[hQ] at t1 q0 q1 ⊢;have t2:IntKind.u32.wrap Q=Q:=aa q0 (by omega);have q2:Q<4294967296:=by omega
 clear hQ;have gZ:(1:Int)<(LL:Int):=by omega
 have ag:=aj.out.row;have c2_0:=ag.at 2 (.int .i64 (c.sl:Int)) (by rw[← aS.out];rfl);have c11_0:=ag.ph 11 0 aI;have c16_0:=ag.at 16 (.int .u32 c.A);have f16_0:=ag.frozen 16;clear ag;go_enter Tryz.func90,Tryz.ntmps90;go_wp2_with fail;obtain⟨ai,au⟩:=fW (aj.out.setA (Q) ⟨q0,q2⟩) ay;refine(dO yb lb cap o _ _ _ (1) 1 _ ai.out rfl).mono (bF au fun w2 ar aE=>?_);go_wp2_with fail
 go_end0
 exact⟨_,rfl,ar.out,aE.out⟩
theorem mG (B LL CC:Nat) (w:World) (h:SR w yb lb cap o c rv l) (az:c.base=B) (aD:B+LL=l.length) (hk:bG o.k=true) (ae:c.ph=1) (hs:1≤c.sl) (hj:1<LL) (he:Kc.gapR (c.rdm l 0) c.A (2*(c.sl:Int))≥(c.sl:Int)):Calls Tryz.prog 90 #[.pointer (some ⟨yb,0,none⟩),.slice (some ⟨lb,B,none⟩) LL CC,.bool true] w (aU yb lb cap o w rv (c.fin 2) l (.tuple #[])):=by
 obtain⟨aj,ay,ah,HF,bp,aS,bx,bj⟩:=h.start;have ax:=hid (And.intro az aD);have cD:=hid hk;have aI:=hid ae;clear h ah az aD hk ae;have cM:=HF.out.sl1;have e1:IntKind.u32.wrap (c.sl:Int)=(c.sl:Int):=aa (by omega) (by omega);have e2:IntKind.u32.wrap (2*(c.sl:Int))=2*(c.sl:Int):=aa (by omega) (by omega);obtain⟨M,hM⟩:∃ x:Int,2*(c.sl:Int)=x:=⟨_,rfl⟩;have eN:0<M:=by omega
 have fV:M<4294967296:=by omega
 have jt:=hid hM;rw[hM] at e2;have e2b:(2*(c.sl:Int))%4294967296=M:=by rw[hM];omega
 have mm0:(M==0)=false:=by simp;omega
 have mm1:¬ M=0:=by omega
 clear hM cM;have rU:0<LL:=by omega
 obtain⟨my_0,gy_0,yb0,yb1⟩:=aj.out.cellB ax.out.1 ax.out.2 (1) (hj);obtain⟨y,pm⟩:∃ x,c.rdm l (1)=x:=⟨_,rfl⟩;rw[pm] at my_0 yb0 yb1;try rw[pm]
 have vA:=hid pm;clear pm;obtain⟨mz_0,gz_0,zb0,zb1⟩:=aj.out.cellB ax.out.1 ax.out.2 (0) (rU);obtain⟨z,ao⟩:∃ x,c.rdm l (0)=x:=⟨_,rfl⟩;rw[ao] at mz_0 zb0 zb1;try rw[ao]
 have cm:=hid ao;clear ao;rw[Nat.add_zero] at mz_0 gz_0;rw[jt.out,cm.out] at he;have ir:=hid rU;have xN:=hid hj;have gZ:(0:Int)<(LL:Int):=by omega
 have ii:(1:Int)<(LL:Int):=by omega
 have ud:=hid fun W=>iC c.A y M W ⟨HF.out.A0,HF.out.A1⟩ ⟨yb0,yb1⟩ ⟨eN,fV⟩
 have xk:=hid fun W=>iC z c.A M W ⟨zb0,zb1⟩ ⟨HF.out.A0,HF.out.A1⟩ ⟨eN,fV⟩
 obtain⟨G1,pR⟩:∃ x,Kc.gapR c.A y M=x:=⟨_,rfl⟩;obtain⟨G2,pg⟩:∃ x,Kc.gapR z c.A M=x:=⟨_,rfl⟩;rw[pR] at ud;rw[pg] at xk;rw[pg] at he;have hd:decide ((c.sl:Int)≤G2)=true:=decide_eq_true he;clear pR pg he;have ag:=aj.out.row;have c2_0:=ag.at 2 (.int .i64 (c.sl:Int)) (by rw[← aS.out];rfl);have c11_0:=ag.ph 11 1 aI;clear ag;go_enter Tryz.func90,Tryz.ntmps90;go_wp2_with fail;refine kj (S:=(lg yb c lb B y)) aj ay (fun ai=>⟨(ai.out.row.cell 16).trans rfl,(ai.out.cellB ax.out.1 ax.out.2 1 xN.out).1.trans (by show some (Value.int .u32 (c.rdm l 1))=_;rw[vA.out])⟩) fun w1 ai au hHeld=>?_
 refine ap 0 1 2 3 ?_;refine ap 4 5 6 7 ?_;refine aJ 8 (fun K hK=>?_)
 ·go_simp;refine(ud.out _).mono ?_;rintro ex w2 ⟨rfl,hb⟩;have ar:=hid (ai.out.below hb);have aE:=hid (au.out.trans (Mv.below hb _));clear hb;have aN:(lg yb c lb B y) w2:=⟨(ar.out.row.cell 16).trans rfl,(ar.out.cellB ax.out.1 ax.out.2 1 xN.out).1.trans (by show some (Value.int .u32 (c.rdm l 1))=_;rw[vA.out])⟩;refine kH hK aN fun hHeld=>?_
  clear hK K;refine aF 9 ?_;refine bh ?_;clear hHeld aN;go_wp2_with fail;refine kj (S:=(un yb c lb B z)) ar aE (fun aM=>⟨(aM.out.row.cell 16).trans rfl,(aM.out.cell0 ax.out.1 ax.out.2 ir.out).trans (by show some (Value.int .u32 (c.rdm l 0))=_;rw[cm.out])⟩) fun w3 aM bf hHeld=>?_
  refine ap 0 1 2 3 ?_;refine ap 4 5 6 7 ?_;refine aJ 8 (fun K hK=>?_)
  ·go_simp;refine(xk.out _).mono ?_;rintro ex w4 ⟨rfl,hb⟩;have cq:=hid (aM.out.below hb);have dd:=hid (bf.out.trans (Mv.below hb _));clear hb;have aN:(un yb c lb B z) w4:=⟨(cq.out.row.cell 16).trans rfl,(cq.out.cell0 ax.out.1 ax.out.2 ir.out).trans (by show some (Value.int .u32 (c.rdm l 0))=_;rw[cm.out])⟩;refine kH hK aN fun hHeld=>?_
   clear hK K;refine aF 9 ?_;refine bh ?_;clear hHeld aN;go_wp2_with fail;refine(eu yb lb cap o _ _ _ 2 _ cq.out cD.out).mono (cS dd fun w5 rv5 dV fS=>?_);go_wp2_with fail
   go_end0
   exact⟨_,rfl,dV.out,fS.out⟩
theorem oG (B LL CC:Nat) (w:World) (h:SR w yb lb cap o c rv l) (az:c.base=B) (aD:B+LL=l.length) (hk:bG o.k=true) (ae:c.ph=1) (hs:1≤c.sl) (hj:1<LL) (he:¬ (Kc.gapR (c.rdm l 0) c.A (2*(c.sl:Int))≥(c.sl:Int))):Calls Tryz.prog 90 #[.pointer (some ⟨yb,0,none⟩),.slice (some ⟨lb,B,none⟩) LL CC,.bool true] w (aU yb lb cap o w rv (c.go 2) l (.tuple #[])):=by
 obtain⟨aj,ay,ah,HF,bp,aS,bx,bj⟩:=h.start;have ax:=hid (And.intro az aD);have cD:=hid hk;have aI:=hid ae;clear h ah az aD hk ae;have cM:=HF.out.sl1;have e1:IntKind.u32.wrap (c.sl:Int)=(c.sl:Int):=aa (by omega) (by omega);have e2:IntKind.u32.wrap (2*(c.sl:Int))=2*(c.sl:Int):=aa (by omega) (by omega);obtain⟨M,hM⟩:∃ x:Int,2*(c.sl:Int)=x:=⟨_,rfl⟩;have eN:0<M:=by omega
 have fV:M<4294967296:=by omega
 have jt:=hid hM;rw[hM] at e2;have e2b:(2*(c.sl:Int))%4294967296=M:=by rw[hM];omega
 have mm0:(M==0)=false:=by simp;omega
 have mm1:¬ M=0:=by omega
 clear hM cM;have rU:0<LL:=by omega
 obtain⟨my_0,gy_0,yb0,yb1⟩:=aj.out.cellB ax.out.1 ax.out.2 (1) (hj);obtain⟨y,pm⟩:∃ x,c.rdm l (1)=x:=⟨_,rfl⟩;rw[pm] at my_0 yb0 yb1;try rw[pm]
 have vA:=hid pm;clear pm;obtain⟨mz_0,gz_0,zb0,zb1⟩:=aj.out.cellB ax.out.1 ax.out.2 (0) (rU);obtain⟨z,ao⟩:∃ x,c.rdm l (0)=x:=⟨_,rfl⟩;rw[ao] at mz_0 zb0 zb1;try rw[ao]
 have cm:=hid ao;clear ao;rw[Nat.add_zero] at mz_0 gz_0;rw[jt.out,cm.out] at he;have ir:=hid rU;have xN:=hid hj;have gZ:(0:Int)<(LL:Int):=by omega
 have ii:(1:Int)<(LL:Int):=by omega
 have ud:=hid fun W=>iC c.A y M W ⟨HF.out.A0,HF.out.A1⟩ ⟨yb0,yb1⟩ ⟨eN,fV⟩
 have xk:=hid fun W=>iC z c.A M W ⟨zb0,zb1⟩ ⟨HF.out.A0,HF.out.A1⟩ ⟨eN,fV⟩
 obtain⟨G1,pR⟩:∃ x,Kc.gapR c.A y M=x:=⟨_,rfl⟩;obtain⟨G2,pg⟩:∃ x,Kc.gapR z c.A M=x:=⟨_,rfl⟩;rw[pR] at ud;rw[pg] at xk;rw[pg] at he;have hd:decide ((c.sl:Int)≤G2)=false:=decide_eq_false he;clear pR pg he;have ag:=aj.out.row;have c2_0:=ag.at 2 (.int .i64 (c.sl:Int)) (by rw[← aS.out];rfl);have c11_0:=ag.ph 11 1 aI;clear ag;go_enter Tryz.func90,Tryz.ntmps90;go_wp2_with fail;refine kj (S:=(lg yb c lb B y)) aj ay (fun ai=>⟨(ai.out.row.cell 16).trans rfl,(ai.out.cellB ax.out.1 ax.out.2 1 xN.out).1.trans (by show some (Value.int .u32 (c.rdm l 1))=_;rw[vA.out])⟩) fun w1 ai au hHeld=>?_
 refine ap 0 1 2 3 ?_;refine ap 4 5 6 7 ?_;refine aJ 8 (fun K hK=>?_)
 ·go_simp;refine(ud.out _).mono ?_;rintro ex w2 ⟨rfl,hb⟩;have ar:=hid (ai.out.below hb);have aE:=hid (au.out.trans (Mv.below hb _));clear hb;have aN:(lg yb c lb B y) w2:=⟨(ar.out.row.cell 16).trans rfl,(ar.out.cellB ax.out.1 ax.out.2 1 xN.out).1.trans (by show some (Value.int .u32 (c.rdm l 1))=_;rw[vA.out])⟩;refine kH hK aN fun hHeld=>?_
  clear hK K;refine aF 9 ?_;refine bh ?_;clear hHeld aN;go_wp2_with fail;refine kj (S:=(un yb c lb B z)) ar aE (fun aM=>⟨(aM.out.row.cell 16).trans rfl,(aM.out.cell0 ax.out.1 ax.out.2 ir.out).trans (by show some (Value.int .u32 (c.rdm l 0))=_;rw[cm.out])⟩) fun w3 aM bf hHeld=>?_
  refine ap 0 1 2 3 ?_;refine ap 4 5 6 7 ?_;refine aJ 8 (fun K hK=>?_)
  ·go_simp;refine(xk.out _).mono ?_;rintro ex w4 ⟨rfl,hb⟩;have cq:=hid (aM.out.below hb);have dd:=hid (bf.out.trans (Mv.below hb _));clear hb;have aN:(un yb c lb B z) w4:=⟨(cq.out.row.cell 16).trans rfl,(cq.out.cell0 ax.out.1 ax.out.2 ir.out).trans (by show some (Value.int .u32 (c.rdm l 0))=_;rw[cm.out])⟩;refine kH hK aN fun hHeld=>?_
   clear hK K;refine aF 9 ?_;refine bh ?_;clear hHeld aN;go_wp2_with fail;refine(dO yb lb cap o _ _ _ (2) 2 _ cq.out rfl).mono (bF dd fun w5 dV fS=>?_);go_wp2_with fail
   go_end0
   exact⟨_,rfl,dV.out,fS.out⟩
theorem vF (B LL CC:Nat) (w:World) (h:SR w yb lb cap o c rv l) (az:c.base=B) (aD:B+LL=l.length) (hk:bG o.k=true) (ae:c.ph=2) (eH:bn o=((2:Nat):Int)) (dy:c.wr=true→c.i<c.rc.length) (gm:c.rc.length≤1000000) (gn:c.i<1000) (hj:2+(c.A%c.sl).toNat*c.wd+c.i<LL) (hs:1≤c.sl):Calls Tryz.prog 90 #[.pointer (some ⟨yb,0,none⟩),.slice (some ⟨lb,B,none⟩) LL CC,.bool true] w (aU yb lb cap o w rv (c.word l (2+(c.A%c.sl).toNat*c.wd) (·.go 3)).1 (c.word l (2+(c.A%c.sl).toNat*c.wd) (·.go 3)).2 (.tuple #[])):=by
 obtain⟨aj,ay,ah,HF,bp,aS,bx,bj⟩:=h.start;have ax:=hid (And.intro az aD);have cD:=hid hk;have aI:=hid ae;clear h ah az aD hk ae;have fo:=hid (And.intro eH (show(2:Nat)≤5 from(by omega)));have mS:=hid dy;have jA:=hid gm;have kg:=hid gn;have HJ:=hid hj;clear eH dy gm gn hj;have cM:=HF.out.sl1;have e1:IntKind.u32.wrap (c.sl:Int)=(c.sl:Int):=aa (by omega) (by omega);have m0:((c.sl:Int)==0)=false:=by simp;omega
 have m1:¬ (c.sl:Int)=0:=by omega
 have m2:¬ c.sl=0:=by omega
 have t1:c.A.tmod (c.sl:Int)=c.A%(c.sl:Int):=Int.tmod_eq_emod_of_nonneg HF.out.A0;have q0:=Int.emod_nonneg c.A m1;have q1:=Int.emod_lt_of_pos c.A (show(0:Int)<(c.sl:Int) by omega);have lO:=hid (show 0≤c.A%(c.sl:Int)∧c.A%(c.sl:Int)≤20 by omega);have t2:IntKind.u32.wrap (c.A%(c.sl:Int))=c.A%(c.sl:Int):=aa q0 (by omega);clear q0 q1 hs;have e2:IntKind.u32.wrap (2*(c.sl:Int))=2*(c.sl:Int):=aa (by omega) (by omega);have ag:=aj.out.row;have c11_0:=ag.ph 11 2 aI;have c2_0:=ag.at 2 (.int .i64 (c.sl:Int)) (by rw[← aS.out];rfl);have c16_0:=ag.at 16 (.int .u32 c.A);clear ag;go_enter Tryz.func90,Tryz.ntmps90;go_wp2_with fail;refine(dX yb lb cap o c rv l B LL CC (c.A%(c.sl:Int)) ((2:Nat)) _ 3 _ aj.out ax.out.1 ax.out.2 cD.out fo.out.1 fo.out.2 lO.out rfl HJ.out kg.out mS.out jA.out).mono (cS ay fun w1 rv1 ai au=>?_);go_wp2_with fail
 go_end0
 exact⟨_,rfl,ai.out,au.out⟩
theorem vV (B LL CC:Nat) (w:World) (h:SR w yb lb cap o c rv l) (az:c.base=B) (aD:B+LL=l.length) (hk:bG o.k=true) (ae:c.ph=3) (hs:1≤c.sl) (hj:1<LL):Calls Tryz.prog 90 #[.pointer (some ⟨yb,0,none⟩),.slice (some ⟨lb,B,none⟩) LL CC,.bool true] w (aU yb lb cap o w rv (c.fin 0) (c.wrm l 1 (Kc.incR c.A (2*(c.sl:Int)))) (.tuple #[])):=by
 obtain⟨aj,ay,ah,HF,bp,aS,bx,bj⟩:=h.start;have ax:=hid (And.intro az aD);have cD:=hid hk;have aI:=hid ae;clear h ah az aD hk ae;have cM:=HF.out.sl1;have e1:IntKind.u32.wrap (c.sl:Int)=(c.sl:Int):=aa (by omega) (by omega);have e2:IntKind.u32.wrap (2*(c.sl:Int))=2*(c.sl:Int):=aa (by omega) (by omega);obtain⟨M,hM⟩:∃ x:Int,2*(c.sl:Int)=x:=⟨_,rfl⟩;have eN:0<M:=by omega
 have fV:M<4294967296:=by omega
 have jt:=hid hM;rw[hM] at e2;have e2b:(2*(c.sl:Int))%4294967296=M:=by rw[hM];omega
 have mm0:(M==0)=false:=by simp;omega
 have mm1:¬ M=0:=by omega
 clear hM cM;rw[jt.out];have gZ:(1:Int)<(LL:Int):=by omega
 have ri:=hid fun W=>sM c.A M W ⟨HF.out.A0,HF.out.A1⟩ ⟨eN,fV⟩
 have AR:=pA (a:=c.A) eN;obtain⟨X,hX⟩:∃ x,Kc.incR c.A M=x:=⟨_,rfl⟩;rw[hX] at ri AR ⊢;have zf:=hid (show 0≤X∧X<4294967296 by omega);clear hX AR;obtain⟨my_0,gy_0,_,_⟩:=aj.out.cellB ax.out.1 ax.out.2 (1) (hj);have ag:=aj.out.row;have c2_0:=ag.at 2 (.int .i64 (c.sl:Int)) (by rw[← aS.out];rfl);have c11_0:=ag.ph 11 3 aI;have c16_0:=ag.at 16 (.int .u32 c.A);clear ag;go_enter Tryz.func90,Tryz.ntmps90;go_wp2_with fail;refine(ri.out _).mono ?_;rintro ex wq ⟨rfl,db⟩;rw[db];clear db;go_wp2_with fail;obtain⟨ai,au⟩:=fW (aj.out.putB ax.out.1 ax.out.2 (1) (hj) (X) zf.out) ay;refine(eu yb lb cap o _ _ _ 0 _ ai.out cD.out).mono (cS au fun w2 rv2 ar aE=>?_);go_wp2_with fail
 go_end0
 exact⟨_,rfl,ar.out,aE.out⟩
theorem vd (B LL CC:Nat) (w:World) (h:SR w yb lb cap o c rv l) (az:c.base=B) (aD:B+LL=l.length) (hk:bG o.k=true) (ae:c.ph=0) (hs:1≤c.sl) (hj:0<LL):Calls Tryz.prog 90 #[.pointer (some ⟨yb,0,none⟩),.slice (some ⟨lb,B,none⟩) LL CC,.bool false] w (aU yb lb cap o w rv (({ c with A:=c.rdm l 0%(2*(c.sl:Int)) }:Kc).go 1) l (.tuple #[])):=by
 obtain⟨aj,ay,ah,HF,bp,aS,bx,bj⟩:=h.start;have ax:=hid (And.intro az aD);have cD:=hid hk;have aI:=hid ae;clear h ah az aD hk ae;have cM:=HF.out.sl1;have e1:IntKind.u32.wrap (c.sl:Int)=(c.sl:Int):=aa (by omega) (by omega);have e2:IntKind.u32.wrap (2*(c.sl:Int))=2*(c.sl:Int):=aa (by omega) (by omega);obtain⟨M,hM⟩:∃ x:Int,2*(c.sl:Int)=x:=⟨_,rfl⟩;have eN:0<M:=by omega
 have fV:M<4294967296:=by omega
 have jt:=hid hM;rw[hM] at e2;have e2b:(2*(c.sl:Int))%4294967296=M:=by rw[hM];omega
 have mm0:(M==0)=false:=by simp;omega
 have mm1:¬ M=0:=by omega
 clear hM cM;obtain⟨mz_0,gz_0,zb0,zb1⟩:=aj.out.cellB ax.out.1 ax.out.2 (0) (hj);obtain⟨z,ao⟩:∃ x,c.rdm l (0)=x:=⟨_,rfl⟩;rw[ao] at mz_0 zb0 zb1;try rw[ao]
 have cm:=hid ao;clear ao;rw[Nat.add_zero] at mz_0 gz_0;rw[jt.out];have t1:z.tmod M=z%M:=Int.tmod_eq_emod_of_nonneg zb0;have q0:=Int.emod_nonneg z mm1;have q1:=Int.emod_lt_of_pos z eN;obtain⟨Q,hQ⟩:∃ x,z%M=x:=⟨_,rfl⟩;rw[hQ] at t1 q0 q1 ⊢;have t2:IntKind.u32.wrap Q=Q:=aa q0 (by omega);have q2:Q<4294967296:=by omega
 clear hQ;have gZ:(0:Int)<(LL:Int):=by omega
 have ag:=aj.out.row;have c2_0:=ag.at 2 (.int .i64 (c.sl:Int)) (by rw[← aS.out];rfl);have c11_0:=ag.ph 11 0 aI;have c16_0:=ag.at 16 (.int .u32 c.A);have f16_0:=ag.frozen 16;clear ag;go_enter Tryz.func90,Tryz.ntmps90;go_wp2_with fail;obtain⟨ai,au⟩:=fW (aj.out.setA (Q) ⟨q0,q2⟩) ay;refine(dO yb lb cap o _ _ _ (1) 1 _ ai.out rfl).mono (bF au fun w2 ar aE=>?_);go_wp2_with fail
 go_end0
 exact⟨_,rfl,ar.out,aE.out⟩
theorem mY (B LL CC:Nat) (w:World) (h:SR w yb lb cap o c rv l) (az:c.base=B) (aD:B+LL=l.length) (hk:bG o.k=true) (ae:c.ph=1) (hs:1≤c.sl) (hj:1<LL) (he:Kc.gapR c.A (c.rdm l 1) (2*(c.sl:Int))=0):Calls Tryz.prog 90 #[.pointer (some ⟨yb,0,none⟩),.slice (some ⟨lb,B,none⟩) LL CC,.bool false] w (aU yb lb cap o w rv (c.fin 3) l (.tuple #[])):=by
 obtain⟨aj,ay,ah,HF,bp,aS,bx,bj⟩:=h.start;have ax:=hid (And.intro az aD);have cD:=hid hk;have aI:=hid ae;clear h ah az aD hk ae;have cM:=HF.out.sl1;have e1:IntKind.u32.wrap (c.sl:Int)=(c.sl:Int):=aa (by omega) (by omega);have e2:IntKind.u32.wrap (2*(c.sl:Int))=2*(c.sl:Int):=aa (by omega) (by omega);obtain⟨M,hM⟩:∃ x:Int,2*(c.sl:Int)=x:=⟨_,rfl⟩;have eN:0<M:=by omega
 have fV:M<4294967296:=by omega
 have jt:=hid hM;rw[hM] at e2;have e2b:(2*(c.sl:Int))%4294967296=M:=by rw[hM];omega
 have mm0:(M==0)=false:=by simp;omega
 have mm1:¬ M=0:=by omega
 clear hM cM;have rU:0<LL:=by omega
 obtain⟨my_0,gy_0,yb0,yb1⟩:=aj.out.cellB ax.out.1 ax.out.2 (1) (hj);obtain⟨y,pm⟩:∃ x,c.rdm l (1)=x:=⟨_,rfl⟩;rw[pm] at my_0 yb0 yb1;try rw[pm]
 have vA:=hid pm;clear pm;obtain⟨mz_0,gz_0,zb0,zb1⟩:=aj.out.cellB ax.out.1 ax.out.2 (0) (rU);obtain⟨z,ao⟩:∃ x,c.rdm l (0)=x:=⟨_,rfl⟩;rw[ao] at mz_0 zb0 zb1;try rw[ao]
 have cm:=hid ao;clear ao;rw[Nat.add_zero] at mz_0 gz_0;rw[jt.out,vA.out] at he;have ir:=hid rU;have xN:=hid hj;have gZ:(0:Int)<(LL:Int):=by omega
 have ii:(1:Int)<(LL:Int):=by omega
 have ud:=hid fun W=>iC c.A y M W ⟨HF.out.A0,HF.out.A1⟩ ⟨yb0,yb1⟩ ⟨eN,fV⟩
 have xk:=hid fun W=>iC z c.A M W ⟨zb0,zb1⟩ ⟨HF.out.A0,HF.out.A1⟩ ⟨eN,fV⟩
 obtain⟨G1,pR⟩:∃ x,Kc.gapR c.A y M=x:=⟨_,rfl⟩;obtain⟨G2,pg⟩:∃ x,Kc.gapR z c.A M=x:=⟨_,rfl⟩;rw[pR] at ud;rw[pg] at xk;rw[pR] at he;have hd:(G1==0)=true:=by simpa using he
 clear pR pg he;have ag:=aj.out.row;have c2_0:=ag.at 2 (.int .i64 (c.sl:Int)) (by rw[← aS.out];rfl);have c11_0:=ag.ph 11 1 aI;clear ag;go_enter Tryz.func90,Tryz.ntmps90;go_wp2_with fail;refine kj (S:=(lg yb c lb B y)) aj ay (fun ai=>⟨(ai.out.row.cell 16).trans rfl,(ai.out.cellB ax.out.1 ax.out.2 1 xN.out).1.trans (by show some (Value.int .u32 (c.rdm l 1))=_;rw[vA.out])⟩) fun w1 ai au hHeld=>?_
 refine ap 0 1 2 3 ?_;refine ap 4 5 6 7 ?_;refine aJ 8 (fun K hK=>?_)
 ·go_simp;refine(ud.out _).mono ?_;rintro ex w2 ⟨rfl,hb⟩;have ar:=hid (ai.out.below hb);have aE:=hid (au.out.trans (Mv.below hb _));clear hb;have aN:(lg yb c lb B y) w2:=⟨(ar.out.row.cell 16).trans rfl,(ar.out.cellB ax.out.1 ax.out.2 1 xN.out).1.trans (by show some (Value.int .u32 (c.rdm l 1))=_;rw[vA.out])⟩;refine kH hK aN fun hHeld=>?_
  clear hK K;refine aF 9 ?_;refine bh ?_;clear hHeld aN;go_wp2_with fail;refine(eu yb lb cap o _ _ _ 3 _ ar.out cD.out).mono (cS aE fun w3 rv3 aM bf=>?_);go_wp2_with fail
  go_end0
  exact⟨_,rfl,aM.out,bf.out⟩
theorem pC (B LL CC:Nat) (w:World) (h:SR w yb lb cap o c rv l) (az:c.base=B) (aD:B+LL=l.length) (hk:bG o.k=true) (ae:c.ph=1) (hs:1≤c.sl) (hj:1<LL) (he:¬ (Kc.gapR c.A (c.rdm l 1) (2*(c.sl:Int))=0)):Calls Tryz.prog 90 #[.pointer (some ⟨yb,0,none⟩),.slice (some ⟨lb,B,none⟩) LL CC,.bool false] w (aU yb lb cap o w rv (c.go 2) l (.tuple #[])):=by
 obtain⟨aj,ay,ah,HF,bp,aS,bx,bj⟩:=h.start;have ax:=hid (And.intro az aD);have cD:=hid hk;have aI:=hid ae;clear h ah az aD hk ae;have cM:=HF.out.sl1;have e1:IntKind.u32.wrap (c.sl:Int)=(c.sl:Int):=aa (by omega) (by omega);have e2:IntKind.u32.wrap (2*(c.sl:Int))=2*(c.sl:Int):=aa (by omega) (by omega);obtain⟨M,hM⟩:∃ x:Int,2*(c.sl:Int)=x:=⟨_,rfl⟩;have eN:0<M:=by omega
 have fV:M<4294967296:=by omega
 have jt:=hid hM;rw[hM] at e2;have e2b:(2*(c.sl:Int))%4294967296=M:=by rw[hM];omega
 have mm0:(M==0)=false:=by simp;omega
 have mm1:¬ M=0:=by omega
 clear hM cM;have rU:0<LL:=by omega
 obtain⟨my_0,gy_0,yb0,yb1⟩:=aj.out.cellB ax.out.1 ax.out.2 (1) (hj);obtain⟨y,pm⟩:∃ x,c.rdm l (1)=x:=⟨_,rfl⟩;rw[pm] at my_0 yb0 yb1;try rw[pm]
 have vA:=hid pm;clear pm;obtain⟨mz_0,gz_0,zb0,zb1⟩:=aj.out.cellB ax.out.1 ax.out.2 (0) (rU);obtain⟨z,ao⟩:∃ x,c.rdm l (0)=x:=⟨_,rfl⟩;rw[ao] at mz_0 zb0 zb1;try rw[ao]
 have cm:=hid ao;clear ao;rw[Nat.add_zero] at mz_0 gz_0;rw[jt.out,vA.out] at he;have ir:=hid rU;have xN:=hid hj;have gZ:(0:Int)<(LL:Int):=by omega
 have ii:(1:Int)<(LL:Int):=by omega
 have ud:=hid fun W=>iC c.A y M W ⟨HF.out.A0,HF.out.A1⟩ ⟨yb0,yb1⟩ ⟨eN,fV⟩
 have xk:=hid fun W=>iC z c.A M W ⟨zb0,zb1⟩ ⟨HF.out.A0,HF.out.A1⟩ ⟨eN,fV⟩
 obtain⟨G1,pR⟩:∃ x,Kc.gapR c.A y M=x:=⟨_,rfl⟩;obtain⟨G2,pg⟩:∃ x,Kc.gapR z c.A M=x:=⟨_,rfl⟩;rw[pR] at ud;rw[pg] at xk;rw[pR] at he;have hd:(G1==0)=false:=by simpa using he
 clear pR pg he;have ag:=aj.out.row;have c2_0:=ag.at 2 (.int .i64 (c.sl:Int)) (by rw[← aS.out];rfl);have c11_0:=ag.ph 11 1 aI;clear ag;go_enter Tryz.func90,Tryz.ntmps90;go_wp2_with fail;refine kj (S:=(lg yb c lb B y)) aj ay (fun ai=>⟨(ai.out.row.cell 16).trans rfl,(ai.out.cellB ax.out.1 ax.out.2 1 xN.out).1.trans (by show some (Value.int .u32 (c.rdm l 1))=_;rw[vA.out])⟩) fun w1 ai au hHeld=>?_
 refine ap 0 1 2 3 ?_;refine ap 4 5 6 7 ?_;refine aJ 8 (fun K hK=>?_)
 ·go_simp;refine(ud.out _).mono ?_;rintro ex w2 ⟨rfl,hb⟩;have ar:=hid (ai.out.below hb);have aE:=hid (au.out.trans (Mv.below hb _));clear hb;have aN:(lg yb c lb B y) w2:=⟨(ar.out.row.cell 16).trans rfl,(ar.out.cellB ax.out.1 ax.out.2 1 xN.out).1.trans (by show some (Value.int .u32 (c.rdm l 1))=_;rw[vA.out])⟩;refine kH hK aN fun hHeld=>?_
  clear hK K;refine aF 9 ?_;refine bh ?_;clear hHeld aN;go_wp2_with fail;refine(dO yb lb cap o _ _ _ (2) 2 _ ar.out rfl).mono (bF aE fun w3 aM bf=>?_);go_wp2_with fail
  go_end0
  exact⟨_,rfl,aM.out,bf.out⟩
theorem wW (B LL CC:Nat) (w:World) (h:SR w yb lb cap o c rv l) (az:c.base=B) (aD:B+LL=l.length) (hk:bG o.k=true) (ae:c.ph=2) (eH:bn o=((2:Nat):Int)) (dy:c.wr=true→c.i<c.rc.length) (gm:c.rc.length≤1000000) (gn:c.i<1000) (hj:2+(c.A%c.sl).toNat*c.wd+c.i<LL) (hs:1≤c.sl):Calls Tryz.prog 90 #[.pointer (some ⟨yb,0,none⟩),.slice (some ⟨lb,B,none⟩) LL CC,.bool false] w (aU yb lb cap o w rv (c.word l (2+(c.A%c.sl).toNat*c.wd) (·.go 3)).1 (c.word l (2+(c.A%c.sl).toNat*c.wd) (·.go 3)).2 (.tuple #[])):=by
 obtain⟨aj,ay,ah,HF,bp,aS,bx,bj⟩:=h.start;have ax:=hid (And.intro az aD);have cD:=hid hk;have aI:=hid ae;clear h ah az aD hk ae;have fo:=hid (And.intro eH (show(2:Nat)≤5 from(by omega)));have mS:=hid dy;have jA:=hid gm;have kg:=hid gn;have HJ:=hid hj;clear eH dy gm gn hj;have cM:=HF.out.sl1;have e1:IntKind.u32.wrap (c.sl:Int)=(c.sl:Int):=aa (by omega) (by omega);have m0:((c.sl:Int)==0)=false:=by simp;omega
 have m1:¬ (c.sl:Int)=0:=by omega
 have m2:¬ c.sl=0:=by omega
 have t1:c.A.tmod (c.sl:Int)=c.A%(c.sl:Int):=Int.tmod_eq_emod_of_nonneg HF.out.A0;have q0:=Int.emod_nonneg c.A m1;have q1:=Int.emod_lt_of_pos c.A (show(0:Int)<(c.sl:Int) by omega);have lO:=hid (show 0≤c.A%(c.sl:Int)∧c.A%(c.sl:Int)≤20 by omega);have t2:IntKind.u32.wrap (c.A%(c.sl:Int))=c.A%(c.sl:Int):=aa q0 (by omega);clear q0 q1 hs;have e2:IntKind.u32.wrap (2*(c.sl:Int))=2*(c.sl:Int):=aa (by omega) (by omega);have ag:=aj.out.row;have c11_0:=ag.ph 11 2 aI;have c2_0:=ag.at 2 (.int .i64 (c.sl:Int)) (by rw[← aS.out];rfl);have c16_0:=ag.at 16 (.int .u32 c.A);clear ag;go_enter Tryz.func90,Tryz.ntmps90;go_wp2_with fail;refine(dX yb lb cap o c rv l B LL CC (c.A%(c.sl:Int)) ((2:Nat)) _ 3 _ aj.out ax.out.1 ax.out.2 cD.out fo.out.1 fo.out.2 lO.out rfl HJ.out kg.out mS.out jA.out).mono (cS ay fun w1 rv1 ai au=>?_);go_wp2_with fail
 go_end0
 exact⟨_,rfl,ai.out,au.out⟩
theorem uW (B LL CC:Nat) (w:World) (h:SR w yb lb cap o c rv l) (az:c.base=B) (aD:B+LL=l.length) (hk:bG o.k=true) (ae:c.ph=3) (hs:1≤c.sl) (hj:0<LL):Calls Tryz.prog 90 #[.pointer (some ⟨yb,0,none⟩),.slice (some ⟨lb,B,none⟩) LL CC,.bool false] w (aU yb lb cap o w rv (c.fin 0) (c.wrm l 0 (Kc.incR c.A (2*(c.sl:Int)))) (.tuple #[])):=by
 obtain⟨aj,ay,ah,HF,bp,aS,bx,bj⟩:=h.start;have ax:=hid (And.intro az aD);have cD:=hid hk;have aI:=hid ae;clear h ah az aD hk ae;have cM:=HF.out.sl1;have e1:IntKind.u32.wrap (c.sl:Int)=(c.sl:Int):=aa (by omega) (by omega);have e2:IntKind.u32.wrap (2*(c.sl:Int))=2*(c.sl:Int):=aa (by omega) (by omega);obtain⟨M,hM⟩:∃ x:Int,2*(c.sl:Int)=x:=⟨_,rfl⟩;have eN:0<M:=by omega
 have fV:M<4294967296:=by omega
 have jt:=hid hM;rw[hM] at e2;have e2b:(2*(c.sl:Int))%4294967296=M:=by rw[hM];omega
 have mm0:(M==0)=false:=by simp;omega
 have mm1:¬ M=0:=by omega
 clear hM cM;rw[jt.out];have gZ:(0:Int)<(LL:Int):=by omega
 have ri:=hid fun W=>sM c.A M W ⟨HF.out.A0,HF.out.A1⟩ ⟨eN,fV⟩
 have AR:=pA (a:=c.A) eN;obtain⟨X,hX⟩:∃ x,Kc.incR c.A M=x:=⟨_,rfl⟩;rw[hX] at ri AR ⊢;have zf:=hid (show 0≤X∧X<4294967296 by omega);clear hX AR;obtain⟨my_0,gy_0,_,_⟩:=aj.out.cellB ax.out.1 ax.out.2 (0) (hj);rw[Nat.add_zero] at my_0 gy_0;have ag:=aj.out.row;have c2_0:=ag.at 2 (.int .i64 (c.sl:Int)) (by rw[← aS.out];rfl);have c11_0:=ag.ph 11 3 aI;have c16_0:=ag.at 16 (.int .u32 c.A);clear ag;go_enter Tryz.func90,Tryz.ntmps90;go_wp2_with fail;refine(ri.out _).mono ?_;rintro ex wq ⟨rfl,db⟩;rw[db];clear db;go_wp2_with fail;obtain⟨hs,hm⟩:=aj.out.putB ax.out.1 ax.out.2 (0) (hj) (X) zf.out;rw[Nat.add_zero] at hs hm;obtain⟨ai,au⟩:=nx hs ay hm;clear hs hm;refine(eu yb lb cap o _ _ _ 0 _ ai.out cD.out).mono (cS au fun w2 rv2 ar aE=>?_);go_wp2_with fail
 go_end0
 exact⟨_,rfl,ar.out,aE.out⟩
end
end Go.Proofs.YtolmpehgeinlkaaGreatDoor
