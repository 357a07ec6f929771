/- The document's operation: the kind cab. -/
import Derived.Test.YtolmpehgeinlkaaGreatDoorZcOrF
namespace Go.Proofs.YtolmpehgeinlkaaGreatDoor
open Go.RowKit
open Go.Lib (hid)
attribute [local go_sem] Oper.semAt_some
set_option maxHeartbeats 1000000
set_option maxRecDepth 100000
abbrev i9 (a0:Nat) (a1:Kc) (a2 a3:Nat) (a4:Int) (w':World):Prop:=w'.cell? ⟨a0,2,none⟩=some (.int .i64 (a1.sl:Int))∧w'.cell? ⟨a2,a3,none⟩=some (.int .u32 a4)
abbrev ur (a0:Nat) (a1:Kc) (a2:Ob) (w':World):Prop:=w'.cell? ⟨a0,12,none⟩=some (.int .i64 ((a1.i:Int)+1))∧w'.cell? ⟨a0,7,none⟩=some (.slice a2.R a2.nr a2.cr)
section
variable (yb lb cap:Nat) (o:Ob) (c:Kc) (rv:Value) (l:List Int)
theorem yk (B LL CC:Nat) (w:World) (h:SR w yb lb cap o c rv l) (az:c.base=B) (aD:B+LL=l.length) (hk:bG o.k=true) (ae:c.ph=0) (iK:cU o=((c.sl:Nat):Int)) (hs:1≤c.sl) (hj:0<LL):Calls Tryz.prog 88 #[.pointer (some ⟨yb,0,none⟩),.slice (some ⟨lb,B,none⟩) LL CC] w (aU yb lb cap o w rv (({ c with used:=Kc.noteR c.sl c.used (c.rdm l 0%(c.sl:Int)) }:Kc).go 1) l (.tuple #[])):=by
 obtain⟨aj,ay,ah,HF,bp,aS,bx,bj⟩:=h.start;have ax:=hid (And.intro az aD);have cD:=hid hk;have aI:=hid ae;clear h ah az aD hk ae;obtain⟨mz_0,gz_0,zb0,zb1⟩:=aj.out.cellB ax.out.1 ax.out.2 (0) (hj);obtain⟨z,ao⟩:∃ x,c.rdm l (0)=x:=⟨_,rfl⟩;rw[ao] at mz_0 zb0 zb1;try rw[ao]
 have cm:=hid ao;clear ao;rw[Nat.add_zero] at mz_0 gz_0;have cM:=HF.out.sl1;have e1:IntKind.u32.wrap (c.sl:Int)=(c.sl:Int):=aa (by omega) (by omega);have m0:((c.sl:Int)==0)=false:=by simp;omega
 have m1:¬ (c.sl:Int)=0:=by omega
 have m2:¬ c.sl=0:=by omega
 have t1:z.tmod (c.sl:Int)=z%(c.sl:Int):=Int.tmod_eq_emod_of_nonneg zb0;have q0:=Int.emod_nonneg z m1;have q1:=Int.emod_lt_of_pos z (show(0:Int)<(c.sl:Int) by omega);obtain⟨Q,hQ⟩:∃ x,z%(c.sl:Int)=x:=⟨_,rfl⟩;rw[hQ] at t1 q0 q1;try rw[hQ]
 have t2:IntKind.u32.wrap Q=Q:=aa q0 (by omega);have q2:Q<4294967296:=by omega
 have zZ:=hid (And.intro q0 q2);have ir:=hid hj;clear cM;clear hQ;have gZ:(0:Int)<(LL:Int):=by omega
 have pK:=hid (And.intro iK (show c.sl≤20 by have:=HF.out.sl1;omega));clear iK;have ag:=aj.out.row;have c11_0:=ag.ph 11 0 aI;clear ag;go_enter Tryz.func88,Tryz.ntmps88;go_wp2_with fail;refine kj (S:=(i9 yb c lb B z)) aj ay (fun ai=>⟨(ai.out.row.cell 2).trans (by rw[← aS.out];rfl),(ai.out.cell0 ax.out.1 ax.out.2 ir.out).trans (by show some (Value.int .u32 (c.rdm l 0))=_;rw[cm.out])⟩) fun w1 ai au hHeld=>?_
 refine ap 0 1 2 3 ?_;refine ap 4 5 6 7 ?_;refine bw 8 9 ?_;refine aF 10 ?_;refine aJ 11 (fun K hK=>?_)
 ·go_simp;refine(kO yb lb cap o _ _ _ Q c.sl _ ai.out zZ.out pK.out.1 pK.out.2).mono (bF au fun w2 ar aE=>?_);have aN:(i9 yb c lb B z) w2:=⟨(ar.out.row.cell 2).trans (by rw[← aS.out];rfl),(ar.out.cell0 ax.out.1 ax.out.2 ir.out).trans (by show some (Value.int .u32 (c.rdm l 0))=_;rw[cm.out])⟩;refine kH hK aN fun hHeld=>?_
  clear hK K;refine bh ?_;clear hHeld aN;go_wp2_with fail;refine(dO yb lb cap o _ _ _ (1) 1 _ ar.out rfl).mono (bF aE fun w3 aM bf=>?_);go_wp2_with fail
  go_end0
  exact⟨_,rfl,aM.out,bf.out⟩
theorem kL (B LL CC:Nat) (w:World) (h:SR w yb lb cap o c rv l) (az:c.base=B) (aD:B+LL=l.length) (hk:bG o.k=true) (ae:c.ph=1) (iK:cU o=((c.sl:Nat):Int)) (hi:c.i<c.nr) (ak:c.nr≤c.i+1) (dJ:0<c.rdm l (1+c.i)) (hj:1+c.i<LL):Calls Tryz.prog 88 #[.pointer (some ⟨yb,0,none⟩),.slice (some ⟨lb,B,none⟩) LL CC] w (aU yb lb cap o w rv (({ c with used:=(Kc.noteR c.sl c.used (c.rdm l (1+c.i) - 1)),i:=c.i+1,B:=Kc.chooseR (Kc.noteR c.sl c.used (c.rdm l (1+c.i) - 1)) }:Kc).go 2) l (.tuple #[])):=by
 obtain⟨aj,ay,ah,HF,bp,aS,bx,bj⟩:=h.start;have ax:=hid (And.intro az aD);have cD:=hid hk;have aI:=hid ae;clear h ah az aD hk ae;have nn:(1+(c.i:Int)).toNat=1+c.i:=by omega
 have oP:0≤1+(c.i:Int):=by omega
 have oJ:1+(c.i:Int)<(LL:Int):=by omega
 have gf:=HF.out.i1;have kT:IntKind.i64.wrap (1+(c.i:Int))=1+(c.i:Int):=ac (by omega) (by omega);have Aw:IntKind.i64.wrap ((c.i:Int)+1)=(c.i:Int)+1:=ac (by omega) (by omega);have hq:((c.i:Int)+1==(o.nr:Int))=true:=by have:=bj.out;simp;omega
 have oS:=hid (show c.i<1000 by have:=HF.out.nr1;omega);obtain⟨mz_0,gz_0,zb0,zb1⟩:=aj.out.cellB ax.out.1 ax.out.2 (1+c.i) (hj);obtain⟨z,ao⟩:∃ x,c.rdm l (1+c.i)=x:=⟨_,rfl⟩;rw[ao] at mz_0 zb0 zb1;try rw[ao]
 have cm:=hid ao;clear ao;rw[cm.out] at dJ;have ld:decide (0<z)=true:=decide_eq_true dJ;have pK:=hid (And.intro iK (show c.sl≤20 by have:=HF.out.sl1;omega));have e5:IntKind.u32.wrap (z - 1)=z - 1:=aa (by omega) (by omega);have pO:=hid (show 0≤z - 1∧z - 1<4294967296 by omega);clear iK dJ;have zE:=kK (Kc.noteR c.sl c.used (z - 1));obtain⟨Z,hZ⟩:∃ x,Kc.chooseR (Kc.noteR c.sl c.used (z - 1))=x:=⟨_,rfl⟩;rw[hZ] at zE ⊢;have HZ:=hid hZ;have CH:=hid zE;clear hZ zE;clear ak hi gf;have ag:=aj.out.row;have c11_0:=ag.ph 11 1 aI;have c12_0:=ag.at 12 (.int .i64 (c.i:Int));clear ag;go_enter Tryz.func88,Tryz.ntmps88;go_wp2_with fail;refine(kO yb lb cap o _ _ _ (z - 1) c.sl _ aj.out pO.out pK.out.1 pK.out.2).mono (bF ay fun w1 ai au=>?_);have bi:=ai.out.row;have c12_1:=bi.at 12 (.int .i64 (c.i:Int));have f12_1:=bi.frozen 12;clear bi;go_wp2_with fail;obtain⟨ar,aE⟩:=uj (w1.setCell ⟨yb,12,none⟩ (.int .i64 ((c.i:Int)+1))) (ai.out.setI oS.out) au;refine kj (S:=(ur yb c o)) ar aE (fun aM=>⟨(aM.out.row.cell 12).trans (by show some (Value.int .i64 ((c.i+1:Nat):Int))=_;rfl),(aM.out.row.cell 7).trans rfl⟩) fun w3 aM bf hHeld=>?_
 refine ap 0 1 2 3 ?_;refine ap 4 5 6 7 ?_;refine bw 8 9 ?_;refine aF 10 ?_;refine bh ?_;clear hHeld;go_wp2_with fail;have xK:=lU yb lb cap o _ _ _ _ aM.out;rw[show Kc.chooseR _=Z from HZ.out] at xK;have Gd:=hid xK;clear xK;refine Gd.out.mono ?_;rintro ex wq ⟨rfl,db⟩;rw[db];clear db;have bC:=aM.out.row;have c17_3:=bC.at 17 (.int .u32 c.B);have f17_3:=bC.frozen 17;clear bC;go_wp2_with fail;obtain⟨cq,dd⟩:=uj (w3.setCell ⟨yb,17,none⟩ (.int .u32 Z)) (aM.out.setB Z ⟨CH.out.1,by have:=CH.out.2;omega⟩) bf;refine(dO yb lb cap o _ _ _ (2) 2 _ cq.out rfl).mono (bF dd fun w5 dV fS=>?_);go_wp2_with fail
 go_end0
 exact⟨_,rfl,dV.out,fS.out⟩
theorem kt (B LL CC:Nat) (w:World) (h:SR w yb lb cap o c rv l) (az:c.base=B) (aD:B+LL=l.length) (hk:bG o.k=true) (ae:c.ph=1) (iK:cU o=((c.sl:Nat):Int)) (_hi:c.i<c.nr) (ak:¬ c.nr≤c.i+1) (dJ:0<c.rdm l (1+c.i)) (hj:1+c.i<LL):Calls Tryz.prog 88 #[.pointer (some ⟨yb,0,none⟩),.slice (some ⟨lb,B,none⟩) LL CC] w (aU yb lb cap o w rv { c with used:=(Kc.noteR c.sl c.used (c.rdm l (1+c.i) - 1)),i:=c.i+1 } l (.tuple #[])):=by
 obtain⟨aj,ay,ah,HF,bp,aS,bx,bj⟩:=h.start;have ax:=hid (And.intro az aD);have cD:=hid hk;have aI:=hid ae;clear h ah az aD hk ae;have nn:(1+(c.i:Int)).toNat=1+c.i:=by omega
 have oP:0≤1+(c.i:Int):=by omega
 have oJ:1+(c.i:Int)<(LL:Int):=by omega
 have gf:=HF.out.i1;have kT:IntKind.i64.wrap (1+(c.i:Int))=1+(c.i:Int):=ac (by omega) (by omega);have Aw:IntKind.i64.wrap ((c.i:Int)+1)=(c.i:Int)+1:=ac (by omega) (by omega);have hq:((c.i:Int)+1==(o.nr:Int))=false:=by have:=bj.out;simp;omega
 have oS:=hid (show c.i<1000 by have:=HF.out.nr1;omega);obtain⟨mz_0,gz_0,zb0,zb1⟩:=aj.out.cellB ax.out.1 ax.out.2 (1+c.i) (hj);obtain⟨z,ao⟩:∃ x,c.rdm l (1+c.i)=x:=⟨_,rfl⟩;rw[ao] at mz_0 zb0 zb1;try rw[ao]
 have cm:=hid ao;clear ao;rw[cm.out] at dJ;have ld:decide (0<z)=true:=decide_eq_true dJ;have pK:=hid (And.intro iK (show c.sl≤20 by have:=HF.out.sl1;omega));have e5:IntKind.u32.wrap (z - 1)=z - 1:=aa (by omega) (by omega);have pO:=hid (show 0≤z - 1∧z - 1<4294967296 by omega);clear iK dJ;clear ak _hi gf;have ag:=aj.out.row;have c11_0:=ag.ph 11 1 aI;have c12_0:=ag.at 12 (.int .i64 (c.i:Int));clear ag;go_enter Tryz.func88,Tryz.ntmps88;go_wp2_with fail;refine(kO yb lb cap o _ _ _ (z - 1) c.sl _ aj.out pO.out pK.out.1 pK.out.2).mono (bF ay fun w1 ai au=>?_);have bi:=ai.out.row;have c12_1:=bi.at 12 (.int .i64 (c.i:Int));have f12_1:=bi.frozen 12;clear bi;go_wp2_with fail;obtain⟨ar,aE⟩:=uj (w1.setCell ⟨yb,12,none⟩ (.int .i64 ((c.i:Int)+1))) (ai.out.setI oS.out) au;refine kj (S:=(ur yb c o)) ar aE (fun aM=>⟨(aM.out.row.cell 12).trans (by show some (Value.int .i64 ((c.i+1:Nat):Int))=_;rfl),(aM.out.row.cell 7).trans rfl⟩) fun w3 aM bf hHeld=>?_
 refine ap 0 1 2 3 ?_;refine ap 4 5 6 7 ?_;refine bw 8 9 ?_;refine aF 10 ?_;refine bh ?_;clear hHeld;go_wp2_with fail
 go_end0
 exact⟨_,rfl,aM.out,bf.out⟩
theorem kr (B LL CC:Nat) (w:World) (h:SR w yb lb cap o c rv l) (az:c.base=B) (aD:B+LL=l.length) (hk:bG o.k=true) (ae:c.ph=1) (iK:cU o=((c.sl:Nat):Int)) (hi:c.i<c.nr) (ak:c.nr≤c.i+1) (dJ:¬ 0<c.rdm l (1+c.i)) (hj:1+c.i<LL):Calls Tryz.prog 88 #[.pointer (some ⟨yb,0,none⟩),.slice (some ⟨lb,B,none⟩) LL CC] w (aU yb lb cap o w rv (({ c with used:=c.used,i:=c.i+1,B:=Kc.chooseR c.used }:Kc).go 2) l (.tuple #[])):=by
 obtain⟨aj,ay,ah,HF,bp,aS,bx,bj⟩:=h.start;have ax:=hid (And.intro az aD);have cD:=hid hk;have aI:=hid ae;clear h ah az aD hk ae;have nn:(1+(c.i:Int)).toNat=1+c.i:=by omega
 have oP:0≤1+(c.i:Int):=by omega
 have oJ:1+(c.i:Int)<(LL:Int):=by omega
 have gf:=HF.out.i1;have kT:IntKind.i64.wrap (1+(c.i:Int))=1+(c.i:Int):=ac (by omega) (by omega);have Aw:IntKind.i64.wrap ((c.i:Int)+1)=(c.i:Int)+1:=ac (by omega) (by omega);have hq:((c.i:Int)+1==(o.nr:Int))=true:=by have:=bj.out;simp;omega
 have oS:=hid (show c.i<1000 by have:=HF.out.nr1;omega);obtain⟨mz_0,gz_0,zb0,zb1⟩:=aj.out.cellB ax.out.1 ax.out.2 (1+c.i) (hj);obtain⟨z,ao⟩:∃ x,c.rdm l (1+c.i)=x:=⟨_,rfl⟩;rw[ao] at mz_0 zb0 zb1;try rw[ao]
 have cm:=hid ao;clear ao;rw[cm.out] at dJ;have ld:decide (0<z)=false:=decide_eq_false dJ;have pK:=hid (And.intro iK (show c.sl≤20 by have:=HF.out.sl1;omega));clear iK dJ;have zE:=kK c.used;obtain⟨Z,hZ⟩:∃ x,Kc.chooseR c.used=x:=⟨_,rfl⟩;rw[hZ] at zE ⊢;have HZ:=hid hZ;have CH:=hid zE;clear hZ zE;clear ak hi gf;have ag:=aj.out.row;have c11_0:=ag.ph 11 1 aI;have c12_0:=ag.at 12 (.int .i64 (c.i:Int));have f12_0:=ag.frozen 12;clear ag;go_enter Tryz.func88,Tryz.ntmps88;go_wp2_with fail;obtain⟨ai,au⟩:=uj (w.setCell ⟨yb,12,none⟩ (.int .i64 ((c.i:Int)+1))) (aj.out.setI oS.out) ay;refine kj (S:=(ur yb c o)) ai au (fun ar=>⟨(ar.out.row.cell 12).trans (by show some (Value.int .i64 ((c.i+1:Nat):Int))=_;rfl),(ar.out.row.cell 7).trans rfl⟩) fun w2 ar aE hHeld=>?_
 refine ap 0 1 2 3 ?_;refine ap 4 5 6 7 ?_;refine bw 8 9 ?_;refine aF 10 ?_;refine bh ?_;clear hHeld;go_wp2_with fail;have xK:=lU yb lb cap o _ _ _ _ ar.out;rw[show Kc.chooseR _=Z from HZ.out] at xK;have Gd:=hid xK;clear xK;refine Gd.out.mono ?_;rintro ex wq ⟨rfl,db⟩;rw[db];clear db;have aC:=ar.out.row;have c17_2:=aC.at 17 (.int .u32 c.B);have f17_2:=aC.frozen 17;clear aC;go_wp2_with fail;obtain⟨aM,bf⟩:=uj (w2.setCell ⟨yb,17,none⟩ (.int .u32 Z)) (ar.out.setB Z ⟨CH.out.1,by have:=CH.out.2;omega⟩) aE;refine(dO yb lb cap o _ _ _ (2) 2 _ aM.out rfl).mono (bF bf fun w4 cq dd=>?_);go_wp2_with fail
 go_end0
 exact⟨_,rfl,cq.out,dd.out⟩
theorem kq (B LL CC:Nat) (w:World) (h:SR w yb lb cap o c rv l) (az:c.base=B) (aD:B+LL=l.length) (hk:bG o.k=true) (ae:c.ph=1) (iK:cU o=((c.sl:Nat):Int)) (_hi:c.i<c.nr) (ak:¬ c.nr≤c.i+1) (dJ:¬ 0<c.rdm l (1+c.i)) (hj:1+c.i<LL):Calls Tryz.prog 88 #[.pointer (some ⟨yb,0,none⟩),.slice (some ⟨lb,B,none⟩) LL CC] w (aU yb lb cap o w rv { c with used:=c.used,i:=c.i+1 } l (.tuple #[])):=by
 obtain⟨aj,ay,ah,HF,bp,aS,bx,bj⟩:=h.start;have ax:=hid (And.intro az aD);have cD:=hid hk;have aI:=hid ae;clear h ah az aD hk ae;have nn:(1+(c.i:Int)).toNat=1+c.i:=by omega
 have oP:0≤1+(c.i:Int):=by omega
 have oJ:1+(c.i:Int)<(LL:Int):=by omega
 have gf:=HF.out.i1;have kT:IntKind.i64.wrap (1+(c.i:Int))=1+(c.i:Int):=ac (by omega) (by omega);have Aw:IntKind.i64.wrap ((c.i:Int)+1)=(c.i:Int)+1:=ac (by omega) (by omega);have hq:((c.i:Int)+1==(o.nr:Int))=false:=by have:=bj.out;simp;omega
 have oS:=hid (show c.i<1000 by have:=HF.out.nr1;omega);obtain⟨mz_0,gz_0,zb0,zb1⟩:=aj.out.cellB ax.out.1 ax.out.2 (1+c.i) (hj);obtain⟨z,ao⟩:∃ x,c.rdm l (1+c.i)=x:=⟨_,rfl⟩;rw[ao] at mz_0 zb0 zb1;try rw[ao]
 have cm:=hid ao;clear ao;rw[cm.out] at dJ;have ld:decide (0<z)=false:=decide_eq_false dJ;have pK:=hid (And.intro iK (show c.sl≤20 by have:=HF.out.sl1;omega));clear iK dJ;clear ak _hi gf;have ag:=aj.out.row;have c11_0:=ag.ph 11 1 aI;have c12_0:=ag.at 12 (.int .i64 (c.i:Int));have f12_0:=ag.frozen 12;clear ag;go_enter Tryz.func88,Tryz.ntmps88;go_wp2_with fail;obtain⟨ai,au⟩:=uj (w.setCell ⟨yb,12,none⟩ (.int .i64 ((c.i:Int)+1))) (aj.out.setI oS.out) ay;refine kj (S:=(ur yb c o)) ai au (fun ar=>⟨(ar.out.row.cell 12).trans (by show some (Value.int .i64 ((c.i+1:Nat):Int))=_;rfl),(ar.out.row.cell 7).trans rfl⟩) fun w2 ar aE hHeld=>?_
 refine ap 0 1 2 3 ?_;refine ap 4 5 6 7 ?_;refine bw 8 9 ?_;refine aF 10 ?_;refine bh ?_;clear hHeld;go_wp2_with fail
 go_end0
 exact⟨_,rfl,ar.out,aE.out⟩
theorem yK (B LL CC:Nat) (w:World) (h:SR w yb lb cap o c rv l) (az:c.base=B) (aD:B+LL=l.length) (hk:bG o.k=true) (ae:c.ph=2) (eH:bn o=((1+c.nr:Nat):Int)) (dy:c.wr=true→c.i<c.rc.length) (gm:c.rc.length≤1000000) (gn:c.i<1000) (hj:1+c.nr+c.B.toNat*c.wd+c.i<LL) (hB:0≤c.B∧c.B≤20):Calls Tryz.prog 88 #[.pointer (some ⟨yb,0,none⟩),.slice (some ⟨lb,B,none⟩) LL CC] w (aU yb lb cap o w rv (c.word l (1+c.nr+c.B.toNat*c.wd) (·.go 3)).1 (c.word l (1+c.nr+c.B.toNat*c.wd) (·.go 3)).2 (.tuple #[])):=by
 obtain⟨aj,ay,ah,HF,bp,aS,bx,bj⟩:=h.start;have ax:=hid (And.intro az aD);have cD:=hid hk;have aI:=hid ae;clear h ah az aD hk ae;have fo:=hid (And.intro eH (show(1+c.nr:Nat)≤5 from(by have:=HF.out.nr1;omega)));have mS:=hid dy;have jA:=hid gm;have kg:=hid gn;have HJ:=hid hj;clear eH dy gm gn hj;have lO:=hid hB;clear hB;have ag:=aj.out.row;have c11_0:=ag.ph 11 2 aI;have c17_0:=ag.at 17 (.int .u32 c.B);clear ag;go_enter Tryz.func88,Tryz.ntmps88;go_wp2_with fail;refine(dX yb lb cap o c rv l B LL CC (c.B) ((1+c.nr:Nat)) _ 3 _ aj.out ax.out.1 ax.out.2 cD.out fo.out.1 fo.out.2 lO.out rfl HJ.out kg.out mS.out jA.out).mono (cS ay fun w1 rv1 ai au=>?_);go_wp2_with fail
 go_end0
 exact⟨_,rfl,ai.out,au.out⟩
theorem zJ (B LL CC:Nat) (w:World) (h:SR w yb lb cap o c rv l) (az:c.base=B) (aD:B+LL=l.length) (hk:bG o.k=true) (ae:c.ph=3) (hj:0<LL):Calls Tryz.prog 88 #[.pointer (some ⟨yb,0,none⟩),.slice (some ⟨lb,B,none⟩) LL CC] w (aU yb lb cap o w rv (c.fin 0) (c.wrm l 0 c.B) (.tuple #[])):=by
 obtain⟨aj,ay,ah,HF,bp,aS,bx,bj⟩:=h.start;have ax:=hid (And.intro az aD);have cD:=hid hk;have aI:=hid ae;clear h ah az aD hk ae;have gZ:(0:Int)<(LL:Int):=by omega
 obtain⟨my_0,gy_0,_,_⟩:=aj.out.cellB ax.out.1 ax.out.2 (0) (hj);rw[Nat.add_zero] at my_0 gy_0;have ag:=aj.out.row;have c11_0:=ag.ph 11 3 aI;have c17_0:=ag.at 17 (.int .u32 c.B);clear ag;go_enter Tryz.func88,Tryz.ntmps88;go_wp2_with fail;obtain⟨hs,hm⟩:=aj.out.putB ax.out.1 ax.out.2 (0) (hj) (c.B) (⟨HF.out.B0,HF.out.B1⟩);rw[Nat.add_zero] at hs hm;obtain⟨ai,au⟩:=nx hs ay hm;clear hs hm;refine(eu yb lb cap o _ _ _ 0 _ ai.out cD.out).mono (cS au fun w2 rv2 ar aE=>?_);go_wp2_with fail
 go_end0
 exact⟨_,rfl,ar.out,aE.out⟩
theorem yM (B LL CC:Nat) (w:World) (h:SR w yb lb cap o c rv l) (az:c.base=B) (aD:B+LL=l.length) (hk:bG o.k=true) (ae:c.ph=0) (hs:1≤c.sl) (hj:0<LL):Calls Tryz.prog 89 #[.pointer (some ⟨yb,0,none⟩),.slice (some ⟨lb,B,none⟩) LL CC] w (aU yb lb cap o w rv (({ c with A:=c.rdm l 0%(c.sl:Int) }:Kc).go 1) l (.tuple #[])):=by
 obtain⟨aj,ay,ah,HF,bp,aS,bx,bj⟩:=h.start;have ax:=hid (And.intro az aD);have cD:=hid hk;have aI:=hid ae;clear h ah az aD hk ae;obtain⟨mz_0,gz_0,zb0,zb1⟩:=aj.out.cellB ax.out.1 ax.out.2 (0) (hj);obtain⟨z,ao⟩:∃ x,c.rdm l (0)=x:=⟨_,rfl⟩;rw[ao] at mz_0 zb0 zb1;try rw[ao]
 have cm:=hid ao;clear ao;rw[Nat.add_zero] at mz_0 gz_0;have cM:=HF.out.sl1;have e1:IntKind.u32.wrap (c.sl:Int)=(c.sl:Int):=aa (by omega) (by omega);have m0:((c.sl:Int)==0)=false:=by simp;omega
 have m1:¬ (c.sl:Int)=0:=by omega
 have m2:¬ c.sl=0:=by omega
 have t1:z.tmod (c.sl:Int)=z%(c.sl:Int):=Int.tmod_eq_emod_of_nonneg zb0;have q0:=Int.emod_nonneg z m1;have q1:=Int.emod_lt_of_pos z (show(0:Int)<(c.sl:Int) by omega);obtain⟨Q,hQ⟩:∃ x,z%(c.sl:Int)=x:=⟨_,rfl⟩;rw[hQ] at t1 q0 q1;try rw[hQ]
 have t2:IntKind.u32.wrap Q=Q:=aa q0 (by omega);have q2:Q<4294967296:=by omega
 have zZ:=hid (And.intro q0 q2);have ir:=hid hj;clear cM;have gZ:(0:Int)<(LL:Int):=by omega
 have gg:=HF.out.rd1;have kT:IntKind.i64.wrap (1+(c.rd:Int))=1+(c.rd:Int):=ac (by omega) (by omega);clear gg;clear hQ;have ag:=aj.out.row;have c10_0:=ag.at 10 (.int .i64 (c.rd:Int));have c11_0:=ag.ph 11 0 aI;clear ag;go_enter Tryz.func89,Tryz.ntmps89;go_wp2_with fail;refine kj (S:=(i9 yb c lb B z)) aj ay (fun ai=>⟨(ai.out.row.cell 2).trans (by rw[← aS.out];rfl),(ai.out.cell0 ax.out.1 ax.out.2 ir.out).trans (by show some (Value.int .u32 (c.rdm l 0))=_;rw[cm.out])⟩) fun w1 ai au hHeld=>?_
 refine ap 0 1 2 3 ?_;refine ap 4 5 6 7 ?_;refine bw 8 9 ?_;refine aF 10 ?_;refine bh ?_;clear hHeld;have bi:=ai.out.row;have c10_1:=bi.at 10 (.int .i64 (c.rd:Int));have c11_1:=bi.ph 11 0 aI;clear bi;have bi:=ai.out.row;have c16_1:=bi.at 16 (.int .u32 c.A);have f16_1:=bi.frozen 16;clear bi;go_wp2_with fail;obtain⟨ar,aE⟩:=fW (ai.out.setA (Q) zZ.out) au;refine(dO yb lb cap o _ _ _ (1) 1 _ ar.out rfl).mono (bF aE fun w3 aM bf=>?_);go_wp2_with fail
 go_end0
 exact⟨_,rfl,aM.out,bf.out⟩
theorem yu (B LL CC:Nat) (w:World) (h:SR w yb lb cap o c rv l) (az:c.base=B) (aD:B+LL=l.length) (hk:bG o.k=true) (ae:c.ph=1) (hs:1≤c.sl) (hj:0<LL) (zV:1+c.rd<LL):Calls Tryz.prog 89 #[.pointer (some ⟨yb,0,none⟩),.slice (some ⟨lb,B,none⟩) LL CC] w (aU yb lb cap o w rv (c.go 2) (c.wrm l (1+c.rd) ((c.A+1)%4294967296)) (.tuple #[])):=by
 obtain⟨aj,ay,ah,HF,bp,aS,bx,bj⟩:=h.start;have ax:=hid (And.intro az aD);have cD:=hid hk;have aI:=hid ae;clear h ah az aD hk ae;obtain⟨mz_0,gz_0,zb0,zb1⟩:=aj.out.cellB ax.out.1 ax.out.2 (0) (hj);obtain⟨z,ao⟩:∃ x,c.rdm l (0)=x:=⟨_,rfl⟩;rw[ao] at mz_0 zb0 zb1;try rw[ao]
 have cm:=hid ao;clear ao;rw[Nat.add_zero] at mz_0 gz_0;have cM:=HF.out.sl1;have e1:IntKind.u32.wrap (c.sl:Int)=(c.sl:Int):=aa (by omega) (by omega);have m0:((c.sl:Int)==0)=false:=by simp;omega
 have m1:¬ (c.sl:Int)=0:=by omega
 have m2:¬ c.sl=0:=by omega
 have t1:z.tmod (c.sl:Int)=z%(c.sl:Int):=Int.tmod_eq_emod_of_nonneg zb0;have q0:=Int.emod_nonneg z m1;have q1:=Int.emod_lt_of_pos z (show(0:Int)<(c.sl:Int) by omega);obtain⟨Q,hQ⟩:∃ x,z%(c.sl:Int)=x:=⟨_,rfl⟩;rw[hQ] at t1 q0 q1;try rw[hQ]
 have t2:IntKind.u32.wrap Q=Q:=aa q0 (by omega);have q2:Q<4294967296:=by omega
 have zZ:=hid (And.intro q0 q2);have ir:=hid hj;clear cM;have gZ:(0:Int)<(LL:Int):=by omega
 have gg:=HF.out.rd1;have nn:(1+(c.rd:Int)).toNat=1+c.rd:=by omega
 have oP:0≤1+(c.rd:Int):=by omega
 have oJ:1+(c.rd:Int)<(LL:Int):=by omega
 have kT:IntKind.i64.wrap (1+(c.rd:Int))=1+(c.rd:Int):=ac (by omega) (by omega);clear gg;have hu:IntKind.u32.wrap (c.A+1)=(c.A+1)%4294967296:=by simp[IntKind.wrap,IntKind.signed,IntKind.bits]
 clear hQ;have ag:=aj.out.row;have c10_0:=ag.at 10 (.int .i64 (c.rd:Int));have c11_0:=ag.ph 11 1 aI;clear ag;go_enter Tryz.func89,Tryz.ntmps89;go_wp2_with fail;refine kj (S:=(i9 yb c lb B z)) aj ay (fun ai=>⟨(ai.out.row.cell 2).trans (by rw[← aS.out];rfl),(ai.out.cell0 ax.out.1 ax.out.2 ir.out).trans (by show some (Value.int .u32 (c.rdm l 0))=_;rw[cm.out])⟩) fun w1 ai au hHeld=>?_
 refine ap 0 1 2 3 ?_;refine ap 4 5 6 7 ?_;refine bw 8 9 ?_;refine aF 10 ?_;refine bh ?_;clear hHeld;have bi:=ai.out.row;have c10_1:=bi.at 10 (.int .i64 (c.rd:Int));have c11_1:=bi.ph 11 1 aI;clear bi;obtain⟨my_1,gy_1,_,_⟩:=ai.out.cellB ax.out.1 ax.out.2 (1+c.rd) (zV);have bi:=ai.out.row;have c16_1:=bi.at 16 (.int .u32 c.A);clear bi;go_wp2_with fail;obtain⟨ar,aE⟩:=fW (ai.out.putB ax.out.1 ax.out.2 (1+c.rd) (zV) ((c.A+1)%4294967296) (⟨by omega,by omega⟩)) au;refine(dO yb lb cap o _ _ _ (2) 2 _ ar.out rfl).mono (bF aE fun w3 aM bf=>?_);go_wp2_with fail
 go_end0
 exact⟨_,rfl,aM.out,bf.out⟩
theorem nC (B LL CC:Nat) (w:World) (h:SR w yb lb cap o c rv l) (az:c.base=B) (aD:B+LL=l.length) (hk:bG o.k=true) (ae:c.ph=2) (hs:1≤c.sl) (hj:0<LL) (_ht:c.tr<1000) (he:c.rdm l 0%(c.sl:Int)=c.A):Calls Tryz.prog 89 #[.pointer (some ⟨yb,0,none⟩),.slice (some ⟨lb,B,none⟩) LL CC] w (aU yb lb cap o w rv (c.go 3) l (.tuple #[])):=by
 obtain⟨aj,ay,ah,HF,bp,aS,bx,bj⟩:=h.start;have ax:=hid (And.intro az aD);have cD:=hid hk;have aI:=hid ae;clear h ah az aD hk ae;obtain⟨mz_0,gz_0,zb0,zb1⟩:=aj.out.cellB ax.out.1 ax.out.2 (0) (hj);obtain⟨z,ao⟩:∃ x,c.rdm l (0)=x:=⟨_,rfl⟩;rw[ao] at mz_0 zb0 zb1;try rw[ao]
 have cm:=hid ao;clear ao;rw[Nat.add_zero] at mz_0 gz_0;have cM:=HF.out.sl1;have e1:IntKind.u32.wrap (c.sl:Int)=(c.sl:Int):=aa (by omega) (by omega);have m0:((c.sl:Int)==0)=false:=by simp;omega
 have m1:¬ (c.sl:Int)=0:=by omega
 have m2:¬ c.sl=0:=by omega
 have t1:z.tmod (c.sl:Int)=z%(c.sl:Int):=Int.tmod_eq_emod_of_nonneg zb0;have q0:=Int.emod_nonneg z m1;have q1:=Int.emod_lt_of_pos z (show(0:Int)<(c.sl:Int) by omega);obtain⟨Q,hQ⟩:∃ x,z%(c.sl:Int)=x:=⟨_,rfl⟩;rw[hQ] at t1 q0 q1;try rw[hQ]
 have t2:IntKind.u32.wrap Q=Q:=aa q0 (by omega);have q2:Q<4294967296:=by omega
 have zZ:=hid (And.intro q0 q2);have ir:=hid hj;clear cM;have gZ:(0:Int)<(LL:Int):=by omega
 have gg:=HF.out.rd1;have kT:IntKind.i64.wrap (1+(c.rd:Int))=1+(c.rd:Int):=ac (by omega) (by omega);clear gg;rw[cm.out,hQ] at he;have hd:(Q==c.A)=true:=by simpa using he
 clear he hQ;clear _ht;have ag:=aj.out.row;have c10_0:=ag.at 10 (.int .i64 (c.rd:Int));have c11_0:=ag.ph 11 2 aI;clear ag;go_enter Tryz.func89,Tryz.ntmps89;go_wp2_with fail;refine kj (S:=(i9 yb c lb B z)) aj ay (fun ai=>⟨(ai.out.row.cell 2).trans (by rw[← aS.out];rfl),(ai.out.cell0 ax.out.1 ax.out.2 ir.out).trans (by show some (Value.int .u32 (c.rdm l 0))=_;rw[cm.out])⟩) fun w1 ai au hHeld=>?_
 refine ap 0 1 2 3 ?_;refine ap 4 5 6 7 ?_;refine bw 8 9 ?_;refine aF 10 ?_;refine bh ?_;clear hHeld;have bi:=ai.out.row;have c10_1:=bi.at 10 (.int .i64 (c.rd:Int));have c11_1:=bi.ph 11 2 aI;clear bi;have bi:=ai.out.row;have c16_1:=bi.at 16 (.int .u32 c.A);clear bi;go_wp2_with fail;refine(dO yb lb cap o _ _ _ (3) 3 _ ai.out rfl).mono (bF au fun w2 ar aE=>?_);go_wp2_with fail
 go_end0
 exact⟨_,rfl,ar.out,aE.out⟩
theorem mO (B LL CC:Nat) (w:World) (h:SR w yb lb cap o c rv l) (az:c.base=B) (aD:B+LL=l.length) (hk:bG o.k=true) (ae:c.ph=2) (hs:1≤c.sl) (hj:0<LL) (ht:c.tr<1000) (he:¬ (c.rdm l 0%(c.sl:Int)=c.A)) (ak:¬ (c.cap≤c.tr+1)):Calls Tryz.prog 89 #[.pointer (some ⟨yb,0,none⟩),.slice (some ⟨lb,B,none⟩) LL CC] w (aU yb lb cap o w rv (c.fail (·.go 5)) l (.tuple #[])):=by
 obtain⟨aj,ay,ah,HF,bp,aS,bx,bj⟩:=h.start;have ax:=hid (And.intro az aD);have cD:=hid hk;have aI:=hid ae;clear h ah az aD hk ae;obtain⟨mz_0,gz_0,zb0,zb1⟩:=aj.out.cellB ax.out.1 ax.out.2 (0) (hj);obtain⟨z,ao⟩:∃ x,c.rdm l (0)=x:=⟨_,rfl⟩;rw[ao] at mz_0 zb0 zb1;try rw[ao]
 have cm:=hid ao;clear ao;rw[Nat.add_zero] at mz_0 gz_0;have cM:=HF.out.sl1;have e1:IntKind.u32.wrap (c.sl:Int)=(c.sl:Int):=aa (by omega) (by omega);have m0:((c.sl:Int)==0)=false:=by simp;omega
 have m1:¬ (c.sl:Int)=0:=by omega
 have m2:¬ c.sl=0:=by omega
 have t1:z.tmod (c.sl:Int)=z%(c.sl:Int):=Int.tmod_eq_emod_of_nonneg zb0;have q0:=Int.emod_nonneg z m1;have q1:=Int.emod_lt_of_pos z (show(0:Int)<(c.sl:Int) by omega);obtain⟨Q,hQ⟩:∃ x,z%(c.sl:Int)=x:=⟨_,rfl⟩;rw[hQ] at t1 q0 q1;try rw[hQ]
 have t2:IntKind.u32.wrap Q=Q:=aa q0 (by omega);have q2:Q<4294967296:=by omega
 have zZ:=hid (And.intro q0 q2);have ir:=hid hj;clear cM;have gZ:(0:Int)<(LL:Int):=by omega
 have gg:=HF.out.rd1;have kT:IntKind.i64.wrap (1+(c.rd:Int))=1+(c.rd:Int):=ac (by omega) (by omega);clear gg;rw[cm.out,hQ] at he;have hd:(Q==c.A)=false:=by simpa using he
 clear he hQ;have ey:=fun W (h:SR W yb lb cap o c rv l)=>iD yb lb cap o c rv l W h ht
 have fZ:decide ((c.cap:Int)≤(c.tr:Int)+1)=false:=decide_eq_false (by omega);rw[fZ] at ey;have iW:=hid ey;clear ey fZ;unfold Kc.fail;simp only[ge_iff_le];rw[if_neg ak];clear ak ht;have ag:=aj.out.row;have c10_0:=ag.at 10 (.int .i64 (c.rd:Int));have c11_0:=ag.ph 11 2 aI;clear ag;go_enter Tryz.func89,Tryz.ntmps89;go_wp2_with fail;refine kj (S:=(i9 yb c lb B z)) aj ay (fun ai=>⟨(ai.out.row.cell 2).trans (by rw[← aS.out];rfl),(ai.out.cell0 ax.out.1 ax.out.2 ir.out).trans (by show some (Value.int .u32 (c.rdm l 0))=_;rw[cm.out])⟩) fun w1 ai au hHeld=>?_
 refine ap 0 1 2 3 ?_;refine ap 4 5 6 7 ?_;refine bw 8 9 ?_;refine aF 10 ?_;refine bh ?_;clear hHeld;have bi:=ai.out.row;have c10_1:=bi.at 10 (.int .i64 (c.rd:Int));have c11_1:=bi.ph 11 2 aI;clear bi;have bi:=ai.out.row;have c16_1:=bi.at 16 (.int .u32 c.A);clear bi;go_wp2_with fail;refine(iW.out _ ai.out).mono (cS au fun w2 rv2 ar aE=>?_);go_wp2_with fail
 go_end0
 exact⟨_,rfl,ar.out,aE.out⟩
theorem nu (B LL CC:Nat) (w:World) (h:SR w yb lb cap o c rv l) (az:c.base=B) (aD:B+LL=l.length) (hk:bG o.k=true) (ae:c.ph=2) (hs:1≤c.sl) (hj:0<LL) (ht:c.tr<1000) (he:¬ (c.rdm l 0%(c.sl:Int)=c.A)) (ak:c.cap≤c.tr+1):Calls Tryz.prog 89 #[.pointer (some ⟨yb,0,none⟩),.slice (some ⟨lb,B,none⟩) LL CC] w (aU yb lb cap o w rv (c.fail (·.go 5)) l (.tuple #[])):=by
 obtain⟨aj,ay,ah,HF,bp,aS,bx,bj⟩:=h.start;have ax:=hid (And.intro az aD);have cD:=hid hk;have aI:=hid ae;clear h ah az aD hk ae;obtain⟨mz_0,gz_0,zb0,zb1⟩:=aj.out.cellB ax.out.1 ax.out.2 (0) (hj);obtain⟨z,ao⟩:∃ x,c.rdm l (0)=x:=⟨_,rfl⟩;rw[ao] at mz_0 zb0 zb1;try rw[ao]
 have cm:=hid ao;clear ao;rw[Nat.add_zero] at mz_0 gz_0;have cM:=HF.out.sl1;have e1:IntKind.u32.wrap (c.sl:Int)=(c.sl:Int):=aa (by omega) (by omega);have m0:((c.sl:Int)==0)=false:=by simp;omega
 have m1:¬ (c.sl:Int)=0:=by omega
 have m2:¬ c.sl=0:=by omega
 have t1:z.tmod (c.sl:Int)=z%(c.sl:Int):=Int.tmod_eq_emod_of_nonneg zb0;have q0:=Int.emod_nonneg z m1;have q1:=Int.emod_lt_of_pos z (show(0:Int)<(c.sl:Int) by omega);obtain⟨Q,hQ⟩:∃ x,z%(c.sl:Int)=x:=⟨_,rfl⟩;rw[hQ] at t1 q0 q1;try rw[hQ]
 have t2:IntKind.u32.wrap Q=Q:=aa q0 (by omega);have q2:Q<4294967296:=by omega
 have zZ:=hid (And.intro q0 q2);have ir:=hid hj;clear cM;have gZ:(0:Int)<(LL:Int):=by omega
 have gg:=HF.out.rd1;have kT:IntKind.i64.wrap (1+(c.rd:Int))=1+(c.rd:Int):=ac (by omega) (by omega);clear gg;rw[cm.out,hQ] at he;have hd:(Q==c.A)=false:=by simpa using he
 clear he hQ;have ey:=fun W (h:SR W yb lb cap o c rv l)=>iD yb lb cap o c rv l W h ht
 have fZ:decide ((c.cap:Int)≤(c.tr:Int)+1)=true:=decide_eq_true (by omega);rw[fZ] at ey;have iW:=hid ey;clear ey fZ;unfold Kc.fail;simp only[ge_iff_le];rw[if_pos ak];clear ak ht;have ag:=aj.out.row;have c10_0:=ag.at 10 (.int .i64 (c.rd:Int));have c11_0:=ag.ph 11 2 aI;clear ag;go_enter Tryz.func89,Tryz.ntmps89;go_wp2_with fail;refine kj (S:=(i9 yb c lb B z)) aj ay (fun ai=>⟨(ai.out.row.cell 2).trans (by rw[← aS.out];rfl),(ai.out.cell0 ax.out.1 ax.out.2 ir.out).trans (by show some (Value.int .u32 (c.rdm l 0))=_;rw[cm.out])⟩) fun w1 ai au hHeld=>?_
 refine ap 0 1 2 3 ?_;refine ap 4 5 6 7 ?_;refine bw 8 9 ?_;refine aF 10 ?_;refine bh ?_;clear hHeld;have bi:=ai.out.row;have c10_1:=bi.at 10 (.int .i64 (c.rd:Int));have c11_1:=bi.ph 11 2 aI;clear bi;have bi:=ai.out.row;have c16_1:=bi.at 16 (.int .u32 c.A);clear bi;go_wp2_with fail;refine(iW.out _ ai.out).mono (cS au fun w2 rv2 ar aE=>?_);go_wp2_with fail;refine(dO yb lb cap o _ _ _ (5) 5 _ ar.out rfl).mono (bF aE fun w3 aM bf=>?_);go_wp2_with fail
 go_end0
 exact⟨_,rfl,aM.out,bf.out⟩
theorem yT (B LL CC:Nat) (w:World) (h:SR w yb lb cap o c rv l) (az:c.base=B) (aD:B+LL=l.length) (hk:bG o.k=true) (ae:c.ph=3) (eH:bn o=((1+c.nr:Nat):Int)) (dy:c.wr=true→c.i<c.rc.length) (gm:c.rc.length≤1000000) (gn:c.i<1000) (hj:1+c.nr+c.A.toNat*c.wd+c.i<LL) (hs:1≤c.sl) (rU:0<LL) (hB:0≤c.A∧c.A≤20):Calls Tryz.prog 89 #[.pointer (some ⟨yb,0,none⟩),.slice (some ⟨lb,B,none⟩) LL CC] w (aU yb lb cap o w rv (c.word l (1+c.nr+c.A.toNat*c.wd) (·.go 4)).1 (c.word l (1+c.nr+c.A.toNat*c.wd) (·.go 4)).2 (.tuple #[])):=by
 obtain⟨aj,ay,ah,HF,bp,aS,bx,bj⟩:=h.start;have ax:=hid (And.intro az aD);have cD:=hid hk;have aI:=hid ae;clear h ah az aD hk ae;have fo:=hid (And.intro eH (show(1+c.nr:Nat)≤5 from(by have:=HF.out.nr1;omega)));have mS:=hid dy;have jA:=hid gm;have kg:=hid gn;have HJ:=hid hj;clear eH dy gm gn hj;have hj:=rU;clear rU;obtain⟨mz_0,gz_0,zb0,zb1⟩:=aj.out.cellB ax.out.1 ax.out.2 (0) (hj);obtain⟨z,ao⟩:∃ x,c.rdm l (0)=x:=⟨_,rfl⟩;rw[ao] at mz_0 zb0 zb1;try rw[ao]
 have cm:=hid ao;clear ao;rw[Nat.add_zero] at mz_0 gz_0;have cM:=HF.out.sl1;have e1:IntKind.u32.wrap (c.sl:Int)=(c.sl:Int):=aa (by omega) (by omega);have m0:((c.sl:Int)==0)=false:=by simp;omega
 have m1:¬ (c.sl:Int)=0:=by omega
 have m2:¬ c.sl=0:=by omega
 have t1:z.tmod (c.sl:Int)=z%(c.sl:Int):=Int.tmod_eq_emod_of_nonneg zb0;have q0:=Int.emod_nonneg z m1;have q1:=Int.emod_lt_of_pos z (show(0:Int)<(c.sl:Int) by omega);obtain⟨Q,hQ⟩:∃ x,z%(c.sl:Int)=x:=⟨_,rfl⟩;rw[hQ] at t1 q0 q1;try rw[hQ]
 have t2:IntKind.u32.wrap Q=Q:=aa q0 (by omega);have q2:Q<4294967296:=by omega
 have zZ:=hid (And.intro q0 q2);have ir:=hid hj;clear cM;have gZ:(0:Int)<(LL:Int):=by omega
 have gg:=HF.out.rd1;have kT:IntKind.i64.wrap (1+(c.rd:Int))=1+(c.rd:Int):=ac (by omega) (by omega);clear gg;clear hQ;have lO:=hid hB;clear hB;have ag:=aj.out.row;have c10_0:=ag.at 10 (.int .i64 (c.rd:Int));have c11_0:=ag.ph 11 3 aI;clear ag;go_enter Tryz.func89,Tryz.ntmps89;go_wp2_with fail;refine kj (S:=(i9 yb c lb B z)) aj ay (fun ai=>⟨(ai.out.row.cell 2).trans (by rw[← aS.out];rfl),(ai.out.cell0 ax.out.1 ax.out.2 ir.out).trans (by show some (Value.int .u32 (c.rdm l 0))=_;rw[cm.out])⟩) fun w1 ai au hHeld=>?_
 refine ap 0 1 2 3 ?_;refine ap 4 5 6 7 ?_;refine bw 8 9 ?_;refine aF 10 ?_;refine bh ?_;clear hHeld;have bi:=ai.out.row;have c10_1:=bi.at 10 (.int .i64 (c.rd:Int));have c11_1:=bi.ph 11 3 aI;clear bi;have bi:=ai.out.row;have c16_1:=bi.at 16 (.int .u32 c.A);clear bi;go_wp2_with fail;refine(dX yb lb cap o c rv l B LL CC (c.A) ((1+c.nr:Nat)) _ 4 _ ai.out ax.out.1 ax.out.2 cD.out fo.out.1 fo.out.2 lO.out rfl HJ.out kg.out mS.out jA.out).mono (cS au fun w2 rv2 ar aE=>?_);go_wp2_with fail
 go_end0
 exact⟨_,rfl,ar.out,aE.out⟩
theorem yW (B LL CC:Nat) (w:World) (h:SR w yb lb cap o c rv l) (az:c.base=B) (aD:B+LL=l.length) (hk:bG o.k=true) (ae:c.ph=4) (hs:1≤c.sl) (hj:0<LL) (zV:1+c.rd<LL):Calls Tryz.prog 89 #[.pointer (some ⟨yb,0,none⟩),.slice (some ⟨lb,B,none⟩) LL CC] w (aU yb lb cap o w rv (c.fin 0) (c.wrm l (1+c.rd) 0) (.tuple #[])):=by
 obtain⟨aj,ay,ah,HF,bp,aS,bx,bj⟩:=h.start;have ax:=hid (And.intro az aD);have cD:=hid hk;have aI:=hid ae;clear h ah az aD hk ae;obtain⟨mz_0,gz_0,zb0,zb1⟩:=aj.out.cellB ax.out.1 ax.out.2 (0) (hj);obtain⟨z,ao⟩:∃ x,c.rdm l (0)=x:=⟨_,rfl⟩;rw[ao] at mz_0 zb0 zb1;try rw[ao]
 have cm:=hid ao;clear ao;rw[Nat.add_zero] at mz_0 gz_0;have cM:=HF.out.sl1;have e1:IntKind.u32.wrap (c.sl:Int)=(c.sl:Int):=aa (by omega) (by omega);have m0:((c.sl:Int)==0)=false:=by simp;omega
 have m1:¬ (c.sl:Int)=0:=by omega
 have m2:¬ c.sl=0:=by omega
 have t1:z.tmod (c.sl:Int)=z%(c.sl:Int):=Int.tmod_eq_emod_of_nonneg zb0;have q0:=Int.emod_nonneg z m1;have q1:=Int.emod_lt_of_pos z (show(0:Int)<(c.sl:Int) by omega);obtain⟨Q,hQ⟩:∃ x,z%(c.sl:Int)=x:=⟨_,rfl⟩;rw[hQ] at t1 q0 q1;try rw[hQ]
 have t2:IntKind.u32.wrap Q=Q:=aa q0 (by omega);have q2:Q<4294967296:=by omega
 have zZ:=hid (And.intro q0 q2);have ir:=hid hj;clear cM;have gZ:(0:Int)<(LL:Int):=by omega
 have gg:=HF.out.rd1;have nn:(1+(c.rd:Int)).toNat=1+c.rd:=by omega
 have oP:0≤1+(c.rd:Int):=by omega
 have oJ:1+(c.rd:Int)<(LL:Int):=by omega
 have kT:IntKind.i64.wrap (1+(c.rd:Int))=1+(c.rd:Int):=ac (by omega) (by omega);clear gg;clear hQ;have ag:=aj.out.row;have c10_0:=ag.at 10 (.int .i64 (c.rd:Int));have c11_0:=ag.ph 11 4 aI;clear ag;go_enter Tryz.func89,Tryz.ntmps89;go_wp2_with fail;refine kj (S:=(i9 yb c lb B z)) aj ay (fun ai=>⟨(ai.out.row.cell 2).trans (by rw[← aS.out];rfl),(ai.out.cell0 ax.out.1 ax.out.2 ir.out).trans (by show some (Value.int .u32 (c.rdm l 0))=_;rw[cm.out])⟩) fun w1 ai au hHeld=>?_
 refine ap 0 1 2 3 ?_;refine ap 4 5 6 7 ?_;refine bw 8 9 ?_;refine aF 10 ?_;refine bh ?_;clear hHeld;have bi:=ai.out.row;have c10_1:=bi.at 10 (.int .i64 (c.rd:Int));have c11_1:=bi.ph 11 4 aI;clear bi;obtain⟨my_1,gy_1,_,_⟩:=ai.out.cellB ax.out.1 ax.out.2 (1+c.rd) (zV);go_wp2_with fail;obtain⟨ar,aE⟩:=fW (ai.out.putB ax.out.1 ax.out.2 (1+c.rd) (zV) (0) (⟨by decide,by decide⟩)) au;refine(eu yb lb cap o _ _ _ 0 _ ar.out cD.out).mono (cS aE fun w3 rv3 aM bf=>?_);go_wp2_with fail
 go_end0
 exact⟨_,rfl,aM.out,bf.out⟩
theorem zg (B LL CC:Nat) (w:World) (h:SR w yb lb cap o c rv l) (az:c.base=B) (aD:B+LL=l.length) (hk:bG o.k=true) (ae:c.ph=5) (hs:1≤c.sl) (hj:0<LL) (zV:1+c.rd<LL):Calls Tryz.prog 89 #[.pointer (some ⟨yb,0,none⟩),.slice (some ⟨lb,B,none⟩) LL CC] w (aU yb lb cap o w rv (c.fin 1) (c.wrm l (1+c.rd) 0) (.tuple #[])):=by
 obtain⟨aj,ay,ah,HF,bp,aS,bx,bj⟩:=h.start;have ax:=hid (And.intro az aD);have cD:=hid hk;have aI:=hid ae;clear h ah az aD hk ae;obtain⟨mz_0,gz_0,zb0,zb1⟩:=aj.out.cellB ax.out.1 ax.out.2 (0) (hj);obtain⟨z,ao⟩:∃ x,c.rdm l (0)=x:=⟨_,rfl⟩;rw[ao] at mz_0 zb0 zb1;try rw[ao]
 have cm:=hid ao;clear ao;rw[Nat.add_zero] at mz_0 gz_0;have cM:=HF.out.sl1;have e1:IntKind.u32.wrap (c.sl:Int)=(c.sl:Int):=aa (by omega) (by omega);have m0:((c.sl:Int)==0)=false:=by simp;omega
 have m1:¬ (c.sl:Int)=0:=by omega
 have m2:¬ c.sl=0:=by omega
 have t1:z.tmod (c.sl:Int)=z%(c.sl:Int):=Int.tmod_eq_emod_of_nonneg zb0;have q0:=Int.emod_nonneg z m1;have q1:=Int.emod_lt_of_pos z (show(0:Int)<(c.sl:Int) by omega);obtain⟨Q,hQ⟩:∃ x,z%(c.sl:Int)=x:=⟨_,rfl⟩;rw[hQ] at t1 q0 q1;try rw[hQ]
 have t2:IntKind.u32.wrap Q=Q:=aa q0 (by omega);have q2:Q<4294967296:=by omega
 have zZ:=hid (And.intro q0 q2);have ir:=hid hj;clear cM;have gZ:(0:Int)<(LL:Int):=by omega
 have gg:=HF.out.rd1;have nn:(1+(c.rd:Int)).toNat=1+c.rd:=by omega
 have oP:0≤1+(c.rd:Int):=by omega
 have oJ:1+(c.rd:Int)<(LL:Int):=by omega
 have kT:IntKind.i64.wrap (1+(c.rd:Int))=1+(c.rd:Int):=ac (by omega) (by omega);clear gg;clear hQ;have ag:=aj.out.row;have c10_0:=ag.at 10 (.int .i64 (c.rd:Int));have c11_0:=ag.ph 11 5 aI;clear ag;go_enter Tryz.func89,Tryz.ntmps89;go_wp2_with fail;refine kj (S:=(i9 yb c lb B z)) aj ay (fun ai=>⟨(ai.out.row.cell 2).trans (by rw[← aS.out];rfl),(ai.out.cell0 ax.out.1 ax.out.2 ir.out).trans (by show some (Value.int .u32 (c.rdm l 0))=_;rw[cm.out])⟩) fun w1 ai au hHeld=>?_
 refine ap 0 1 2 3 ?_;refine ap 4 5 6 7 ?_;refine bw 8 9 ?_;refine aF 10 ?_;refine bh ?_;clear hHeld;have bi:=ai.out.row;have c10_1:=bi.at 10 (.int .i64 (c.rd:Int));have c11_1:=bi.ph 11 5 aI;clear bi;obtain⟨my_1,gy_1,_,_⟩:=ai.out.cellB ax.out.1 ax.out.2 (1+c.rd) (zV);go_wp2_with fail;obtain⟨ar,aE⟩:=fW (ai.out.putB ax.out.1 ax.out.2 (1+c.rd) (zV) (0) (⟨by decide,by decide⟩)) au;refine(eu yb lb cap o _ _ _ 1 _ ar.out cD.out).mono (cS aE fun w3 rv3 aM bf=>?_);go_wp2_with fail
 go_end0
 exact⟨_,rfl,aM.out,bf.out⟩
end
end Go.Proofs.YtolmpehgeinlkaaGreatDoor
