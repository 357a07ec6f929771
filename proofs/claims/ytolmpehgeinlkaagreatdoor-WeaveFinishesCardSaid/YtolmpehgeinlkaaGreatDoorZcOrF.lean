/- The document's operation: the kind chen. -/
import Derived.Test.YtolmpehgeinlkaaGreatDoorZcOrE
namespace Go.Proofs.YtolmpehgeinlkaaGreatDoor
open Go.RowKit
open Go.Lib (hid)
attribute [local go_sem] Oper.semAt_some
set_option maxHeartbeats 1000000
set_option maxRecDepth 100000
abbrev uE (a0:Nat) (a1:Kc) (w':World):Prop:=w'.cell? ⟨a0,12,none⟩=some (.int .i64 (a1.i:Int))∧w'.cell? ⟨a0,17,none⟩=some (.int .u32 a1.B)
theorem kK (v:Nat→Bool):0≤Kc.chooseR v∧Kc.chooseR v<20:=by
 unfold Kc.chooseR;cases h:(List.range 20).find? (fun k=>!v k) with
 | none=>exact⟨Int.le_refl _,by show(0:Int)<20;decide⟩
 | some k=>
  have:=List.mem_of_find?_eq_some h;rw[List.mem_range] at this;exact⟨Int.natCast_nonneg k,by show(k:Int)<20;omega⟩
theorem SR.cell0 {yb lb cap:Nat} {w:World} {rv:Value} {o:Ob} {c:Kc} {l:List Int} {B LL:Nat} (h:SR w yb lb cap o c rv l) (hB:c.base=B) (hL:B+LL=l.length) (hj:0<LL):w.cell? ⟨lb,B,none⟩=some (.int .u32 (c.rdm l 0)):=by
 have:=(h.cellB hB hL 0 hj).1
 rwa [Nat.add_zero] at this
theorem pA {a m:Int} (hm:0<m):0≤Kc.incR a m∧Kc.incR a m<m:=⟨Int.emod_nonneg _ (by omega),Int.emod_lt_of_pos _ hm⟩
theorem o5 {a b m:Int} (hm:0<m):0≤Kc.gapR a b m∧Kc.gapR a b m<m:=⟨Int.emod_nonneg _ (by omega),Int.emod_lt_of_pos _ hm⟩
section
variable (yb lb cap:Nat) (o:Ob) (c:Kc) (rv:Value) (l:List Int)
theorem vg (B LL CC:Nat) (w:World) (h:SR w yb lb cap o c rv l) (az:c.base=B) (aD:B+LL=l.length) (hk:bG o.k=true) (ae:c.ph=0) (iK:cU o=((c.nr+2:Nat):Int)) (hj:0<LL):Calls Tryz.prog 83 #[.pointer (some ⟨yb,0,none⟩),.slice (some ⟨lb,B,none⟩) LL CC] w (aU yb lb cap o w rv (({ c with used:=Kc.noteR (c.nr+2) c.used (c.rdm l 0) }:Kc).go 1) l (.tuple #[])):=by
 obtain⟨aj,ay,ah,HF,bp,aS,bx,bj⟩:=h.start;have ax:=hid (And.intro az aD);have cD:=hid hk;have aI:=hid ae;clear h ah az aD hk ae;obtain⟨mz_0,gz_0,zb0,zb1⟩:=aj.out.cellB ax.out.1 ax.out.2 (0) (hj);obtain⟨z,ao⟩:∃ x,c.rdm l (0)=x:=⟨_,rfl⟩;rw[ao] at mz_0 zb0 zb1;try rw[ao]
 have cm:=hid ao;clear ao;rw[Nat.add_zero] at mz_0 gz_0;have fT:=HF.out.nr1;have pK:=hid (And.intro iK (show c.nr+2≤20 by omega));have pO:=hid (And.intro zb0 zb1);clear iK fT;have gZ:(0:Int)<(LL:Int):=by omega
 have ag:=aj.out.row;have c7_0:=ag.at 7 (.slice o.R o.nr o.cr);have c11_0:=ag.ph 11 0 aI;clear ag;go_enter Tryz.func83,Tryz.ntmps83;go_wp2_with fail;refine(kO yb lb cap o _ _ _ z (c.nr+2) _ aj.out ⟨pO.out.1,pO.out.2⟩ pK.out.1 pK.out.2).mono (bF ay fun w1 ai au=>?_);go_wp2_with fail;refine(dO yb lb cap o _ _ _ (1) 1 _ ai.out rfl).mono (bF au fun w2 ar aE=>?_);go_wp2_with fail
 go_end0
 exact⟨_,rfl,ar.out,aE.out⟩
theorem mo (B LL CC:Nat) (w:World) (h:SR w yb lb cap o c rv l) (az:c.base=B) (aD:B+LL=l.length) (hk:bG o.k=true) (ae:c.ph=1) (iK:cU o=((c.nr+2:Nat):Int)) (hi:c.i<c.nr) (ak:c.nr≤c.i+1) (hj:1+c.i<LL):Calls Tryz.prog 83 #[.pointer (some ⟨yb,0,none⟩),.slice (some ⟨lb,B,none⟩) LL CC] w (aU yb lb cap o w rv (({ c with used:=(Kc.noteR (c.nr+2) c.used (c.rdm l (1+c.i))),i:=c.i+1,B:=Kc.chooseR (Kc.noteR (c.nr+2) c.used (c.rdm l (1+c.i))) }:Kc).go 2) l (.tuple #[])):=by
 obtain⟨aj,ay,ah,HF,bp,aS,bx,bj⟩:=h.start;have ax:=hid (And.intro az aD);have cD:=hid hk;have aI:=hid ae;clear h ah az aD hk ae;have nn:(1+(c.i:Int)).toNat=1+c.i:=by omega
 have oP:0≤1+(c.i:Int):=by omega
 have oJ:1+(c.i:Int)<(LL:Int):=by omega
 have gf:=HF.out.i1;have kT:IntKind.i64.wrap (1+(c.i:Int))=1+(c.i:Int):=ac (by omega) (by omega);have Aw:IntKind.i64.wrap ((c.i:Int)+1)=(c.i:Int)+1:=ac (by omega) (by omega);have hq:((c.i:Int)+1==(o.nr:Int))=true:=by have:=bj.out;simp;omega
 have oS:=hid (show c.i<1000 by have:=HF.out.nr1;omega);obtain⟨mz_0,gz_0,zb0,zb1⟩:=aj.out.cellB ax.out.1 ax.out.2 (1+c.i) (hj);obtain⟨z,ao⟩:∃ x,c.rdm l (1+c.i)=x:=⟨_,rfl⟩;rw[ao] at mz_0 zb0 zb1;try rw[ao]
 have cm:=hid ao;clear ao;have fT:=HF.out.nr1;have pK:=hid (And.intro iK (show c.nr+2≤20 by omega));have pO:=hid (And.intro zb0 zb1);clear iK fT;have zE:=kK (Kc.noteR (c.nr+2) c.used z);have Hn:Kc.chooseR (Kc.noteR (c.nr+2) c.used z)=Kc.chooseR (Kc.noteR (c.nr+2) c.used z):=rfl;obtain⟨Z,hZ⟩:∃ x,Kc.chooseR (Kc.noteR (c.nr+2) c.used z)=x:=⟨_,rfl⟩;rw[hZ] at zE ⊢;have HZ:=hid hZ;have CH:=hid zE;clear Hn hZ zE;clear ak hi gf;have ag:=aj.out.row;have c7_0:=ag.at 7 (.slice o.R o.nr o.cr);have c11_0:=ag.ph 11 1 aI;have c12_0:=ag.at 12 (.int .i64 (c.i:Int));clear ag;go_enter Tryz.func83,Tryz.ntmps83;go_wp2_with fail;refine(kO yb lb cap o _ _ _ z (c.nr+2) _ aj.out ⟨pO.out.1,pO.out.2⟩ pK.out.1 pK.out.2).mono (bF ay fun w1 ai au=>?_);have bi:=ai.out.row;have c12_1:=bi.at 12 (.int .i64 (c.i:Int));have c17_1:=bi.at 17 (.int .u32 c.B);have f12_1:=bi.frozen 12;have f17_1:=bi.frozen 17;clear bi;go_wp2_with fail;obtain⟨ar,aE⟩:=uj (w1.setCell ⟨yb,12,none⟩ (.int .i64 ((c.i:Int)+1))) (ai.out.setI oS.out) au;have xK:=lU yb lb cap o _ _ _ _ ar.out;rw[show Kc.chooseR _=Z from HZ.out] at xK;have Gd:=hid xK;clear xK;refine Gd.out.mono ?_;rintro ex wq ⟨rfl,db⟩;rw[db];clear db;go_wp2_with fail;obtain⟨aM,bf⟩:=uj ((w1.setCell ⟨yb,12,none⟩ (.int .i64 ((c.i:Int)+1))).setCell ⟨yb,17,none⟩ (.int .u32 Z)) (ar.out.setB Z ⟨CH.out.1,by have:=CH.out.2;omega⟩) aE;refine(dO yb lb cap o _ _ _ (2) 2 _ aM.out rfl).mono (bF bf fun w4 cq dd=>?_);go_wp2_with fail
 go_end0
 exact⟨_,rfl,cq.out,dd.out⟩
theorem m5 (B LL CC:Nat) (w:World) (h:SR w yb lb cap o c rv l) (az:c.base=B) (aD:B+LL=l.length) (hk:bG o.k=true) (ae:c.ph=1) (iK:cU o=((c.nr+2:Nat):Int)) (_hi:c.i<c.nr) (ak:¬ c.nr≤c.i+1) (hj:1+c.i<LL):Calls Tryz.prog 83 #[.pointer (some ⟨yb,0,none⟩),.slice (some ⟨lb,B,none⟩) LL CC] w (aU yb lb cap o w rv { c with used:=(Kc.noteR (c.nr+2) c.used (c.rdm l (1+c.i))),i:=c.i+1 } l (.tuple #[])):=by
 obtain⟨aj,ay,ah,HF,bp,aS,bx,bj⟩:=h.start;have ax:=hid (And.intro az aD);have cD:=hid hk;have aI:=hid ae;clear h ah az aD hk ae;have nn:(1+(c.i:Int)).toNat=1+c.i:=by omega
 have oP:0≤1+(c.i:Int):=by omega
 have oJ:1+(c.i:Int)<(LL:Int):=by omega
 have gf:=HF.out.i1;have kT:IntKind.i64.wrap (1+(c.i:Int))=1+(c.i:Int):=ac (by omega) (by omega);have Aw:IntKind.i64.wrap ((c.i:Int)+1)=(c.i:Int)+1:=ac (by omega) (by omega);have hq:((c.i:Int)+1==(o.nr:Int))=false:=by have:=bj.out;simp;omega
 have oS:=hid (show c.i<1000 by have:=HF.out.nr1;omega);obtain⟨mz_0,gz_0,zb0,zb1⟩:=aj.out.cellB ax.out.1 ax.out.2 (1+c.i) (hj);obtain⟨z,ao⟩:∃ x,c.rdm l (1+c.i)=x:=⟨_,rfl⟩;rw[ao] at mz_0 zb0 zb1;try rw[ao]
 have cm:=hid ao;clear ao;have fT:=HF.out.nr1;have pK:=hid (And.intro iK (show c.nr+2≤20 by omega));have pO:=hid (And.intro zb0 zb1);clear iK fT;clear ak _hi gf;have ag:=aj.out.row;have c7_0:=ag.at 7 (.slice o.R o.nr o.cr);have c11_0:=ag.ph 11 1 aI;have c12_0:=ag.at 12 (.int .i64 (c.i:Int));clear ag;go_enter Tryz.func83,Tryz.ntmps83;go_wp2_with fail;refine(kO yb lb cap o _ _ _ z (c.nr+2) _ aj.out ⟨pO.out.1,pO.out.2⟩ pK.out.1 pK.out.2).mono (bF ay fun w1 ai au=>?_);have bi:=ai.out.row;have c12_1:=bi.at 12 (.int .i64 (c.i:Int));have f12_1:=bi.frozen 12;clear bi;go_wp2_with fail;obtain⟨ar,aE⟩:=uj (w1.setCell ⟨yb,12,none⟩ (.int .i64 ((c.i:Int)+1))) (ai.out.setI oS.out) au
 go_end0
 exact⟨_,rfl,ar.out,aE.out⟩
theorem vq (B LL CC:Nat) (w:World) (h:SR w yb lb cap o c rv l) (az:c.base=B) (aD:B+LL=l.length) (hk:bG o.k=true) (ae:c.ph=2) (eH:bn o=((1+c.nr:Nat):Int)) (dy:c.wr=true→c.i<c.rc.length) (gm:c.rc.length≤1000000) (gn:c.i<1000) (hj:1+c.nr+c.B.toNat*c.wd+c.i<LL) (hB:0≤c.B∧c.B≤20):Calls Tryz.prog 83 #[.pointer (some ⟨yb,0,none⟩),.slice (some ⟨lb,B,none⟩) LL CC] w (aU yb lb cap o w rv (c.word l (1+c.nr+c.B.toNat*c.wd) (·.go 3)).1 (c.word l (1+c.nr+c.B.toNat*c.wd) (·.go 3)).2 (.tuple #[])):=by
 obtain⟨aj,ay,ah,HF,bp,aS,bx,bj⟩:=h.start;have ax:=hid (And.intro az aD);have cD:=hid hk;have aI:=hid ae;clear h ah az aD hk ae;have fo:=hid (And.intro eH (show(1+c.nr:Nat)≤5 from(by have:=HF.out.nr1;omega)));have mS:=hid dy;have jA:=hid gm;have kg:=hid gn;have HJ:=hid hj;clear eH dy gm gn hj;have lO:=hid hB;clear hB;have ag:=aj.out.row;have c11_0:=ag.ph 11 2 aI;have c7_0:=ag.at 7 (.slice o.R o.nr o.cr);have c17_0:=ag.at 17 (.int .u32 c.B);clear ag;go_enter Tryz.func83,Tryz.ntmps83;go_wp2_with fail;refine(dX yb lb cap o c rv l B LL CC (c.B) ((1+c.nr:Nat)) _ 3 _ aj.out ax.out.1 ax.out.2 cD.out fo.out.1 fo.out.2 lO.out rfl HJ.out kg.out mS.out jA.out).mono (cS ay fun w1 rv1 ai au=>?_);go_wp2_with fail
 go_end0
 exact⟨_,rfl,ai.out,au.out⟩
theorem vK (B LL CC:Nat) (w:World) (h:SR w yb lb cap o c rv l) (az:c.base=B) (aD:B+LL=l.length) (hk:bG o.k=true) (ae:c.ph=3) (hj:0<LL):Calls Tryz.prog 83 #[.pointer (some ⟨yb,0,none⟩),.slice (some ⟨lb,B,none⟩) LL CC] w (aU yb lb cap o w rv (c.go 4) (c.wrm l 0 c.B) (.tuple #[])):=by
 obtain⟨aj,ay,ah,HF,bp,aS,bx,bj⟩:=h.start;have ax:=hid (And.intro az aD);have cD:=hid hk;have aI:=hid ae;clear h ah az aD hk ae;have gZ:(0:Int)<(LL:Int):=by omega
 obtain⟨my_0,gy_0,_,_⟩:=aj.out.cellB ax.out.1 ax.out.2 (0) (hj);rw[Nat.add_zero] at my_0 gy_0;have ag:=aj.out.row;have c7_0:=ag.at 7 (.slice o.R o.nr o.cr);have c11_0:=ag.ph 11 3 aI;have c17_0:=ag.at 17 (.int .u32 c.B);clear ag;go_enter Tryz.func83,Tryz.ntmps83;go_wp2_with fail;obtain⟨hs,hm⟩:=aj.out.putB ax.out.1 ax.out.2 (0) (hj) (c.B) (⟨HF.out.B0,HF.out.B1⟩);rw[Nat.add_zero] at hs hm;obtain⟨ai,au⟩:=nx hs ay hm;clear hs hm;refine(dO yb lb cap o _ _ _ (4) 4 _ ai.out rfl).mono (bF au fun w2 ar aE=>?_);go_wp2_with fail
 go_end0
 exact⟨_,rfl,ar.out,aE.out⟩
theorem kF (B LL CC:Nat) (w:World) (h:SR w yb lb cap o c rv l) (az:c.base=B) (aD:B+LL=l.length) (hk:bG o.k=true) (ae:c.ph=4) (hi:c.i<c.nr) (ak:c.nr≤c.i+1) (he:c.rdm l (1+c.i)=(c.nr:Int)+2) (hj:1+c.i<LL):Calls Tryz.prog 83 #[.pointer (some ⟨yb,0,none⟩),.slice (some ⟨lb,B,none⟩) LL CC] w (aU yb lb cap o w rv (({ c with i:=c.i+1 }:Kc).fin 0) (c.wrm l (1+c.i) c.B) (.tuple #[])):=by
 obtain⟨aj,ay,ah,HF,bp,aS,bx,bj⟩:=h.start;have ax:=hid (And.intro az aD);have cD:=hid hk;have aI:=hid ae;clear h ah az aD hk ae;have nn:(1+(c.i:Int)).toNat=1+c.i:=by omega
 have oP:0≤1+(c.i:Int):=by omega
 have oJ:1+(c.i:Int)<(LL:Int):=by omega
 have gf:=HF.out.i1;have kT:IntKind.i64.wrap (1+(c.i:Int))=1+(c.i:Int):=ac (by omega) (by omega);have Aw:IntKind.i64.wrap ((c.i:Int)+1)=(c.i:Int)+1:=ac (by omega) (by omega);have hq:((c.i:Int)+1==(o.nr:Int))=true:=by have:=bj.out;simp;omega
 have fT:=HF.out.nr1;have aq:=bj.out;have e1:IntKind.i64.wrap ((o.nr:Int)+2)=(o.nr:Int)+2:=ac (by omega) (by omega);have e2:IntKind.u32.wrap ((o.nr:Int)+2)=(c.nr:Int)+2:=by rw[aa (by omega) (by omega),aq]
 clear fT aq;have oS:=hid (show c.i<1000 by have:=HF.out.nr1;omega);have ia:=hid (And.intro HF.out.B0 HF.out.B1);have HJ:=hid hj;obtain⟨mz_0,gz_0,zb0,zb1⟩:=aj.out.cellB ax.out.1 ax.out.2 (1+c.i) (hj);obtain⟨z,ao⟩:∃ x,c.rdm l (1+c.i)=x:=⟨_,rfl⟩;rw[ao] at mz_0 zb0 zb1;try rw[ao]
 have cm:=hid ao;clear ao;rw[cm.out] at he;have hd:(z==(c.nr:Int)+2)=true:=by simpa using he
 clear he ak hi gf;have ag:=aj.out.row;have c7_0:=ag.at 7 (.slice o.R o.nr o.cr);have c11_0:=ag.ph 11 4 aI;have c12_0:=ag.at 12 (.int .i64 (c.i:Int));clear ag;go_enter Tryz.func83,Tryz.ntmps83;go_wp2_with fail;have ag:=aj.out.drew.row;have ct:(uE yb c) w.drew:=⟨(ag.cell 12).trans rfl,(ag.cell 17).trans rfl⟩;have ai:=hid aj.out.drew;have au:=hid (ay.out.trans (Mv.drew w _));clear ag;refine dR ct fun w1 aW hHeld=>?_
 rw[aW] at ai au;clear aW ct;refine ap 0 1 2 3 ?_;refine ap 4 5 6 7 ?_;refine bw 8 9 ?_;refine aF 10 ?_;refine aJ 11 (fun K hK=>?_)
 ·obtain⟨my_1,gy_1,_,_⟩:=ai.out.cellB ax.out.1 ax.out.2 (1+c.i) HJ.out;go_simp;obtain⟨ar,aE⟩:=fW (ai.out.putB ax.out.1 ax.out.2 (1+c.i) HJ.out (c.B) ia.out) au;have hr:=ar.out.row;have aN:(uE yb c) (w1.setCell ⟨lb,B+(1+c.i),none⟩ (.int .u32 (c.B))):=⟨(hr.cell 12).trans rfl,(hr.cell 17).trans rfl⟩;clear hr;refine kH hK aN fun hHeld=>?_
  clear hK K;refine bh ?_;clear hHeld aN;have aC:=ar.out.row;have c7_2:(w1.setCell ⟨lb,B+(1+c.i),none⟩ (.int .u32 (c.B))).cell? ⟨yb,7,none⟩=some (.slice o.R o.nr o.cr):=(aC.cell 7).trans rfl;have c12_2:(w1.setCell ⟨lb,B+(1+c.i),none⟩ (.int .u32 (c.B))).cell? ⟨yb,12,none⟩=some (.int .i64 (c.i:Int)):=(aC.cell 12).trans rfl;have f12_2:=aC.frozen 12;clear aC;go_wp2_with fail;obtain⟨aM,bf⟩:=uj ((w1.setCell ⟨lb,B+(1+c.i),none⟩ (.int .u32 (c.B))).setCell ⟨yb,12,none⟩ (.int .i64 ((c.i:Int)+1))) (ar.out.setI oS.out) aE;refine(eu yb lb cap o _ _ _ 0 _ aM.out cD.out).mono (cS bf fun w4 rv4 cq dd=>?_);go_wp2_with fail
  go_end0
  exact⟨_,rfl,cq.out,dd.out⟩
theorem kB (B LL CC:Nat) (w:World) (h:SR w yb lb cap o c rv l) (az:c.base=B) (aD:B+LL=l.length) (hk:bG o.k=true) (ae:c.ph=4) (_hi:c.i<c.nr) (ak:¬ c.nr≤c.i+1) (he:c.rdm l (1+c.i)=(c.nr:Int)+2) (hj:1+c.i<LL):Calls Tryz.prog 83 #[.pointer (some ⟨yb,0,none⟩),.slice (some ⟨lb,B,none⟩) LL CC] w (aU yb lb cap o w rv { c with i:=c.i+1 } (c.wrm l (1+c.i) c.B) (.tuple #[])):=by
 obtain⟨aj,ay,ah,HF,bp,aS,bx,bj⟩:=h.start;have ax:=hid (And.intro az aD);have cD:=hid hk;have aI:=hid ae;clear h ah az aD hk ae;have nn:(1+(c.i:Int)).toNat=1+c.i:=by omega
 have oP:0≤1+(c.i:Int):=by omega
 have oJ:1+(c.i:Int)<(LL:Int):=by omega
 have gf:=HF.out.i1;have kT:IntKind.i64.wrap (1+(c.i:Int))=1+(c.i:Int):=ac (by omega) (by omega);have Aw:IntKind.i64.wrap ((c.i:Int)+1)=(c.i:Int)+1:=ac (by omega) (by omega);have hq:((c.i:Int)+1==(o.nr:Int))=false:=by have:=bj.out;simp;omega
 have fT:=HF.out.nr1;have aq:=bj.out;have e1:IntKind.i64.wrap ((o.nr:Int)+2)=(o.nr:Int)+2:=ac (by omega) (by omega);have e2:IntKind.u32.wrap ((o.nr:Int)+2)=(c.nr:Int)+2:=by rw[aa (by omega) (by omega),aq]
 clear fT aq;have oS:=hid (show c.i<1000 by have:=HF.out.nr1;omega);have ia:=hid (And.intro HF.out.B0 HF.out.B1);have HJ:=hid hj;obtain⟨mz_0,gz_0,zb0,zb1⟩:=aj.out.cellB ax.out.1 ax.out.2 (1+c.i) (hj);obtain⟨z,ao⟩:∃ x,c.rdm l (1+c.i)=x:=⟨_,rfl⟩;rw[ao] at mz_0 zb0 zb1;try rw[ao]
 have cm:=hid ao;clear ao;rw[cm.out] at he;have hd:(z==(c.nr:Int)+2)=true:=by simpa using he
 clear he ak _hi gf;have ag:=aj.out.row;have c7_0:=ag.at 7 (.slice o.R o.nr o.cr);have c11_0:=ag.ph 11 4 aI;have c12_0:=ag.at 12 (.int .i64 (c.i:Int));clear ag;go_enter Tryz.func83,Tryz.ntmps83;go_wp2_with fail;have ag:=aj.out.drew.row;have ct:(uE yb c) w.drew:=⟨(ag.cell 12).trans rfl,(ag.cell 17).trans rfl⟩;have ai:=hid aj.out.drew;have au:=hid (ay.out.trans (Mv.drew w _));clear ag;refine dR ct fun w1 aW hHeld=>?_
 rw[aW] at ai au;clear aW ct;refine ap 0 1 2 3 ?_;refine ap 4 5 6 7 ?_;refine bw 8 9 ?_;refine aF 10 ?_;refine aJ 11 (fun K hK=>?_)
 ·obtain⟨my_1,gy_1,_,_⟩:=ai.out.cellB ax.out.1 ax.out.2 (1+c.i) HJ.out;go_simp;obtain⟨ar,aE⟩:=fW (ai.out.putB ax.out.1 ax.out.2 (1+c.i) HJ.out (c.B) ia.out) au;have hr:=ar.out.row;have aN:(uE yb c) (w1.setCell ⟨lb,B+(1+c.i),none⟩ (.int .u32 (c.B))):=⟨(hr.cell 12).trans rfl,(hr.cell 17).trans rfl⟩;clear hr;refine kH hK aN fun hHeld=>?_
  clear hK K;refine bh ?_;clear hHeld aN;have aC:=ar.out.row;have c7_2:(w1.setCell ⟨lb,B+(1+c.i),none⟩ (.int .u32 (c.B))).cell? ⟨yb,7,none⟩=some (.slice o.R o.nr o.cr):=(aC.cell 7).trans rfl;have c12_2:(w1.setCell ⟨lb,B+(1+c.i),none⟩ (.int .u32 (c.B))).cell? ⟨yb,12,none⟩=some (.int .i64 (c.i:Int)):=(aC.cell 12).trans rfl;have f12_2:=aC.frozen 12;clear aC;go_wp2_with fail;obtain⟨aM,bf⟩:=uj ((w1.setCell ⟨lb,B+(1+c.i),none⟩ (.int .u32 (c.B))).setCell ⟨yb,12,none⟩ (.int .i64 ((c.i:Int)+1))) (ar.out.setI oS.out) aE
  go_end0
  exact⟨_,rfl,aM.out,bf.out⟩
theorem kN (B LL CC:Nat) (w:World) (h:SR w yb lb cap o c rv l) (az:c.base=B) (aD:B+LL=l.length) (hk:bG o.k=true) (ae:c.ph=4) (hi:c.i<c.nr) (ak:c.nr≤c.i+1) (he:¬ c.rdm l (1+c.i)=(c.nr:Int)+2) (hj:1+c.i<LL):Calls Tryz.prog 83 #[.pointer (some ⟨yb,0,none⟩),.slice (some ⟨lb,B,none⟩) LL CC] w (aU yb lb cap o w rv (({ c with i:=c.i+1 }:Kc).fin 0) l (.tuple #[])):=by
 obtain⟨aj,ay,ah,HF,bp,aS,bx,bj⟩:=h.start;have ax:=hid (And.intro az aD);have cD:=hid hk;have aI:=hid ae;clear h ah az aD hk ae;have nn:(1+(c.i:Int)).toNat=1+c.i:=by omega
 have oP:0≤1+(c.i:Int):=by omega
 have oJ:1+(c.i:Int)<(LL:Int):=by omega
 have gf:=HF.out.i1;have kT:IntKind.i64.wrap (1+(c.i:Int))=1+(c.i:Int):=ac (by omega) (by omega);have Aw:IntKind.i64.wrap ((c.i:Int)+1)=(c.i:Int)+1:=ac (by omega) (by omega);have hq:((c.i:Int)+1==(o.nr:Int))=true:=by have:=bj.out;simp;omega
 have fT:=HF.out.nr1;have aq:=bj.out;have e1:IntKind.i64.wrap ((o.nr:Int)+2)=(o.nr:Int)+2:=ac (by omega) (by omega);have e2:IntKind.u32.wrap ((o.nr:Int)+2)=(c.nr:Int)+2:=by rw[aa (by omega) (by omega),aq]
 clear fT aq;have oS:=hid (show c.i<1000 by have:=HF.out.nr1;omega);have ia:=hid (And.intro HF.out.B0 HF.out.B1);have HJ:=hid hj;obtain⟨mz_0,gz_0,zb0,zb1⟩:=aj.out.cellB ax.out.1 ax.out.2 (1+c.i) (hj);obtain⟨z,ao⟩:∃ x,c.rdm l (1+c.i)=x:=⟨_,rfl⟩;rw[ao] at mz_0 zb0 zb1;try rw[ao]
 have cm:=hid ao;clear ao;rw[cm.out] at he;have hd:(z==(c.nr:Int)+2)=false:=by simpa using he
 clear he ak hi gf;have ag:=aj.out.row;have c7_0:=ag.at 7 (.slice o.R o.nr o.cr);have c11_0:=ag.ph 11 4 aI;have c12_0:=ag.at 12 (.int .i64 (c.i:Int));have f12_0:=ag.frozen 12;clear ag;go_enter Tryz.func83,Tryz.ntmps83;go_wp2_with fail;obtain⟨ai,au⟩:=uj (w.setCell ⟨yb,12,none⟩ (.int .i64 ((c.i:Int)+1))) (aj.out.setI oS.out) ay;refine(eu yb lb cap o _ _ _ 0 _ ai.out cD.out).mono (cS au fun w2 rv2 ar aE=>?_);go_wp2_with fail
 go_end0
 exact⟨_,rfl,ar.out,aE.out⟩
theorem kk (B LL CC:Nat) (w:World) (h:SR w yb lb cap o c rv l) (az:c.base=B) (aD:B+LL=l.length) (hk:bG o.k=true) (ae:c.ph=4) (_hi:c.i<c.nr) (ak:¬ c.nr≤c.i+1) (he:¬ c.rdm l (1+c.i)=(c.nr:Int)+2) (hj:1+c.i<LL):Calls Tryz.prog 83 #[.pointer (some ⟨yb,0,none⟩),.slice (some ⟨lb,B,none⟩) LL CC] w (aU yb lb cap o w rv { c with i:=c.i+1 } l (.tuple #[])):=by
 obtain⟨aj,ay,ah,HF,bp,aS,bx,bj⟩:=h.start;have ax:=hid (And.intro az aD);have cD:=hid hk;have aI:=hid ae;clear h ah az aD hk ae;have nn:(1+(c.i:Int)).toNat=1+c.i:=by omega
 have oP:0≤1+(c.i:Int):=by omega
 have oJ:1+(c.i:Int)<(LL:Int):=by omega
 have gf:=HF.out.i1;have kT:IntKind.i64.wrap (1+(c.i:Int))=1+(c.i:Int):=ac (by omega) (by omega);have Aw:IntKind.i64.wrap ((c.i:Int)+1)=(c.i:Int)+1:=ac (by omega) (by omega);have hq:((c.i:Int)+1==(o.nr:Int))=false:=by have:=bj.out;simp;omega
 have fT:=HF.out.nr1;have aq:=bj.out;have e1:IntKind.i64.wrap ((o.nr:Int)+2)=(o.nr:Int)+2:=ac (by omega) (by omega);have e2:IntKind.u32.wrap ((o.nr:Int)+2)=(c.nr:Int)+2:=by rw[aa (by omega) (by omega),aq]
 clear fT aq;have oS:=hid (show c.i<1000 by have:=HF.out.nr1;omega);have ia:=hid (And.intro HF.out.B0 HF.out.B1);have HJ:=hid hj;obtain⟨mz_0,gz_0,zb0,zb1⟩:=aj.out.cellB ax.out.1 ax.out.2 (1+c.i) (hj);obtain⟨z,ao⟩:∃ x,c.rdm l (1+c.i)=x:=⟨_,rfl⟩;rw[ao] at mz_0 zb0 zb1;try rw[ao]
 have cm:=hid ao;clear ao;rw[cm.out] at he;have hd:(z==(c.nr:Int)+2)=false:=by simpa using he
 clear he ak _hi gf;have ag:=aj.out.row;have c7_0:=ag.at 7 (.slice o.R o.nr o.cr);have c11_0:=ag.ph 11 4 aI;have c12_0:=ag.at 12 (.int .i64 (c.i:Int));have f12_0:=ag.frozen 12;clear ag;go_enter Tryz.func83,Tryz.ntmps83;go_wp2_with fail;obtain⟨ai,au⟩:=uj (w.setCell ⟨yb,12,none⟩ (.int .i64 ((c.i:Int)+1))) (aj.out.setI oS.out) ay
 go_end0
 exact⟨_,rfl,ai.out,au.out⟩
theorem uZ (B LL CC:Nat) (w:World) (h:SR w yb lb cap o c rv l) (az:c.base=B) (aD:B+LL=l.length) (hk:bG o.k=true) (ae:c.ph=0) (hj:1+c.rd<LL):Calls Tryz.prog 84 #[.pointer (some ⟨yb,0,none⟩),.slice (some ⟨lb,B,none⟩) LL CC] w (aU yb lb cap o w rv (c.go 1) (c.wrm l (1+c.rd) ((c.nr:Int)+2)) (.tuple #[])):=by
 obtain⟨aj,ay,ah,HF,bp,aS,bx,bj⟩:=h.start;have ax:=hid (And.intro az aD);have cD:=hid hk;have aI:=hid ae;clear h ah az aD hk ae;have fT:=HF.out.nr1;have aq:=bj.out;have e1:IntKind.i64.wrap ((o.nr:Int)+2)=(o.nr:Int)+2:=ac (by omega) (by omega);have e2:IntKind.u32.wrap ((o.nr:Int)+2)=(c.nr:Int)+2:=by rw[aa (by omega) (by omega),aq]
 clear fT aq;have gg:=HF.out.rd1;have nn:(1+(c.rd:Int)).toNat=1+c.rd:=by omega
 have oP:0≤1+(c.rd:Int):=by omega
 have oJ:1+(c.rd:Int)<(LL:Int):=by omega
 have kT:IntKind.i64.wrap (1+(c.rd:Int))=1+(c.rd:Int):=ac (by omega) (by omega);clear gg;have fT:=HF.out.nr1;obtain⟨my_0,gy_0,_,_⟩:=aj.out.cellB ax.out.1 ax.out.2 (1+c.rd) (hj);have ag:=aj.out.row;have c7_0:=ag.at 7 (.slice o.R o.nr o.cr);have c10_0:=ag.at 10 (.int .i64 (c.rd:Int));have c11_0:=ag.ph 11 0 aI;clear ag;go_enter Tryz.func84,Tryz.ntmps84;go_wp2_with fail;obtain⟨ai,au⟩:=fW (aj.out.putB ax.out.1 ax.out.2 (1+c.rd) (hj) ((c.nr:Int)+2) (⟨by omega,by omega⟩)) ay;refine(dO yb lb cap o _ _ _ (1) 1 _ ai.out rfl).mono (bF au fun w2 ar aE=>?_);go_wp2_with fail
 go_end0
 exact⟨_,rfl,ar.out,aE.out⟩
theorem vH (B LL CC:Nat) (w:World) (h:SR w yb lb cap o c rv l) (az:c.base=B) (aD:B+LL=l.length) (hk:bG o.k=true) (ae:c.ph=1) (hj:0<LL):Calls Tryz.prog 84 #[.pointer (some ⟨yb,0,none⟩),.slice (some ⟨lb,B,none⟩) LL CC] w (aU yb lb cap o w rv (({ c with A:=c.rdm l 0 }:Kc).go 2) l (.tuple #[])):=by
 obtain⟨aj,ay,ah,HF,bp,aS,bx,bj⟩:=h.start;have ax:=hid (And.intro az aD);have cD:=hid hk;have aI:=hid ae;clear h ah az aD hk ae;have fT:=HF.out.nr1;have aq:=bj.out;have e1:IntKind.i64.wrap ((o.nr:Int)+2)=(o.nr:Int)+2:=ac (by omega) (by omega);have e2:IntKind.u32.wrap ((o.nr:Int)+2)=(c.nr:Int)+2:=by rw[aa (by omega) (by omega),aq]
 clear fT aq;have gg:=HF.out.rd1;have kT:IntKind.i64.wrap (1+(c.rd:Int))=1+(c.rd:Int):=ac (by omega) (by omega);clear gg;have gZ:(0:Int)<(LL:Int):=by omega
 obtain⟨mz_0,gz_0,zb0,zb1⟩:=aj.out.cellB ax.out.1 ax.out.2 (0) (hj);obtain⟨z,ao⟩:∃ x,c.rdm l (0)=x:=⟨_,rfl⟩;rw[ao] at mz_0 zb0 zb1;try rw[ao]
 have cm:=hid ao;clear ao;rw[Nat.add_zero] at mz_0 gz_0;have ag:=aj.out.row;have c7_0:=ag.at 7 (.slice o.R o.nr o.cr);have c10_0:=ag.at 10 (.int .i64 (c.rd:Int));have c11_0:=ag.ph 11 1 aI;have c16_0:=ag.at 16 (.int .u32 c.A);have f16_0:=ag.frozen 16;clear ag;go_enter Tryz.func84,Tryz.ntmps84;go_wp2_with fail;obtain⟨ai,au⟩:=fW (aj.out.setA (z) ⟨by omega,by omega⟩) ay;refine(dO yb lb cap o _ _ _ (2) 2 _ ai.out rfl).mono (bF au fun w2 ar aE=>?_);go_wp2_with fail
 go_end0
 exact⟨_,rfl,ar.out,aE.out⟩
theorem o6 (B LL CC:Nat) (w:World) (h:SR w yb lb cap o c rv l) (az:c.base=B) (aD:B+LL=l.length) (hk:bG o.k=true) (ae:c.ph=2) (he:c.rdm l (1+c.rd)=(c.nr:Int)+2) (hj:1+c.rd<LL):Calls Tryz.prog 84 #[.pointer (some ⟨yb,0,none⟩),.slice (some ⟨lb,B,none⟩) LL CC] w (aU yb lb cap o w rv (c.go 3) (c.wrm l (1+c.rd) c.A) (.tuple #[])):=by
 obtain⟨aj,ay,ah,HF,bp,aS,bx,bj⟩:=h.start;have ax:=hid (And.intro az aD);have cD:=hid hk;have aI:=hid ae;clear h ah az aD hk ae;have fT:=HF.out.nr1;have aq:=bj.out;have e1:IntKind.i64.wrap ((o.nr:Int)+2)=(o.nr:Int)+2:=ac (by omega) (by omega);have e2:IntKind.u32.wrap ((o.nr:Int)+2)=(c.nr:Int)+2:=by rw[aa (by omega) (by omega),aq]
 clear fT aq;have gg:=HF.out.rd1;have nn:(1+(c.rd:Int)).toNat=1+c.rd:=by omega
 have oP:0≤1+(c.rd:Int):=by omega
 have oJ:1+(c.rd:Int)<(LL:Int):=by omega
 have kT:IntKind.i64.wrap (1+(c.rd:Int))=1+(c.rd:Int):=ac (by omega) (by omega);clear gg;obtain⟨mz_0,gz_0,zb0,zb1⟩:=aj.out.cellB ax.out.1 ax.out.2 (1+c.rd) (hj);obtain⟨z,ao⟩:∃ x,c.rdm l (1+c.rd)=x:=⟨_,rfl⟩;rw[ao] at mz_0 zb0 zb1;try rw[ao]
 have cm:=hid ao;clear ao;rw[cm.out] at he;have hd:(z==(c.nr:Int)+2)=true:=by simpa using he
 clear he;have ag:=aj.out.row;have c7_0:=ag.at 7 (.slice o.R o.nr o.cr);have c10_0:=ag.at 10 (.int .i64 (c.rd:Int));have c11_0:=ag.ph 11 2 aI;have c16_0:=ag.at 16 (.int .u32 c.A);clear ag;go_enter Tryz.func84,Tryz.ntmps84;go_wp2_with fail;obtain⟨ai,au⟩:=fW (aj.out.putB ax.out.1 ax.out.2 (1+c.rd) (hj) (c.A) (⟨HF.out.A0,HF.out.A1⟩)) ay;refine(dO yb lb cap o _ _ _ (3) 3 _ ai.out rfl).mono (bF au fun w2 ar aE=>?_);go_wp2_with fail
 go_end0
 exact⟨_,rfl,ar.out,aE.out⟩
theorem pr (B LL CC:Nat) (w:World) (h:SR w yb lb cap o c rv l) (az:c.base=B) (aD:B+LL=l.length) (hk:bG o.k=true) (ae:c.ph=2) (he:¬ c.rdm l (1+c.rd)=(c.nr:Int)+2) (hj:1+c.rd<LL):Calls Tryz.prog 84 #[.pointer (some ⟨yb,0,none⟩),.slice (some ⟨lb,B,none⟩) LL CC] w (aU yb lb cap o w rv (c.go 3) l (.tuple #[])):=by
 obtain⟨aj,ay,ah,HF,bp,aS,bx,bj⟩:=h.start;have ax:=hid (And.intro az aD);have cD:=hid hk;have aI:=hid ae;clear h ah az aD hk ae;have fT:=HF.out.nr1;have aq:=bj.out;have e1:IntKind.i64.wrap ((o.nr:Int)+2)=(o.nr:Int)+2:=ac (by omega) (by omega);have e2:IntKind.u32.wrap ((o.nr:Int)+2)=(c.nr:Int)+2:=by rw[aa (by omega) (by omega),aq]
 clear fT aq;have gg:=HF.out.rd1;have nn:(1+(c.rd:Int)).toNat=1+c.rd:=by omega
 have oP:0≤1+(c.rd:Int):=by omega
 have oJ:1+(c.rd:Int)<(LL:Int):=by omega
 have kT:IntKind.i64.wrap (1+(c.rd:Int))=1+(c.rd:Int):=ac (by omega) (by omega);clear gg;obtain⟨mz_0,gz_0,zb0,zb1⟩:=aj.out.cellB ax.out.1 ax.out.2 (1+c.rd) (hj);obtain⟨z,ao⟩:∃ x,c.rdm l (1+c.rd)=x:=⟨_,rfl⟩;rw[ao] at mz_0 zb0 zb1;try rw[ao]
 have cm:=hid ao;clear ao;rw[cm.out] at he;have hd:(z==(c.nr:Int)+2)=false:=by simpa using he
 clear he;have ag:=aj.out.row;have c7_0:=ag.at 7 (.slice o.R o.nr o.cr);have c10_0:=ag.at 10 (.int .i64 (c.rd:Int));have c11_0:=ag.ph 11 2 aI;have c16_0:=ag.at 16 (.int .u32 c.A);clear ag;go_enter Tryz.func84,Tryz.ntmps84;go_wp2_with fail;refine(dO yb lb cap o _ _ _ (3) 3 _ aj.out rfl).mono (bF ay fun w1 ai au=>?_);go_wp2_with fail
 go_end0
 exact⟨_,rfl,ai.out,au.out⟩
theorem ve (B LL CC:Nat) (w:World) (h:SR w yb lb cap o c rv l) (az:c.base=B) (aD:B+LL=l.length) (hk:bG o.k=true) (ae:c.ph=3) (hj:1+c.rd<LL):Calls Tryz.prog 84 #[.pointer (some ⟨yb,0,none⟩),.slice (some ⟨lb,B,none⟩) LL CC] w (aU yb lb cap o w rv (({ c with B:=c.rdm l (1+c.rd)%((c.nr:Int)+2) }:Kc).go 4) l (.tuple #[])):=by
 obtain⟨aj,ay,ah,HF,bp,aS,bx,bj⟩:=h.start;have ax:=hid (And.intro az aD);have cD:=hid hk;have aI:=hid ae;clear h ah az aD hk ae;have fT:=HF.out.nr1;have aq:=bj.out;have e1:IntKind.i64.wrap ((o.nr:Int)+2)=(o.nr:Int)+2:=ac (by omega) (by omega);have e2:IntKind.u32.wrap ((o.nr:Int)+2)=(c.nr:Int)+2:=by rw[aa (by omega) (by omega),aq]
 clear fT aq;have gg:=HF.out.rd1;have nn:(1+(c.rd:Int)).toNat=1+c.rd:=by omega
 have oP:0≤1+(c.rd:Int):=by omega
 have oJ:1+(c.rd:Int)<(LL:Int):=by omega
 have kT:IntKind.i64.wrap (1+(c.rd:Int))=1+(c.rd:Int):=ac (by omega) (by omega);clear gg;obtain⟨mz_0,gz_0,zb0,zb1⟩:=aj.out.cellB ax.out.1 ax.out.2 (1+c.rd) (hj);obtain⟨z,ao⟩:∃ x,c.rdm l (1+c.rd)=x:=⟨_,rfl⟩;rw[ao] at mz_0 zb0 zb1;try rw[ao]
 have cm:=hid ao;clear ao;have fT:=HF.out.nr1;have m0:((c.nr:Int)+2==0)=false:=by simp;omega
 have m1:¬ (c.nr:Int)+2=0:=by omega
 have t1:z.tmod ((c.nr:Int)+2)=z%((c.nr:Int)+2):=Int.tmod_eq_emod_of_nonneg zb0;have q0:=Int.emod_nonneg z m1;have q1:=Int.emod_lt_of_pos z (show(0:Int)<(c.nr:Int)+2 by omega);obtain⟨Q,hQ⟩:∃ x,z%((c.nr:Int)+2)=x:=⟨_,rfl⟩;rw[hQ] at t1 q0 q1 ⊢;have t2:IntKind.u32.wrap Q=Q:=aa q0 (by omega);obtain⟨NN,Kl⟩:∃ x,(c.nr:Int)+2=x:=⟨_,rfl⟩;rw[Kl] at e2 m0 m1 t1 q1;have q2:Q<4294967296:=by omega
 clear hQ Kl fT;have ag:=aj.out.row;have c7_0:=ag.at 7 (.slice o.R o.nr o.cr);have c10_0:=ag.at 10 (.int .i64 (c.rd:Int));have c11_0:=ag.ph 11 3 aI;have c17_0:=ag.at 17 (.int .u32 c.B);have f17_0:=ag.frozen 17;clear ag;go_enter Tryz.func84,Tryz.ntmps84;go_wp2_with fail;obtain⟨ai,au⟩:=fW (aj.out.setB (Q) ⟨q0,q2⟩) ay;refine(dO yb lb cap o _ _ _ (4) 4 _ ai.out rfl).mono (bF au fun w2 ar aE=>?_);go_wp2_with fail
 go_end0
 exact⟨_,rfl,ar.out,aE.out⟩
theorem vx (B LL CC:Nat) (w:World) (h:SR w yb lb cap o c rv l) (az:c.base=B) (aD:B+LL=l.length) (hk:bG o.k=true) (ae:c.ph=4) (eH:bn o=((1+c.nr:Nat):Int)) (dy:c.wr=true→c.i<c.rc.length) (gm:c.rc.length≤1000000) (gn:c.i<1000) (hj:1+c.nr+c.B.toNat*c.wd+c.i<LL) (hB:0≤c.B∧c.B≤20):Calls Tryz.prog 84 #[.pointer (some ⟨yb,0,none⟩),.slice (some ⟨lb,B,none⟩) LL CC] w (aU yb lb cap o w rv (c.word l (1+c.nr+c.B.toNat*c.wd) (·.fin 0)).1 (c.word l (1+c.nr+c.B.toNat*c.wd) (·.fin 0)).2 (.tuple #[])):=by
 obtain⟨aj,ay,ah,HF,bp,aS,bx,bj⟩:=h.start;have ax:=hid (And.intro az aD);have cD:=hid hk;have aI:=hid ae;clear h ah az aD hk ae;have fo:=hid (And.intro eH (show(1+c.nr:Nat)≤5 from(by have:=HF.out.nr1;omega)));have mS:=hid dy;have jA:=hid gm;have kg:=hid gn;have HJ:=hid hj;clear eH dy gm gn hj;have lO:=hid hB;clear hB;have fT:=HF.out.nr1;have aq:=bj.out;have e1:IntKind.i64.wrap ((o.nr:Int)+2)=(o.nr:Int)+2:=ac (by omega) (by omega);have e2:IntKind.u32.wrap ((o.nr:Int)+2)=(c.nr:Int)+2:=by rw[aa (by omega) (by omega),aq]
 clear fT aq;have gg:=HF.out.rd1;have kT:IntKind.i64.wrap (1+(c.rd:Int))=1+(c.rd:Int):=ac (by omega) (by omega);clear gg;have ag:=aj.out.row;have c11_0:=ag.ph 11 4 aI;have c7_0:=ag.at 7 (.slice o.R o.nr o.cr);have c10_0:=ag.at 10 (.int .i64 (c.rd:Int));have c17_0:=ag.at 17 (.int .u32 c.B);clear ag;go_enter Tryz.func84,Tryz.ntmps84;go_wp2_with fail;refine(om yb lb cap o c rv l B LL CC (c.B) ((1+c.nr:Nat)) _ _ aj.out ax.out.1 ax.out.2 cD.out fo.out.1 fo.out.2 lO.out rfl HJ.out kg.out mS.out jA.out).mono (cS ay fun w1 rv1 ai au=>?_);go_wp2_with fail
 go_end0
 exact⟨_,rfl,ai.out,au.out⟩
end
end Go.Proofs.YtolmpehgeinlkaaGreatDoor
