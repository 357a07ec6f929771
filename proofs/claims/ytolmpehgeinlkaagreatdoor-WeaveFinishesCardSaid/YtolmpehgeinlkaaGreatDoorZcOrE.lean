/- The document's operation: Next, Gap; a word at a phase; the kinds four, seq. -/
import Derived.Test.YtolmpehgeinlkaaGreatDoorZcOrD
namespace Go.Proofs.YtolmpehgeinlkaaGreatDoor
open Go.RowKit
open Go.Lib (hid)
attribute [local go_sem] Oper.semAt_some
set_option maxHeartbeats 1000000
set_option maxRecDepth 100000
abbrev n5 (a0:Nat) (a1:Kc) (w':World):Prop:=w'.cell? ⟨a0,16,none⟩=some (.int .u32 a1.A)∧w'.cell? ⟨a0,17,none⟩=some (.int .u32 a1.B)
abbrev yj (a0:Nat) (a1:Kc) (a2 a3:Nat) (a4:Int) (w':World):Prop:=w'.cell? ⟨a0,16,none⟩=some (.int .u32 a1.A)∧w'.cell? ⟨a2,a3,none⟩=some (.int .u32 a4)
theorem dp {z:Int} (h0:0≤z) (h1:z<18446744073709551616):IntKind.u64.wrap z=z:=by
 simp only[IntKind.wrap,IntKind.signed,IntKind.bits];simp;omega
theorem EI (a m:Int) (w:World) (ha:0≤a∧a<4294967296) (hm:0<m∧m<4294967296):Calls Tryz.prog 155 #[.int .u32 a,.int .u32 1,.int .u32 m] w fun e w'=>e=.returned (.int .u32 (Kc.incR a m))∧w'=w:=by
 obtain⟨zS,ul⟩:=ha;obtain⟨pW,fq⟩:=hm;have m0:(m==0)=false:=by simp;omega
 have m1:¬ m=0:=by omega
 have e1:IntKind.u64.wrap a=a:=dp (by omega) (by omega);have e2:IntKind.u64.wrap (a+1)=a+1:=dp (by omega) (by omega);have e3:IntKind.u64.wrap m=m:=dp (by omega) (by omega);have t1:(a+1).tmod m=(a+1)%m:=Int.tmod_eq_emod_of_nonneg (by omega);have q0:=Int.emod_nonneg (a+1) m1;have q1:=Int.emod_lt_of_pos (a+1) pW;have e4:IntKind.u64.wrap ((a+1)%m)=(a+1)%m:=dp q0 (by omega);have e5:IntKind.u32.wrap ((a+1)%m)=(a+1)%m:=aa q0 (by omega);have e6:IntKind.u64.wrap 1=1:=by decide
 unfold Kc.incR;go_enter Tryz.func155,Tryz.ntmps155;go_wp2_with fail;go_ret;exact⟨rfl,rfl⟩
theorem sM (a m:Int) (w:World) (ha:0≤a∧a<4294967296) (hm:0<m∧m<4294967296):Calls Tryz.prog 130 #[.int .u32 a,.int .u32 m] w fun e w'=>e=.returned (.int .u32 (Kc.incR a m))∧w'=w:=by
 have lA:=hid fun W=>EI a m W ha hm
 clear ha hm;go_enter Tryz.func130,Tryz.ntmps130;go_wp2_with fail;refine(lA.out _).mono ?_;rintro e w1 ⟨rfl,rfl⟩;go_wp2_with fail;go_ret;exact⟨rfl,rfl⟩
theorem iC (a b m:Int) (w:World) (ha:0≤a∧a<4294967296) (hb:0≤b∧b<4294967296) (hm:0<m∧m<4294967296):Calls Tryz.prog 131 #[.int .u32 a,.int .u32 b,.int .u32 m] w fun e w'=>e=.returned (.int .u32 (Kc.gapR a b m))∧Below w.heap.size w w':=by
 obtain⟨zS,ul⟩:=ha;obtain⟨iZ,am⟩:=hb;obtain⟨pW,fq⟩:=hm;have m0:(m==0)=false:=by simp;omega
 have m1:¬ m=0:=by omega
 have t1:a.tmod m=a%m:=Int.tmod_eq_emod_of_nonneg zS;have t2:b.tmod m=b%m:=Int.tmod_eq_emod_of_nonneg iZ;have a0:=Int.emod_nonneg a m1;have a1:=Int.emod_lt_of_pos a pW;have b0:=Int.emod_nonneg b m1;have b1:=Int.emod_lt_of_pos b pW;have e1:IntKind.u32.wrap (a%m)=a%m:=aa a0 (by omega);have e2:IntKind.u32.wrap (b%m)=b%m:=aa b0 (by omega);have e3:IntKind.u64.wrap (a%m)=a%m:=dp a0 (by omega);have e4:IntKind.u64.wrap (b%m)=b%m:=dp b0 (by omega);have e5:IntKind.u64.wrap m=m:=dp (by omega) (by omega);have e6:IntKind.u64.wrap (b%m+m)=b%m+m:=dp (by omega) (by omega);have e7:IntKind.u64.wrap (b%m+m - a%m)=b%m+m - a%m:=dp (by omega) (by omega);have t3:(b%m+m - a%m).tmod m=(b%m+m - a%m)%m:=Int.tmod_eq_emod_of_nonneg (by omega);have q0:=Int.emod_nonneg (b%m+m - a%m) m1;have q1:=Int.emod_lt_of_pos (b%m+m - a%m) pW;have e8:IntKind.u64.wrap ((b%m+m - a%m)%m)=(b%m+m - a%m)%m:=dp q0 (by omega);have e9:IntKind.u32.wrap ((b%m+m - a%m)%m)=(b%m+m - a%m)%m:=aa q0 (by omega);unfold Kc.gapR;obtain⟨Q,hQ⟩:∃ x,(b%m+m - a%m)%m=x:=⟨_,rfl⟩;rw[hQ] at t3 q0 q1 e8 e9 ⊢;clear hQ;go_enter Tryz.func131,Tryz.ntmps131;go_wp2_with fail;have Kh:=hid (Below.refl w.heap.size w).drew;refine dR (S:=(fun _:World=>True)) (trivial) fun wd aW hHeld=>?_
 rw[aW] at Kh;clear aW;refine ap 0 1 2 3 ?_;refine ap 4 5 6 7 ?_;refine ap 8 9 10 11 ?_;refine ap 12 13 14 15 ?_;refine aF 16 ?_;refine bh ?_;go_wp2_with fail;go_ret;exact⟨rfl,Kh.out⟩
section
variable (yb lb cap:Nat) (o:Ob) (c:Kc) (rv:Value) (l:List Int)
theorem m6 (frm q:Nat):(c.word l frm (·.go q)).1.A=c.A∧(c.word l frm (·.go q)).1.B=c.B:=by
 rw[Kc.word_eq]
 split <;> exact⟨rfl,rfl⟩
theorem k8 (frm:Nat):(c.word l frm (·.fin 0)).1.A=c.A∧(c.word l frm (·.fin 0)).1.B=c.B:=by
 rw[Kc.word_eq]
 split <;> exact⟨rfl,rfl⟩
theorem dX (B LL CC:Nat) (z:Int) (Hd frm:Nat) (q:Nat) (w:World) (h:SR w yb lb cap o c rv l) (az:c.base=B) (aD:B+LL=l.length) (hk:bG o.k=true) (hH:bn o=(Hd:Int)) (E5:Hd≤5) (hz:0≤z∧z≤20) (mU:frm=Hd+z.toNat*c.wd) (hj:frm+c.i<LL) (dD:c.i<1000) (ub:c.wr=true→c.i<c.rc.length) (cJ:c.rc.length≤1000000):
  Calls Tryz.prog 125 #[.pointer (some ⟨yb,0,none⟩),.slice (some ⟨lb,B,none⟩) LL CC,.int .u32 z,.int .i64 (q:Int)] w (aU yb lb cap o w rv (c.word l frm (·.go q)).1 (c.word l frm (·.go q)).2 (.tuple #[])):=by
 rw[Kc.word_eq];have eq:c.wdone (q:Int) (c.wst l frm)=if c.wd≤c.i+1 then (fun x:Kc=>x.go q) (c.wst l frm) else c.wst l frm:=by unfold Kc.wdone Kc.wend;rw[if_neg (show ¬ (q:Int)<0 by omega)];rfl
 cases bM:c.wr
 ·have hh:=qS yb lb cap o c rv l B LL CC z Hd frm (q:Int) w h az aD hk hH E5 hz mU hj dD bM cJ;rw[eq] at hh;exact hh
 ·have hh:=qk yb lb cap o c rv l B LL CC z Hd frm (q:Int) w h az aD hk hH E5 hz mU hj dD bM (ub bM);rw[eq] at hh;exact hh
theorem om (B LL CC:Nat) (z:Int) (Hd frm:Nat) (w:World) (h:SR w yb lb cap o c rv l) (az:c.base=B) (aD:B+LL=l.length) (hk:bG o.k=true) (hH:bn o=(Hd:Int)) (E5:Hd≤5) (hz:0≤z∧z≤20) (mU:frm=Hd+z.toNat*c.wd) (hj:frm+c.i<LL) (dD:c.i<1000) (ub:c.wr=true→c.i<c.rc.length) (cJ:c.rc.length≤1000000):
  Calls Tryz.prog 125 #[.pointer (some ⟨yb,0,none⟩),.slice (some ⟨lb,B,none⟩) LL CC,.int .u32 z,.int .i64 (-1)] w (aU yb lb cap o w rv (c.word l frm (·.fin 0)).1 (c.word l frm (·.fin 0)).2 (.tuple #[])):=by
 rw[Kc.word_eq];have eq:c.wdone (-1) (c.wst l frm)=if c.wd≤c.i+1 then (fun x:Kc=>x.fin 0) (c.wst l frm) else c.wst l frm:=by unfold Kc.wdone Kc.wend;rw[if_pos (show(-1:Int)<0 by decide)]
 cases bM:c.wr
 ·have hh:=qS yb lb cap o c rv l B LL CC z Hd frm (-1) w h az aD hk hH E5 hz mU hj dD bM cJ;rw[eq] at hh;exact hh
 ·have hh:=qk yb lb cap o c rv l B LL CC z Hd frm (-1) w h az aD hk hH E5 hz mU hj dD bM (ub bM);rw[eq] at hh;exact hh
theorem wm (B LL CC:Nat) (w:World) (h:SR w yb lb cap o c rv l) (az:c.base=B) (aD:B+LL=l.length) (hk:bG o.k=true) (ae:c.ph=0) (hj:1<LL):Calls Tryz.prog 81 #[.pointer (some ⟨yb,0,none⟩),.slice (some ⟨lb,B,none⟩) LL CC] w (aU yb lb cap o w rv (({ c with A:=Kc.one (c.rdm l 1) }:Kc).go 1) l (.tuple #[])):=by
 obtain⟨aj,ay,ah,HF,bp,aS,bx,bj⟩:=h.start;have ax:=hid (And.intro az aD);have cD:=hid hk;have aI:=hid ae;clear h ah az aD hk ae;obtain⟨mz_0,gz_0,zb0,zb1⟩:=aj.out.cellB ax.out.1 ax.out.2 (1) (hj);obtain⟨z,ao⟩:∃ x,c.rdm l (1)=x:=⟨_,rfl⟩;rw[ao] at mz_0 zb0 zb1;try rw[ao]
 have cm:=hid ao;clear ao;have e1:IntKind.u32.wrap (z+1)=(z+1)%4294967296:=by simp[IntKind.wrap,IntKind.signed,IntKind.bits]
 have t1:((z+1)%4294967296).tmod 2=Kc.one z:=by
  rw[Int.tmod_eq_emod_of_nonneg (Int.emod_nonneg _ (by decide))];unfold Kc.one;omega
 have dI:=iF z;obtain⟨Z,hZ⟩:∃ x,Kc.one z=x:=⟨_,rfl⟩;rw[hZ] at t1 dI ⊢;have t2:IntKind.u32.wrap Z=Z:=aa (by omega) (by omega);clear hZ;have ii:(1:Int)<(LL:Int):=by omega
 have ag:=aj.out.row;have c11_0:=ag.ph 11 0 aI;have c16_0:=ag.at 16 (.int .u32 c.A);have f16_0:=ag.frozen 16;clear ag;go_enter Tryz.func81,Tryz.ntmps81;go_wp2_with fail;obtain⟨ai,au⟩:=fW (aj.out.setA (Z) ⟨by omega,by omega⟩) ay;refine(dO yb lb cap o _ _ _ (1) 1 _ ai.out rfl).mono (bF au fun w2 ar aE=>?_);go_wp2_with fail
 go_end0
 exact⟨_,rfl,ar.out,aE.out⟩
theorem vP (B LL CC:Nat) (w:World) (h:SR w yb lb cap o c rv l) (az:c.base=B) (aD:B+LL=l.length) (hk:bG o.k=true) (ae:c.ph=1) (hA:0≤c.A∧c.A≤1) (hj:2+c.A.toNat<LL):Calls Tryz.prog 81 #[.pointer (some ⟨yb,0,none⟩),.slice (some ⟨lb,B,none⟩) LL CC] w (aU yb lb cap o w rv (({ c with B:=Kc.one (c.rdm l (2+c.A.toNat)) }:Kc).go 2) l (.tuple #[])):=by
 obtain⟨aj,ay,ah,HF,bp,aS,bx,bj⟩:=h.start;have ax:=hid (And.intro az aD);have cD:=hid hk;have aI:=hid ae;clear h ah az aD hk ae;have nn:(2+c.A).toNat=2+c.A.toNat:=by omega
 have oP:0≤2+c.A:=by omega
 have oJ:2+c.A<(LL:Int):=by omega
 have kT:IntKind.u32.wrap (2+c.A)=2+c.A:=aa (by omega) (by omega);obtain⟨mz_0,gz_0,zb0,zb1⟩:=aj.out.cellB ax.out.1 ax.out.2 (2+c.A.toNat) (hj);obtain⟨z,ao⟩:∃ x,c.rdm l (2+c.A.toNat)=x:=⟨_,rfl⟩;rw[ao] at mz_0 zb0 zb1;try rw[ao]
 have cm:=hid ao;clear ao;have e1:IntKind.u32.wrap (z+1)=(z+1)%4294967296:=by simp[IntKind.wrap,IntKind.signed,IntKind.bits]
 have t1:((z+1)%4294967296).tmod 2=Kc.one z:=by
  rw[Int.tmod_eq_emod_of_nonneg (Int.emod_nonneg _ (by decide))];unfold Kc.one;omega
 have dI:=iF z;obtain⟨Z,hZ⟩:∃ x,Kc.one z=x:=⟨_,rfl⟩;rw[hZ] at t1 dI ⊢;have t2:IntKind.u32.wrap Z=Z:=aa (by omega) (by omega);clear hZ;have ag:=aj.out.row;have c11_0:=ag.ph 11 1 aI;have c16_0:=ag.at 16 (.int .u32 c.A);have c17_0:=ag.at 17 (.int .u32 c.B);have f17_0:=ag.frozen 17;clear ag;go_enter Tryz.func81,Tryz.ntmps81;go_wp2_with fail;obtain⟨ai,au⟩:=fW (aj.out.setB (Z) ⟨by omega,by omega⟩) ay;refine(dO yb lb cap o _ _ _ (2) 2 _ ai.out rfl).mono (bF au fun w2 ar aE=>?_);go_wp2_with fail
 go_end0
 exact⟨_,rfl,ar.out,aE.out⟩
theorem vl (B LL CC:Nat) (w:World) (h:SR w yb lb cap o c rv l) (az:c.base=B) (aD:B+LL=l.length) (hk:bG o.k=true) (ae:c.ph=2) (eH:bn o=((4:Nat):Int)) (dy:c.wr=true→c.i<c.rc.length) (gm:c.rc.length≤1000000) (gn:c.i<1000) (hj:4+(2*c.A+c.B).toNat*c.wd+c.i<LL) (hA:0≤c.A∧c.A≤1) (hB:0≤c.B∧c.B≤1):Calls Tryz.prog 81 #[.pointer (some ⟨yb,0,none⟩),.slice (some ⟨lb,B,none⟩) LL CC] w (aU yb lb cap o w rv (c.word l (4+(2*c.A+c.B).toNat*c.wd) (·.go 3)).1 (c.word l (4+(2*c.A+c.B).toNat*c.wd) (·.go 3)).2 (.tuple #[])):=by
 obtain⟨aj,ay,ah,HF,bp,aS,bx,bj⟩:=h.start;have ax:=hid (And.intro az aD);have cD:=hid hk;have aI:=hid ae;clear h ah az aD hk ae;have fo:=hid (And.intro eH (show(4:Nat)≤5 from(by omega)));have mS:=hid dy;have jA:=hid gm;have kg:=hid gn;have HJ:=hid hj;clear eH dy gm gn hj;have yP:0≤2*c.A+c.B∧2*c.A+c.B≤20:=by omega
 have JG:IntKind.u32.wrap (2*c.A)=2*c.A:=aa (by omega) (by omega);have Jj:IntKind.u32.wrap (2*c.A+c.B)=2*c.A+c.B:=aa (by omega) (by omega);have lO:=hid yP;clear yP;have ag:=aj.out.row;have c11_0:=ag.ph 11 2 aI;clear ag;go_enter Tryz.func81,Tryz.ntmps81;go_wp2_with fail;have ag:=aj.out.drew.row;have ct:(n5 yb c) w.drew:=⟨(ag.cell 16).trans rfl,(ag.cell 17).trans rfl⟩;have ai:=hid aj.out.drew;have au:=hid (ay.out.trans (Mv.drew w _));clear ag;refine dR ct fun w1 aW hHeld=>?_
 rw[aW] at ai au;clear aW ct;refine ap 0 1 2 3 ?_;refine ap 4 5 6 7 ?_;refine ap 8 9 10 11 ?_;refine aJ 12 (fun K hK=>?_)
 ·go_simp;refine(dX yb lb cap o c rv l B LL CC (2*c.A+c.B) ((4:Nat)) _ 3 _ ai.out ax.out.1 ax.out.2 cD.out fo.out.1 fo.out.2 lO.out rfl HJ.out kg.out mS.out jA.out).mono (cS au fun w2 rv2 ar aE=>?_);have aC:=ar.out.row;have aB:(n5 yb c) w2:=⟨(aC.cell 16).trans (congrArg (fun x:Int=>some (Value.int .u32 x)) (m6 c l _ _).1),(aC.cell 17).trans (congrArg (fun x:Int=>some (Value.int .u32 x)) (m6 c l _ _).2)⟩;clear aC;refine kH hK aB fun hHeld=>?_
  clear hK K;refine bh ?_;clear hHeld aB;go_wp2_with fail
  go_end0
  exact⟨_,rfl,ar.out,aE.out⟩
theorem vE (B LL CC:Nat) (w:World) (h:SR w yb lb cap o c rv l) (az:c.base=B) (aD:B+LL=l.length) (hk:bG o.k=true) (ae:c.ph=3) (hA:0≤c.A∧c.A≤1) (hj:2+c.A.toNat<LL):Calls Tryz.prog 81 #[.pointer (some ⟨yb,0,none⟩),.slice (some ⟨lb,B,none⟩) LL CC] w (aU yb lb cap o w rv (c.go 4) (c.wrm l (2+c.A.toNat) c.B) (.tuple #[])):=by
 obtain⟨aj,ay,ah,HF,bp,aS,bx,bj⟩:=h.start;have ax:=hid (And.intro az aD);have cD:=hid hk;have aI:=hid ae;clear h ah az aD hk ae;have nn:(2+c.A).toNat=2+c.A.toNat:=by omega
 have oP:0≤2+c.A:=by omega
 have oJ:2+c.A<(LL:Int):=by omega
 have kT:IntKind.u32.wrap (2+c.A)=2+c.A:=aa (by omega) (by omega);have ia:=hid (And.intro HF.out.B0 HF.out.B1);have HJ:=hid hj;have ag:=aj.out.row;have c11_0:=ag.ph 11 3 aI;clear ag;go_enter Tryz.func81,Tryz.ntmps81;go_wp2_with fail;have ag:=aj.out.drew.row;have ct:(n5 yb c) w.drew:=⟨(ag.cell 16).trans rfl,(ag.cell 17).trans rfl⟩;have ai:=hid aj.out.drew;have au:=hid (ay.out.trans (Mv.drew w _));clear ag;refine dR ct fun w1 aW hHeld=>?_
 rw[aW] at ai au;clear aW ct;refine ap 0 1 2 3 ?_;refine ap 4 5 6 7 ?_;refine bw 8 9 ?_;refine aF 10 ?_;refine aJ 11 (fun K hK=>?_)
 ·obtain⟨my_1,gy_1,_,_⟩:=ai.out.cellB ax.out.1 ax.out.2 (2+c.A.toNat) HJ.out;go_simp;obtain⟨ar,aE⟩:=fW (ai.out.putB ax.out.1 ax.out.2 (2+c.A.toNat) HJ.out (c.B) ia.out) au;have hr:=ar.out.row;have aN:(n5 yb c) (w1.setCell ⟨lb,B+(2+c.A.toNat),none⟩ (.int .u32 (c.B))):=⟨(hr.cell 16).trans rfl,(hr.cell 17).trans rfl⟩;clear hr;refine kH hK aN fun hHeld=>?_
  clear hK K;refine bh ?_;clear hHeld aN;go_wp2_with fail;refine(dO yb lb cap o _ _ _ (4) 4 _ ar.out rfl).mono (bF aE fun w3 aM bf=>?_);go_wp2_with fail
  go_end0
  exact⟨_,rfl,aM.out,bf.out⟩
theorem xe (B LL CC:Nat) (w:World) (h:SR w yb lb cap o c rv l) (az:c.base=B) (aD:B+LL=l.length) (hk:bG o.k=true) (ae:c.ph=4) (hj:0<LL):Calls Tryz.prog 81 #[.pointer (some ⟨yb,0,none⟩),.slice (some ⟨lb,B,none⟩) LL CC] w (aU yb lb cap o w rv (c.fin 0) (c.wrm l 0 c.A) (.tuple #[])):=by
 obtain⟨aj,ay,ah,HF,bp,aS,bx,bj⟩:=h.start;have ax:=hid (And.intro az aD);have cD:=hid hk;have aI:=hid ae;clear h ah az aD hk ae;have gZ:(0:Int)<(LL:Int):=by omega
 obtain⟨my_0,gy_0,_,_⟩:=aj.out.cellB ax.out.1 ax.out.2 (0) (hj);rw[Nat.add_zero] at my_0 gy_0;have ag:=aj.out.row;have c11_0:=ag.ph 11 4 aI;have c16_0:=ag.at 16 (.int .u32 c.A);clear ag;go_enter Tryz.func81,Tryz.ntmps81;go_wp2_with fail;obtain⟨hs,hm⟩:=aj.out.putB ax.out.1 ax.out.2 (0) (hj) (c.A) (⟨HF.out.A0,HF.out.A1⟩);rw[Nat.add_zero] at hs hm;obtain⟨ai,au⟩:=nx hs ay hm;clear hs hm;refine(eu yb lb cap o _ _ _ 0 _ ai.out cD.out).mono (cS au fun w2 rv2 ar aE=>?_);go_wp2_with fail
 go_end0
 exact⟨_,rfl,ar.out,aE.out⟩
theorem wP (B LL CC:Nat) (w:World) (h:SR w yb lb cap o c rv l) (az:c.base=B) (aD:B+LL=l.length) (hk:bG o.k=true) (ae:c.ph=0) (hj:0<LL):Calls Tryz.prog 82 #[.pointer (some ⟨yb,0,none⟩),.slice (some ⟨lb,B,none⟩) LL CC] w (aU yb lb cap o w rv (({ c with A:=c.rdm l 0%2 }:Kc).go 1) l (.tuple #[])):=by
 obtain⟨aj,ay,ah,HF,bp,aS,bx,bj⟩:=h.start;have ax:=hid (And.intro az aD);have cD:=hid hk;have aI:=hid ae;clear h ah az aD hk ae;obtain⟨mz_0,gz_0,zb0,zb1⟩:=aj.out.cellB ax.out.1 ax.out.2 (0) (hj);obtain⟨z,ao⟩:∃ x,c.rdm l (0)=x:=⟨_,rfl⟩;rw[ao] at mz_0 zb0 zb1;try rw[ao]
 have cm:=hid ao;clear ao;rw[Nat.add_zero] at mz_0 gz_0;have t1:z.tmod 2=z%2:=Int.tmod_eq_emod_of_nonneg zb0;have t2:IntKind.u32.wrap (z%2)=z%2:=aa (by omega) (by omega);have gZ:(0:Int)<(LL:Int):=by omega
 have ag:=aj.out.row;have c11_0:=ag.ph 11 0 aI;have c16_0:=ag.at 16 (.int .u32 c.A);have f16_0:=ag.frozen 16;clear ag;go_enter Tryz.func82,Tryz.ntmps82;go_wp2_with fail;obtain⟨ai,au⟩:=fW (aj.out.setA (z%2) ⟨by omega,by omega⟩) ay;refine(dO yb lb cap o _ _ _ (1) 1 _ ai.out rfl).mono (bF au fun w2 ar aE=>?_);go_wp2_with fail
 go_end0
 exact⟨_,rfl,ar.out,aE.out⟩
theorem vr (B LL CC:Nat) (w:World) (h:SR w yb lb cap o c rv l) (az:c.base=B) (aD:B+LL=l.length) (hk:bG o.k=true) (ae:c.ph=1) (hj:1<LL):Calls Tryz.prog 82 #[.pointer (some ⟨yb,0,none⟩),.slice (some ⟨lb,B,none⟩) LL CC] w (aU yb lb cap o w rv (c.go 2) (c.wrm l 1 c.A) (.tuple #[])):=by
 obtain⟨aj,ay,ah,HF,bp,aS,bx,bj⟩:=h.start;have ax:=hid (And.intro az aD);have cD:=hid hk;have aI:=hid ae;clear h ah az aD hk ae;have ii:(1:Int)<(LL:Int):=by omega
 obtain⟨my_0,gy_0,_,_⟩:=aj.out.cellB ax.out.1 ax.out.2 (1) (hj);have ag:=aj.out.row;have c11_0:=ag.ph 11 1 aI;have c16_0:=ag.at 16 (.int .u32 c.A);clear ag;go_enter Tryz.func82,Tryz.ntmps82;go_wp2_with fail;obtain⟨ai,au⟩:=fW (aj.out.putB ax.out.1 ax.out.2 (1) (hj) (c.A) (⟨HF.out.A0,HF.out.A1⟩)) ay;refine(dO yb lb cap o _ _ _ (2) 2 _ ai.out rfl).mono (bF au fun w2 ar aE=>?_);go_wp2_with fail
 go_end0
 exact⟨_,rfl,ar.out,aE.out⟩
theorem wQ (B LL CC:Nat) (w:World) (h:SR w yb lb cap o c rv l) (az:c.base=B) (aD:B+LL=l.length) (hk:bG o.k=true) (ae:c.ph=2) (hA:0≤c.A∧c.A≤1) (hj:2+c.A.toNat<LL):Calls Tryz.prog 82 #[.pointer (some ⟨yb,0,none⟩),.slice (some ⟨lb,B,none⟩) LL CC] w (aU yb lb cap o w rv (({ c with B:=c.rdm l (2+c.A.toNat)%2 }:Kc).go 3) l (.tuple #[])):=by
 obtain⟨aj,ay,ah,HF,bp,aS,bx,bj⟩:=h.start;have ax:=hid (And.intro az aD);have cD:=hid hk;have aI:=hid ae;clear h ah az aD hk ae;have nn:(2+c.A).toNat=2+c.A.toNat:=by omega
 have oP:0≤2+c.A:=by omega
 have oJ:2+c.A<(LL:Int):=by omega
 have kT:IntKind.u32.wrap (2+c.A)=2+c.A:=aa (by omega) (by omega);obtain⟨mz_0,gz_0,zb0,zb1⟩:=aj.out.cellB ax.out.1 ax.out.2 (2+c.A.toNat) (hj);obtain⟨z,ao⟩:∃ x,c.rdm l (2+c.A.toNat)=x:=⟨_,rfl⟩;rw[ao] at mz_0 zb0 zb1;try rw[ao]
 have cm:=hid ao;clear ao;have t1:z.tmod 2=z%2:=Int.tmod_eq_emod_of_nonneg zb0;have t2:IntKind.u32.wrap (z%2)=z%2:=aa (by omega) (by omega);have ag:=aj.out.row;have c11_0:=ag.ph 11 2 aI;have c16_0:=ag.at 16 (.int .u32 c.A);have c17_0:=ag.at 17 (.int .u32 c.B);have f17_0:=ag.frozen 17;clear ag;go_enter Tryz.func82,Tryz.ntmps82;go_wp2_with fail;obtain⟨ai,au⟩:=fW (aj.out.setB (z%2) ⟨by omega,by omega⟩) ay;refine(dO yb lb cap o _ _ _ (3) 3 _ ai.out rfl).mono (bF au fun w2 ar aE=>?_);go_wp2_with fail
 go_end0
 exact⟨_,rfl,ar.out,aE.out⟩
theorem wX (B LL CC:Nat) (w:World) (h:SR w yb lb cap o c rv l) (az:c.base=B) (aD:B+LL=l.length) (hk:bG o.k=true) (ae:c.ph=3) (eH:bn o=((4:Nat):Int)) (dy:c.wr=true→c.i<c.rc.length) (gm:c.rc.length≤1000000) (gn:c.i<1000) (hj:4+(2*c.A+c.B).toNat*c.wd+c.i<LL) (hA:0≤c.A∧c.A≤1) (hB:0≤c.B∧c.B≤1):Calls Tryz.prog 82 #[.pointer (some ⟨yb,0,none⟩),.slice (some ⟨lb,B,none⟩) LL CC] w (aU yb lb cap o w rv (c.word l (4+(2*c.A+c.B).toNat*c.wd) (·.fin 0)).1 (c.word l (4+(2*c.A+c.B).toNat*c.wd) (·.fin 0)).2 (.tuple #[])):=by
 obtain⟨aj,ay,ah,HF,bp,aS,bx,bj⟩:=h.start;have ax:=hid (And.intro az aD);have cD:=hid hk;have aI:=hid ae;clear h ah az aD hk ae;have fo:=hid (And.intro eH (show(4:Nat)≤5 from(by omega)));have mS:=hid dy;have jA:=hid gm;have kg:=hid gn;have HJ:=hid hj;clear eH dy gm gn hj;have yP:0≤2*c.A+c.B∧2*c.A+c.B≤20:=by omega
 have JG:IntKind.u32.wrap (2*c.A)=2*c.A:=aa (by omega) (by omega);have Jj:IntKind.u32.wrap (2*c.A+c.B)=2*c.A+c.B:=aa (by omega) (by omega);have lO:=hid yP;clear yP;have ag:=aj.out.row;have c11_0:=ag.ph 11 3 aI;clear ag;go_enter Tryz.func82,Tryz.ntmps82;go_wp2_with fail;have ag:=aj.out.drew.row;have ct:(n5 yb c) w.drew:=⟨(ag.cell 16).trans rfl,(ag.cell 17).trans rfl⟩;have ai:=hid aj.out.drew;have au:=hid (ay.out.trans (Mv.drew w _));clear ag;refine dR ct fun w1 aW hHeld=>?_
 rw[aW] at ai au;clear aW ct;refine ap 0 1 2 3 ?_;refine ap 4 5 6 7 ?_;refine ap 8 9 10 11 ?_;refine aJ 12 (fun K hK=>?_)
 ·go_simp;refine(om yb lb cap o c rv l B LL CC (2*c.A+c.B) ((4:Nat)) _ _ ai.out ax.out.1 ax.out.2 cD.out fo.out.1 fo.out.2 lO.out rfl HJ.out kg.out mS.out jA.out).mono (cS au fun w2 rv2 ar aE=>?_);have aC:=ar.out.row;have aB:(n5 yb c) w2:=⟨(aC.cell 16).trans (congrArg (fun x:Int=>some (Value.int .u32 x)) (k8 c l _).1),(aC.cell 17).trans (congrArg (fun x:Int=>some (Value.int .u32 x)) (k8 c l _).2)⟩;clear aC;refine kH hK aB fun hHeld=>?_
  clear hK K;refine bh ?_;clear hHeld aB;go_wp2_with fail
  go_end0
  exact⟨_,rfl,ar.out,aE.out⟩
theorem xq (B LL CC:Nat) (w:World) (h:SR w yb lb cap o c rv l) (az:c.base=B) (aD:B+LL=l.length) (hk:bG o.k=true) (ae:c.ph=0) (hj:0<LL):Calls Tryz.prog 85 #[.pointer (some ⟨yb,0,none⟩),.slice (some ⟨lb,B,none⟩) LL CC] w (aU yb lb cap o w rv (({ c with A:=c.rdm l 0 }:Kc).go 1) l (.tuple #[])):=by
 obtain⟨aj,ay,ah,HF,bp,aS,bx,bj⟩:=h.start;have ax:=hid (And.intro az aD);have cD:=hid hk;have aI:=hid ae;clear h ah az aD hk ae;obtain⟨mz_0,gz_0,zb0,zb1⟩:=aj.out.cellB ax.out.1 ax.out.2 (0) (hj);obtain⟨z,ao⟩:∃ x,c.rdm l (0)=x:=⟨_,rfl⟩;rw[ao] at mz_0 zb0 zb1;try rw[ao]
 have cm:=hid ao;clear ao;rw[Nat.add_zero] at mz_0 gz_0;have gZ:(0:Int)<(LL:Int):=by omega
 have ag:=aj.out.row;have c11_0:=ag.ph 11 0 aI;have c16_0:=ag.at 16 (.int .u32 c.A);have f16_0:=ag.frozen 16;clear ag;go_enter Tryz.func85,Tryz.ntmps85;go_wp2_with fail;obtain⟨ai,au⟩:=fW (aj.out.setA (z) ⟨by omega,by omega⟩) ay;refine(dO yb lb cap o _ _ _ (1) 1 _ ai.out rfl).mono (bF au fun w2 ar aE=>?_);go_wp2_with fail
 go_end0
 exact⟨_,rfl,ar.out,aE.out⟩
theorem zt (B LL CC:Nat) (w:World) (h:SR w yb lb cap o c rv l) (az:c.base=B) (aD:B+LL=l.length) (hk:bG o.k=true) (ae:c.ph=1) (hj:0<LL):Calls Tryz.prog 85 #[.pointer (some ⟨yb,0,none⟩),.slice (some ⟨lb,B,none⟩) LL CC] w (aU yb lb cap o w rv (c.go 2) (c.wrm l 0 ((c.A+1)%4294967296)) (.tuple #[])):=by
 obtain⟨aj,ay,ah,HF,bp,aS,bx,bj⟩:=h.start;have ax:=hid (And.intro az aD);have cD:=hid hk;have aI:=hid ae;clear h ah az aD hk ae;have gZ:(0:Int)<(LL:Int):=by omega
 have hu:IntKind.u32.wrap (c.A+1)=(c.A+1)%4294967296:=by simp[IntKind.wrap,IntKind.signed,IntKind.bits]
 obtain⟨my_0,gy_0,_,_⟩:=aj.out.cellB ax.out.1 ax.out.2 (0) (hj);rw[Nat.add_zero] at my_0 gy_0;have ag:=aj.out.row;have c11_0:=ag.ph 11 1 aI;have c16_0:=ag.at 16 (.int .u32 c.A);clear ag;go_enter Tryz.func85,Tryz.ntmps85;go_wp2_with fail;obtain⟨hs,hm⟩:=aj.out.putB ax.out.1 ax.out.2 (0) (hj) ((c.A+1)%4294967296) (⟨by omega,by omega⟩);rw[Nat.add_zero] at hs hm;obtain⟨ai,au⟩:=nx hs ay hm;clear hs hm;refine(dO yb lb cap o _ _ _ (2) 2 _ ai.out rfl).mono (bF au fun w2 ar aE=>?_);go_wp2_with fail
 go_end0
 exact⟨_,rfl,ar.out,aE.out⟩
theorem xZ (B LL CC:Nat) (w:World) (h:SR w yb lb cap o c rv l) (az:c.base=B) (aD:B+LL=l.length) (hk:bG o.k=true) (ae:c.ph=3) (hj:0<LL):Calls Tryz.prog 85 #[.pointer (some ⟨yb,0,none⟩),.slice (some ⟨lb,B,none⟩) LL CC] w (aU yb lb cap o w rv (c.fin 0) (c.wrm l 0 ((c.A+2)%4294967296)) (.tuple #[])):=by
 obtain⟨aj,ay,ah,HF,bp,aS,bx,bj⟩:=h.start;have ax:=hid (And.intro az aD);have cD:=hid hk;have aI:=hid ae;clear h ah az aD hk ae;have gZ:(0:Int)<(LL:Int):=by omega
 have hu:IntKind.u32.wrap (c.A+2)=(c.A+2)%4294967296:=by simp[IntKind.wrap,IntKind.signed,IntKind.bits]
 obtain⟨my_0,gy_0,_,_⟩:=aj.out.cellB ax.out.1 ax.out.2 (0) (hj);rw[Nat.add_zero] at my_0 gy_0;have ag:=aj.out.row;have c11_0:=ag.ph 11 3 aI;have c16_0:=ag.at 16 (.int .u32 c.A);clear ag;go_enter Tryz.func85,Tryz.ntmps85;go_wp2_with fail;obtain⟨hs,hm⟩:=aj.out.putB ax.out.1 ax.out.2 (0) (hj) ((c.A+2)%4294967296) (⟨by omega,by omega⟩);rw[Nat.add_zero] at hs hm;obtain⟨ai,au⟩:=nx hs ay hm;clear hs hm;refine(eu yb lb cap o _ _ _ 0 _ ai.out cD.out).mono (cS au fun w2 rv2 ar aE=>?_);go_wp2_with fail
 go_end0
 exact⟨_,rfl,ar.out,aE.out⟩
theorem yG (B LL CC:Nat) (w:World) (h:SR w yb lb cap o c rv l) (az:c.base=B) (aD:B+LL=l.length) (hk:bG o.k=true) (ae:c.ph=2) (eH:bn o=((1:Nat):Int)) (dy:c.wr=true→c.i<c.rc.length) (gm:c.rc.length≤1000000) (gn:c.i<1000) (hj:1+c.i<LL):Calls Tryz.prog 85 #[.pointer (some ⟨yb,0,none⟩),.slice (some ⟨lb,B,none⟩) LL CC] w (aU yb lb cap o w rv (c.word l (1) (·.go 3)).1 (c.word l (1) (·.go 3)).2 (.tuple #[])):=by
 obtain⟨aj,ay,ah,HF,bp,aS,bx,bj⟩:=h.start;have ax:=hid (And.intro az aD);have cD:=hid hk;have aI:=hid ae;clear h ah az aD hk ae;have fo:=hid (And.intro eH (show(1:Nat)≤5 from(by omega)));have mS:=hid dy;have jA:=hid gm;have kg:=hid gn;have HJ:=hid hj;clear eH dy gm gn hj;have ag:=aj.out.row;have c11_0:=ag.ph 11 2 aI;clear ag;go_enter Tryz.func85,Tryz.ntmps85;go_wp2_with fail;refine(dX yb lb cap o c rv l B LL CC (0) ((1:Nat)) _ 3 _ aj.out ax.out.1 ax.out.2 cD.out fo.out.1 fo.out.2 ⟨by decide,by decide⟩ (show 1=1+(0:Int).toNat*c.wd by simp) HJ.out kg.out mS.out jA.out).mono (cS ay fun w1 rv1 ai au=>?_);go_wp2_with fail
 go_end0
 exact⟨_,rfl,ai.out,au.out⟩
theorem zN (B LL CC:Nat) (w:World) (h:SR w yb lb cap o c rv l) (az:c.base=B) (aD:B+LL=l.length) (hk:bG o.k=true) (ae:c.ph=1) (eH:bn o=((1:Nat):Int)) (dy:c.wr=true→c.i<c.rc.length) (gm:c.rc.length≤1000000) (gn:c.i<1000) (hj:1+c.i<LL):Calls Tryz.prog 86 #[.pointer (some ⟨yb,0,none⟩),.slice (some ⟨lb,B,none⟩) LL CC] w (aU yb lb cap o w rv (c.word l (1) (·.go 2)).1 (c.word l (1) (·.go 2)).2 (.tuple #[])):=by
 obtain⟨aj,ay,ah,HF,bp,aS,bx,bj⟩:=h.start;have ax:=hid (And.intro az aD);have cD:=hid hk;have aI:=hid ae;clear h ah az aD hk ae;have fo:=hid (And.intro eH (show(1:Nat)≤5 from(by omega)));have mS:=hid dy;have jA:=hid gm;have kg:=hid gn;have HJ:=hid hj;clear eH dy gm gn hj;have ag:=aj.out.row;have c11_0:=ag.ph 11 1 aI;clear ag;go_enter Tryz.func86,Tryz.ntmps86;go_wp2_with fail;refine(dX yb lb cap o c rv l B LL CC (0) ((1:Nat)) _ 2 _ aj.out ax.out.1 ax.out.2 cD.out fo.out.1 fo.out.2 ⟨by decide,by decide⟩ (show 1=1+(0:Int).toNat*c.wd by simp) HJ.out kg.out mS.out jA.out).mono (cS ay fun w1 rv1 ai au=>?_);go_wp2_with fail
 go_end0
 exact⟨_,rfl,ai.out,au.out⟩
theorem nQ (B LL CC:Nat) (w:World) (h:SR w yb lb cap o c rv l) (az:c.base=B) (aD:B+LL=l.length) (hk:bG o.k=true) (ae:c.ph=0) (_ht:c.tr<1000) (hj:0<LL) (he:¬ c.rdm l 0%2=1):Calls Tryz.prog 86 #[.pointer (some ⟨yb,0,none⟩),.slice (some ⟨lb,B,none⟩) LL CC] w (aU yb lb cap o w rv (({ c with A:=c.rdm l 0 }:Kc).go 1) l (.tuple #[])):=by
 obtain⟨aj,ay,ah,HF,bp,aS,bx,bj⟩:=h.start;have ax:=hid (And.intro az aD);have cD:=hid hk;have aI:=hid ae;clear h ah az aD hk ae;obtain⟨mz_0,gz_0,zb0,zb1⟩:=aj.out.cellB ax.out.1 ax.out.2 (0) (hj);obtain⟨z,ao⟩:∃ x,c.rdm l (0)=x:=⟨_,rfl⟩;rw[ao] at mz_0 zb0 zb1;try rw[ao]
 have cm:=hid ao;clear ao;rw[Nat.add_zero] at mz_0 gz_0;rw[cm.out] at he;have gZ:(0:Int)<(LL:Int):=by omega
 have t1:z.tmod 2=z%2:=Int.tmod_eq_emod_of_nonneg zb0;have t2:IntKind.u32.wrap (z%2)=z%2:=aa (by omega) (by omega);have hd:(z%2==1)=false:=by simpa using he
 clear he;clear _ht;have ag:=aj.out.row;have c11_0:=ag.ph 11 0 aI;have c16_0:=ag.at 16 (.int .u32 c.A);have f16_0:=ag.frozen 16;clear ag;go_enter Tryz.func86,Tryz.ntmps86;go_wp2_with fail;obtain⟨ai,au⟩:=fW (aj.out.setA (z) ⟨by omega,by omega⟩) ay;refine(dO yb lb cap o _ _ _ (1) 1 _ ai.out rfl).mono (bF au fun w2 ar aE=>?_);go_wp2_with fail
 go_end0
 exact⟨_,rfl,ar.out,aE.out⟩
theorem pj (B LL CC:Nat) (w:World) (h:SR w yb lb cap o c rv l) (az:c.base=B) (aD:B+LL=l.length) (hk:bG o.k=true) (ae:c.ph=0) (ht:c.tr<1000) (hj:0<LL) (he:c.rdm l 0%2=1) (ak:¬ c.cap≤c.tr+1):Calls Tryz.prog 86 #[.pointer (some ⟨yb,0,none⟩),.slice (some ⟨lb,B,none⟩) LL CC] w (aU yb lb cap o w rv (({ c with A:=c.rdm l 0 }:Kc).fail (·.fin 1)) l (.tuple #[])):=by
 obtain⟨aj,ay,ah,HF,bp,aS,bx,bj⟩:=h.start;have ax:=hid (And.intro az aD);have cD:=hid hk;have aI:=hid ae;clear h ah az aD hk ae;obtain⟨mz_0,gz_0,zb0,zb1⟩:=aj.out.cellB ax.out.1 ax.out.2 (0) (hj);obtain⟨z,ao⟩:∃ x,c.rdm l (0)=x:=⟨_,rfl⟩;rw[ao] at mz_0 zb0 zb1;try rw[ao]
 have cm:=hid ao;clear ao;rw[Nat.add_zero] at mz_0 gz_0;rw[cm.out] at he;have gZ:(0:Int)<(LL:Int):=by omega
 have t1:z.tmod 2=z%2:=Int.tmod_eq_emod_of_nonneg zb0;have t2:IntKind.u32.wrap (z%2)=z%2:=aa (by omega) (by omega);have hd:(z%2==1)=true:=by simpa using he
 clear he;have ey:=fun W (h:SR W yb lb cap o ({ c with A:=z }:Kc) rv l)=>iD yb lb cap o ({ c with A:=z }:Kc) rv l W h ht
 have fZ:decide ((c.cap:Int)≤(c.tr:Int)+1)=false:=decide_eq_false (by omega);have uU:decide ((((({ c with A:=z }:Kc)).cap:Nat):Int)≤(((({ c with A:=z }:Kc)).tr:Nat):Int)+1)=false:=fZ;rw[uU] at ey;have iW:=hid ey;clear ey fZ uU;unfold Kc.fail;simp only[ge_iff_le];rw[if_neg ak];clear ak ht;have ag:=aj.out.row;have c11_0:=ag.ph 11 0 aI;have c16_0:=ag.at 16 (.int .u32 c.A);have f16_0:=ag.frozen 16;clear ag;go_enter Tryz.func86,Tryz.ntmps86;go_wp2_with fail;obtain⟨ai,au⟩:=fW (aj.out.setA (z) ⟨by omega,by omega⟩) ay;refine(iW.out _ ai.out).mono (cS au fun w2 rv2 ar aE=>?_);go_wp2_with fail
 go_end0
 exact⟨_,rfl,ar.out,aE.out⟩
theorem kD (B LL CC:Nat) (w:World) (h:SR w yb lb cap o c rv l) (az:c.base=B) (aD:B+LL=l.length) (hk:bG o.k=true) (ae:c.ph=0) (ht:c.tr<1000) (hj:0<LL) (he:c.rdm l 0%2=1) (ak:c.cap≤c.tr+1):Calls Tryz.prog 86 #[.pointer (some ⟨yb,0,none⟩),.slice (some ⟨lb,B,none⟩) LL CC] w (aU yb lb cap o w rv (({ c with A:=c.rdm l 0 }:Kc).fail (·.fin 1)) l (.tuple #[])):=by
 obtain⟨aj,ay,ah,HF,bp,aS,bx,bj⟩:=h.start;have ax:=hid (And.intro az aD);have cD:=hid hk;have aI:=hid ae;clear h ah az aD hk ae;obtain⟨mz_0,gz_0,zb0,zb1⟩:=aj.out.cellB ax.out.1 ax.out.2 (0) (hj);obtain⟨z,ao⟩:∃ x,c.rdm l (0)=x:=⟨_,rfl⟩;rw[ao] at mz_0 zb0 zb1;try rw[ao]
 have cm:=hid ao;clear ao;rw[Nat.add_zero] at mz_0 gz_0;rw[cm.out] at he;have gZ:(0:Int)<(LL:Int):=by omega
 have t1:z.tmod 2=z%2:=Int.tmod_eq_emod_of_nonneg zb0;have t2:IntKind.u32.wrap (z%2)=z%2:=aa (by omega) (by omega);have hd:(z%2==1)=true:=by simpa using he
 clear he;have ey:=fun W (h:SR W yb lb cap o ({ c with A:=z }:Kc) rv l)=>iD yb lb cap o ({ c with A:=z }:Kc) rv l W h ht
 have fZ:decide ((c.cap:Int)≤(c.tr:Int)+1)=true:=decide_eq_true (by omega);have uU:decide ((((({ c with A:=z }:Kc)).cap:Nat):Int)≤(((({ c with A:=z }:Kc)).tr:Nat):Int)+1)=true:=fZ;rw[uU] at ey;have iW:=hid ey;clear ey fZ uU;unfold Kc.fail;simp only[ge_iff_le];rw[if_pos ak];clear ak ht;have ag:=aj.out.row;have c11_0:=ag.ph 11 0 aI;have c16_0:=ag.at 16 (.int .u32 c.A);have f16_0:=ag.frozen 16;clear ag;go_enter Tryz.func86,Tryz.ntmps86;go_wp2_with fail;obtain⟨ai,au⟩:=fW (aj.out.setA (z) ⟨by omega,by omega⟩) ay;refine(iW.out _ ai.out).mono (cS au fun w2 rv2 ar aE=>?_);go_wp2_with fail;refine(eu yb lb cap o _ _ _ 1 _ ar.out cD.out).mono (cS aE fun w3 rv3 aM bf=>?_);go_wp2_with fail
 go_end0
 exact⟨_,rfl,aM.out,bf.out⟩
theorem ny (B LL CC:Nat) (w:World) (h:SR w yb lb cap o c rv l) (az:c.base=B) (aD:B+LL=l.length) (hk:bG o.k=true) (ae:c.ph=2) (_ht:c.tr<1000) (hj:0<LL) (he:c.rdm l 0=c.A):Calls Tryz.prog 86 #[.pointer (some ⟨yb,0,none⟩),.slice (some ⟨lb,B,none⟩) LL CC] w (aU yb lb cap o w rv (c.fin 0) l (.tuple #[])):=by
 obtain⟨aj,ay,ah,HF,bp,aS,bx,bj⟩:=h.start;have ax:=hid (And.intro az aD);have cD:=hid hk;have aI:=hid ae;clear h ah az aD hk ae;obtain⟨mz_0,gz_0,zb0,zb1⟩:=aj.out.cellB ax.out.1 ax.out.2 (0) (hj);obtain⟨z,ao⟩:∃ x,c.rdm l (0)=x:=⟨_,rfl⟩;rw[ao] at mz_0 zb0 zb1;try rw[ao]
 have cm:=hid ao;clear ao;rw[Nat.add_zero] at mz_0 gz_0;rw[cm.out] at he;have gZ:(0:Int)<(LL:Int):=by omega
 have hd:(z != c.A)=false:=by simpa using he
 clear he;clear _ht;have ag:=aj.out.row;have c11_0:=ag.ph 11 2 aI;have c16_0:=ag.at 16 (.int .u32 c.A);have f16_0:=ag.frozen 16;clear ag;go_enter Tryz.func86,Tryz.ntmps86;go_wp2_with fail;refine kj (S:=(yj yb c lb B z)) aj ay (fun ai=>⟨c16_0,mz_0⟩) fun wd ai au hHeld=>?_
 refine ap 0 1 2 3 ?_;refine ap 4 5 6 7 ?_;refine aF 8 ?_;refine bh ?_;clear hHeld;go_wp2_with fail;refine(eu yb lb cap o _ _ _ 0 _ ai.out cD.out).mono (cS au fun w2 rv2 ar aE=>?_);go_wp2_with fail
 go_end0
 exact⟨_,rfl,ar.out,aE.out⟩
theorem me (B LL CC:Nat) (w:World) (h:SR w yb lb cap o c rv l) (az:c.base=B) (aD:B+LL=l.length) (hk:bG o.k=true) (ae:c.ph=2) (ht:c.tr<1000) (hj:0<LL) (he:¬ c.rdm l 0=c.A) (ak:¬ c.cap≤c.tr+1):Calls Tryz.prog 86 #[.pointer (some ⟨yb,0,none⟩),.slice (some ⟨lb,B,none⟩) LL CC] w (aU yb lb cap o w rv ((c:Kc).fail (·.fin 1)) l (.tuple #[])):=by
 obtain⟨aj,ay,ah,HF,bp,aS,bx,bj⟩:=h.start;have ax:=hid (And.intro az aD);have cD:=hid hk;have aI:=hid ae;clear h ah az aD hk ae;obtain⟨mz_0,gz_0,zb0,zb1⟩:=aj.out.cellB ax.out.1 ax.out.2 (0) (hj);obtain⟨z,ao⟩:∃ x,c.rdm l (0)=x:=⟨_,rfl⟩;rw[ao] at mz_0 zb0 zb1;try rw[ao]
 have cm:=hid ao;clear ao;rw[Nat.add_zero] at mz_0 gz_0;rw[cm.out] at he;have gZ:(0:Int)<(LL:Int):=by omega
 have hd:(z != c.A)=true:=by simpa using he
 clear he;have ey:=fun W (h:SR W yb lb cap o c rv l)=>iD yb lb cap o c rv l W h ht
 have fZ:decide ((c.cap:Int)≤(c.tr:Int)+1)=false:=decide_eq_false (by omega);have uU:decide ((((c).cap:Nat):Int)≤(((c).tr:Nat):Int)+1)=false:=fZ;rw[uU] at ey;have iW:=hid ey;clear ey fZ uU;unfold Kc.fail;simp only[ge_iff_le];rw[if_neg ak];clear ak ht;have ag:=aj.out.row;have c11_0:=ag.ph 11 2 aI;have c16_0:=ag.at 16 (.int .u32 c.A);have f16_0:=ag.frozen 16;clear ag;go_enter Tryz.func86,Tryz.ntmps86;go_wp2_with fail;refine kj (S:=(yj yb c lb B z)) aj ay (fun ai=>⟨c16_0,mz_0⟩) fun wd ai au hHeld=>?_
 refine ap 0 1 2 3 ?_;refine ap 4 5 6 7 ?_;refine aF 8 ?_;refine bh ?_;clear hHeld;go_wp2_with fail;refine(iW.out _ ai.out).mono (cS au fun w2 rv2 ar aE=>?_);go_wp2_with fail
 go_end0
 exact⟨_,rfl,ar.out,aE.out⟩
theorem jh (B LL CC:Nat) (w:World) (h:SR w yb lb cap o c rv l) (az:c.base=B) (aD:B+LL=l.length) (hk:bG o.k=true) (ae:c.ph=2) (ht:c.tr<1000) (hj:0<LL) (he:¬ c.rdm l 0=c.A) (ak:c.cap≤c.tr+1):Calls Tryz.prog 86 #[.pointer (some ⟨yb,0,none⟩),.slice (some ⟨lb,B,none⟩) LL CC] w (aU yb lb cap o w rv ((c:Kc).fail (·.fin 1)) l (.tuple #[])):=by
 obtain⟨aj,ay,ah,HF,bp,aS,bx,bj⟩:=h.start;have ax:=hid (And.intro az aD);have cD:=hid hk;have aI:=hid ae;clear h ah az aD hk ae;obtain⟨mz_0,gz_0,zb0,zb1⟩:=aj.out.cellB ax.out.1 ax.out.2 (0) (hj);obtain⟨z,ao⟩:∃ x,c.rdm l (0)=x:=⟨_,rfl⟩;rw[ao] at mz_0 zb0 zb1;try rw[ao]
 have cm:=hid ao;clear ao;rw[Nat.add_zero] at mz_0 gz_0;rw[cm.out] at he;have gZ:(0:Int)<(LL:Int):=by omega
 have hd:(z != c.A)=true:=by simpa using he
 clear he;have ey:=fun W (h:SR W yb lb cap o c rv l)=>iD yb lb cap o c rv l W h ht
 have fZ:decide ((c.cap:Int)≤(c.tr:Int)+1)=true:=decide_eq_true (by omega);have uU:decide ((((c).cap:Nat):Int)≤(((c).tr:Nat):Int)+1)=true:=fZ;rw[uU] at ey;have iW:=hid ey;clear ey fZ uU;unfold Kc.fail;simp only[ge_iff_le];rw[if_pos ak];clear ak ht;have ag:=aj.out.row;have c11_0:=ag.ph 11 2 aI;have c16_0:=ag.at 16 (.int .u32 c.A);have f16_0:=ag.frozen 16;clear ag;go_enter Tryz.func86,Tryz.ntmps86;go_wp2_with fail;refine kj (S:=(yj yb c lb B z)) aj ay (fun ai=>⟨c16_0,mz_0⟩) fun wd ai au hHeld=>?_
 refine ap 0 1 2 3 ?_;refine ap 4 5 6 7 ?_;refine aF 8 ?_;refine bh ?_;clear hHeld;go_wp2_with fail;refine(iW.out _ ai.out).mono (cS au fun w2 rv2 ar aE=>?_);go_wp2_with fail;refine(eu yb lb cap o _ _ _ 1 _ ar.out cD.out).mono (cS aE fun w3 rv3 aM bf=>?_);go_wp2_with fail
 go_end0
 exact⟨_,rfl,aM.out,bf.out⟩
end
end Go.Proofs.YtolmpehgeinlkaaGreatDoor
