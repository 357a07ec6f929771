/- The kind fifo: each step of a put, and of a take. -/
import Derived.Test.YtabfcjohdgjkoaaGreatDoorZcOgK
namespace Go.Proofs.YtabfcjohdgjkoaaGreatDoor
open Go.RowKit
open Go.Lib (hid)
attribute [local go_sem] Oper.semAt_some
set_option maxHeartbeats 1000000
set_option maxRecDepth 100000
abbrev yJ (a0:Nat) (a1:Ob) (w':World):Prop:=w'.cell? ⟨a0,0,none⟩=some (.int .i64 a1.k)∧w'.cell? ⟨a0,1,none⟩=some (.int .i64 a1.wd)∧w'.cell? ⟨a0,2,none⟩=some (.int .i64 a1.s)∧w'.cell? ⟨a0,3,none⟩=some (.int .i64 a1.c)∧w'.cell? ⟨a0,4,none⟩=some (.int .u32 a1.st)∧w'.cell? ⟨a0,5,none⟩=some (.slice a1.I a1.ni a1.ci)∧w'.cell? ⟨a0,6,none⟩=some (.int .i64 a1.wr)∧w'.cell? ⟨a0,7,none⟩=some (.slice a1.R a1.nr a1.cr)
abbrev dI (a0:Nat) (a1:Ob) (a2:Kc) (w':World):Prop:=w'.cell? ⟨a0,0,none⟩=some (.int .i64 a1.k)∧w'.cell? ⟨a0,1,none⟩=some (.int .i64 a1.wd)∧w'.cell? ⟨a0,2,none⟩=some (.int .i64 a1.s)∧w'.cell? ⟨a0,3,none⟩=some (.int .i64 a1.c)∧w'.cell? ⟨a0,4,none⟩=some (.int .u32 a1.st)∧w'.cell? ⟨a0,5,none⟩=some (.slice a1.I a1.ni a1.ci)∧w'.cell? ⟨a0,6,none⟩=some (.int .i64 a1.wr)∧w'.cell? ⟨a0,7,none⟩=some (.slice a1.R a1.nr a1.cr)∧w'.cell? ⟨a0,13,none⟩=some (.int .u32 a2.A)
theorem nR (o:Ob) (a:Int) (h1:1≤o.s) (h2:o.s≤16) (h3:0≤o.wd) (h4:o.wd≤8) (ha:0≤a) (_ha2:a<4294967296) (w:World):Calls Tryz.prog 221 #[.agg (af o),.int .u32 a] w fun e w'=>e=.returned (.int .i64 (2+(a%o.s)*o.wd))∧Below w.heap.size w w':=by
 have hn:=ObX.new w o;have hb:=bK w (.cells (af o) 26);obtain⟨c0,c1,c2,-⟩:=hn.cells;clear c0 hn;have hB:=hid hb.drew;obtain⟨n,aI⟩:∃ n,w.heap.size=n:=⟨_,rfl⟩;rw[aI] at c1 c2 hB;clear hb;have kK:=Int.emod_nonneg a (show o.s≠0 by omega);have fr:=Int.emod_lt_of_pos a (show 0<o.s by omega);have t0:IntKind.u32.wrap o.s=o.s:=aK (by omega) (by omega);have t1:a.tmod o.s=a%o.s:=Int.tmod_eq_emod_of_nonneg ha;have t2:IntKind.u32.wrap (a%o.s)=a%o.s:=aK kK (by omega);have t3:IntKind.i64.wrap (a%o.s)=a%o.s:=ag (by omega) (by omega);have m1:=lp (a:=a%o.s) (b:=o.wd) kK (by omega) h3 (by omega);have t4:IntKind.i64.wrap (a%o.s*o.wd)=a%o.s*o.wd:=ag (by omega) (by omega);have t5:IntKind.i64.wrap (2+a%o.s*o.wd)=2+a%o.s*o.wd:=ag (by omega) (by omega);have s0:(o.s==0)=false:=by simp;omega
 have s1:¬ o.s=0:=by omega
 clear m1 kK fr ha _ha2;rw[aI];unfold af at *;go_enter Tryz.func221,Tryz.ntmps221;go_wp2_with fail;obtain⟨W1,kG⟩:∃ x,w.alloc (.cells #[.int .i64 o.k,.int .i64 o.wd,.int .i64 o.s,.int .i64 o.c,.int .u32 o.st,.slice o.I o.ni o.ci,.int .i64 o.wr,.slice o.R o.nr o.cr] 26)=x:=⟨_,rfl⟩;rw[kG] at c1 c2 hB ⊢;clear kG;refine fg (S:=(fun w':World=>w'.cell? ⟨n,1,none⟩=some (.int .i64 o.wd)∧w'.cell? ⟨n,2,none⟩=some (.int .i64 o.s))) ⟨c1,c2⟩ fun wd bq hHeld=>?_
 rw[bq] at hB;clear bq;refine ai 0 1 2 3 ?_;refine ai 4 5 6 7 ?_;refine bv 8 9 ?_;refine aX 10 ?_;refine aY ?_;clear hHeld;go_wp2_with fail;go_ret;exact⟨rfl,hB.out⟩
section
variable (sb mb lb:Nat) (ty:TypeId) (o:Ob) (c:Kc) (rv:Value) (l:List Int)
theorem eP (i:Int) (j:Nat) (w:World) (h:St w sb mb lb ty o c rv l) (hi:i=(j:Int)) (hs:1≤c.sl) (hj:c.base+j<l.length):Calls Tryz.prog 220 #[.pointer (some ⟨sb,0,none⟩),.int .i64 i] w (mS sb mb lb ty o w rv c l (.int .u32 (c.rdm l j%(2*(c.sl:Int))))):=by
 obtain⟨aA,bh,am,HF,cL,ct,dn,cQ⟩:=h.start;clear am h;have hz:=cR hj aA.out.mem.w32;have HR:=hid fun W (h:St W sb mb lb ty o c rv l)=>cS sb mb lb ty o c rv l i j W h (by omega) hj
 obtain⟨z,aP⟩:∃ x,c.rdm l j=x:=⟨_,rfl⟩;rw[aP] at HR hz;try rw[aP]
 have lH:=hid aP;clear aP hj;have eJ:=hz.1;have d8:=hz.2;clear hz;have aj:=ct.out;have bN:=HF.out.sl1;have If:=fun W=>dq o (by omega) (by omega) W
 rw[← aj];obtain⟨M,hM⟩:∃ x,2*o.s=x:=⟨_,rfl⟩;rw[hM] at If ⊢;have eV:=hid If;have rL:0<M:=by omega
 have rM:M<4294967296:=by omega
 have m0:(M==0)=false:=by simp;omega
 have m1:¬ M=0:=by omega
 have t1:z.tmod M=z%M:=Int.tmod_eq_emod_of_nonneg eJ;have kK:=Int.emod_nonneg z m1;have fr:=Int.emod_lt_of_pos z rL;have t2:IntKind.u32.wrap (z%M)=z%M:=aK kK (by omega);have HI:=hid hi;clear aj bN If hM hs kK fr hi;unfold af at eV;go_enter Tryz.func220,Tryz.ntmps220;go_wp2_with fail;refine ea (S:=(yJ sb o)) aA bh (fun al=>let ⟨_,_,ak⟩:=al.out.op.row;(by and_intros <;> exact ak.c rfl)) fun w1 al aT hHeld=>?_
 refine ai 0 1 2 3 ?_;refine ai 5 6 7 8 ?_;refine aX 9 ?_;refine aV 4 (fun K hK=>?_)
 ·go_simp;refine(HR.out _ al.out).mono (cu aT fun w2 aL bk=>?_);obtain⟨u2,bI,av⟩:=aL.out.op.row;have ap:(yJ sb o) w2:=(by and_intros <;> exact av.c rfl);clear av bI;refine kH hK ap fun hHeld=>?_
  clear hK K;refine aV 10 (fun K hK=>?_)
  ·go_simp;refine(eV.out _).mono ?_;rintro ex w3 ⟨rfl,hb⟩;have aZ:=hid (aL.out.below hb);have bx:=hid (bk.out.trans (Mv.below hb _));clear hb;obtain⟨u3,eU,bS⟩:=aZ.out.op.row;have aN:(yJ sb o) w3:=(by and_intros <;> exact bS.c rfl);clear bS eU;refine kH hK aN fun hHeld=>?_
   clear hK K;refine bv 11 12 ?_;refine aY ?_;clear hHeld aN;go_wp2_with fail;go_ret;exact⟨rfl,aZ.out,bx.out⟩
theorem nS (i:Int) (j:Nat) (w:World) (h:St w sb mb lb ty o c rv l) (hi:i=(j:Int)) (hs:1≤c.sl) (hA:c.A<2*(c.sl:Int)) (hj:c.base+j<l.length):Calls Tryz.prog 222 #[.pointer (some ⟨sb,0,none⟩),.int .i64 i] w (mS sb mb lb ty o w rv c (c.wrm l j (Kc.inc c.A (2*(c.sl:Int)))) (.tuple #[])):=by
 obtain⟨aA,bh,am,HF,cL,ct,dn,cQ⟩:=h.start;clear am h;have aj:=ct.out;have bN:=HF.out.sl1;have eV:=hid fun W=>dq o (by omega) (by omega) W
 have hM:2*o.s=2*(c.sl:Int):=by rw[aj]
 rw[hM] at eV;have FW:=HF.out.A0;obtain⟨M,fF⟩:∃ x,2*(c.sl:Int)=x:=⟨_,rfl⟩;rw[fF] at eV hA;try rw[fF]
 have rL:2≤M:=by omega
 have rM:M≤32:=by omega
 clear hM aj bN;unfold af at eV;have GH:=hid fun W=>AV c.A M W FW hA rL (by omega)
 have hZ:0≤Kc.inc c.A M∧Kc.inc c.A M<4294967296:=by unfold Kc.inc;split <;> omega
 have HW:=hid fun W (h:St W sb mb lb ty o c rv l)=>ef sb mb lb ty o c rv l i j (Kc.inc c.A M) W h hi hj hZ
 obtain⟨Z,vN⟩:∃ x,Kc.inc c.A M=x:=⟨_,rfl⟩;rw[vN] at GH HW ⊢;clear hZ vN fF hs hi hj hA FW;go_enter Tryz.func222,Tryz.ntmps222;go_wp2_with fail;refine ea (S:=(dI sb o c)) aA bh (fun al=>let ⟨_,_,ak⟩:=al.out.op.row;(by and_intros <;> exact ak.c rfl)) fun w1 al aT hHeld=>?_
 refine ai 0 1 2 3 ?_;refine ai 4 5 6 7 ?_;refine ai 8 9 10 11 ?_;refine bv 12 13 ?_;refine aV 14 (fun K hK=>?_)
 ·go_simp;refine(eV.out _).mono ?_;rintro ex w2 ⟨rfl,hb⟩;have aL:=hid (al.out.below hb);have bk:=hid (aT.out.trans (Mv.below hb _));clear hb;obtain⟨u2,bI,av⟩:=aL.out.op.row;have ap:(dI sb o c) w2:=(by and_intros <;> exact av.c rfl);clear av bI;refine kH hK ap fun hHeld=>?_
  clear hK K;refine aV 15 (fun K hK=>?_)
  ·go_simp;refine(GH.out _).mono ?_;rintro ex w3 ⟨rfl,hb⟩;have aZ:=hid (aL.out.below hb);have bx:=hid (bk.out.trans (Mv.below hb _));clear hb;obtain⟨u3,eU,bS⟩:=aZ.out.op.row;have aN:(dI sb o c) w3:=(by and_intros <;> exact bS.c rfl);clear bS eU;refine kH hK aN fun hHeld=>?_
   clear hK K;refine aV 16 (fun K hK=>?_)
   ·go_simp;refine(HW.out _ aZ.out).mono (cu bx fun w4 db eF=>?_);obtain⟨u4,oz,iG⟩:=db.out.op.row;have fO:(dI sb o c) w4:=(by and_intros <;> exact iG.c rfl);clear iG oz;refine kH hK fO fun hHeld=>?_
    clear hK K;refine aY ?_;clear hHeld fO
    go_end0
    exact⟨rfl,db.out,eF.out⟩
theorem Dn (w:World) (h:St w sb mb lb ty o c rv l) (ae:c.ph=0) (hs:1≤c.sl) (hj:c.base+1<l.length):Calls Tryz.prog 170 #[.pointer (some ⟨sb,0,none⟩)] w (Did sb mb lb ty o w rv (({ c with A:=c.rdm l 1%(2*(c.sl:Int)) }:Kc).go 1) l (.tuple #[])):=by
 obtain⟨aA,bh,am,HF,cL,ct,dn,cQ⟩:=h.start;clear am h;have bP:=hid ae;clear ae;obtain⟨u0,bC,ak⟩:=aA.out.op.row;have c10_0:=ak.ph 10 0 bP;clear ak bC;have aj:=ct.out;have bN:=HF.out.sl1;have eV:=hid fun W=>dq o (by omega) (by omega) W
 have hM:2*o.s=2*(c.sl:Int):=by rw[aj]
 rw[hM] at eV;have fC:=hid fun W (h:St W sb mb lb ty o c rv l)=>eP sb mb lb ty o c rv l 1 1 W h rfl hs hj
 obtain⟨M,fF⟩:∃ x,2*(c.sl:Int)=x:=⟨_,rfl⟩;rw[fF] at eV fC;try rw[fF]
 have rL:2≤M:=by omega
 have rM:M≤32:=by omega
 clear hM aj bN;unfold af at eV;obtain⟨z,aP⟩:∃ x,c.rdm l 1%M=x:=⟨_,rfl⟩;have eJ:0≤z:=by rw[← aP];exact Int.emod_nonneg _ (by omega)
 have d8:z<M:=by rw[← aP];exact Int.emod_lt_of_pos _ (by omega)
 rw[aP] at fC;try rw[aP]
 have lO:=hid aP;clear aP hj;clear fF hs;go_enter Tryz.func170,Tryz.ntmps170;go_wp2_with fail;refine(fC.out _ aA.out).mono (cu bh fun w1 al aT=>?_);obtain⟨u1,iz,bV⟩:=al.out.op.row;have c13_1:=bV.at 13 (.int .u32 c.A);have f13_1:=bV.frozen 13;clear bV iz;go_wp2_with fail;obtain⟨aL,bk⟩:=qm (al.out.setA (z) ⟨eJ,by omega⟩) aT;go_wp2_with fail;refine(dy sb mb lb ty o _ _ _ 1 1 _ aL.out rfl).mono (cu bk fun w3 aZ bx=>?_);go_wp2_with fail
 go_end0
 exact⟨_,rfl,aZ.out,bx.out⟩
theorem qJ (w:World) (h:St w sb mb lb ty o c rv l) (ae:c.ph=1) (hs:1≤c.sl) (hA:c.A<2*(c.sl:Int)) (hg:Kc.gap (c.rdm l 0%(2*(c.sl:Int))) c.A (2*(c.sl:Int))≥(c.sl:Int)) (hj:c.base+0<l.length):Calls Tryz.prog 170 #[.pointer (some ⟨sb,0,none⟩)] w (Did sb mb lb ty o w rv (c.fin 2) l (.tuple #[])):=by
 obtain⟨aA,bh,am,HF,cL,ct,dn,cQ⟩:=h.start;clear am h;have bP:=hid ae;clear ae;obtain⟨u0,bC,ak⟩:=aA.out.op.row;have c10_0:=ak.ph 10 1 bP;clear ak bC;have q9:o.s=(c.sl:Int):=ct.out;have qZ:=HF.out.sl1;have aj:=ct.out;have bN:=HF.out.sl1;have eV:=hid fun W=>dq o (by omega) (by omega) W
 have hM:2*o.s=2*(c.sl:Int):=by rw[aj]
 rw[hM] at eV;have fC:=hid fun W (h:St W sb mb lb ty o c rv l)=>eP sb mb lb ty o c rv l 0 0 W h rfl hs hj
 obtain⟨M,fF⟩:∃ x,2*(c.sl:Int)=x:=⟨_,rfl⟩;rw[fF] at eV fC hg hA;try rw[fF]
 have rL:2≤M:=by omega
 have rM:M≤32:=by omega
 clear hM aj bN;unfold af at eV;obtain⟨z,aP⟩:∃ x,c.rdm l 0%M=x:=⟨_,rfl⟩;have eJ:0≤z:=by rw[← aP];exact Int.emod_nonneg _ (by omega)
 have d8:z<M:=by rw[← aP];exact Int.emod_lt_of_pos _ (by omega)
 rw[aP] at fC;try rw[aP]
 have lO:=hid aP;clear aP hj;rw[lO.out] at hg;have vi:=hid fun W=>sy z c.A M W eJ d8 HF.out.A0 hA (by omega)
 have hG:0≤Kc.gap z c.A M∧Kc.gap z c.A M<4294967296:=by have:=HF.out.A0;unfold Kc.gap;split <;> omega
 obtain⟨G,rJ⟩:∃ x,Kc.gap z c.A M=x:=⟨_,rfl⟩;rw[rJ] at vi hG hg;have MA:=hG.1;have MB:=hG.2;have e1:IntKind.u32.wrap o.s=o.s:=aK (by omega) (by omega);have d1:decide (o.s≤G)=true:=decide_eq_true (by omega);clear hG rJ fF hs qZ q9 hA hg;go_enter Tryz.func170,Tryz.ntmps170;go_wp2_with fail;refine ea (S:=(dI sb o c)) aA bh (fun al=>let ⟨_,_,ak⟩:=al.out.op.row;(by and_intros <;> exact ak.c rfl)) fun w1 al aT hHeld=>?_
 refine ai 0 2 3 4 ?_;refine ai 5 6 7 8 ?_;refine ai 9 10 11 14 ?_;refine ai 15 16 17 18 ?_;refine bv 19 20 ?_;refine aV 1 (fun K hK=>?_)
 ·go_simp;refine(fC.out _ al.out).mono (cu aT fun w2 aL bk=>?_);obtain⟨u2,bI,av⟩:=aL.out.op.row;have ap:(dI sb o c) w2:=(by and_intros <;> exact av.c rfl);clear av bI;refine kH hK ap fun hHeld=>?_
  clear hK K;refine aV 12 (fun K hK=>?_)
  ·go_simp;refine(eV.out _).mono ?_;rintro ex w3 ⟨rfl,hb⟩;have aZ:=hid (aL.out.below hb);have bx:=hid (bk.out.trans (Mv.below hb _));clear hb;obtain⟨u3,eU,bS⟩:=aZ.out.op.row;have aN:(dI sb o c) w3:=(by and_intros <;> exact bS.c rfl);clear bS eU;refine kH hK aN fun hHeld=>?_
   clear hK K;refine aV 13 (fun K hK=>?_)
   ·go_simp;refine(vi.out _).mono ?_;rintro ex w4 ⟨rfl,hb⟩;have db:=hid (aZ.out.below hb);have eF:=hid (bx.out.trans (Mv.below hb _));clear hb;obtain⟨u4,oz,iG⟩:=db.out.op.row;have fO:(dI sb o c) w4:=(by and_intros <;> exact iG.c rfl);clear iG oz;refine kH hK fO fun hHeld=>?_
    clear hK K;refine aX 21 ?_;refine aY ?_;clear hHeld fO;go_wp2_with fail;refine(fT sb mb lb ty o _ _ _ 2 _ db.out).mono (fz eF fun w5 rv5 gD lU=>?_);go_wp2_with fail
    go_end0
    exact⟨_,rfl,gD.out,lU.out⟩
theorem tZ (w:World) (h:St w sb mb lb ty o c rv l) (ae:c.ph=1) (hs:1≤c.sl) (hA:c.A<2*(c.sl:Int)) (hg:¬ (Kc.gap (c.rdm l 0%(2*(c.sl:Int))) c.A (2*(c.sl:Int))≥(c.sl:Int))) (hj:c.base+0<l.length):Calls Tryz.prog 170 #[.pointer (some ⟨sb,0,none⟩)] w (Did sb mb lb ty o w rv (c.go 2) l (.tuple #[])):=by
 obtain⟨aA,bh,am,HF,cL,ct,dn,cQ⟩:=h.start;clear am h;have bP:=hid ae;clear ae;obtain⟨u0,bC,ak⟩:=aA.out.op.row;have c10_0:=ak.ph 10 1 bP;clear ak bC;have q9:o.s=(c.sl:Int):=ct.out;have qZ:=HF.out.sl1;have aj:=ct.out;have bN:=HF.out.sl1;have eV:=hid fun W=>dq o (by omega) (by omega) W
 have hM:2*o.s=2*(c.sl:Int):=by rw[aj]
 rw[hM] at eV;have fC:=hid fun W (h:St W sb mb lb ty o c rv l)=>eP sb mb lb ty o c rv l 0 0 W h rfl hs hj
 obtain⟨M,fF⟩:∃ x,2*(c.sl:Int)=x:=⟨_,rfl⟩;rw[fF] at eV fC hg hA;try rw[fF]
 have rL:2≤M:=by omega
 have rM:M≤32:=by omega
 clear hM aj bN;unfold af at eV;obtain⟨z,aP⟩:∃ x,c.rdm l 0%M=x:=⟨_,rfl⟩;have eJ:0≤z:=by rw[← aP];exact Int.emod_nonneg _ (by omega)
 have d8:z<M:=by rw[← aP];exact Int.emod_lt_of_pos _ (by omega)
 rw[aP] at fC;try rw[aP]
 have lO:=hid aP;clear aP hj;rw[lO.out] at hg;have vi:=hid fun W=>sy z c.A M W eJ d8 HF.out.A0 hA (by omega)
 have hG:0≤Kc.gap z c.A M∧Kc.gap z c.A M<4294967296:=by have:=HF.out.A0;unfold Kc.gap;split <;> omega
 obtain⟨G,rJ⟩:∃ x,Kc.gap z c.A M=x:=⟨_,rfl⟩;rw[rJ] at vi hG hg;have MA:=hG.1;have MB:=hG.2;have e1:IntKind.u32.wrap o.s=o.s:=aK (by omega) (by omega);have d1:decide (o.s≤G)=false:=decide_eq_false (by omega);clear hG rJ fF hs qZ q9 hA hg;go_enter Tryz.func170,Tryz.ntmps170;go_wp2_with fail;refine ea (S:=(dI sb o c)) aA bh (fun al=>let ⟨_,_,ak⟩:=al.out.op.row;(by and_intros <;> exact ak.c rfl)) fun w1 al aT hHeld=>?_
 refine ai 0 2 3 4 ?_;refine ai 5 6 7 8 ?_;refine ai 9 10 11 14 ?_;refine ai 15 16 17 18 ?_;refine bv 19 20 ?_;refine aV 1 (fun K hK=>?_)
 ·go_simp;refine(fC.out _ al.out).mono (cu aT fun w2 aL bk=>?_);obtain⟨u2,bI,av⟩:=aL.out.op.row;have ap:(dI sb o c) w2:=(by and_intros <;> exact av.c rfl);clear av bI;refine kH hK ap fun hHeld=>?_
  clear hK K;refine aV 12 (fun K hK=>?_)
  ·go_simp;refine(eV.out _).mono ?_;rintro ex w3 ⟨rfl,hb⟩;have aZ:=hid (aL.out.below hb);have bx:=hid (bk.out.trans (Mv.below hb _));clear hb;obtain⟨u3,eU,bS⟩:=aZ.out.op.row;have aN:(dI sb o c) w3:=(by and_intros <;> exact bS.c rfl);clear bS eU;refine kH hK aN fun hHeld=>?_
   clear hK K;refine aV 13 (fun K hK=>?_)
   ·go_simp;refine(vi.out _).mono ?_;rintro ex w4 ⟨rfl,hb⟩;have db:=hid (aZ.out.below hb);have eF:=hid (bx.out.trans (Mv.below hb _));clear hb;obtain⟨u4,oz,iG⟩:=db.out.op.row;have fO:(dI sb o c) w4:=(by and_intros <;> exact iG.c rfl);clear iG oz;refine kH hK fO fun hHeld=>?_
    clear hK K;refine aX 21 ?_;refine aY ?_;clear hHeld fO;go_wp2_with fail;refine(dy sb mb lb ty o _ _ _ 2 2 _ db.out rfl).mono (cu eF fun w5 gD lU=>?_);go_wp2_with fail
    go_end0
    exact⟨_,rfl,gD.out,lU.out⟩
theorem Do (w:World) (h:St w sb mb lb ty o c rv l) (ae:c.ph=2) (hs:1≤c.sl) (dP:c.wr=true→c.i<c.rc.length) (di:c.rc.length≤1000000) (fy:c.i<1000) (hj:c.base+(2+(c.A%c.sl).toNat*c.wd+c.i)<l.length) (fL:2+(c.A%c.sl).toNat*c.wd≤1000000):Calls Tryz.prog 170 #[.pointer (some ⟨sb,0,none⟩)] w (Did sb mb lb ty o w rv (c.word l (2+(c.A%c.sl).toNat*c.wd) (·.go 3)).1 (c.word l (2+(c.A%c.sl).toNat*c.wd) (·.go 3)).2 (.tuple #[])):=by
 obtain⟨aA,bh,am,HF,cL,ct,dn,cQ⟩:=h.start;clear am h;have bP:=hid ae;clear ae;obtain⟨u0,bC,ak⟩:=aA.out.op.row;have c10_0:=ak.ph 10 2 bP;clear ak bC;have aj:=ct.out;have bN:=HF.out.sl1;have g9:=HF.out.wd1;have ay:=cL.out;have fV:=hid fun W=>nR o c.A (by omega) (by omega) (by omega) (by omega) HF.out.A0 HF.out.A1 W
 have hq:2+(c.A%o.s)*o.wd=((2+(c.A%c.sl).toNat*c.wd:Nat):Int):=by
  have:=Int.emod_nonneg c.A (show(c.sl:Int)≠0 by omega);rw[Int.natCast_add,Int.natCast_mul,Int.toNat_of_nonneg this,aj,ay];rfl
 rw[hq] at fV;clear aj bN g9 ay hq hs;unfold af at fV;obtain⟨FR,kY⟩:∃ x,2+(c.A%c.sl).toNat*c.wd=x:=⟨_,rfl⟩;rw[kY] at fV hj fL ⊢;clear kY;have fc:=hid fun W (rv:Value) (h:St W sb mb lb ty o c rv l)=>fR sb mb lb ty o c rv l (FR) W h dP di fy hj fL
 clear dP di fy hj fL;rw[Kc.word_eq]
 by_cases ao:c.wd≤c.i+1
 ·rw[if_pos ao];have hd:decide ((c.wd:Int)≤(c.i:Int)+1)=true:=decide_eq_true (by omega);rw[hd] at fc;clear ao hd;go_enter Tryz.func170,Tryz.ntmps170;go_wp2_with fail;refine ea (S:=(dI sb o c)) aA bh (fun al=>let ⟨_,_,ak⟩:=al.out.op.row;(by and_intros <;> exact ak.c rfl)) fun w1 al aT hHeld=>?_
  refine ai 0 1 2 3 ?_;refine ai 4 5 6 7 ?_;refine ai 8 9 10 11 ?_;refine aX 12 ?_;refine aV 13 (fun K hK=>?_)
  ·go_simp;refine(fV.out _).mono ?_;rintro ex w2 ⟨rfl,hb⟩;have aL:=hid (al.out.below hb);have bk:=hid (aT.out.trans (Mv.below hb _));clear hb;obtain⟨u2,bI,av⟩:=aL.out.op.row;have ap:(dI sb o c) w2:=(by and_intros <;> exact av.c rfl);clear av bI;refine kH hK ap fun hHeld=>?_
   clear hK K;refine aV 14 (fun K hK=>?_)
   ·go_simp;refine(fc.out _ _ aL.out).mono (fz bk fun w3 rv3 aZ bx=>?_);obtain⟨u3,eU,bS⟩:=aZ.out.op.row;have aN:(dI sb o c) w3:=(by and_intros <;> exact bS.c rfl);clear bS eU;refine kH hK aN fun hHeld=>?_
    clear hK K;refine aY ?_;clear hHeld aN;go_wp2_with fail;refine(dy sb mb lb ty o _ _ _ 3 3 _ aZ.out rfl).mono (cu bx fun w4 db eF=>?_);go_wp2_with fail
    go_end0
    exact⟨_,rfl,db.out,eF.out⟩
 ·rw[if_neg ao];have hd:decide ((c.wd:Int)≤(c.i:Int)+1)=false:=decide_eq_false (by omega);rw[hd] at fc;clear ao hd;go_enter Tryz.func170,Tryz.ntmps170;go_wp2_with fail;refine ea (S:=(dI sb o c)) aA bh (fun al=>let ⟨_,_,ak⟩:=al.out.op.row;(by and_intros <;> exact ak.c rfl)) fun w1 al aT hHeld=>?_
  refine ai 0 1 2 3 ?_;refine ai 4 5 6 7 ?_;refine ai 8 9 10 11 ?_;refine aX 12 ?_;refine aV 13 (fun K hK=>?_)
  ·go_simp;refine(fV.out _).mono ?_;rintro ex w2 ⟨rfl,hb⟩;have aL:=hid (al.out.below hb);have bk:=hid (aT.out.trans (Mv.below hb _));clear hb;obtain⟨u2,bI,av⟩:=aL.out.op.row;have ap:(dI sb o c) w2:=(by and_intros <;> exact av.c rfl);clear av bI;refine kH hK ap fun hHeld=>?_
   clear hK K;refine aV 14 (fun K hK=>?_)
   ·go_simp;refine(fc.out _ _ aL.out).mono (fz bk fun w3 rv3 aZ bx=>?_);obtain⟨u3,eU,bS⟩:=aZ.out.op.row;have aN:(dI sb o c) w3:=(by and_intros <;> exact bS.c rfl);clear bS eU;refine kH hK aN fun hHeld=>?_
    clear hK K;refine aY ?_;clear hHeld aN;go_wp2_with fail
    go_end0
    exact⟨_,rfl,aZ.out,bx.out⟩
theorem Dp (w:World) (h:St w sb mb lb ty o c rv l) (ae:c.ph=3) (hs:1≤c.sl) (hA:c.A<2*(c.sl:Int)) (hj:c.base+1<l.length):Calls Tryz.prog 170 #[.pointer (some ⟨sb,0,none⟩)] w (Did sb mb lb ty o w rv (c.fin 0) (c.wrm l 1 (Kc.inc c.A (2*(c.sl:Int)))) (.tuple #[])):=by
 obtain⟨aA,bh,am,HF,cL,ct,dn,cQ⟩:=h.start;clear am h;have bP:=hid ae;clear ae;obtain⟨u0,bC,ak⟩:=aA.out.op.row;have c10_0:=ak.ph 10 3 bP;clear ak bC;have yA:=hid (nS sb mb lb ty o c rv l 1 1 w aA.out rfl hs hA hj);obtain⟨L1,iZ⟩:∃ x,c.wrm l 1 (Kc.inc c.A (2*(c.sl:Int)))=x:=⟨_,rfl⟩;rw[iZ] at yA ⊢;clear iZ hs hA hj;go_enter Tryz.func170,Tryz.ntmps170;go_wp2_with fail;refine yA.out.mono (cu bh fun w1 al aT=>?_);go_wp2_with fail;refine(fT sb mb lb ty o _ _ _ 0 _ al.out).mono (fz aT fun w2 rv2 aL bk=>?_);go_wp2_with fail
 go_end0
 exact⟨_,rfl,aL.out,bk.out⟩
theorem Dq (w:World) (h:St w sb mb lb ty o c rv l) (ae:c.ph=0) (hs:1≤c.sl) (hj:c.base+0<l.length):Calls Tryz.prog 171 #[.pointer (some ⟨sb,0,none⟩)] w (Did sb mb lb ty o w rv (({ c with A:=c.rdm l 0%(2*(c.sl:Int)) }:Kc).go 1) l (.tuple #[])):=by
 obtain⟨aA,bh,am,HF,cL,ct,dn,cQ⟩:=h.start;clear am h;have bP:=hid ae;clear ae;obtain⟨u0,bC,ak⟩:=aA.out.op.row;have c10_0:=ak.ph 10 0 bP;clear ak bC;have aj:=ct.out;have bN:=HF.out.sl1;have eV:=hid fun W=>dq o (by omega) (by omega) W
 have hM:2*o.s=2*(c.sl:Int):=by rw[aj]
 rw[hM] at eV;have fC:=hid fun W (h:St W sb mb lb ty o c rv l)=>eP sb mb lb ty o c rv l 0 0 W h rfl hs hj
 obtain⟨M,fF⟩:∃ x,2*(c.sl:Int)=x:=⟨_,rfl⟩;rw[fF] at eV fC;try rw[fF]
 have rL:2≤M:=by omega
 have rM:M≤32:=by omega
 clear hM aj bN;unfold af at eV;obtain⟨z,aP⟩:∃ x,c.rdm l 0%M=x:=⟨_,rfl⟩;have eJ:0≤z:=by rw[← aP];exact Int.emod_nonneg _ (by omega)
 have d8:z<M:=by rw[← aP];exact Int.emod_lt_of_pos _ (by omega)
 rw[aP] at fC;try rw[aP]
 have lO:=hid aP;clear aP hj;clear fF hs;go_enter Tryz.func171,Tryz.ntmps171;go_wp2_with fail;refine(fC.out _ aA.out).mono (cu bh fun w1 al aT=>?_);obtain⟨u1,iz,bV⟩:=al.out.op.row;have c13_1:=bV.at 13 (.int .u32 c.A);have f13_1:=bV.frozen 13;clear bV iz;go_wp2_with fail;obtain⟨aL,bk⟩:=qm (al.out.setA (z) ⟨eJ,by omega⟩) aT;go_wp2_with fail;refine(dy sb mb lb ty o _ _ _ 1 1 _ aL.out rfl).mono (cu bk fun w3 aZ bx=>?_);go_wp2_with fail
 go_end0
 exact⟨_,rfl,aZ.out,bx.out⟩
theorem pm (w:World) (h:St w sb mb lb ty o c rv l) (ae:c.ph=1) (hs:1≤c.sl) (hg:c.rdm l 1%(2*(c.sl:Int))=c.A) (hj:c.base+1<l.length):Calls Tryz.prog 171 #[.pointer (some ⟨sb,0,none⟩)] w (Did sb mb lb ty o w rv (c.fin 3) l (.tuple #[])):=by
 obtain⟨aA,bh,am,HF,cL,ct,dn,cQ⟩:=h.start;clear am h;have bP:=hid ae;clear ae;obtain⟨u0,bC,ak⟩:=aA.out.op.row;have c10_0:=ak.ph 10 1 bP;clear ak bC;have aj:=ct.out;have bN:=HF.out.sl1;have eV:=hid fun W=>dq o (by omega) (by omega) W
 have hM:2*o.s=2*(c.sl:Int):=by rw[aj]
 rw[hM] at eV;have fC:=hid fun W (h:St W sb mb lb ty o c rv l)=>eP sb mb lb ty o c rv l 1 1 W h rfl hs hj
 obtain⟨M,fF⟩:∃ x,2*(c.sl:Int)=x:=⟨_,rfl⟩;rw[fF] at eV fC hg;try rw[fF]
 have rL:2≤M:=by omega
 have rM:M≤32:=by omega
 clear hM aj bN;unfold af at eV;obtain⟨z,aP⟩:∃ x,c.rdm l 1%M=x:=⟨_,rfl⟩;have eJ:0≤z:=by rw[← aP];exact Int.emod_nonneg _ (by omega)
 have d8:z<M:=by rw[← aP];exact Int.emod_lt_of_pos _ (by omega)
 rw[aP] at fC;try rw[aP]
 have lO:=hid aP;clear aP hj;rw[lO.out] at hg;have hd:(z==c.A)=true:=by simpa using hg
 clear hg fF hs;go_enter Tryz.func171,Tryz.ntmps171;go_wp2_with fail;refine ea (S:=(fun w':World=>w'.cell? ⟨sb,13,none⟩=some (.int .u32 c.A))) aA bh (fun al=>let ⟨_,_,ak⟩:=al.out.op.row;(ak.cell 13).trans rfl) fun w1 al aT hHeld=>?_
 refine ai 0 2 3 4 ?_;refine bv 5 6 ?_;refine aV 1 (fun K hK=>?_)
 ·go_simp;refine(fC.out _ al.out).mono (cu aT fun w2 aL bk=>?_);obtain⟨u2,bI,av⟩:=aL.out.op.row;have ap:(fun w':World=>w'.cell? ⟨sb,13,none⟩=some (.int .u32 c.A)) w2:=(av.cell 13).trans rfl;clear av bI;refine kH hK ap fun hHeld=>?_
  clear hK K;refine aX 7 ?_;refine aY ?_;clear hHeld ap;go_wp2_with fail;refine(fT sb mb lb ty o _ _ _ 3 _ aL.out).mono (fz bk fun w3 rv3 aZ bx=>?_);go_wp2_with fail
  go_end0
  exact⟨_,rfl,aZ.out,bx.out⟩
theorem t6 (w:World) (h:St w sb mb lb ty o c rv l) (ae:c.ph=1) (hs:1≤c.sl) (hg:¬ (c.rdm l 1%(2*(c.sl:Int))=c.A)) (hj:c.base+1<l.length):Calls Tryz.prog 171 #[.pointer (some ⟨sb,0,none⟩)] w (Did sb mb lb ty o w rv (c.go 2) l (.tuple #[])):=by
 obtain⟨aA,bh,am,HF,cL,ct,dn,cQ⟩:=h.start;clear am h;have bP:=hid ae;clear ae;obtain⟨u0,bC,ak⟩:=aA.out.op.row;have c10_0:=ak.ph 10 1 bP;clear ak bC;have aj:=ct.out;have bN:=HF.out.sl1;have eV:=hid fun W=>dq o (by omega) (by omega) W
 have hM:2*o.s=2*(c.sl:Int):=by rw[aj]
 rw[hM] at eV;have fC:=hid fun W (h:St W sb mb lb ty o c rv l)=>eP sb mb lb ty o c rv l 1 1 W h rfl hs hj
 obtain⟨M,fF⟩:∃ x,2*(c.sl:Int)=x:=⟨_,rfl⟩;rw[fF] at eV fC hg;try rw[fF]
 have rL:2≤M:=by omega
 have rM:M≤32:=by omega
 clear hM aj bN;unfold af at eV;obtain⟨z,aP⟩:∃ x,c.rdm l 1%M=x:=⟨_,rfl⟩;have eJ:0≤z:=by rw[← aP];exact Int.emod_nonneg _ (by omega)
 have d8:z<M:=by rw[← aP];exact Int.emod_lt_of_pos _ (by omega)
 rw[aP] at fC;try rw[aP]
 have lO:=hid aP;clear aP hj;rw[lO.out] at hg;have hd:(z==c.A)=false:=by simpa using hg
 clear hg fF hs;go_enter Tryz.func171,Tryz.ntmps171;go_wp2_with fail;refine ea (S:=(fun w':World=>w'.cell? ⟨sb,13,none⟩=some (.int .u32 c.A))) aA bh (fun al=>let ⟨_,_,ak⟩:=al.out.op.row;(ak.cell 13).trans rfl) fun w1 al aT hHeld=>?_
 refine ai 0 2 3 4 ?_;refine bv 5 6 ?_;refine aV 1 (fun K hK=>?_)
 ·go_simp;refine(fC.out _ al.out).mono (cu aT fun w2 aL bk=>?_);obtain⟨u2,bI,av⟩:=aL.out.op.row;have ap:(fun w':World=>w'.cell? ⟨sb,13,none⟩=some (.int .u32 c.A)) w2:=(av.cell 13).trans rfl;clear av bI;refine kH hK ap fun hHeld=>?_
  clear hK K;refine aX 7 ?_;refine aY ?_;clear hHeld ap;go_wp2_with fail;refine(dy sb mb lb ty o _ _ _ 2 2 _ aL.out rfl).mono (cu bk fun w3 aZ bx=>?_);go_wp2_with fail
  go_end0
  exact⟨_,rfl,aZ.out,bx.out⟩
theorem Dr (w:World) (h:St w sb mb lb ty o c rv l) (ae:c.ph=2) (hs:1≤c.sl) (dP:c.wr=true→c.i<c.rc.length) (di:c.rc.length≤1000000) (fy:c.i<1000) (hj:c.base+(2+(c.A%c.sl).toNat*c.wd+c.i)<l.length) (fL:2+(c.A%c.sl).toNat*c.wd≤1000000):Calls Tryz.prog 171 #[.pointer (some ⟨sb,0,none⟩)] w (Did sb mb lb ty o w rv (c.word l (2+(c.A%c.sl).toNat*c.wd) (·.go 3)).1 (c.word l (2+(c.A%c.sl).toNat*c.wd) (·.go 3)).2 (.tuple #[])):=by
 obtain⟨aA,bh,am,HF,cL,ct,dn,cQ⟩:=h.start;clear am h;have bP:=hid ae;clear ae;obtain⟨u0,bC,ak⟩:=aA.out.op.row;have c10_0:=ak.ph 10 2 bP;clear ak bC;have aj:=ct.out;have bN:=HF.out.sl1;have g9:=HF.out.wd1;have ay:=cL.out;have fV:=hid fun W=>nR o c.A (by omega) (by omega) (by omega) (by omega) HF.out.A0 HF.out.A1 W
 have hq:2+(c.A%o.s)*o.wd=((2+(c.A%c.sl).toNat*c.wd:Nat):Int):=by
  have:=Int.emod_nonneg c.A (show(c.sl:Int)≠0 by omega);rw[Int.natCast_add,Int.natCast_mul,Int.toNat_of_nonneg this,aj,ay];rfl
 rw[hq] at fV;clear aj bN g9 ay hq hs;unfold af at fV;obtain⟨FR,kY⟩:∃ x,2+(c.A%c.sl).toNat*c.wd=x:=⟨_,rfl⟩;rw[kY] at fV hj fL ⊢;clear kY;have fc:=hid fun W (rv:Value) (h:St W sb mb lb ty o c rv l)=>fR sb mb lb ty o c rv l (FR) W h dP di fy hj fL
 clear dP di fy hj fL;rw[Kc.word_eq]
 by_cases ao:c.wd≤c.i+1
 ·rw[if_pos ao];have hd:decide ((c.wd:Int)≤(c.i:Int)+1)=true:=decide_eq_true (by omega);rw[hd] at fc;clear ao hd;go_enter Tryz.func171,Tryz.ntmps171;go_wp2_with fail;refine ea (S:=(dI sb o c)) aA bh (fun al=>let ⟨_,_,ak⟩:=al.out.op.row;(by and_intros <;> exact ak.c rfl)) fun w1 al aT hHeld=>?_
  refine ai 0 1 2 3 ?_;refine ai 4 5 6 7 ?_;refine ai 8 9 10 11 ?_;refine aX 12 ?_;refine aV 13 (fun K hK=>?_)
  ·go_simp;refine(fV.out _).mono ?_;rintro ex w2 ⟨rfl,hb⟩;have aL:=hid (al.out.below hb);have bk:=hid (aT.out.trans (Mv.below hb _));clear hb;obtain⟨u2,bI,av⟩:=aL.out.op.row;have ap:(dI sb o c) w2:=(by and_intros <;> exact av.c rfl);clear av bI;refine kH hK ap fun hHeld=>?_
   clear hK K;refine aV 14 (fun K hK=>?_)
   ·go_simp;refine(fc.out _ _ aL.out).mono (fz bk fun w3 rv3 aZ bx=>?_);obtain⟨u3,eU,bS⟩:=aZ.out.op.row;have aN:(dI sb o c) w3:=(by and_intros <;> exact bS.c rfl);clear bS eU;refine kH hK aN fun hHeld=>?_
    clear hK K;refine aY ?_;clear hHeld aN;go_wp2_with fail;refine(dy sb mb lb ty o _ _ _ 3 3 _ aZ.out rfl).mono (cu bx fun w4 db eF=>?_);go_wp2_with fail
    go_end0
    exact⟨_,rfl,db.out,eF.out⟩
 ·rw[if_neg ao];have hd:decide ((c.wd:Int)≤(c.i:Int)+1)=false:=decide_eq_false (by omega);rw[hd] at fc;clear ao hd;go_enter Tryz.func171,Tryz.ntmps171;go_wp2_with fail;refine ea (S:=(dI sb o c)) aA bh (fun al=>let ⟨_,_,ak⟩:=al.out.op.row;(by and_intros <;> exact ak.c rfl)) fun w1 al aT hHeld=>?_
  refine ai 0 1 2 3 ?_;refine ai 4 5 6 7 ?_;refine ai 8 9 10 11 ?_;refine aX 12 ?_;refine aV 13 (fun K hK=>?_)
  ·go_simp;refine(fV.out _).mono ?_;rintro ex w2 ⟨rfl,hb⟩;have aL:=hid (al.out.below hb);have bk:=hid (aT.out.trans (Mv.below hb _));clear hb;obtain⟨u2,bI,av⟩:=aL.out.op.row;have ap:(dI sb o c) w2:=(by and_intros <;> exact av.c rfl);clear av bI;refine kH hK ap fun hHeld=>?_
   clear hK K;refine aV 14 (fun K hK=>?_)
   ·go_simp;refine(fc.out _ _ aL.out).mono (fz bk fun w3 rv3 aZ bx=>?_);obtain⟨u3,eU,bS⟩:=aZ.out.op.row;have aN:(dI sb o c) w3:=(by and_intros <;> exact bS.c rfl);clear bS eU;refine kH hK aN fun hHeld=>?_
    clear hK K;refine aY ?_;clear hHeld aN;go_wp2_with fail
    go_end0
    exact⟨_,rfl,aZ.out,bx.out⟩
theorem Ds (w:World) (h:St w sb mb lb ty o c rv l) (ae:c.ph=3) (hs:1≤c.sl) (hA:c.A<2*(c.sl:Int)) (hj:c.base+0<l.length):Calls Tryz.prog 171 #[.pointer (some ⟨sb,0,none⟩)] w (Did sb mb lb ty o w rv (c.fin 0) (c.wrm l 0 (Kc.inc c.A (2*(c.sl:Int)))) (.tuple #[])):=by
 obtain⟨aA,bh,am,HF,cL,ct,dn,cQ⟩:=h.start;clear am h;have bP:=hid ae;clear ae;obtain⟨u0,bC,ak⟩:=aA.out.op.row;have c10_0:=ak.ph 10 3 bP;clear ak bC;have yA:=hid (nS sb mb lb ty o c rv l 0 0 w aA.out rfl hs hA hj);obtain⟨L1,iZ⟩:∃ x,c.wrm l 0 (Kc.inc c.A (2*(c.sl:Int)))=x:=⟨_,rfl⟩;rw[iZ] at yA ⊢;clear iZ hs hA hj;go_enter Tryz.func171,Tryz.ntmps171;go_wp2_with fail;refine yA.out.mono (cu bh fun w1 al aT=>?_);go_wp2_with fail;refine(fT sb mb lb ty o _ _ _ 0 _ al.out).mono (fz aT fun w2 rv2 aL bk=>?_);go_wp2_with fail
 go_end0
 exact⟨_,rfl,aL.out,bk.out⟩
end
end Go.Proofs.YtabfcjohdgjkoaaGreatDoor
