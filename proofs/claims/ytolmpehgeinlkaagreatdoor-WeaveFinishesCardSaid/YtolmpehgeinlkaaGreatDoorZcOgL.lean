/- The kind fifo: each step of a put, and of a take. -/
import Derived.Test.YtolmpehgeinlkaaGreatDoorZcOgK
namespace Go.Proofs.YtolmpehgeinlkaaGreatDoor
open Go.RowKit
open Go.Lib (hid)
attribute [local go_sem] Oper.semAt_some
set_option maxHeartbeats 1000000
set_option maxRecDepth 100000
abbrev yU (a0:Nat) (a1:Ob) (w':World):Prop:=w'.cell? ⟨a0,0,none⟩=some (.int .i64 a1.k)∧w'.cell? ⟨a0,1,none⟩=some (.int .i64 a1.wd)∧w'.cell? ⟨a0,2,none⟩=some (.int .i64 a1.s)∧w'.cell? ⟨a0,3,none⟩=some (.int .i64 a1.c)∧w'.cell? ⟨a0,4,none⟩=some (.int .u32 a1.st)∧w'.cell? ⟨a0,5,none⟩=some (.slice a1.I a1.ni a1.ci)∧w'.cell? ⟨a0,6,none⟩=some (.int .i64 a1.wr)∧w'.cell? ⟨a0,7,none⟩=some (.slice a1.R a1.nr a1.cr)
abbrev dx (a0:Nat) (a1:Ob) (a2:Kc) (w':World):Prop:=w'.cell? ⟨a0,0,none⟩=some (.int .i64 a1.k)∧w'.cell? ⟨a0,1,none⟩=some (.int .i64 a1.wd)∧w'.cell? ⟨a0,2,none⟩=some (.int .i64 a1.s)∧w'.cell? ⟨a0,3,none⟩=some (.int .i64 a1.c)∧w'.cell? ⟨a0,4,none⟩=some (.int .u32 a1.st)∧w'.cell? ⟨a0,5,none⟩=some (.slice a1.I a1.ni a1.ci)∧w'.cell? ⟨a0,6,none⟩=some (.int .i64 a1.wr)∧w'.cell? ⟨a0,7,none⟩=some (.slice a1.R a1.nr a1.cr)∧w'.cell? ⟨a0,13,none⟩=some (.int .u32 a2.A)
theorem mP (o:Ob) (a:Int) (h1:1≤o.s) (h2:o.s≤16) (h3:0≤o.wd) (h4:o.wd≤8) (ha:0≤a) (_ha2:a<4294967296) (w:World):Calls Tryz.prog 178 #[.agg (af o),.int .u32 a] w fun e w'=>e=.returned (.int .i64 (2+(a%o.s)*o.wd))∧Below w.heap.size w w':=by
 have hn:=ObX.new w o;have hb:=bt w (.cells (af o) 26);obtain⟨c0,c1,c2,-⟩:=hn.cells;clear c0 hn;have hB:=hid hb.drew;obtain⟨n,aq⟩:∃ n,w.heap.size=n:=⟨_,rfl⟩;rw[aq] at c1 c2 hB;clear hb;have jJ:=Int.emod_nonneg a (show o.s≠0 by omega);have dP:=Int.emod_lt_of_pos a (show 0<o.s by omega);have t0:IntKind.u32.wrap o.s=o.s:=aa (by omega) (by omega);have t1:a.tmod o.s=a%o.s:=Int.tmod_eq_emod_of_nonneg ha;have t2:IntKind.u32.wrap (a%o.s)=a%o.s:=aa jJ (by omega);have t3:IntKind.i64.wrap (a%o.s)=a%o.s:=ac (by omega) (by omega);have m1:=jV (a:=a%o.s) (b:=o.wd) jJ (by omega) h3 (by omega);have t4:IntKind.i64.wrap (a%o.s*o.wd)=a%o.s*o.wd:=ac (by omega) (by omega);have t5:IntKind.i64.wrap (2+a%o.s*o.wd)=2+a%o.s*o.wd:=ac (by omega) (by omega);have s0:(o.s==0)=false:=by simp;omega
 have s1:¬ o.s=0:=by omega
 clear m1 jJ dP ha _ha2;rw[aq];unfold af at *;go_enter Tryz.func178,Tryz.ntmps178;go_wp2_with fail;obtain⟨W1,ys⟩:∃ x,w.alloc (.cells #[.int .i64 o.k,.int .i64 o.wd,.int .i64 o.s,.int .i64 o.c,.int .u32 o.st,.slice o.I o.ni o.ci,.int .i64 o.wr,.slice o.R o.nr o.cr] 26)=x:=⟨_,rfl⟩;rw[ys] at c1 c2 hB ⊢;clear ys;refine dR (S:=(fun w':World=>w'.cell? ⟨n,1,none⟩=some (.int .i64 o.wd)∧w'.cell? ⟨n,2,none⟩=some (.int .i64 o.s))) ⟨c1,c2⟩ fun wd aW hHeld=>?_
 rw[aW] at hB;clear aW;refine ap 0 1 2 3 ?_;refine ap 4 5 6 7 ?_;refine bw 8 9 ?_;refine aF 10 ?_;refine bh ?_;clear hHeld;go_wp2_with fail;go_ret;exact⟨rfl,hB.out⟩
section
variable (sb mb lb:Nat) (ty:TypeId) (o:Ob) (c:Kc) (rv:Value) (l:List Int)
theorem ej (i:Int) (j:Nat) (w:World) (h:St w sb mb lb ty o c rv l) (hi:i=(j:Int)) (hs:1≤c.sl) (hj:c.base+j<l.length):Calls Tryz.prog 177 #[.pointer (some ⟨sb,0,none⟩),.int .i64 i] w (lw sb mb lb ty o w rv c l (.int .u32 (c.rdm l j%(2*(c.sl:Int))))):=by
 obtain⟨aj,ay,ah,HF,bp,aS,bx,bj⟩:=h.start;clear ah h;have hz:=cR hj aj.out.mem.w32;have HR:=hid fun W (h:St W sb mb lb ty o c rv l)=>cX sb mb lb ty o c rv l i j W h (by omega) hj
 obtain⟨z,ao⟩:∃ x,c.rdm l j=x:=⟨_,rfl⟩;rw[ao] at HR hz;try rw[ao]
 have cm:=hid ao;clear ao hj;have dU:=hz.1;have dA:=hz.2;clear hz;have bH:=aS.out;have bZ:=HF.out.sl1;have D9:=fun W=>de o (by omega) (by omega) W
 rw[← bH];obtain⟨M,hM⟩:∃ x,2*o.s=x:=⟨_,rfl⟩;rw[hM] at D9 ⊢;have eD:=hid D9;have eN:0<M:=by omega
 have fV:M<4294967296:=by omega
 have m0:(M==0)=false:=by simp;omega
 have m1:¬ M=0:=by omega
 have t1:z.tmod M=z%M:=Int.tmod_eq_emod_of_nonneg dU;have jJ:=Int.emod_nonneg z m1;have dP:=Int.emod_lt_of_pos z eN;have t2:IntKind.u32.wrap (z%M)=z%M:=aa jJ (by omega);have HI:=hid hi;clear bH bZ D9 hM hs jJ dP hi;unfold af at eD;go_enter Tryz.func177,Tryz.ntmps177;go_wp2_with fail;refine dM (S:=(yU sb o)) aj ay (fun ai=>let ⟨_,_,ag⟩:=ai.out.op.row;(by and_intros <;> exact ag.c rfl)) fun w1 ai au hHeld=>?_
 refine ap 0 1 2 3 ?_;refine ap 5 6 7 8 ?_;refine aF 9 ?_;refine aJ 4 (fun K hK=>?_)
 ·go_simp;refine(HR.out _ ai.out).mono (bF au fun w2 ar aE=>?_);obtain⟨u2,bU,aC⟩:=ar.out.op.row;have aB:(yU sb o) w2:=(by and_intros <;> exact aC.c rfl);clear aC bU;refine kH hK aB fun hHeld=>?_
  clear hK K;refine aJ 10 (fun K hK=>?_)
  ·go_simp;refine(eD.out _).mono ?_;rintro ex w3 ⟨rfl,hb⟩;have aM:=hid (ar.out.below hb);have bf:=hid (aE.out.trans (Mv.below hb _));clear hb;obtain⟨u3,ez,bC⟩:=aM.out.op.row;have aQ:(yU sb o) w3:=(by and_intros <;> exact bC.c rfl);clear bC ez;refine kH hK aQ fun hHeld=>?_
   clear hK K;refine bw 11 12 ?_;refine bh ?_;clear hHeld aQ;go_wp2_with fail;go_ret;exact⟨rfl,aM.out,bf.out⟩
theorem lQ (i:Int) (j:Nat) (w:World) (h:St w sb mb lb ty o c rv l) (hi:i=(j:Int)) (hs:1≤c.sl) (hA:c.A<2*(c.sl:Int)) (hj:c.base+j<l.length):Calls Tryz.prog 179 #[.pointer (some ⟨sb,0,none⟩),.int .i64 i] w (lw sb mb lb ty o w rv c (c.wrm l j (Kc.inc c.A (2*(c.sl:Int)))) (.tuple #[])):=by
 obtain⟨aj,ay,ah,HF,bp,aS,bx,bj⟩:=h.start;clear ah h;have bH:=aS.out;have bZ:=HF.out.sl1;have eD:=hid fun W=>de o (by omega) (by omega) W
 have hM:2*o.s=2*(c.sl:Int):=by rw[bH]
 rw[hM] at eD;have CS:=HF.out.A0;obtain⟨M,fd⟩:∃ x,2*(c.sl:Int)=x:=⟨_,rfl⟩;rw[fd] at eD hA;try rw[fd]
 have eN:2≤M:=by omega
 have fV:M≤32:=by omega
 clear hM bH bZ;unfold af at eD;have ri:=hid fun W=>xR c.A M W CS hA eN (by omega)
 have hZ:0≤Kc.inc c.A M∧Kc.inc c.A M<4294967296:=by unfold Kc.inc;split <;> omega
 have HW:=hid fun W (h:St W sb mb lb ty o c rv l)=>dN sb mb lb ty o c rv l i j (Kc.inc c.A M) W h hi hj hZ
 obtain⟨Z,ua⟩:∃ x,Kc.inc c.A M=x:=⟨_,rfl⟩;rw[ua] at ri HW ⊢;clear hZ ua fd hs hi hj hA CS;go_enter Tryz.func179,Tryz.ntmps179;go_wp2_with fail;refine dM (S:=(dx sb o c)) aj ay (fun ai=>let ⟨_,_,ag⟩:=ai.out.op.row;(by and_intros <;> exact ag.c rfl)) fun w1 ai au hHeld=>?_
 refine ap 0 1 2 3 ?_;refine ap 4 5 6 7 ?_;refine ap 8 9 10 11 ?_;refine bw 12 13 ?_;refine aJ 14 (fun K hK=>?_)
 ·go_simp;refine(eD.out _).mono ?_;rintro ex w2 ⟨rfl,hb⟩;have ar:=hid (ai.out.below hb);have aE:=hid (au.out.trans (Mv.below hb _));clear hb;obtain⟨u2,bU,aC⟩:=ar.out.op.row;have aB:(dx sb o c) w2:=(by and_intros <;> exact aC.c rfl);clear aC bU;refine kH hK aB fun hHeld=>?_
  clear hK K;refine aJ 15 (fun K hK=>?_)
  ·go_simp;refine(ri.out _).mono ?_;rintro ex w3 ⟨rfl,hb⟩;have aM:=hid (ar.out.below hb);have bf:=hid (aE.out.trans (Mv.below hb _));clear hb;obtain⟨u3,ez,bC⟩:=aM.out.op.row;have aQ:(dx sb o c) w3:=(by and_intros <;> exact bC.c rfl);clear bC ez;refine kH hK aQ fun hHeld=>?_
   clear hK K;refine aJ 16 (fun K hK=>?_)
   ·go_simp;refine(HW.out _ aM.out).mono (bF bf fun w4 cq dd=>?_);obtain⟨u4,mC,dZ⟩:=cq.out.op.row;have ed:(dx sb o c) w4:=(by and_intros <;> exact dZ.c rfl);clear dZ mC;refine kH hK ed fun hHeld=>?_
    clear hK K;refine bh ?_;clear hHeld ed
    go_end0
    exact⟨rfl,cq.out,dd.out⟩
theorem BR (w:World) (h:St w sb mb lb ty o c rv l) (ae:c.ph=0) (hs:1≤c.sl) (hj:c.base+1<l.length):Calls Tryz.prog 149 #[.pointer (some ⟨sb,0,none⟩)] w (Did sb mb lb ty o w rv (({ c with A:=c.rdm l 1%(2*(c.sl:Int)) }:Kc).go 1) l (.tuple #[])):=by
 obtain⟨aj,ay,ah,HF,bp,aS,bx,bj⟩:=h.start;clear ah h;have aI:=hid ae;clear ae;obtain⟨u0,bN,ag⟩:=aj.out.op.row;have c10_0:=ag.ph 10 0 aI;clear ag bN;have bH:=aS.out;have bZ:=HF.out.sl1;have eD:=hid fun W=>de o (by omega) (by omega) W
 have hM:2*o.s=2*(c.sl:Int):=by rw[bH]
 rw[hM] at eD;have el:=hid fun W (h:St W sb mb lb ty o c rv l)=>ej sb mb lb ty o c rv l 1 1 W h rfl hs hj
 obtain⟨M,fd⟩:∃ x,2*(c.sl:Int)=x:=⟨_,rfl⟩;rw[fd] at eD el;try rw[fd]
 have eN:2≤M:=by omega
 have fV:M≤32:=by omega
 clear hM bH bZ;unfold af at eD;obtain⟨z,ao⟩:∃ x,c.rdm l 1%M=x:=⟨_,rfl⟩;have dU:0≤z:=by rw[← ao];exact Int.emod_nonneg _ (by omega)
 have dA:z<M:=by rw[← ao];exact Int.emod_lt_of_pos _ (by omega)
 rw[ao] at el;try rw[ao]
 have kh:=hid ao;clear ao hj;clear fd hs;go_enter Tryz.func149,Tryz.ntmps149;go_wp2_with fail;refine(el.out _ aj.out).mono (bF ay fun w1 ai au=>?_);obtain⟨u1,gS,bi⟩:=ai.out.op.row;have c13_1:=bi.at 13 (.int .u32 c.A);have f13_1:=bi.frozen 13;clear bi gS;go_wp2_with fail;obtain⟨ar,aE⟩:=fW (ai.out.setA (z) ⟨dU,by omega⟩) au;go_wp2_with fail;refine(dh sb mb lb ty o _ _ _ 1 1 _ ar.out rfl).mono (bF aE fun w3 aM bf=>?_);go_wp2_with fail
 go_end0
 exact⟨_,rfl,aM.out,bf.out⟩
theorem py (w:World) (h:St w sb mb lb ty o c rv l) (ae:c.ph=1) (hs:1≤c.sl) (hA:c.A<2*(c.sl:Int)) (hg:Kc.gap (c.rdm l 0%(2*(c.sl:Int))) c.A (2*(c.sl:Int))≥(c.sl:Int)) (hj:c.base+0<l.length):Calls Tryz.prog 149 #[.pointer (some ⟨sb,0,none⟩)] w (Did sb mb lb ty o w rv (c.fin 2) l (.tuple #[])):=by
 obtain⟨aj,ay,ah,HF,bp,aS,bx,bj⟩:=h.start;clear ah h;have aI:=hid ae;clear ae;obtain⟨u0,bN,ag⟩:=aj.out.op.row;have c10_0:=ag.ph 10 1 aI;clear ag bN;have pH:o.s=(c.sl:Int):=aS.out;have oT:=HF.out.sl1;have bH:=aS.out;have bZ:=HF.out.sl1;have eD:=hid fun W=>de o (by omega) (by omega) W
 have hM:2*o.s=2*(c.sl:Int):=by rw[bH]
 rw[hM] at eD;have el:=hid fun W (h:St W sb mb lb ty o c rv l)=>ej sb mb lb ty o c rv l 0 0 W h rfl hs hj
 obtain⟨M,fd⟩:∃ x,2*(c.sl:Int)=x:=⟨_,rfl⟩;rw[fd] at eD el hg hA;try rw[fd]
 have eN:2≤M:=by omega
 have fV:M≤32:=by omega
 clear hM bH bZ;unfold af at eD;obtain⟨z,ao⟩:∃ x,c.rdm l 0%M=x:=⟨_,rfl⟩;have dU:0≤z:=by rw[← ao];exact Int.emod_nonneg _ (by omega)
 have dA:z<M:=by rw[← ao];exact Int.emod_lt_of_pos _ (by omega)
 rw[ao] at el;try rw[ao]
 have kh:=hid ao;clear ao hj;rw[kh.out] at hg;have mZ:=hid fun W=>rP z c.A M W dU dA HF.out.A0 hA (by omega)
 have hG:0≤Kc.gap z c.A M∧Kc.gap z c.A M<4294967296:=by have:=HF.out.A0;unfold Kc.gap;split <;> omega
 obtain⟨G,qh⟩:∃ x,Kc.gap z c.A M=x:=⟨_,rfl⟩;rw[qh] at mZ hG hg;have Hz:=hG.1;have pR:=hG.2;have e1:IntKind.u32.wrap o.s=o.s:=aa (by omega) (by omega);have d1:decide (o.s≤G)=true:=decide_eq_true (by omega);clear hG qh fd hs oT pH hA hg;go_enter Tryz.func149,Tryz.ntmps149;go_wp2_with fail;refine dM (S:=(dx sb o c)) aj ay (fun ai=>let ⟨_,_,ag⟩:=ai.out.op.row;(by and_intros <;> exact ag.c rfl)) fun w1 ai au hHeld=>?_
 refine ap 0 2 3 4 ?_;refine ap 5 6 7 8 ?_;refine ap 9 10 11 14 ?_;refine ap 15 16 17 18 ?_;refine bw 19 20 ?_;refine aJ 1 (fun K hK=>?_)
 ·go_simp;refine(el.out _ ai.out).mono (bF au fun w2 ar aE=>?_);obtain⟨u2,bU,aC⟩:=ar.out.op.row;have aB:(dx sb o c) w2:=(by and_intros <;> exact aC.c rfl);clear aC bU;refine kH hK aB fun hHeld=>?_
  clear hK K;refine aJ 12 (fun K hK=>?_)
  ·go_simp;refine(eD.out _).mono ?_;rintro ex w3 ⟨rfl,hb⟩;have aM:=hid (ar.out.below hb);have bf:=hid (aE.out.trans (Mv.below hb _));clear hb;obtain⟨u3,ez,bC⟩:=aM.out.op.row;have aQ:(dx sb o c) w3:=(by and_intros <;> exact bC.c rfl);clear bC ez;refine kH hK aQ fun hHeld=>?_
   clear hK K;refine aJ 13 (fun K hK=>?_)
   ·go_simp;refine(mZ.out _).mono ?_;rintro ex w4 ⟨rfl,hb⟩;have cq:=hid (aM.out.below hb);have dd:=hid (bf.out.trans (Mv.below hb _));clear hb;obtain⟨u4,mC,dZ⟩:=cq.out.op.row;have ed:(dx sb o c) w4:=(by and_intros <;> exact dZ.c rfl);clear dZ mC;refine kH hK ed fun hHeld=>?_
    clear hK K;refine aF 21 ?_;refine bh ?_;clear hHeld ed;go_wp2_with fail;refine(fz sb mb lb ty o _ _ _ 2 _ cq.out).mono (cS dd fun w5 rv5 dV fS=>?_);go_wp2_with fail
    go_end0
    exact⟨_,rfl,dV.out,fS.out⟩
theorem tL (w:World) (h:St w sb mb lb ty o c rv l) (ae:c.ph=1) (hs:1≤c.sl) (hA:c.A<2*(c.sl:Int)) (hg:¬ (Kc.gap (c.rdm l 0%(2*(c.sl:Int))) c.A (2*(c.sl:Int))≥(c.sl:Int))) (hj:c.base+0<l.length):Calls Tryz.prog 149 #[.pointer (some ⟨sb,0,none⟩)] w (Did sb mb lb ty o w rv (c.go 2) l (.tuple #[])):=by
 obtain⟨aj,ay,ah,HF,bp,aS,bx,bj⟩:=h.start;clear ah h;have aI:=hid ae;clear ae;obtain⟨u0,bN,ag⟩:=aj.out.op.row;have c10_0:=ag.ph 10 1 aI;clear ag bN;have pH:o.s=(c.sl:Int):=aS.out;have oT:=HF.out.sl1;have bH:=aS.out;have bZ:=HF.out.sl1;have eD:=hid fun W=>de o (by omega) (by omega) W
 have hM:2*o.s=2*(c.sl:Int):=by rw[bH]
 rw[hM] at eD;have el:=hid fun W (h:St W sb mb lb ty o c rv l)=>ej sb mb lb ty o c rv l 0 0 W h rfl hs hj
 obtain⟨M,fd⟩:∃ x,2*(c.sl:Int)=x:=⟨_,rfl⟩;rw[fd] at eD el hg hA;try rw[fd]
 have eN:2≤M:=by omega
 have fV:M≤32:=by omega
 clear hM bH bZ;unfold af at eD;obtain⟨z,ao⟩:∃ x,c.rdm l 0%M=x:=⟨_,rfl⟩;have dU:0≤z:=by rw[← ao];exact Int.emod_nonneg _ (by omega)
 have dA:z<M:=by rw[← ao];exact Int.emod_lt_of_pos _ (by omega)
 rw[ao] at el;try rw[ao]
 have kh:=hid ao;clear ao hj;rw[kh.out] at hg;have mZ:=hid fun W=>rP z c.A M W dU dA HF.out.A0 hA (by omega)
 have hG:0≤Kc.gap z c.A M∧Kc.gap z c.A M<4294967296:=by have:=HF.out.A0;unfold Kc.gap;split <;> omega
 obtain⟨G,qh⟩:∃ x,Kc.gap z c.A M=x:=⟨_,rfl⟩;rw[qh] at mZ hG hg;have Hz:=hG.1;have pR:=hG.2;have e1:IntKind.u32.wrap o.s=o.s:=aa (by omega) (by omega);have d1:decide (o.s≤G)=false:=decide_eq_false (by omega);clear hG qh fd hs oT pH hA hg;go_enter Tryz.func149,Tryz.ntmps149;go_wp2_with fail;refine dM (S:=(dx sb o c)) aj ay (fun ai=>let ⟨_,_,ag⟩:=ai.out.op.row;(by and_intros <;> exact ag.c rfl)) fun w1 ai au hHeld=>?_
 refine ap 0 2 3 4 ?_;refine ap 5 6 7 8 ?_;refine ap 9 10 11 14 ?_;refine ap 15 16 17 18 ?_;refine bw 19 20 ?_;refine aJ 1 (fun K hK=>?_)
 ·go_simp;refine(el.out _ ai.out).mono (bF au fun w2 ar aE=>?_);obtain⟨u2,bU,aC⟩:=ar.out.op.row;have aB:(dx sb o c) w2:=(by and_intros <;> exact aC.c rfl);clear aC bU;refine kH hK aB fun hHeld=>?_
  clear hK K;refine aJ 12 (fun K hK=>?_)
  ·go_simp;refine(eD.out _).mono ?_;rintro ex w3 ⟨rfl,hb⟩;have aM:=hid (ar.out.below hb);have bf:=hid (aE.out.trans (Mv.below hb _));clear hb;obtain⟨u3,ez,bC⟩:=aM.out.op.row;have aQ:(dx sb o c) w3:=(by and_intros <;> exact bC.c rfl);clear bC ez;refine kH hK aQ fun hHeld=>?_
   clear hK K;refine aJ 13 (fun K hK=>?_)
   ·go_simp;refine(mZ.out _).mono ?_;rintro ex w4 ⟨rfl,hb⟩;have cq:=hid (aM.out.below hb);have dd:=hid (bf.out.trans (Mv.below hb _));clear hb;obtain⟨u4,mC,dZ⟩:=cq.out.op.row;have ed:(dx sb o c) w4:=(by and_intros <;> exact dZ.c rfl);clear dZ mC;refine kH hK ed fun hHeld=>?_
    clear hK K;refine aF 21 ?_;refine bh ?_;clear hHeld ed;go_wp2_with fail;refine(dh sb mb lb ty o _ _ _ 2 2 _ cq.out rfl).mono (bF dd fun w5 dV fS=>?_);go_wp2_with fail
    go_end0
    exact⟨_,rfl,dV.out,fS.out⟩
theorem Bv (w:World) (h:St w sb mb lb ty o c rv l) (ae:c.ph=2) (hs:1≤c.sl) (bM:c.wr=true→c.i<c.rc.length) (cJ:c.rc.length≤1000000) (dD:c.i<1000) (hj:c.base+(2+(c.A%c.sl).toNat*c.wd+c.i)<l.length) (fj:2+(c.A%c.sl).toNat*c.wd≤1000000):Calls Tryz.prog 149 #[.pointer (some ⟨sb,0,none⟩)] w (Did sb mb lb ty o w rv (c.word l (2+(c.A%c.sl).toNat*c.wd) (·.go 3)).1 (c.word l (2+(c.A%c.sl).toNat*c.wd) (·.go 3)).2 (.tuple #[])):=by
 obtain⟨aj,ay,ah,HF,bp,aS,bx,bj⟩:=h.start;clear ah h;have aI:=hid ae;clear ae;obtain⟨u0,bN,ag⟩:=aj.out.op.row;have c10_0:=ag.ph 10 2 aI;clear ag bN;have bH:=aS.out;have bZ:=HF.out.sl1;have dy:=HF.out.wd1;have lr:=bp.out;have fM:=hid fun W=>mP o c.A (by omega) (by omega) (by omega) (by omega) HF.out.A0 HF.out.A1 W
 have hq:2+(c.A%o.s)*o.wd=((2+(c.A%c.sl).toNat*c.wd:Nat):Int):=by
  have:=Int.emod_nonneg c.A (show(c.sl:Int)≠0 by omega);rw[Int.natCast_add,Int.natCast_mul,Int.toNat_of_nonneg this,bH,lr];rfl
 rw[hq] at fM;clear bH bZ dy lr hq hs;unfold af at fM;obtain⟨FR,jY⟩:∃ x,2+(c.A%c.sl).toNat*c.wd=x:=⟨_,rfl⟩;rw[jY] at fM hj fj ⊢;clear jY;have eG:=hid fun W (rv:Value) (h:St W sb mb lb ty o c rv l)=>fr sb mb lb ty o c rv l (FR) W h bM cJ dD hj fj
 clear bM cJ dD hj fj;rw[Kc.word_eq]
 by_cases ak:c.wd≤c.i+1
 ·rw[if_pos ak];have hd:decide ((c.wd:Int)≤(c.i:Int)+1)=true:=decide_eq_true (by omega);rw[hd] at eG;clear ak hd;go_enter Tryz.func149,Tryz.ntmps149;go_wp2_with fail;refine dM (S:=(dx sb o c)) aj ay (fun ai=>let ⟨_,_,ag⟩:=ai.out.op.row;(by and_intros <;> exact ag.c rfl)) fun w1 ai au hHeld=>?_
  refine ap 0 1 2 3 ?_;refine ap 4 5 6 7 ?_;refine ap 8 9 10 11 ?_;refine aF 12 ?_;refine aJ 13 (fun K hK=>?_)
  ·go_simp;refine(fM.out _).mono ?_;rintro ex w2 ⟨rfl,hb⟩;have ar:=hid (ai.out.below hb);have aE:=hid (au.out.trans (Mv.below hb _));clear hb;obtain⟨u2,bU,aC⟩:=ar.out.op.row;have aB:(dx sb o c) w2:=(by and_intros <;> exact aC.c rfl);clear aC bU;refine kH hK aB fun hHeld=>?_
   clear hK K;refine aJ 14 (fun K hK=>?_)
   ·go_simp;refine(eG.out _ _ ar.out).mono (cS aE fun w3 rv3 aM bf=>?_);obtain⟨u3,ez,bC⟩:=aM.out.op.row;have aQ:(dx sb o c) w3:=(by and_intros <;> exact bC.c rfl);clear bC ez;refine kH hK aQ fun hHeld=>?_
    clear hK K;refine bh ?_;clear hHeld aQ;go_wp2_with fail;refine(dh sb mb lb ty o _ _ _ 3 3 _ aM.out rfl).mono (bF bf fun w4 cq dd=>?_);go_wp2_with fail
    go_end0
    exact⟨_,rfl,cq.out,dd.out⟩
 ·rw[if_neg ak];have hd:decide ((c.wd:Int)≤(c.i:Int)+1)=false:=decide_eq_false (by omega);rw[hd] at eG;clear ak hd;go_enter Tryz.func149,Tryz.ntmps149;go_wp2_with fail;refine dM (S:=(dx sb o c)) aj ay (fun ai=>let ⟨_,_,ag⟩:=ai.out.op.row;(by and_intros <;> exact ag.c rfl)) fun w1 ai au hHeld=>?_
  refine ap 0 1 2 3 ?_;refine ap 4 5 6 7 ?_;refine ap 8 9 10 11 ?_;refine aF 12 ?_;refine aJ 13 (fun K hK=>?_)
  ·go_simp;refine(fM.out _).mono ?_;rintro ex w2 ⟨rfl,hb⟩;have ar:=hid (ai.out.below hb);have aE:=hid (au.out.trans (Mv.below hb _));clear hb;obtain⟨u2,bU,aC⟩:=ar.out.op.row;have aB:(dx sb o c) w2:=(by and_intros <;> exact aC.c rfl);clear aC bU;refine kH hK aB fun hHeld=>?_
   clear hK K;refine aJ 14 (fun K hK=>?_)
   ·go_simp;refine(eG.out _ _ ar.out).mono (cS aE fun w3 rv3 aM bf=>?_);obtain⟨u3,ez,bC⟩:=aM.out.op.row;have aQ:(dx sb o c) w3:=(by and_intros <;> exact bC.c rfl);clear bC ez;refine kH hK aQ fun hHeld=>?_
    clear hK K;refine bh ?_;clear hHeld aQ;go_wp2_with fail
    go_end0
    exact⟨_,rfl,aM.out,bf.out⟩
theorem AV (w:World) (h:St w sb mb lb ty o c rv l) (ae:c.ph=3) (hs:1≤c.sl) (hA:c.A<2*(c.sl:Int)) (hj:c.base+1<l.length):Calls Tryz.prog 149 #[.pointer (some ⟨sb,0,none⟩)] w (Did sb mb lb ty o w rv (c.fin 0) (c.wrm l 1 (Kc.inc c.A (2*(c.sl:Int)))) (.tuple #[])):=by
 obtain⟨aj,ay,ah,HF,bp,aS,bx,bj⟩:=h.start;clear ah h;have aI:=hid ae;clear ae;obtain⟨u0,bN,ag⟩:=aj.out.op.row;have c10_0:=ag.ph 10 3 aI;clear ag bN;have Gq:=hid (lQ sb mb lb ty o c rv l 1 1 w aj.out rfl hs hA hj);obtain⟨L1,ii⟩:∃ x,c.wrm l 1 (Kc.inc c.A (2*(c.sl:Int)))=x:=⟨_,rfl⟩;rw[ii] at Gq ⊢;clear ii hs hA hj;go_enter Tryz.func149,Tryz.ntmps149;go_wp2_with fail;refine Gq.out.mono (bF ay fun w1 ai au=>?_);go_wp2_with fail;refine(fz sb mb lb ty o _ _ _ 0 _ ai.out).mono (cS au fun w2 rv2 ar aE=>?_);go_wp2_with fail
 go_end0
 exact⟨_,rfl,ar.out,aE.out⟩
theorem Bf (w:World) (h:St w sb mb lb ty o c rv l) (ae:c.ph=0) (hs:1≤c.sl) (hj:c.base+0<l.length):Calls Tryz.prog 150 #[.pointer (some ⟨sb,0,none⟩)] w (Did sb mb lb ty o w rv (({ c with A:=c.rdm l 0%(2*(c.sl:Int)) }:Kc).go 1) l (.tuple #[])):=by
 obtain⟨aj,ay,ah,HF,bp,aS,bx,bj⟩:=h.start;clear ah h;have aI:=hid ae;clear ae;obtain⟨u0,bN,ag⟩:=aj.out.op.row;have c10_0:=ag.ph 10 0 aI;clear ag bN;have bH:=aS.out;have bZ:=HF.out.sl1;have eD:=hid fun W=>de o (by omega) (by omega) W
 have hM:2*o.s=2*(c.sl:Int):=by rw[bH]
 rw[hM] at eD;have el:=hid fun W (h:St W sb mb lb ty o c rv l)=>ej sb mb lb ty o c rv l 0 0 W h rfl hs hj
 obtain⟨M,fd⟩:∃ x,2*(c.sl:Int)=x:=⟨_,rfl⟩;rw[fd] at eD el;try rw[fd]
 have eN:2≤M:=by omega
 have fV:M≤32:=by omega
 clear hM bH bZ;unfold af at eD;obtain⟨z,ao⟩:∃ x,c.rdm l 0%M=x:=⟨_,rfl⟩;have dU:0≤z:=by rw[← ao];exact Int.emod_nonneg _ (by omega)
 have dA:z<M:=by rw[← ao];exact Int.emod_lt_of_pos _ (by omega)
 rw[ao] at el;try rw[ao]
 have kh:=hid ao;clear ao hj;clear fd hs;go_enter Tryz.func150,Tryz.ntmps150;go_wp2_with fail;refine(el.out _ aj.out).mono (bF ay fun w1 ai au=>?_);obtain⟨u1,gS,bi⟩:=ai.out.op.row;have c13_1:=bi.at 13 (.int .u32 c.A);have f13_1:=bi.frozen 13;clear bi gS;go_wp2_with fail;obtain⟨ar,aE⟩:=fW (ai.out.setA (z) ⟨dU,by omega⟩) au;go_wp2_with fail;refine(dh sb mb lb ty o _ _ _ 1 1 _ ar.out rfl).mono (bF aE fun w3 aM bf=>?_);go_wp2_with fail
 go_end0
 exact⟨_,rfl,aM.out,bf.out⟩
theorem nT (w:World) (h:St w sb mb lb ty o c rv l) (ae:c.ph=1) (hs:1≤c.sl) (hg:c.rdm l 1%(2*(c.sl:Int))=c.A) (hj:c.base+1<l.length):Calls Tryz.prog 150 #[.pointer (some ⟨sb,0,none⟩)] w (Did sb mb lb ty o w rv (c.fin 3) l (.tuple #[])):=by
 obtain⟨aj,ay,ah,HF,bp,aS,bx,bj⟩:=h.start;clear ah h;have aI:=hid ae;clear ae;obtain⟨u0,bN,ag⟩:=aj.out.op.row;have c10_0:=ag.ph 10 1 aI;clear ag bN;have bH:=aS.out;have bZ:=HF.out.sl1;have eD:=hid fun W=>de o (by omega) (by omega) W
 have hM:2*o.s=2*(c.sl:Int):=by rw[bH]
 rw[hM] at eD;have el:=hid fun W (h:St W sb mb lb ty o c rv l)=>ej sb mb lb ty o c rv l 1 1 W h rfl hs hj
 obtain⟨M,fd⟩:∃ x,2*(c.sl:Int)=x:=⟨_,rfl⟩;rw[fd] at eD el hg;try rw[fd]
 have eN:2≤M:=by omega
 have fV:M≤32:=by omega
 clear hM bH bZ;unfold af at eD;obtain⟨z,ao⟩:∃ x,c.rdm l 1%M=x:=⟨_,rfl⟩;have dU:0≤z:=by rw[← ao];exact Int.emod_nonneg _ (by omega)
 have dA:z<M:=by rw[← ao];exact Int.emod_lt_of_pos _ (by omega)
 rw[ao] at el;try rw[ao]
 have kh:=hid ao;clear ao hj;rw[kh.out] at hg;have hd:(z==c.A)=true:=by simpa using hg
 clear hg fd hs;go_enter Tryz.func150,Tryz.ntmps150;go_wp2_with fail;refine dM (S:=(fun w':World=>w'.cell? ⟨sb,13,none⟩=some (.int .u32 c.A))) aj ay (fun ai=>let ⟨_,_,ag⟩:=ai.out.op.row;(ag.cell 13).trans rfl) fun w1 ai au hHeld=>?_
 refine ap 0 2 3 4 ?_;refine bw 5 6 ?_;refine aJ 1 (fun K hK=>?_)
 ·go_simp;refine(el.out _ ai.out).mono (bF au fun w2 ar aE=>?_);obtain⟨u2,bU,aC⟩:=ar.out.op.row;have aB:(fun w':World=>w'.cell? ⟨sb,13,none⟩=some (.int .u32 c.A)) w2:=(aC.cell 13).trans rfl;clear aC bU;refine kH hK aB fun hHeld=>?_
  clear hK K;refine aF 7 ?_;refine bh ?_;clear hHeld aB;go_wp2_with fail;refine(fz sb mb lb ty o _ _ _ 3 _ ar.out).mono (cS aE fun w3 rv3 aM bf=>?_);go_wp2_with fail
  go_end0
  exact⟨_,rfl,aM.out,bf.out⟩
theorem sF (w:World) (h:St w sb mb lb ty o c rv l) (ae:c.ph=1) (hs:1≤c.sl) (hg:¬ (c.rdm l 1%(2*(c.sl:Int))=c.A)) (hj:c.base+1<l.length):Calls Tryz.prog 150 #[.pointer (some ⟨sb,0,none⟩)] w (Did sb mb lb ty o w rv (c.go 2) l (.tuple #[])):=by
 obtain⟨aj,ay,ah,HF,bp,aS,bx,bj⟩:=h.start;clear ah h;have aI:=hid ae;clear ae;obtain⟨u0,bN,ag⟩:=aj.out.op.row;have c10_0:=ag.ph 10 1 aI;clear ag bN;have bH:=aS.out;have bZ:=HF.out.sl1;have eD:=hid fun W=>de o (by omega) (by omega) W
 have hM:2*o.s=2*(c.sl:Int):=by rw[bH]
 rw[hM] at eD;have el:=hid fun W (h:St W sb mb lb ty o c rv l)=>ej sb mb lb ty o c rv l 1 1 W h rfl hs hj
 obtain⟨M,fd⟩:∃ x,2*(c.sl:Int)=x:=⟨_,rfl⟩;rw[fd] at eD el hg;try rw[fd]
 have eN:2≤M:=by omega
 have fV:M≤32:=by omega
 clear hM bH bZ;unfold af at eD;obtain⟨z,ao⟩:∃ x,c.rdm l 1%M=x:=⟨_,rfl⟩;have dU:0≤z:=by rw[← ao];exact Int.emod_nonneg _ (by omega)
 have dA:z<M:=by rw[← ao];exact Int.emod_lt_of_pos _ (by omega)
 rw[ao] at el;try rw[ao]
 have kh:=hid ao;clear ao hj;rw[kh.out] at hg;have hd:(z==c.A)=false:=by simpa using hg
 clear hg fd hs;go_enter Tryz.func150,Tryz.ntmps150;go_wp2_with fail;refine dM (S:=(fun w':World=>w'.cell? ⟨sb,13,none⟩=some (.int .u32 c.A))) aj ay (fun ai=>let ⟨_,_,ag⟩:=ai.out.op.row;(ag.cell 13).trans rfl) fun w1 ai au hHeld=>?_
 refine ap 0 2 3 4 ?_;refine bw 5 6 ?_;refine aJ 1 (fun K hK=>?_)
 ·go_simp;refine(el.out _ ai.out).mono (bF au fun w2 ar aE=>?_);obtain⟨u2,bU,aC⟩:=ar.out.op.row;have aB:(fun w':World=>w'.cell? ⟨sb,13,none⟩=some (.int .u32 c.A)) w2:=(aC.cell 13).trans rfl;clear aC bU;refine kH hK aB fun hHeld=>?_
  clear hK K;refine aF 7 ?_;refine bh ?_;clear hHeld aB;go_wp2_with fail;refine(dh sb mb lb ty o _ _ _ 2 2 _ ar.out rfl).mono (bF aE fun w3 aM bf=>?_);go_wp2_with fail
  go_end0
  exact⟨_,rfl,aM.out,bf.out⟩
theorem Cc (w:World) (h:St w sb mb lb ty o c rv l) (ae:c.ph=2) (hs:1≤c.sl) (bM:c.wr=true→c.i<c.rc.length) (cJ:c.rc.length≤1000000) (dD:c.i<1000) (hj:c.base+(2+(c.A%c.sl).toNat*c.wd+c.i)<l.length) (fj:2+(c.A%c.sl).toNat*c.wd≤1000000):Calls Tryz.prog 150 #[.pointer (some ⟨sb,0,none⟩)] w (Did sb mb lb ty o w rv (c.word l (2+(c.A%c.sl).toNat*c.wd) (·.go 3)).1 (c.word l (2+(c.A%c.sl).toNat*c.wd) (·.go 3)).2 (.tuple #[])):=by
 obtain⟨aj,ay,ah,HF,bp,aS,bx,bj⟩:=h.start;clear ah h;have aI:=hid ae;clear ae;obtain⟨u0,bN,ag⟩:=aj.out.op.row;have c10_0:=ag.ph 10 2 aI;clear ag bN;have bH:=aS.out;have bZ:=HF.out.sl1;have dy:=HF.out.wd1;have lr:=bp.out;have fM:=hid fun W=>mP o c.A (by omega) (by omega) (by omega) (by omega) HF.out.A0 HF.out.A1 W
 have hq:2+(c.A%o.s)*o.wd=((2+(c.A%c.sl).toNat*c.wd:Nat):Int):=by
  have:=Int.emod_nonneg c.A (show(c.sl:Int)≠0 by omega);rw[Int.natCast_add,Int.natCast_mul,Int.toNat_of_nonneg this,bH,lr];rfl
 rw[hq] at fM;clear bH bZ dy lr hq hs;unfold af at fM;obtain⟨FR,jY⟩:∃ x,2+(c.A%c.sl).toNat*c.wd=x:=⟨_,rfl⟩;rw[jY] at fM hj fj ⊢;clear jY;have eG:=hid fun W (rv:Value) (h:St W sb mb lb ty o c rv l)=>fr sb mb lb ty o c rv l (FR) W h bM cJ dD hj fj
 clear bM cJ dD hj fj;rw[Kc.word_eq]
 by_cases ak:c.wd≤c.i+1
 ·rw[if_pos ak];have hd:decide ((c.wd:Int)≤(c.i:Int)+1)=true:=decide_eq_true (by omega);rw[hd] at eG;clear ak hd;go_enter Tryz.func150,Tryz.ntmps150;go_wp2_with fail;refine dM (S:=(dx sb o c)) aj ay (fun ai=>let ⟨_,_,ag⟩:=ai.out.op.row;(by and_intros <;> exact ag.c rfl)) fun w1 ai au hHeld=>?_
  refine ap 0 1 2 3 ?_;refine ap 4 5 6 7 ?_;refine ap 8 9 10 11 ?_;refine aF 12 ?_;refine aJ 13 (fun K hK=>?_)
  ·go_simp;refine(fM.out _).mono ?_;rintro ex w2 ⟨rfl,hb⟩;have ar:=hid (ai.out.below hb);have aE:=hid (au.out.trans (Mv.below hb _));clear hb;obtain⟨u2,bU,aC⟩:=ar.out.op.row;have aB:(dx sb o c) w2:=(by and_intros <;> exact aC.c rfl);clear aC bU;refine kH hK aB fun hHeld=>?_
   clear hK K;refine aJ 14 (fun K hK=>?_)
   ·go_simp;refine(eG.out _ _ ar.out).mono (cS aE fun w3 rv3 aM bf=>?_);obtain⟨u3,ez,bC⟩:=aM.out.op.row;have aQ:(dx sb o c) w3:=(by and_intros <;> exact bC.c rfl);clear bC ez;refine kH hK aQ fun hHeld=>?_
    clear hK K;refine bh ?_;clear hHeld aQ;go_wp2_with fail;refine(dh sb mb lb ty o _ _ _ 3 3 _ aM.out rfl).mono (bF bf fun w4 cq dd=>?_);go_wp2_with fail
    go_end0
    exact⟨_,rfl,cq.out,dd.out⟩
 ·rw[if_neg ak];have hd:decide ((c.wd:Int)≤(c.i:Int)+1)=false:=decide_eq_false (by omega);rw[hd] at eG;clear ak hd;go_enter Tryz.func150,Tryz.ntmps150;go_wp2_with fail;refine dM (S:=(dx sb o c)) aj ay (fun ai=>let ⟨_,_,ag⟩:=ai.out.op.row;(by and_intros <;> exact ag.c rfl)) fun w1 ai au hHeld=>?_
  refine ap 0 1 2 3 ?_;refine ap 4 5 6 7 ?_;refine ap 8 9 10 11 ?_;refine aF 12 ?_;refine aJ 13 (fun K hK=>?_)
  ·go_simp;refine(fM.out _).mono ?_;rintro ex w2 ⟨rfl,hb⟩;have ar:=hid (ai.out.below hb);have aE:=hid (au.out.trans (Mv.below hb _));clear hb;obtain⟨u2,bU,aC⟩:=ar.out.op.row;have aB:(dx sb o c) w2:=(by and_intros <;> exact aC.c rfl);clear aC bU;refine kH hK aB fun hHeld=>?_
   clear hK K;refine aJ 14 (fun K hK=>?_)
   ·go_simp;refine(eG.out _ _ ar.out).mono (cS aE fun w3 rv3 aM bf=>?_);obtain⟨u3,ez,bC⟩:=aM.out.op.row;have aQ:(dx sb o c) w3:=(by and_intros <;> exact bC.c rfl);clear bC ez;refine kH hK aQ fun hHeld=>?_
    clear hK K;refine bh ?_;clear hHeld aQ;go_wp2_with fail
    go_end0
    exact⟨_,rfl,aM.out,bf.out⟩
theorem Bk (w:World) (h:St w sb mb lb ty o c rv l) (ae:c.ph=3) (hs:1≤c.sl) (hA:c.A<2*(c.sl:Int)) (hj:c.base+0<l.length):Calls Tryz.prog 150 #[.pointer (some ⟨sb,0,none⟩)] w (Did sb mb lb ty o w rv (c.fin 0) (c.wrm l 0 (Kc.inc c.A (2*(c.sl:Int)))) (.tuple #[])):=by
 obtain⟨aj,ay,ah,HF,bp,aS,bx,bj⟩:=h.start;clear ah h;have aI:=hid ae;clear ae;obtain⟨u0,bN,ag⟩:=aj.out.op.row;have c10_0:=ag.ph 10 3 aI;clear ag bN;have Gq:=hid (lQ sb mb lb ty o c rv l 0 0 w aj.out rfl hs hA hj);obtain⟨L1,ii⟩:∃ x,c.wrm l 0 (Kc.inc c.A (2*(c.sl:Int)))=x:=⟨_,rfl⟩;rw[ii] at Gq ⊢;clear ii hs hA hj;go_enter Tryz.func150,Tryz.ntmps150;go_wp2_with fail;refine Gq.out.mono (bF ay fun w1 ai au=>?_);go_wp2_with fail;refine(fz sb mb lb ty o _ _ _ 0 _ ai.out).mono (cS au fun w2 rv2 ar aE=>?_);go_wp2_with fail
 go_end0
 exact⟨_,rfl,ar.out,aE.out⟩
end
end Go.Proofs.YtolmpehgeinlkaaGreatDoor
