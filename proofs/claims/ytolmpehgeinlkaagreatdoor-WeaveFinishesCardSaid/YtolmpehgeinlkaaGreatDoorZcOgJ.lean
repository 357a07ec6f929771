/- The kind ring: each step of a write, and of a read. -/
import Derived.Test.YtolmpehgeinlkaaGreatDoorZcOgI
namespace Go.Proofs.YtolmpehgeinlkaaGreatDoor
open Go.RowKit
open Go.Lib (hid)
attribute [local go_sem] Oper.semAt_some
set_option maxHeartbeats 1000000
set_option maxRecDepth 100000
abbrev lf (a0:Nat) (a1:Ob) (w':World):Prop:=w'.cell? ⟨a0,0,none⟩=some (.int .i64 a1.k)∧w'.cell? ⟨a0,1,none⟩=some (.int .i64 a1.wd)∧w'.cell? ⟨a0,2,none⟩=some (.int .i64 a1.s)∧w'.cell? ⟨a0,3,none⟩=some (.int .i64 a1.c)∧w'.cell? ⟨a0,4,none⟩=some (.int .u32 a1.st)∧w'.cell? ⟨a0,5,none⟩=some (.slice a1.I a1.ni a1.ci)∧w'.cell? ⟨a0,6,none⟩=some (.int .i64 a1.wr)∧w'.cell? ⟨a0,7,none⟩=some (.slice a1.R a1.nr a1.cr)
abbrev du (a0:Nat) (a1:Ob) (a2:Kc) (w':World):Prop:=w'.cell? ⟨a0,0,none⟩=some (.int .i64 a1.k)∧w'.cell? ⟨a0,1,none⟩=some (.int .i64 a1.wd)∧w'.cell? ⟨a0,2,none⟩=some (.int .i64 a1.s)∧w'.cell? ⟨a0,3,none⟩=some (.int .i64 a1.c)∧w'.cell? ⟨a0,4,none⟩=some (.int .u32 a1.st)∧w'.cell? ⟨a0,5,none⟩=some (.slice a1.I a1.ni a1.ci)∧w'.cell? ⟨a0,6,none⟩=some (.int .i64 a1.wr)∧w'.cell? ⟨a0,7,none⟩=some (.slice a1.R a1.nr a1.cr)∧w'.cell? ⟨a0,13,none⟩=some (.int .u32 a2.A)
theorem mH (o:Ob) (a:Int) (h1:1≤o.s) (h2:o.s≤16) (h3:0≤o.wd) (h4:o.wd≤8) (ha:0≤a) (_ha2:a<4294967296) (w:World):Calls Tryz.prog 119 #[.agg (af o),.int .u32 a] w fun e w'=>e=.returned (.int .i64 (1+(a%o.s)*o.wd))∧Below w.heap.size w w':=by
 have hn:=ObX.new w o;have hb:=bt w (.cells (af o) 26);obtain⟨c0,c1,c2,-⟩:=hn.cells;clear c0 hn;have hB:=hid hb.drew;obtain⟨n,aq⟩:∃ n,w.heap.size=n:=⟨_,rfl⟩;rw[aq] at c1 c2 hB;clear hb;have jJ:=Int.emod_nonneg a (show o.s≠0 by omega);have dP:=Int.emod_lt_of_pos a (show 0<o.s by omega);have t0:IntKind.u32.wrap o.s=o.s:=aa (by omega) (by omega);have t1:a.tmod o.s=a%o.s:=Int.tmod_eq_emod_of_nonneg ha;have t2:IntKind.u32.wrap (a%o.s)=a%o.s:=aa jJ (by omega);have t3:IntKind.i64.wrap (a%o.s)=a%o.s:=ac (by omega) (by omega);have m1:=jV (a:=a%o.s) (b:=o.wd) jJ (by omega) h3 (by omega);have t4:IntKind.i64.wrap (a%o.s*o.wd)=a%o.s*o.wd:=ac (by omega) (by omega);have t5:IntKind.i64.wrap (1+a%o.s*o.wd)=1+a%o.s*o.wd:=ac (by omega) (by omega);have s0:(o.s==0)=false:=by simp;omega
 have s1:¬ o.s=0:=by omega
 clear m1 jJ dP ha _ha2;rw[aq];unfold af at *;go_enter Tryz.func119,Tryz.ntmps119;go_wp2_with fail;obtain⟨W1,ys⟩:∃ x,w.alloc (.cells #[.int .i64 o.k,.int .i64 o.wd,.int .i64 o.s,.int .i64 o.c,.int .u32 o.st,.slice o.I o.ni o.ci,.int .i64 o.wr,.slice o.R o.nr o.cr] 26)=x:=⟨_,rfl⟩;rw[ys] at c1 c2 hB ⊢;clear ys;refine dR (S:=(fun w':World=>w'.cell? ⟨n,1,none⟩=some (.int .i64 o.wd)∧w'.cell? ⟨n,2,none⟩=some (.int .i64 o.s))) ⟨c1,c2⟩ fun wd aW hHeld=>?_
 rw[aW] at hB;clear aW;refine ap 0 1 2 3 ?_;refine ap 4 5 6 7 ?_;refine bw 8 9 ?_;refine aF 10 ?_;refine bh ?_;clear hHeld;go_wp2_with fail;go_ret;exact⟨rfl,hB.out⟩
section
variable (sb mb lb:Nat) (ty:TypeId) (o:Ob) (c:Kc) (rv:Value) (l:List Int)
theorem ff (w:World) (h:St w sb mb lb ty o c rv l) (hs:2≤c.sl) (hj:c.base+0<l.length):Calls Tryz.prog 171 #[.pointer (some ⟨sb,0,none⟩)] w (lw sb mb lb ty o w rv c l (.int .u32 (c.rdm l 0%((c.sl:Int)*1048576)))):=by
 obtain⟨aj,ay,ah,HF,bp,aS,bx,bj⟩:=h.start;clear ah h;have hz:=cR hj aj.out.mem.w32;have HR:=hid fun W (h:St W sb mb lb ty o c rv l)=>cX sb mb lb ty o c rv l 0 0 W h (by omega) hj
 obtain⟨z,ao⟩:∃ x,c.rdm l 0=x:=⟨_,rfl⟩;rw[ao] at HR hz;try rw[ao]
 have cm:=hid ao;clear ao hj;have dU:=hz.1;have dA:=hz.2;clear hz;have bH:=aS.out;have bZ:=HF.out.sl1;have D9:=fun W=>et o (by omega) (by omega) W
 rw[← bH];obtain⟨M,hM⟩:∃ x,o.s*1048576=x:=⟨_,rfl⟩;rw[hM] at D9 ⊢;have eD:=hid D9;have eN:0<M:=by omega
 have fV:M<4294967296:=by omega
 have m0:(M==0)=false:=by simp;omega
 have m1:¬ M=0:=by omega
 have t1:z.tmod M=z%M:=Int.tmod_eq_emod_of_nonneg dU;have jJ:=Int.emod_nonneg z m1;have dP:=Int.emod_lt_of_pos z eN;have t2:IntKind.u32.wrap (z%M)=z%M:=aa jJ (by omega);clear bH bZ D9 hM hs jJ dP;unfold af at eD;go_enter Tryz.func171,Tryz.ntmps171;go_wp2_with fail;refine dM (S:=(lf sb o)) aj ay (fun ai=>let ⟨_,_,ag⟩:=ai.out.op.row;(by and_intros <;> exact ag.c rfl)) fun w1 ai au hHeld=>?_
 refine ap 0 1 2 4 ?_;refine ap 5 6 7 8 ?_;refine aJ 3 (fun K hK=>?_)
 ·go_simp;refine(HR.out _ ai.out).mono (bF au fun w2 ar aE=>?_);obtain⟨u2,bU,aC⟩:=ar.out.op.row;have aB:(lf sb o) w2:=(by and_intros <;> exact aC.c rfl);clear aC bU;refine kH hK aB fun hHeld=>?_
  clear hK K;refine aJ 9 (fun K hK=>?_)
  ·go_simp;refine(eD.out _).mono ?_;rintro ex w3 ⟨rfl,hb⟩;have aM:=hid (ar.out.below hb);have bf:=hid (aE.out.trans (Mv.below hb _));clear hb;obtain⟨u3,ez,bC⟩:=aM.out.op.row;have aQ:(lf sb o) w3:=(by and_intros <;> exact bC.c rfl);clear bC ez;refine kH hK aQ fun hHeld=>?_
   clear hK K;refine bw 10 11 ?_;refine bh ?_;clear hHeld aQ;go_wp2_with fail;go_ret;exact⟨rfl,aM.out,bf.out⟩
theorem At (w:World) (h:St w sb mb lb ty o c rv l) (ae:c.ph=0) (hs:2≤c.sl) (hj:c.base+0<l.length):Calls Tryz.prog 145 #[.pointer (some ⟨sb,0,none⟩)] w (Did sb mb lb ty o w rv (({ c with A:=Kc.inc (c.rdm l 0%((c.sl:Int)*1048576)) ((c.sl:Int)*1048576) }:Kc).go 1) l (.tuple #[])):=by
 obtain⟨aj,ay,ah,HF,bp,aS,bx,bj⟩:=h.start;clear ah h;have aI:=hid ae;clear ae;obtain⟨u0,bN,ag⟩:=aj.out.op.row;have c10_0:=ag.ph 10 0 aI;clear ag bN;have bH:=aS.out;have bZ:=HF.out.sl1;have eD:=hid fun W=>et o (by omega) (by omega) W
 have el:=hid fun W (h:St W sb mb lb ty o c rv l)=>ff sb mb lb ty o c rv l W h hs hj
 have hM:o.s*1048576=(c.sl:Int)*1048576:=by rw[bH]
 rw[hM] at eD;obtain⟨M,fd⟩:∃ x,(c.sl:Int)*1048576=x:=⟨_,rfl⟩;rw[fd] at eD el;try rw[fd]
 have eN:2097152≤M:=by omega
 have fV:M<4294967296:=by omega
 obtain⟨z,ao⟩:∃ x,c.rdm l 0%M=x:=⟨_,rfl⟩;have dU:0≤z:=by rw[← ao];exact Int.emod_nonneg _ (by omega)
 have dA:z<M:=by rw[← ao];exact Int.emod_lt_of_pos _ (by omega)
 rw[ao] at el;try rw[ao]
 have kh:=ao;clear hM bH bZ ao hj;unfold af at eD;have ri:=hid fun W=>xR z M W dU dA (by omega) fV
 have hZ:0≤Kc.inc z M∧Kc.inc z M<4294967296:=by unfold Kc.inc;split <;> omega
 obtain⟨Z,ua⟩:∃ x,Kc.inc z M=x:=⟨_,rfl⟩;rw[ua] at ri hZ ⊢;have HZ:=hid hZ;clear hZ ua fd hs;go_enter Tryz.func145,Tryz.ntmps145;go_wp2_with fail;refine dM (S:=(lf sb o)) aj ay (fun ai=>let ⟨_,_,ag⟩:=ai.out.op.row;(by and_intros <;> exact ag.c rfl)) fun w1 ai au hHeld=>?_
 refine ap 0 1 3 4 ?_;refine bw 5 6 ?_;refine aF 7 ?_;refine aJ 2 (fun K hK=>?_)
 ·go_simp;refine(el.out _ ai.out).mono (bF au fun w2 ar aE=>?_);obtain⟨u2,bU,aC⟩:=ar.out.op.row;have aB:(lf sb o) w2:=(by and_intros <;> exact aC.c rfl);have c13_2:=aC.at 13 (.int .u32 c.A);have f13_2:=aC.frozen 13;clear aC bU;refine kH hK aB fun hHeld=>?_
  clear hK K;refine aJ 8 (fun K hK=>?_)
  ·go_simp;refine(eD.out _).mono ?_;rintro ex w3 ⟨rfl,hb⟩;have aM:=hid (ar.out.below hb);have bf:=hid (aE.out.trans (Mv.below hb _));clear hb;obtain⟨u3,ez,bC⟩:=aM.out.op.row;have aQ:(lf sb o) w3:=(by and_intros <;> exact bC.c rfl);have c13_3:=bC.at 13 (.int .u32 c.A);have f13_3:=bC.frozen 13;clear bC ez;refine kH hK aQ fun hHeld=>?_
   clear hK K;refine aJ 9 (fun K hK=>?_)
   ·go_simp;refine(ri.out _).mono ?_;rintro ex w4 ⟨rfl,hb⟩;have cq:=hid (aM.out.below hb);have dd:=hid (bf.out.trans (Mv.below hb _));clear hb;obtain⟨u4,mC,dZ⟩:=cq.out.op.row;have ed:(lf sb o) w4:=(by and_intros <;> exact dZ.c rfl);have c13_4:=dZ.at 13 (.int .u32 c.A);have f13_4:=dZ.frozen 13;clear dZ mC;refine kH hK ed fun hHeld=>?_
    clear hK K;refine bw 10 11 ?_;refine aF 12 ?_;refine aJ 13 (fun K hK=>?_)
    ·go_simp;obtain⟨dV,fS⟩:=fW (cq.out.setA (Z) HZ.out) dd;obtain⟨u5,vi,j5⟩:=dV.out.op.row;have gC:(lf sb o) (w4.setCell ⟨sb,13,none⟩ (.int .u32 (Z))):=(by and_intros <;> exact j5.c rfl);clear j5 vi;refine kH hK gC fun hHeld=>?_
     clear hK K;refine bh ?_;clear hHeld gC;go_wp2_with fail;refine(dh sb mb lb ty o _ _ _ 1 1 _ dV.out rfl).mono (bF fS fun w6 ja pq=>?_);go_wp2_with fail
     go_end0
     exact⟨_,rfl,ja.out,pq.out⟩
theorem Bn (w:World) (h:St w sb mb lb ty o c rv l) (ae:c.ph=1) (hs:2≤c.sl) (bM:c.wr=true→c.i<c.rc.length) (cJ:c.rc.length≤1000000) (dD:c.i<1000) (hj:c.base+(1+(c.A%c.sl).toNat*c.wd+c.i)<l.length) (fj:1+(c.A%c.sl).toNat*c.wd≤1000000):Calls Tryz.prog 145 #[.pointer (some ⟨sb,0,none⟩)] w (Did sb mb lb ty o w rv (c.word l (1+(c.A%c.sl).toNat*c.wd) (·.go 2)).1 (c.word l (1+(c.A%c.sl).toNat*c.wd) (·.go 2)).2 (.tuple #[])):=by
 obtain⟨aj,ay,ah,HF,bp,aS,bx,bj⟩:=h.start;clear ah h;have aI:=hid ae;clear ae;obtain⟨u0,bN,ag⟩:=aj.out.op.row;have c10_0:=ag.ph 10 1 aI;clear ag bN;have bH:=aS.out;have bZ:=HF.out.sl1;have dy:=HF.out.wd1;have lr:=bp.out;have fM:=hid fun W=>mH o c.A (by omega) (by omega) (by omega) (by omega) HF.out.A0 HF.out.A1 W
 have hq:1+(c.A%o.s)*o.wd=((1+(c.A%c.sl).toNat*c.wd:Nat):Int):=by
  have:=Int.emod_nonneg c.A (show(c.sl:Int)≠0 by omega);rw[Int.natCast_add,Int.natCast_mul,Int.toNat_of_nonneg this,bH,lr];rfl
 rw[hq] at fM;clear bH bZ dy lr hq hs;unfold af at fM;obtain⟨FR,jY⟩:∃ x,1+(c.A%c.sl).toNat*c.wd=x:=⟨_,rfl⟩;rw[jY] at fM hj fj ⊢;clear jY;have eG:=hid fun W (rv:Value) (h:St W sb mb lb ty o c rv l)=>fr sb mb lb ty o c rv l (FR) W h bM cJ dD hj fj
 clear bM cJ dD hj fj;rw[Kc.word_eq]
 by_cases ak:c.wd≤c.i+1
 ·rw[if_pos ak];have hd:decide ((c.wd:Int)≤(c.i:Int)+1)=true:=decide_eq_true (by omega);rw[hd] at eG;clear ak hd;go_enter Tryz.func145,Tryz.ntmps145;go_wp2_with fail;refine dM (S:=(du sb o c)) aj ay (fun ai=>let ⟨_,_,ag⟩:=ai.out.op.row;(by and_intros <;> exact ag.c rfl)) fun w1 ai au hHeld=>?_
  refine ap 0 1 2 3 ?_;refine ap 4 5 6 7 ?_;refine ap 8 9 10 11 ?_;refine aF 12 ?_;refine aJ 13 (fun K hK=>?_)
  ·go_simp;refine(fM.out _).mono ?_;rintro ex w2 ⟨rfl,hb⟩;have ar:=hid (ai.out.below hb);have aE:=hid (au.out.trans (Mv.below hb _));clear hb;obtain⟨u2,bU,aC⟩:=ar.out.op.row;have aB:(du sb o c) w2:=(by and_intros <;> exact aC.c rfl);clear aC bU;refine kH hK aB fun hHeld=>?_
   clear hK K;refine aJ 14 (fun K hK=>?_)
   ·go_simp;refine(eG.out _ _ ar.out).mono (cS aE fun w3 rv3 aM bf=>?_);obtain⟨u3,ez,bC⟩:=aM.out.op.row;have aQ:(du sb o c) w3:=(by and_intros <;> exact bC.c rfl);clear bC ez;refine kH hK aQ fun hHeld=>?_
    clear hK K;refine bh ?_;clear hHeld aQ;go_wp2_with fail;refine(dh sb mb lb ty o _ _ _ 2 2 _ aM.out rfl).mono (bF bf fun w4 cq dd=>?_);go_wp2_with fail
    go_end0
    exact⟨_,rfl,cq.out,dd.out⟩
 ·rw[if_neg ak];have hd:decide ((c.wd:Int)≤(c.i:Int)+1)=false:=decide_eq_false (by omega);rw[hd] at eG;clear ak hd;go_enter Tryz.func145,Tryz.ntmps145;go_wp2_with fail;refine dM (S:=(du sb o c)) aj ay (fun ai=>let ⟨_,_,ag⟩:=ai.out.op.row;(by and_intros <;> exact ag.c rfl)) fun w1 ai au hHeld=>?_
  refine ap 0 1 2 3 ?_;refine ap 4 5 6 7 ?_;refine ap 8 9 10 11 ?_;refine aF 12 ?_;refine aJ 13 (fun K hK=>?_)
  ·go_simp;refine(fM.out _).mono ?_;rintro ex w2 ⟨rfl,hb⟩;have ar:=hid (ai.out.below hb);have aE:=hid (au.out.trans (Mv.below hb _));clear hb;obtain⟨u2,bU,aC⟩:=ar.out.op.row;have aB:(du sb o c) w2:=(by and_intros <;> exact aC.c rfl);clear aC bU;refine kH hK aB fun hHeld=>?_
   clear hK K;refine aJ 14 (fun K hK=>?_)
   ·go_simp;refine(eG.out _ _ ar.out).mono (cS aE fun w3 rv3 aM bf=>?_);obtain⟨u3,ez,bC⟩:=aM.out.op.row;have aQ:(du sb o c) w3:=(by and_intros <;> exact bC.c rfl);clear bC ez;refine kH hK aQ fun hHeld=>?_
    clear hK K;refine bh ?_;clear hHeld aQ;go_wp2_with fail
    go_end0
    exact⟨_,rfl,aM.out,bf.out⟩
theorem B4 (w:World) (h:St w sb mb lb ty o c rv l) (ae:c.ph=2) (hj:c.base+0<l.length):Calls Tryz.prog 145 #[.pointer (some ⟨sb,0,none⟩)] w (Did sb mb lb ty o w rv (c.fin 0) (c.wrm l 0 c.A) (.tuple #[])):=by
 obtain⟨aj,ay,ah,HF,bp,aS,bx,bj⟩:=h.start;clear ah h;have aI:=hid ae;clear ae;obtain⟨u0,bN,ag⟩:=aj.out.op.row;have c10_0:=ag.ph 10 2 aI;clear ag bN;have HW:=hid fun W (h:St W sb mb lb ty o c rv l)=>dN sb mb lb ty o c rv l 0 0 c.A W h (by omega) hj ⟨HF.out.A0,HF.out.A1⟩
 clear hj;go_enter Tryz.func145,Tryz.ntmps145;go_wp2_with fail;refine dM (S:=(fun w':World=>w'.cell? ⟨sb,13,none⟩=some (.int .u32 c.A))) aj ay (fun ai=>let ⟨_,_,ag⟩:=ai.out.op.row;(ag.cell 13).trans rfl) fun w1 ai au hHeld=>?_
 refine ap 0 1 2 3 ?_;refine ap 4 5 6 7 ?_;refine aJ 8 (fun K hK=>?_)
 ·go_simp;refine(HW.out _ ai.out).mono (bF au fun w2 ar aE=>?_);obtain⟨u2,bU,aC⟩:=ar.out.op.row;have aB:(fun w':World=>w'.cell? ⟨sb,13,none⟩=some (.int .u32 c.A)) w2:=(aC.cell 13).trans rfl;clear aC bU;refine kH hK aB fun hHeld=>?_
  clear hK K;refine bh ?_;clear hHeld aB;go_wp2_with fail;refine(fz sb mb lb ty o _ _ _ 0 _ ar.out).mono (cS aE fun w3 rv3 aM bf=>?_);go_wp2_with fail
  go_end0
  exact⟨_,rfl,aM.out,bf.out⟩
theorem Bh (w:World) (h:St w sb mb lb ty o c rv l) (ae:c.ph=0) (hs:2≤c.sl) (hj:c.base+0<l.length):Calls Tryz.prog 146 #[.pointer (some ⟨sb,0,none⟩)] w (Did sb mb lb ty o w rv (({ c with A:=c.rdm l 0%((c.sl:Int)*1048576) }:Kc).go 1) l (.tuple #[])):=by
 obtain⟨aj,ay,ah,HF,bp,aS,bx,bj⟩:=h.start;clear ah h;have aI:=hid ae;clear ae;obtain⟨u0,bN,ag⟩:=aj.out.op.row;have c10_0:=ag.ph 10 0 aI;clear ag bN;have bH:=aS.out;have bZ:=HF.out.sl1;have eD:=hid fun W=>et o (by omega) (by omega) W
 have el:=hid fun W (h:St W sb mb lb ty o c rv l)=>ff sb mb lb ty o c rv l W h hs hj
 have hM:o.s*1048576=(c.sl:Int)*1048576:=by rw[bH]
 rw[hM] at eD;obtain⟨M,fd⟩:∃ x,(c.sl:Int)*1048576=x:=⟨_,rfl⟩;rw[fd] at eD el;try rw[fd]
 have eN:2097152≤M:=by omega
 have fV:M<4294967296:=by omega
 obtain⟨z,ao⟩:∃ x,c.rdm l 0%M=x:=⟨_,rfl⟩;have dU:0≤z:=by rw[← ao];exact Int.emod_nonneg _ (by omega)
 have dA:z<M:=by rw[← ao];exact Int.emod_lt_of_pos _ (by omega)
 rw[ao] at el;try rw[ao]
 have kh:=ao;clear hM bH bZ ao hj;unfold af at eD;clear fd hs;go_enter Tryz.func146,Tryz.ntmps146;go_wp2_with fail;refine(el.out _ aj.out).mono (bF ay fun w1 ai au=>?_);obtain⟨u1,gS,bi⟩:=ai.out.op.row;have c13_1:=bi.at 13 (.int .u32 c.A);have f13_1:=bi.frozen 13;clear bi gS;go_wp2_with fail;obtain⟨ar,aE⟩:=fW (ai.out.setA (z) ⟨dU,by omega⟩) au;go_wp2_with fail;refine(dh sb mb lb ty o _ _ _ 1 1 _ ar.out rfl).mono (bF aE fun w3 aM bf=>?_);go_wp2_with fail
 go_end0
 exact⟨_,rfl,aM.out,bf.out⟩
theorem Bm (w:World) (h:St w sb mb lb ty o c rv l) (ae:c.ph=1) (hs:2≤c.sl) (bM:c.wr=true→c.i<c.rc.length) (cJ:c.rc.length≤1000000) (dD:c.i<1000) (hj:c.base+(1+(c.A%c.sl).toNat*c.wd+c.i)<l.length) (fj:1+(c.A%c.sl).toNat*c.wd≤1000000):Calls Tryz.prog 146 #[.pointer (some ⟨sb,0,none⟩)] w (Did sb mb lb ty o w rv (c.word l (1+(c.A%c.sl).toNat*c.wd) (·.go 2)).1 (c.word l (1+(c.A%c.sl).toNat*c.wd) (·.go 2)).2 (.tuple #[])):=by
 obtain⟨aj,ay,ah,HF,bp,aS,bx,bj⟩:=h.start;clear ah h;have aI:=hid ae;clear ae;obtain⟨u0,bN,ag⟩:=aj.out.op.row;have c10_0:=ag.ph 10 1 aI;clear ag bN;have bH:=aS.out;have bZ:=HF.out.sl1;have dy:=HF.out.wd1;have lr:=bp.out;have fM:=hid fun W=>mH o c.A (by omega) (by omega) (by omega) (by omega) HF.out.A0 HF.out.A1 W
 have hq:1+(c.A%o.s)*o.wd=((1+(c.A%c.sl).toNat*c.wd:Nat):Int):=by
  have:=Int.emod_nonneg c.A (show(c.sl:Int)≠0 by omega);rw[Int.natCast_add,Int.natCast_mul,Int.toNat_of_nonneg this,bH,lr];rfl
 rw[hq] at fM;clear bH bZ dy lr hq hs;unfold af at fM;obtain⟨FR,jY⟩:∃ x,1+(c.A%c.sl).toNat*c.wd=x:=⟨_,rfl⟩;rw[jY] at fM hj fj ⊢;clear jY;have eG:=hid fun W (rv:Value) (h:St W sb mb lb ty o c rv l)=>fr sb mb lb ty o c rv l (FR) W h bM cJ dD hj fj
 clear bM cJ dD hj fj;rw[Kc.word_eq]
 by_cases ak:c.wd≤c.i+1
 ·rw[if_pos ak];have hd:decide ((c.wd:Int)≤(c.i:Int)+1)=true:=decide_eq_true (by omega);rw[hd] at eG;clear ak hd;go_enter Tryz.func146,Tryz.ntmps146;go_wp2_with fail;refine dM (S:=(du sb o c)) aj ay (fun ai=>let ⟨_,_,ag⟩:=ai.out.op.row;(by and_intros <;> exact ag.c rfl)) fun w1 ai au hHeld=>?_
  refine ap 0 1 2 3 ?_;refine ap 4 5 6 7 ?_;refine ap 8 9 10 11 ?_;refine aF 12 ?_;refine aJ 13 (fun K hK=>?_)
  ·go_simp;refine(fM.out _).mono ?_;rintro ex w2 ⟨rfl,hb⟩;have ar:=hid (ai.out.below hb);have aE:=hid (au.out.trans (Mv.below hb _));clear hb;obtain⟨u2,bU,aC⟩:=ar.out.op.row;have aB:(du sb o c) w2:=(by and_intros <;> exact aC.c rfl);clear aC bU;refine kH hK aB fun hHeld=>?_
   clear hK K;refine aJ 14 (fun K hK=>?_)
   ·go_simp;refine(eG.out _ _ ar.out).mono (cS aE fun w3 rv3 aM bf=>?_);obtain⟨u3,ez,bC⟩:=aM.out.op.row;have aQ:(du sb o c) w3:=(by and_intros <;> exact bC.c rfl);clear bC ez;refine kH hK aQ fun hHeld=>?_
    clear hK K;refine bh ?_;clear hHeld aQ;go_wp2_with fail;refine(dh sb mb lb ty o _ _ _ 2 2 _ aM.out rfl).mono (bF bf fun w4 cq dd=>?_);go_wp2_with fail
    go_end0
    exact⟨_,rfl,cq.out,dd.out⟩
 ·rw[if_neg ak];have hd:decide ((c.wd:Int)≤(c.i:Int)+1)=false:=decide_eq_false (by omega);rw[hd] at eG;clear ak hd;go_enter Tryz.func146,Tryz.ntmps146;go_wp2_with fail;refine dM (S:=(du sb o c)) aj ay (fun ai=>let ⟨_,_,ag⟩:=ai.out.op.row;(by and_intros <;> exact ag.c rfl)) fun w1 ai au hHeld=>?_
  refine ap 0 1 2 3 ?_;refine ap 4 5 6 7 ?_;refine ap 8 9 10 11 ?_;refine aF 12 ?_;refine aJ 13 (fun K hK=>?_)
  ·go_simp;refine(fM.out _).mono ?_;rintro ex w2 ⟨rfl,hb⟩;have ar:=hid (ai.out.below hb);have aE:=hid (au.out.trans (Mv.below hb _));clear hb;obtain⟨u2,bU,aC⟩:=ar.out.op.row;have aB:(du sb o c) w2:=(by and_intros <;> exact aC.c rfl);clear aC bU;refine kH hK aB fun hHeld=>?_
   clear hK K;refine aJ 14 (fun K hK=>?_)
   ·go_simp;refine(eG.out _ _ ar.out).mono (cS aE fun w3 rv3 aM bf=>?_);obtain⟨u3,ez,bC⟩:=aM.out.op.row;have aQ:(du sb o c) w3:=(by and_intros <;> exact bC.c rfl);clear bC ez;refine kH hK aQ fun hHeld=>?_
    clear hK K;refine bh ?_;clear hHeld aQ;go_wp2_with fail
    go_end0
    exact⟨_,rfl,aM.out,bf.out⟩
theorem s9 (w:World) (h:St w sb mb lb ty o c rv l) (ae:c.ph=2) (hs:2≤c.sl) (hA:c.A<(c.sl:Int)*1048576) (_ht:c.tr<1000) (hj:c.base+0<l.length) (hg:Kc.gap c.A (c.rdm l 0%((c.sl:Int)*1048576)) ((c.sl:Int)*1048576)<(c.sl:Int) - 1):Calls Tryz.prog 146 #[.pointer (some ⟨sb,0,none⟩)] w (Did sb mb lb ty o w rv (c.fin 0) l (.tuple #[])):=by
 obtain⟨aj,ay,ah,HF,bp,aS,bx,bj⟩:=h.start;clear ah h;have aI:=hid ae;clear ae;obtain⟨u0,bN,ag⟩:=aj.out.op.row;have c10_0:=ag.ph 10 2 aI;clear ag bN;have pH:o.s=(c.sl:Int):=aS.out;have oT:=HF.out.sl1;have bH:=aS.out;have bZ:=HF.out.sl1;have eD:=hid fun W=>et o (by omega) (by omega) W
 have el:=hid fun W (h:St W sb mb lb ty o c rv l)=>ff sb mb lb ty o c rv l W h hs hj
 have hM:o.s*1048576=(c.sl:Int)*1048576:=by rw[bH]
 rw[hM] at eD;obtain⟨M,fd⟩:∃ x,(c.sl:Int)*1048576=x:=⟨_,rfl⟩;rw[fd] at eD el;try rw[fd]
 have eN:2097152≤M:=by omega
 have fV:M<4294967296:=by omega
 obtain⟨z,ao⟩:∃ x,c.rdm l 0%M=x:=⟨_,rfl⟩;have dU:0≤z:=by rw[← ao];exact Int.emod_nonneg _ (by omega)
 have dA:z<M:=by rw[← ao];exact Int.emod_lt_of_pos _ (by omega)
 rw[ao] at el;try rw[ao]
 have kh:=ao;clear hM bH bZ ao hj;unfold af at eD;rw[fd,kh] at hg;rw[fd] at hA;have mZ:=hid fun W=>rP c.A z M W HF.out.A0 hA dU dA fV
 have hG:0≤Kc.gap c.A z M∧Kc.gap c.A z M<4294967296:=by have:=HF.out.A0;unfold Kc.gap;split <;> omega
 obtain⟨G,qh⟩:∃ x,Kc.gap c.A z M=x:=⟨_,rfl⟩;rw[qh] at mZ hG hg;have Hz:=hG.1;have pR:=hG.2;have Kx:2≤(c.sl:Int):=by omega
 have KK:(c.sl:Int)≤16:=by omega
 have e1:IntKind.i64.wrap ((c.sl:Int) - 1)=(c.sl:Int) - 1:=ac (by omega) (by omega);have e2:IntKind.u32.wrap ((c.sl:Int) - 1)=(c.sl:Int) - 1:=aa (by omega) (by omega);have d1:decide (G<(c.sl:Int) - 1)=true:=decide_eq_true (by omega);clear hG qh fd kh hs oT pH hA;clear _ht;go_enter Tryz.func146,Tryz.ntmps146;go_wp2_with fail;refine dM (S:=(du sb o c)) aj ay (fun ai=>let ⟨_,_,ag⟩:=ai.out.op.row;(by and_intros <;> exact ag.c rfl)) fun w1 ai au hHeld=>?_
 refine ap 0 1 2 3 ?_;refine ap 4 5 7 8 ?_;refine bw 9 10 ?_;refine aF 11 ?_;refine aJ 6 (fun K hK=>?_)
 ·go_simp;refine(el.out _ ai.out).mono (bF au fun w2 ar aE=>?_);obtain⟨u2,bU,aC⟩:=ar.out.op.row;have aB:(du sb o c) w2:=(by and_intros <;> exact aC.c rfl);clear aC bU;refine kH hK aB fun hHeld=>?_
  clear hK K;refine aJ 12 (fun K hK=>?_)
  ·go_simp;refine(eD.out _).mono ?_;rintro ex w3 ⟨rfl,hb⟩;have aM:=hid (ar.out.below hb);have bf:=hid (aE.out.trans (Mv.below hb _));clear hb;obtain⟨u3,ez,bC⟩:=aM.out.op.row;have aQ:(du sb o c) w3:=(by and_intros <;> exact bC.c rfl);clear bC ez;refine kH hK aQ fun hHeld=>?_
   clear hK K;refine aJ 13 (fun K hK=>?_)
   ·go_simp;refine(mZ.out _).mono ?_;rintro ex w4 ⟨rfl,hb⟩;have cq:=hid (aM.out.below hb);have dd:=hid (bf.out.trans (Mv.below hb _));clear hb;obtain⟨u4,mC,dZ⟩:=cq.out.op.row;have ed:(du sb o c) w4:=(by and_intros <;> exact dZ.c rfl);clear dZ mC;refine kH hK ed fun hHeld=>?_
    clear hK K;refine aF 14 ?_;refine bh ?_;clear hHeld ed;obtain⟨u4,mC,dZ⟩:=cq.out.op.row;have c2_4:=dZ.at 2 (.int .i64 (c.sl:Int)) (by rw[← aS.out];rfl);clear dZ mC;go_wp2_with fail;refine(fz sb mb lb ty o _ _ _ 0 _ cq.out).mono (cS dd fun w5 rv5 dV fS=>?_);go_wp2_with fail
    go_end0
    exact⟨_,rfl,dV.out,fS.out⟩
theorem nM (w:World) (h:St w sb mb lb ty o c rv l) (ae:c.ph=2) (hs:2≤c.sl) (hA:c.A<(c.sl:Int)*1048576) (ht:c.tr<1000) (hj:c.base+0<l.length) (hg:¬ (Kc.gap c.A (c.rdm l 0%((c.sl:Int)*1048576)) ((c.sl:Int)*1048576)<(c.sl:Int) - 1)) (ak:¬ (c.cap≤c.tr+1)):Calls Tryz.prog 146 #[.pointer (some ⟨sb,0,none⟩)] w (Did sb mb lb ty o w rv (c.fail (·.fin 1)) l (.tuple #[])):=by
 obtain⟨aj,ay,ah,HF,bp,aS,bx,bj⟩:=h.start;clear ah h;have aI:=hid ae;clear ae;obtain⟨u0,bN,ag⟩:=aj.out.op.row;have c10_0:=ag.ph 10 2 aI;clear ag bN;have pH:o.s=(c.sl:Int):=aS.out;have oT:=HF.out.sl1;have bH:=aS.out;have bZ:=HF.out.sl1;have eD:=hid fun W=>et o (by omega) (by omega) W
 have el:=hid fun W (h:St W sb mb lb ty o c rv l)=>ff sb mb lb ty o c rv l W h hs hj
 have hM:o.s*1048576=(c.sl:Int)*1048576:=by rw[bH]
 rw[hM] at eD;obtain⟨M,fd⟩:∃ x,(c.sl:Int)*1048576=x:=⟨_,rfl⟩;rw[fd] at eD el;try rw[fd]
 have eN:2097152≤M:=by omega
 have fV:M<4294967296:=by omega
 obtain⟨z,ao⟩:∃ x,c.rdm l 0%M=x:=⟨_,rfl⟩;have dU:0≤z:=by rw[← ao];exact Int.emod_nonneg _ (by omega)
 have dA:z<M:=by rw[← ao];exact Int.emod_lt_of_pos _ (by omega)
 rw[ao] at el;try rw[ao]
 have kh:=ao;clear hM bH bZ ao hj;unfold af at eD;rw[fd,kh] at hg;rw[fd] at hA;have mZ:=hid fun W=>rP c.A z M W HF.out.A0 hA dU dA fV
 have hG:0≤Kc.gap c.A z M∧Kc.gap c.A z M<4294967296:=by have:=HF.out.A0;unfold Kc.gap;split <;> omega
 obtain⟨G,qh⟩:∃ x,Kc.gap c.A z M=x:=⟨_,rfl⟩;rw[qh] at mZ hG hg;have Hz:=hG.1;have pR:=hG.2;have Kx:2≤(c.sl:Int):=by omega
 have KK:(c.sl:Int)≤16:=by omega
 have e1:IntKind.i64.wrap ((c.sl:Int) - 1)=(c.sl:Int) - 1:=ac (by omega) (by omega);have e2:IntKind.u32.wrap ((c.sl:Int) - 1)=(c.sl:Int) - 1:=aa (by omega) (by omega);have d1:decide (G<(c.sl:Int) - 1)=false:=decide_eq_false (by omega);clear hG qh fd kh hs oT pH hA;have ey:=fun W (h:St W sb mb lb ty o c rv l)=>kM sb mb lb ty o c rv l W h ht
 have hd:decide ((c.cap:Int)≤(c.tr:Int)+1)=false:=decide_eq_false (by omega);rw[hd] at ey;have iW:=hid ey;clear ey hd;unfold Kc.fail;simp only[ge_iff_le];rw[if_neg ak];clear ak ht;go_enter Tryz.func146,Tryz.ntmps146;go_wp2_with fail;refine dM (S:=(du sb o c)) aj ay (fun ai=>let ⟨_,_,ag⟩:=ai.out.op.row;(by and_intros <;> exact ag.c rfl)) fun w1 ai au hHeld=>?_
 refine ap 0 1 2 3 ?_;refine ap 4 5 7 8 ?_;refine bw 9 10 ?_;refine aF 11 ?_;refine aJ 6 (fun K hK=>?_)
 ·go_simp;refine(el.out _ ai.out).mono (bF au fun w2 ar aE=>?_);obtain⟨u2,bU,aC⟩:=ar.out.op.row;have aB:(du sb o c) w2:=(by and_intros <;> exact aC.c rfl);clear aC bU;refine kH hK aB fun hHeld=>?_
  clear hK K;refine aJ 12 (fun K hK=>?_)
  ·go_simp;refine(eD.out _).mono ?_;rintro ex w3 ⟨rfl,hb⟩;have aM:=hid (ar.out.below hb);have bf:=hid (aE.out.trans (Mv.below hb _));clear hb;obtain⟨u3,ez,bC⟩:=aM.out.op.row;have aQ:(du sb o c) w3:=(by and_intros <;> exact bC.c rfl);clear bC ez;refine kH hK aQ fun hHeld=>?_
   clear hK K;refine aJ 13 (fun K hK=>?_)
   ·go_simp;refine(mZ.out _).mono ?_;rintro ex w4 ⟨rfl,hb⟩;have cq:=hid (aM.out.below hb);have dd:=hid (bf.out.trans (Mv.below hb _));clear hb;obtain⟨u4,mC,dZ⟩:=cq.out.op.row;have ed:(du sb o c) w4:=(by and_intros <;> exact dZ.c rfl);clear dZ mC;refine kH hK ed fun hHeld=>?_
    clear hK K;refine aF 14 ?_;refine bh ?_;clear hHeld ed;obtain⟨u4,mC,dZ⟩:=cq.out.op.row;have c2_4:=dZ.at 2 (.int .i64 (c.sl:Int)) (by rw[← aS.out];rfl);clear dZ mC;go_wp2_with fail;refine(iW.out _ cq.out).mono (cS dd fun w5 rv5 dV fS=>?_);go_wp2_with fail
    go_end0
    exact⟨_,rfl,dV.out,fS.out⟩
theorem pd (w:World) (h:St w sb mb lb ty o c rv l) (ae:c.ph=2) (hs:2≤c.sl) (hA:c.A<(c.sl:Int)*1048576) (ht:c.tr<1000) (hj:c.base+0<l.length) (hg:¬ (Kc.gap c.A (c.rdm l 0%((c.sl:Int)*1048576)) ((c.sl:Int)*1048576)<(c.sl:Int) - 1)) (ak:c.cap≤c.tr+1):Calls Tryz.prog 146 #[.pointer (some ⟨sb,0,none⟩)] w (Did sb mb lb ty o w rv (c.fail (·.fin 1)) l (.tuple #[])):=by
 obtain⟨aj,ay,ah,HF,bp,aS,bx,bj⟩:=h.start;clear ah h;have aI:=hid ae;clear ae;obtain⟨u0,bN,ag⟩:=aj.out.op.row;have c10_0:=ag.ph 10 2 aI;clear ag bN;have pH:o.s=(c.sl:Int):=aS.out;have oT:=HF.out.sl1;have bH:=aS.out;have bZ:=HF.out.sl1;have eD:=hid fun W=>et o (by omega) (by omega) W
 have el:=hid fun W (h:St W sb mb lb ty o c rv l)=>ff sb mb lb ty o c rv l W h hs hj
 have hM:o.s*1048576=(c.sl:Int)*1048576:=by rw[bH]
 rw[hM] at eD;obtain⟨M,fd⟩:∃ x,(c.sl:Int)*1048576=x:=⟨_,rfl⟩;rw[fd] at eD el;try rw[fd]
 have eN:2097152≤M:=by omega
 have fV:M<4294967296:=by omega
 obtain⟨z,ao⟩:∃ x,c.rdm l 0%M=x:=⟨_,rfl⟩;have dU:0≤z:=by rw[← ao];exact Int.emod_nonneg _ (by omega)
 have dA:z<M:=by rw[← ao];exact Int.emod_lt_of_pos _ (by omega)
 rw[ao] at el;try rw[ao]
 have kh:=ao;clear hM bH bZ ao hj;unfold af at eD;rw[fd,kh] at hg;rw[fd] at hA;have mZ:=hid fun W=>rP c.A z M W HF.out.A0 hA dU dA fV
 have hG:0≤Kc.gap c.A z M∧Kc.gap c.A z M<4294967296:=by have:=HF.out.A0;unfold Kc.gap;split <;> omega
 obtain⟨G,qh⟩:∃ x,Kc.gap c.A z M=x:=⟨_,rfl⟩;rw[qh] at mZ hG hg;have Hz:=hG.1;have pR:=hG.2;have Kx:2≤(c.sl:Int):=by omega
 have KK:(c.sl:Int)≤16:=by omega
 have e1:IntKind.i64.wrap ((c.sl:Int) - 1)=(c.sl:Int) - 1:=ac (by omega) (by omega);have e2:IntKind.u32.wrap ((c.sl:Int) - 1)=(c.sl:Int) - 1:=aa (by omega) (by omega);have d1:decide (G<(c.sl:Int) - 1)=false:=decide_eq_false (by omega);clear hG qh fd kh hs oT pH hA;have ey:=fun W (h:St W sb mb lb ty o c rv l)=>kM sb mb lb ty o c rv l W h ht
 have hd:decide ((c.cap:Int)≤(c.tr:Int)+1)=true:=decide_eq_true (by omega);rw[hd] at ey;have iW:=hid ey;clear ey hd;unfold Kc.fail;simp only[ge_iff_le];rw[if_pos ak];clear ak ht;go_enter Tryz.func146,Tryz.ntmps146;go_wp2_with fail;refine dM (S:=(du sb o c)) aj ay (fun ai=>let ⟨_,_,ag⟩:=ai.out.op.row;(by and_intros <;> exact ag.c rfl)) fun w1 ai au hHeld=>?_
 refine ap 0 1 2 3 ?_;refine ap 4 5 7 8 ?_;refine bw 9 10 ?_;refine aF 11 ?_;refine aJ 6 (fun K hK=>?_)
 ·go_simp;refine(el.out _ ai.out).mono (bF au fun w2 ar aE=>?_);obtain⟨u2,bU,aC⟩:=ar.out.op.row;have aB:(du sb o c) w2:=(by and_intros <;> exact aC.c rfl);clear aC bU;refine kH hK aB fun hHeld=>?_
  clear hK K;refine aJ 12 (fun K hK=>?_)
  ·go_simp;refine(eD.out _).mono ?_;rintro ex w3 ⟨rfl,hb⟩;have aM:=hid (ar.out.below hb);have bf:=hid (aE.out.trans (Mv.below hb _));clear hb;obtain⟨u3,ez,bC⟩:=aM.out.op.row;have aQ:(du sb o c) w3:=(by and_intros <;> exact bC.c rfl);clear bC ez;refine kH hK aQ fun hHeld=>?_
   clear hK K;refine aJ 13 (fun K hK=>?_)
   ·go_simp;refine(mZ.out _).mono ?_;rintro ex w4 ⟨rfl,hb⟩;have cq:=hid (aM.out.below hb);have dd:=hid (bf.out.trans (Mv.below hb _));clear hb;obtain⟨u4,mC,dZ⟩:=cq.out.op.row;have ed:(du sb o c) w4:=(by and_intros <;> exact dZ.c rfl);clear dZ mC;refine kH hK ed fun hHeld=>?_
    clear hK K;refine aF 14 ?_;refine bh ?_;clear hHeld ed;obtain⟨u4,mC,dZ⟩:=cq.out.op.row;have c2_4:=dZ.at 2 (.int .i64 (c.sl:Int)) (by rw[← aS.out];rfl);clear dZ mC;go_wp2_with fail;refine(iW.out _ cq.out).mono (cS dd fun w5 rv5 dV fS=>?_);go_wp2_with fail;refine(fz sb mb lb ty o _ _ _ 1 _ dV.out).mono (cS fS fun w6 rv6 ja pq=>?_);go_wp2_with fail
    go_end0
    exact⟨_,rfl,ja.out,pq.out⟩
end
end Go.Proofs.YtolmpehgeinlkaaGreatDoor
