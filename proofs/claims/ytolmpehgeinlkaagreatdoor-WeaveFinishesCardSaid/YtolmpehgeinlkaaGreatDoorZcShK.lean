/- The reference: an object's words at the beginning. -/
import Derived.Test.YtolmpehgeinlkaaGreatDoorZcShJ
namespace Go.Proofs.YtolmpehgeinlkaaGreatDoor
open Go.RowKit
open Go.Lib (hid)
attribute [local go_sem] Oper.semAt_some
set_option maxHeartbeats 4000000
set_option maxRecDepth 100000
def LayO (w:World) (L:List Int) (e:Ending) (w':World):Prop:=∃ b N,e=.returned (.slice (some ⟨b,0,none⟩) N N)∧L.length=N∧N≤300∧w.heap.size≤b∧RowB w' b (dn L) 22∧(∀ z ∈ L,(Lit.int .u32 z).wf=true)∧Below w.heap.size w w'
theorem LayO.mk {w w':World} {b N:Nat} {L:List Int} (hr:RowB w' b (dn L) 22) (hN:L.length=N) (h3:N≤300) (hw:∀ z ∈ L,(Lit.int .u32 z).wf=true) (hb:Below w.heap.size w w') (h0:w.heap.size≤b):LayO w L (.returned (.slice (some ⟨b,0,none⟩) N N)) w':=⟨b,N,rfl,hN,h3,h0,hr,hw,hb⟩
def LySt (w:World) (n b B:Nat) (o:Ob) (l Z:List Int) (D k:Nat) (wr:World):Prop:=Below n w wr∧ObX wr n o∧RowB wr b (dn (ke Z D (l.take k))) 22∧Ws wr B o.I l
theorem LySt.step {w wr wx:World} {n b B D k:Nat} {o:Ob} {l Z:List Int} {z:Int} (h:LySt w n b B o l Z D k wr) (hx:Below wr.heap.size wr wx) (hz:l[k]?=some z) (hD:D+l.length≤Z.length) (hn:n<b) (hB:B≤n):LySt w n b B o l Z D (k+1) (wx.setCell ⟨b,D+k,none⟩ (.int .u32 z)):=by
 obtain⟨h1,h2,h3,h4⟩:=h;have aZ:=h3.lt;have hk:=ef hz;refine⟨ce (h1.trans (hx.mono (by omega))) b _ (by omega) _,(dT _ _ _ _ _ (by omega)).trans (h2.kept hx),?_,?_⟩
 ·have h5:=(h3.kept hx).set (D+k) (.int .u32 z);rw[fY] at h5;have hl:(l.take k).length=k:=by simp;omega
  have h6:=zF (Z:=Z) (b:=D) (l:=l.take k) (x:=z) (by rw[hl];omega);rw[hl] at h6;rw[h6,← vp hz] at h5;exact h5
 ·exact h4.below (ce (hx.mono (by omega)) b _ (by omega) _) (Nat.le_refl _)
theorem LySt.below {w wr wx:World} {n b B D k:Nat} {o:Ob} {l Z:List Int} (h:LySt w n b B o l Z D k wr) (hx:Below wr.heap.size wr wx) (hn:n<b) (hB:B≤n):LySt w n b B o l Z D k wx:=by
 obtain⟨h1,h2,h3,h4⟩:=h;have aZ:=h3.lt;exact⟨h1.trans (hx.mono (by omega)),h2.kept hx,h3.kept hx,h4.below (hx.mono (by omega)) (Nat.le_refl _)⟩
theorem LySt.cell {w wr:World} {n b B D k:Nat} {o:Ob} {l Z:List Int} (h:LySt w n b B o l Z D k wr) (hk:k<l.length) (hD:D+l.length≤Z.length):∃ u,wr.cell? ⟨b,D+k,none⟩=some u:=by
 have h3:=h.2.2.1.cell (D+k);have hl:(ke Z D (l.take k)).length=Z.length:=fD (by simp;omega);rw[h3,fA];obtain⟨u,hu⟩:=eF (l:=ke Z D (l.take k)) (k:=D+k) (by omega);exact⟨_,by rw[hu];rfl⟩
theorem oD {o:Ob} {l:List Int} (h:aT o) (hl:o.ni=l.length):0≤cQ o∧cQ o≤16∧0≤cQ o*o.wd∧cQ o*o.wd≤256∧0≤fu o∧fu o+l.length≤av o∧l.length≤8:=by
 obtain⟨a,b,c,d,e⟩:=gP h
 rcases bQ h with ⟨k,q⟩ | ⟨k,q⟩ | ⟨k,q⟩ | ⟨k,q⟩ | ⟨k,q⟩ | ⟨k,q⟩
 ·have hs:cQ o=0:=by unfold cQ;rw[if_neg (by omega)]
  have z:=gb q;have kw:(l.length:Int)=o.wd:=by unfold cG aH at q;omega
  unfold fu;rw[hs,eR q,gp k];omega
 ·have hs:cQ o=0:=by unfold cQ;rw[if_neg (by omega)]
  have z:=f7 q;have kw:(l.length:Int)=o.wd:=by unfold cF aH at q;omega
  have mm:2*o.wd≤((o.nr:Int)+2)*o.wd:=Int.mul_le_mul_of_nonneg_right (by omega) (by omega);unfold fu;rw[hs,eS q,gv k];omega
 ·have hs:cQ o=0:=by unfold cQ;rw[if_neg (by omega)]
  have z:=gj q;have kw:(l.length:Int)=o.wd:=by unfold dB aH at q;omega
  unfold fu;rw[hs,fE q,iq k];omega
 ·have hs:cQ o=o.st%o.s:=by unfold cQ;rw[if_pos k]
  have z:=dc q;have p0:=Int.emod_nonneg o.st (show o.s≠0 by omega);have p1:=Int.emod_lt_of_pos o.st (show 0<o.s by omega);have kw:(l.length:Int)=o.wd:=by unfold bY aH at q;omega
  have m:=dH (a:=o.st%o.s) (b:=o.wd) (by omega) (by omega) (by omega) (by omega)
  have mm:(o.st%o.s)*o.wd+o.wd≤o.s*o.wd:=by
   have:=Int.mul_le_mul_of_nonneg_right (show o.st%o.s+1≤o.s by omega) (show 0≤o.wd by omega);rw[Int.add_mul] at this;omega
  unfold fu;rw[hs,eU q,gq k];omega
 ·have hs:cQ o=0:=by unfold cQ;rw[if_neg (by omega)]
  have z:=eM q;have kw:(l.length:Int)=o.wd:=by unfold dK aH at q;omega
  have mm:2*o.wd≤o.s*o.wd:=Int.mul_le_mul_of_nonneg_right (by omega) (by omega);unfold fu;rw[hs,fG q,io k];omega
 ·have hs:cQ o=0:=by unfold cQ;rw[if_neg (by omega)]
  have z:=ea q;have kw:(l.length:Int)=0:=by unfold bS aH at q;omega
  have mm:1*o.wd≤o.s*o.wd:=Int.mul_le_mul_of_nonneg_right (by omega) (by omega);unfold fu;rw[hs,eP q,gu k];omega
theorem E3 (o:Ob) (ho:o.Ok) (h:aT o) (h6:(o.k==6)=false) (h4:(o.k==4)=false) (l:List Int) (B:Nat) (w:World) (hl:o.ni=l.length) (hI:Ws w B o.I l) (hB:B≤w.heap.size):Calls Tryz.prog 46 #[.agg (af o)] w (LayO w (bW o l)):=by
 have hs:=fun W=>lN o ho W
 have hr:=fun W=>aY o ho W
 rw[decide_eq_true h] at hr;obtain⟨s1,s2,s3,s4,s5,s6,s7⟩:=oD h hl;obtain⟨qa,qb,qc,qd,qe⟩:=gP h;have th:=gJ o;have dA:1≤av o:=by have:=Int.mul_nonneg (show 0≤cU o by omega) (show 0≤o.wd by omega);omega
 have uw:=fun W=>ku o qb.2 W
 obtain⟨N,hN⟩:∃ N:Nat,av o=N:=⟨(av o).toNat,by omega⟩;obtain⟨D,hD⟩:∃ D:Nat,fu o=D:=⟨(fu o).toNat,by omega⟩;have hL:bW o l=ke (fe o) D l:=by unfold bW;rw[if_pos h,hD,Int.toNat_natCast]
 rw[hL];have zc:fe o=(zs N).set 0 o.st:=by unfold fe;rw[if_neg (by simpa using h6),hN,Int.toNat_natCast]
 have xS:(fe o).length=N:=by rw[iu,hN,Int.toNat_natCast]
 rw[hN] at hs s6 dA th;rw[hD] at s6;have r7:bn o+cQ o*o.wd=D:=hD;have bH:cQ o=0:=by unfold cQ;rw[if_neg (by simpa using h4)]
 rw[bH] at r7 s1 s2 s3 s4;clear bH;obtain⟨H,hH⟩:∃ H,bn o=H:=⟨_,rfl⟩;rw[hH] at r7 qc;rw[hH] at uw;have e1:IntKind.i64.wrap 0=0:=rfl;have e2:IntKind.i64.wrap H=(D:Int):=by rw[Int.zero_mul,Int.add_zero] at r7;rw[r7];exact ac (by omega) (by omega)
 obtain⟨Z,hZ⟩:∃ Z,fe o=Z:=⟨_,rfl⟩;rw[hZ] at xS zc ⊢;have xG:=oN ho;rw[hZ] at xG;have nN:=hid (jB D xG hI.2);have g2:0<N:=by omega
 have g3:N≤300:=by omega
 have g5:(0:Int)<(N:Int):=by omega
 have qE:=fun W=>BN N g3 W
 have uL:=hid xS;have GV:=hid zc;have jZ:=hid (show D+l.length≤N by omega);have B7:=hid (show(dn (zs N))[0]?=some (.int .u32 0) by rw[fA,zs,List.getElem?_replicate,if_pos g2];rfl);have uc:D+l.length≤300:=by omega
 unfold af at hs hr uw;have HS:=hid hs;have gX:=hid hr;have fo:=hid uw;have nK:=hid hB;have HI:=hid hI;have um:=hid hl;have jQ:=hid e1;have qP:=hid e2;clear hs hr uw hB hI hl hL zc xS hZ xG hH r7 qa qb qc qd qe s1 s2 s3 s4 s5 s6 dA th hN hD h ho e1 e2;have hn:=ObX.new w o;have hB:=bt w (.cells (af o) 26);unfold af at *;have HN:=hid hn;have HB:=hid hB;clear hn hB;go_enter Tryz.func46,Tryz.ntmps46;go_wp2_with fail;refine(HS.out _).mono ?_;rintro e w1 ⟨rfl,am⟩;have aP:=ObX.kept HN.out am;have aO:=bv HB.out am;have iR:=HN.out.lt;have bZ:w.heap.size+1≤w1.heap.size:=by have:=am.size;simp at this;omega
 have bL:=RowB.new w1 (dn (zs N)) 22;have cz:=bt w1 (.cells (dn (zs N)) 22);have fC:(w1.alloc (.cells (dn (zs N)) 22)).heap.size=w1.heap.size+1:=by rw[World.size_alloc]
 obtain⟨W2,sR⟩:∃ W2,w1.alloc (.cells (dn (zs N)) 22)=W2:=⟨_,rfl⟩;rw[sR] at bL cz fC;obtain⟨b,hb⟩:∃ b,w1.heap.size=b:=⟨_,rfl⟩;obtain⟨n,aq⟩:∃ n,w.heap.size=n:=⟨_,rfl⟩;have cC:=aP.kept cz;have bz:=aO.trans (cz.mono (by omega));rw[aq] at aP cC bZ bz ⊢;rw[hb] at bL cz bZ fC;have HO:=hid cC;have HR:=hid bL;have cw:=hid bz;have bT:=hid aO;clear am aP cC bL cz aO bz;obtain⟨d0,d1,d2,d3,d4,d5,d6,d7⟩:=HO.out.cells;go_wp2_with fail;refine(gX.out _).mono ?_;rintro e w3 ⟨rfl,cW⟩;have bC:=HR.out.kept cW;have eK:=HO.out.kept cW;have fI:=cw.out.trans (cW.mono (by omega));have J3:b<w3.heap.size:=bC.lt;clear HR HO cw cW d0 d1 d2 d3 d4 d5 d6 d7;have c0:w3.cell? ⟨b,0,none⟩=some (.int .u32 0):=(bC.cell 0).trans B7.out;have f0:w3.frozen? ⟨b,0,none⟩=false:=bC.frozen 0;obtain⟨d0,d1,d2,d3,d4,d5,d6,d7⟩:=eK.cells;have dZ:=bC.set 0 (.int .u32 o.st);rw[fY] at dZ;have kY:ObX (w3.setCell ⟨b,0,none⟩ (.int .u32 o.st)) n o:=(dT w3 b 0 (.int .u32 o.st) n (by omega)).trans eK;have lY:=ce fI b 0 (by omega) (.int .u32 o.st);obtain⟨W6,GO⟩:∃ W,w3.setCell ⟨b,0,none⟩ (.int .u32 o.st)=W:=⟨_,rfl⟩;rw[GO] at dZ kY lY;obtain⟨y0,y1,y2,y3,y4,y5,y6,y7⟩:=kY.cells;have HR:=hid dZ;have HO:=hid kY;have cw:=hid lY;clear bC eK fI dZ kY lY;go_wp2_with fail;clear d0 d1 d2 d3 d4 d5 d6 d7 y0 y1 y2 y3 y4 y5 y6 y7 c0 f0 qE
 go_loopw [37] (fun j wr=>∃ k:Nat,k≤l.length∧j=.int .i64 k∧LySt w n b B o l Z D k wr) (fun j _=>l.length - (intOf j).toNat)
 case atStart=>exact⟨0,Nat.zero_le _,rfl,cw.out,HO.out,by rw[List.take_zero,lC,GV.out];exact HR.out,HI.out.below (cw.out.mono (by have:=nK.out;omega)) (Nat.le_refl _)⟩
 case round=>
  obtain⟨k,hk,rfl,dQ⟩:=hrel
  by_cases aZ:k<l.length
  ·obtain⟨z,hz⟩:=eF aZ;obtain⟨_,sb,so,hA,F2,ba⟩:=dQ.2.2.2.get hz
   have Kj:∀ W,(Instr.indexAt 23 (.slice o.I o.ni o.ci) (.int .i64 (k:Int))).run Tryz.prog W=.ok (.pointer (some ⟨sb,so+k,none⟩)) W:=fun W=>by
    have h2:k<o.ni:=by have:=um.out;omega
    have h3:(k:Int)<(o.ni:Int):=by omega
    rw[hA];go_simp
   clear hA;have zG:k<o.ni:=by have:=um.out;omega
   have yw:decide (k<o.ni)=true:=decide_eq_true zG;have e1:=jQ.out;have e2:=qP.out;have e3:IntKind.i64.wrap ((D:Int)+(k:Int))=(D:Int)+(k:Int):=ac (by omega) (by omega);have g8:(D:Int)+(k:Int)<(N:Int):=by have:=jZ.out;omega
   have g9:D+k<N:=by have:=jZ.out;omega
   have g10:(0:Int)≤(D:Int)+(k:Int):=by omega
   have g11:((D:Int)+(k:Int)).toNat=D+k:=by omega
   have lA:=hid dQ;have HZ:=hid hz;clear dQ hz;go_wp2_with fail;have fU:n<b:=by omega
   have y8:B≤n:=by have:=nK.out;omega
   have ct:(fun w':World=>Below b wr w'∧w'.cell? ⟨n,0,none⟩=some (.int .i64 o.k)∧w'.cell? ⟨n,1,none⟩=some (.int .i64 o.wd)∧w'.cell? ⟨n,2,none⟩=some (.int .i64 o.s)∧w'.cell? ⟨n,3,none⟩=some (.int .i64 o.c)∧w'.cell? ⟨n,4,none⟩=some (.int .u32 o.st)∧w'.cell? ⟨n,5,none⟩=some (.slice o.I o.ni o.ci)∧w'.cell? ⟨n,6,none⟩=some (.int .i64 o.wr)∧w'.cell? ⟨n,7,none⟩=some (.slice o.R o.nr o.cr)) wr.drew:=⟨(Below.refl b wr).drew,(ObX.kept lA.out.2.1 (Below.refl _ wr).drew).cells⟩;have rj:=lA.out.below (Below.refl _ wr).drew fU y8;refine wp_region_held_drew (S:=(fun w':World=>Below b wr w'∧w'.cell? ⟨n,0,none⟩=some (.int .i64 o.k)∧w'.cell? ⟨n,1,none⟩=some (.int .i64 o.wd)∧w'.cell? ⟨n,2,none⟩=some (.int .i64 o.s)∧w'.cell? ⟨n,3,none⟩=some (.int .i64 o.c)∧w'.cell? ⟨n,4,none⟩=some (.int .u32 o.st)∧w'.cell? ⟨n,5,none⟩=some (.slice o.I o.ni o.ci)∧w'.cell? ⟨n,6,none⟩=some (.int .i64 o.wr)∧w'.cell? ⟨n,7,none⟩=some (.slice o.R o.nr o.cr))) (by kernel_rfl) ct (fun hHeld=>?_);generalize wr.drew=wd at hHeld rj ⊢;have hHeld:(fun w':World=>Below b wr w'∧w'.cell? ⟨n,0,none⟩=some (.int .i64 o.k)∧w'.cell? ⟨n,1,none⟩=some (.int .i64 o.wd)∧w'.cell? ⟨n,2,none⟩=some (.int .i64 o.s)∧w'.cell? ⟨n,3,none⟩=some (.int .i64 o.c)∧w'.cell? ⟨n,4,none⟩=some (.int .u32 o.st)∧w'.cell? ⟨n,5,none⟩=some (.slice o.I o.ni o.ci)∧w'.cell? ⟨n,6,none⟩=some (.int .i64 o.wr)∧w'.cell? ⟨n,7,none⟩=some (.slice o.R o.nr o.cr)) wd:=hHeld;replace rj:=hid rj;refine ap 0 1 3 4 ?_;refine ap 5 6 8 10 ?_;refine aJ 2 (fun K hK=>?_);go_simp;refine(fo.out _).mono ?_;rintro ex wx ⟨rfl,br⟩;have ot:=rj.out.below br fU y8;have aN:(fun w':World=>Below b wr w'∧w'.cell? ⟨n,0,none⟩=some (.int .i64 o.k)∧w'.cell? ⟨n,1,none⟩=some (.int .i64 o.wd)∧w'.cell? ⟨n,2,none⟩=some (.int .i64 o.s)∧w'.cell? ⟨n,3,none⟩=some (.int .i64 o.c)∧w'.cell? ⟨n,4,none⟩=some (.int .u32 o.st)∧w'.cell? ⟨n,5,none⟩=some (.slice o.I o.ni o.ci)∧w'.cell? ⟨n,6,none⟩=some (.int .i64 o.wr)∧w'.cell? ⟨n,7,none⟩=some (.slice o.R o.nr o.cr)) wx:=⟨hHeld.1.trans (br.mono (Nat.le_of_lt rj.out.2.2.1.lt)),ot.2.1.cells⟩;replace ot:=hid ot;refine kH hK aN fun hHeld=>?_
   clear hK K;refine bw 7 9 ?_;refine aF 11 ?_;obtain⟨uu,cx⟩:=ot.out.cell aZ (by rw[uL.out];exact jZ.out);have fx:wx.frozen? ⟨b,D+k,none⟩=false:=ot.out.2.2.1.frozen _;refine aJ 12 (fun K hK=>?_);go_simp;have t7:=ot.out.step (Below.refl _ wx) HZ.out (by rw[uL.out];exact jZ.out) fU y8;have aN:(fun w':World=>Below b wr w'∧w'.cell? ⟨n,0,none⟩=some (.int .i64 o.k)∧w'.cell? ⟨n,1,none⟩=some (.int .i64 o.wd)∧w'.cell? ⟨n,2,none⟩=some (.int .i64 o.s)∧w'.cell? ⟨n,3,none⟩=some (.int .i64 o.c)∧w'.cell? ⟨n,4,none⟩=some (.int .u32 o.st)∧w'.cell? ⟨n,5,none⟩=some (.slice o.I o.ni o.ci)∧w'.cell? ⟨n,6,none⟩=some (.int .i64 o.wr)∧w'.cell? ⟨n,7,none⟩=some (.slice o.R o.nr o.cr)) (wx.setCell ⟨b,D+k,none⟩ (.int .u32 z)):=⟨ce hHeld.1 b _ (Nat.le_refl _) _,t7.2.1.cells⟩;replace t7:=hid t7;clear cx fx;refine kH hK aN fun hHeld=>?_
   clear hK K;refine bh ?_;clear ct;go_wp2_with fail;go_roundw
   case rel=>exact⟨k+1,by omega,by go_num,t7.out⟩
   case measure=>simp[intOf];omega
  ·obtain rfl:k=l.length:=by omega
   have yw:decide (l.length<o.ni)=false:=by have:=um.out;rw[decide_eq_false_iff_not];omega
   have F9:¬ l.length<o.ni:=by have:=um.out;omega
   have lA:=hid dQ;clear dQ aZ hk;go_wp2_with fail;go_ret;have C4:=lA.out.2.2.1;rw[List.take_length] at C4;exact LayO.mk C4 (by rw[fD (by rw[uL.out];exact jZ.out)];exact uL.out) g3 nN.out (by rw[aq];exact lA.out.1) (by omega)
theorem DH (o:Ob) (ho:o.Ok) (h:aT o) (h6:(o.k==6)=false) (h4:(o.k==4)=true) (l:List Int) (B:Nat) (w:World) (hl:o.ni=l.length) (hI:Ws w B o.I l) (hB:B≤w.heap.size):Calls Tryz.prog 46 #[.agg (af o)] w (LayO w (bW o l)):=by
 have hs:=fun W=>lN o ho W
 have hr:=fun W=>aY o ho W
 rw[decide_eq_true h] at hr;obtain⟨s1,s2,s3,s4,s5,s6,s7⟩:=oD h hl;obtain⟨qa,qb,qc,qd,qe⟩:=gP h;have th:=gJ o;have dA:1≤av o:=by have:=Int.mul_nonneg (show 0≤cU o by omega) (show 0≤o.wd by omega);omega
 have uw:=fun W=>ku o qb.2 W
 obtain⟨N,hN⟩:∃ N:Nat,av o=N:=⟨(av o).toNat,by omega⟩;obtain⟨D,hD⟩:∃ D:Nat,fu o=D:=⟨(fu o).toNat,by omega⟩;have hL:bW o l=ke (fe o) D l:=by unfold bW;rw[if_pos h,hD,Int.toNat_natCast]
 rw[hL];have zc:fe o=(zs N).set 0 o.st:=by unfold fe;rw[if_neg (by simpa using h6),hN,Int.toNat_natCast]
 have xS:(fe o).length=N:=by rw[iu,hN,Int.toNat_natCast]
 rw[hN] at hs s6 dA th;rw[hD] at s6;have r7:bn o+cQ o*o.wd=D:=hD;have fk:o.k=4:=by simpa using h4
 have CG:bY o:=by rcases bQ h with ⟨k,q⟩ | ⟨k,q⟩ | ⟨k,q⟩ | ⟨k,q⟩ | ⟨k,q⟩ | ⟨k,q⟩ <;> first | exact q | omega
 have z:=dc CG;have bH:cQ o=o.st%o.s:=by unfold cQ;rw[if_pos fk]
 have z0:=ho.st0;have z1:=ho.st1;have nz2:¬ o.s=0:=by omega
 have f2:o.st.tmod o.s=o.st%o.s:=Int.tmod_eq_emod_of_nonneg z0;have f4:IntKind.i64.wrap o.st=o.st:=ac (by omega) (by omega);have f5:IntKind.i64.wrap (o.st%o.s)=o.st%o.s:=ac (by rw[← bH];omega) (by rw[← bH];omega);have nz:(o.s==0)=false:=by rw[beq_eq_false_iff_ne];omega
 rw[bH] at r7 s1 s2 s3 s4;clear fk CG z bH z0 z1;obtain⟨H,hH⟩:∃ H,bn o=H:=⟨_,rfl⟩;rw[hH] at r7 qc;rw[hH] at uw;have e1:IntKind.i64.wrap ((o.st%o.s)*o.wd)=(o.st%o.s)*o.wd:=ac (by omega) (by omega);have e2:IntKind.i64.wrap (H+(o.st%o.s)*o.wd)=(D:Int):=by rw[r7];exact ac (by omega) (by omega)
 obtain⟨Z,hZ⟩:∃ Z,fe o=Z:=⟨_,rfl⟩;rw[hZ] at xS zc ⊢;have xG:=oN ho;rw[hZ] at xG;have nN:=hid (jB D xG hI.2);have g2:0<N:=by omega
 have g3:N≤300:=by omega
 have g5:(0:Int)<(N:Int):=by omega
 have qE:=fun W=>BN N g3 W
 have uL:=hid xS;have GV:=hid zc;have jZ:=hid (show D+l.length≤N by omega);have B7:=hid (show(dn (zs N))[0]?=some (.int .u32 0) by rw[fA,zs,List.getElem?_replicate,if_pos g2];rfl);have uc:D+l.length≤300:=by omega
 unfold af at hs hr uw;have HS:=hid hs;have gX:=hid hr;have fo:=hid uw;have nK:=hid hB;have HI:=hid hI;have um:=hid hl;have jQ:=hid e1;have qP:=hid e2;clear hs hr uw hB hI hl hL zc xS hZ xG hH r7 qa qb qc qd qe s1 s2 s3 s4 s5 s6 dA th hN hD h ho e1 e2;have hn:=ObX.new w o;have hB:=bt w (.cells (af o) 26);unfold af at *;have HN:=hid hn;have HB:=hid hB;clear hn hB;go_enter Tryz.func46,Tryz.ntmps46;go_wp2_with fail;refine(HS.out _).mono ?_;rintro e w1 ⟨rfl,am⟩;have aP:=ObX.kept HN.out am;have aO:=bv HB.out am;have iR:=HN.out.lt;have bZ:w.heap.size+1≤w1.heap.size:=by have:=am.size;simp at this;omega
 have bL:=RowB.new w1 (dn (zs N)) 22;have cz:=bt w1 (.cells (dn (zs N)) 22);have fC:(w1.alloc (.cells (dn (zs N)) 22)).heap.size=w1.heap.size+1:=by rw[World.size_alloc]
 obtain⟨W2,sR⟩:∃ W2,w1.alloc (.cells (dn (zs N)) 22)=W2:=⟨_,rfl⟩;rw[sR] at bL cz fC;obtain⟨b,hb⟩:∃ b,w1.heap.size=b:=⟨_,rfl⟩;obtain⟨n,aq⟩:∃ n,w.heap.size=n:=⟨_,rfl⟩;have cC:=aP.kept cz;have bz:=aO.trans (cz.mono (by omega));rw[aq] at aP cC bZ bz ⊢;rw[hb] at bL cz bZ fC;have HO:=hid cC;have HR:=hid bL;have cw:=hid bz;have bT:=hid aO;clear am aP cC bL cz aO bz;obtain⟨d0,d1,d2,d3,d4,d5,d6,d7⟩:=HO.out.cells;go_wp2_with fail;refine(gX.out _).mono ?_;rintro e w3 ⟨rfl,cW⟩;have bC:=HR.out.kept cW;have eK:=HO.out.kept cW;have fI:=cw.out.trans (cW.mono (by omega));have J3:b<w3.heap.size:=bC.lt;clear HR HO cw cW d0 d1 d2 d3 d4 d5 d6 d7;have c0:w3.cell? ⟨b,0,none⟩=some (.int .u32 0):=(bC.cell 0).trans B7.out;have f0:w3.frozen? ⟨b,0,none⟩=false:=bC.frozen 0;obtain⟨d0,d1,d2,d3,d4,d5,d6,d7⟩:=eK.cells;have dZ:=bC.set 0 (.int .u32 o.st);rw[fY] at dZ;have kY:ObX (w3.setCell ⟨b,0,none⟩ (.int .u32 o.st)) n o:=(dT w3 b 0 (.int .u32 o.st) n (by omega)).trans eK;have lY:=ce fI b 0 (by omega) (.int .u32 o.st);obtain⟨W6,GO⟩:∃ W,w3.setCell ⟨b,0,none⟩ (.int .u32 o.st)=W:=⟨_,rfl⟩;rw[GO] at dZ kY lY;obtain⟨y0,y1,y2,y3,y4,y5,y6,y7⟩:=kY.cells;have HR:=hid dZ;have HO:=hid kY;have cw:=hid lY;clear bC eK fI dZ kY lY;go_wp2_with fail;clear d0 d1 d2 d3 d4 d5 d6 d7 y0 y1 y2 y3 y4 y5 y6 y7 c0 f0 qE
 go_loopw [37] (fun j wr=>∃ k:Nat,k≤l.length∧j=.int .i64 k∧LySt w n b B o l Z D k wr) (fun j _=>l.length - (intOf j).toNat)
 case atStart=>exact⟨0,Nat.zero_le _,rfl,cw.out,HO.out,by rw[List.take_zero,lC,GV.out];exact HR.out,HI.out.below (cw.out.mono (by have:=nK.out;omega)) (Nat.le_refl _)⟩
 case round=>
  obtain⟨k,hk,rfl,dQ⟩:=hrel
  by_cases aZ:k<l.length
  ·obtain⟨z,hz⟩:=eF aZ;obtain⟨_,sb,so,hA,F2,ba⟩:=dQ.2.2.2.get hz
   have Kj:∀ W,(Instr.indexAt 23 (.slice o.I o.ni o.ci) (.int .i64 (k:Int))).run Tryz.prog W=.ok (.pointer (some ⟨sb,so+k,none⟩)) W:=fun W=>by
    have h2:k<o.ni:=by have:=um.out;omega
    have h3:(k:Int)<(o.ni:Int):=by omega
    rw[hA];go_simp
   clear hA;have zG:k<o.ni:=by have:=um.out;omega
   have yw:decide (k<o.ni)=true:=decide_eq_true zG;have e1:=jQ.out;have e2:=qP.out;have e3:IntKind.i64.wrap ((D:Int)+(k:Int))=(D:Int)+(k:Int):=ac (by omega) (by omega);have g8:(D:Int)+(k:Int)<(N:Int):=by have:=jZ.out;omega
   have g9:D+k<N:=by have:=jZ.out;omega
   have g10:(0:Int)≤(D:Int)+(k:Int):=by omega
   have g11:((D:Int)+(k:Int)).toNat=D+k:=by omega
   have lA:=hid dQ;have HZ:=hid hz;clear dQ hz;go_wp2_with fail;have fU:n<b:=by omega
   have y8:B≤n:=by have:=nK.out;omega
   have ct:(fun w':World=>Below b wr w'∧w'.cell? ⟨n,0,none⟩=some (.int .i64 o.k)∧w'.cell? ⟨n,1,none⟩=some (.int .i64 o.wd)∧w'.cell? ⟨n,2,none⟩=some (.int .i64 o.s)∧w'.cell? ⟨n,3,none⟩=some (.int .i64 o.c)∧w'.cell? ⟨n,4,none⟩=some (.int .u32 o.st)∧w'.cell? ⟨n,5,none⟩=some (.slice o.I o.ni o.ci)∧w'.cell? ⟨n,6,none⟩=some (.int .i64 o.wr)∧w'.cell? ⟨n,7,none⟩=some (.slice o.R o.nr o.cr)) wr.drew:=⟨(Below.refl b wr).drew,(ObX.kept lA.out.2.1 (Below.refl _ wr).drew).cells⟩;have rj:=lA.out.below (Below.refl _ wr).drew fU y8;refine wp_region_held_drew (S:=(fun w':World=>Below b wr w'∧w'.cell? ⟨n,0,none⟩=some (.int .i64 o.k)∧w'.cell? ⟨n,1,none⟩=some (.int .i64 o.wd)∧w'.cell? ⟨n,2,none⟩=some (.int .i64 o.s)∧w'.cell? ⟨n,3,none⟩=some (.int .i64 o.c)∧w'.cell? ⟨n,4,none⟩=some (.int .u32 o.st)∧w'.cell? ⟨n,5,none⟩=some (.slice o.I o.ni o.ci)∧w'.cell? ⟨n,6,none⟩=some (.int .i64 o.wr)∧w'.cell? ⟨n,7,none⟩=some (.slice o.R o.nr o.cr))) (by kernel_rfl) ct (fun hHeld=>?_);generalize wr.drew=wd at hHeld rj ⊢;have hHeld:(fun w':World=>Below b wr w'∧w'.cell? ⟨n,0,none⟩=some (.int .i64 o.k)∧w'.cell? ⟨n,1,none⟩=some (.int .i64 o.wd)∧w'.cell? ⟨n,2,none⟩=some (.int .i64 o.s)∧w'.cell? ⟨n,3,none⟩=some (.int .i64 o.c)∧w'.cell? ⟨n,4,none⟩=some (.int .u32 o.st)∧w'.cell? ⟨n,5,none⟩=some (.slice o.I o.ni o.ci)∧w'.cell? ⟨n,6,none⟩=some (.int .i64 o.wr)∧w'.cell? ⟨n,7,none⟩=some (.slice o.R o.nr o.cr)) wd:=hHeld;replace rj:=hid rj;refine ap 0 1 3 4 ?_;refine ap 5 6 8 10 ?_;refine aJ 2 (fun K hK=>?_);go_simp;refine(fo.out _).mono ?_;rintro ex wx ⟨rfl,br⟩;have ot:=rj.out.below br fU y8;have aN:(fun w':World=>Below b wr w'∧w'.cell? ⟨n,0,none⟩=some (.int .i64 o.k)∧w'.cell? ⟨n,1,none⟩=some (.int .i64 o.wd)∧w'.cell? ⟨n,2,none⟩=some (.int .i64 o.s)∧w'.cell? ⟨n,3,none⟩=some (.int .i64 o.c)∧w'.cell? ⟨n,4,none⟩=some (.int .u32 o.st)∧w'.cell? ⟨n,5,none⟩=some (.slice o.I o.ni o.ci)∧w'.cell? ⟨n,6,none⟩=some (.int .i64 o.wr)∧w'.cell? ⟨n,7,none⟩=some (.slice o.R o.nr o.cr)) wx:=⟨hHeld.1.trans (br.mono (Nat.le_of_lt rj.out.2.2.1.lt)),ot.2.1.cells⟩;replace ot:=hid ot;refine kH hK aN fun hHeld=>?_
   clear hK K;refine bw 7 9 ?_;refine aF 11 ?_;obtain⟨uu,cx⟩:=ot.out.cell aZ (by rw[uL.out];exact jZ.out);have fx:wx.frozen? ⟨b,D+k,none⟩=false:=ot.out.2.2.1.frozen _;refine aJ 12 (fun K hK=>?_);go_simp;have t7:=ot.out.step (Below.refl _ wx) HZ.out (by rw[uL.out];exact jZ.out) fU y8;have aN:(fun w':World=>Below b wr w'∧w'.cell? ⟨n,0,none⟩=some (.int .i64 o.k)∧w'.cell? ⟨n,1,none⟩=some (.int .i64 o.wd)∧w'.cell? ⟨n,2,none⟩=some (.int .i64 o.s)∧w'.cell? ⟨n,3,none⟩=some (.int .i64 o.c)∧w'.cell? ⟨n,4,none⟩=some (.int .u32 o.st)∧w'.cell? ⟨n,5,none⟩=some (.slice o.I o.ni o.ci)∧w'.cell? ⟨n,6,none⟩=some (.int .i64 o.wr)∧w'.cell? ⟨n,7,none⟩=some (.slice o.R o.nr o.cr)) (wx.setCell ⟨b,D+k,none⟩ (.int .u32 z)):=⟨ce hHeld.1 b _ (Nat.le_refl _) _,t7.2.1.cells⟩;replace t7:=hid t7;clear cx fx;refine kH hK aN fun hHeld=>?_
   clear hK K;refine bh ?_;clear ct;go_wp2_with fail;go_roundw
   case rel=>exact⟨k+1,by omega,by go_num,t7.out⟩
   case measure=>simp[intOf];omega
  ·obtain rfl:k=l.length:=by omega
   have yw:decide (l.length<o.ni)=false:=by have:=um.out;rw[decide_eq_false_iff_not];omega
   have F9:¬ l.length<o.ni:=by have:=um.out;omega
   have lA:=hid dQ;clear dQ aZ hk;go_wp2_with fail;go_ret;have C4:=lA.out.2.2.1;rw[List.take_length] at C4;exact LayO.mk C4 (by rw[fD (by rw[uL.out];exact jZ.out)];exact uL.out) g3 nN.out (by rw[aq];exact lA.out.1) (by omega)
theorem DG (o:Ob) (ho:o.Ok) (h:aT o) (h6:(o.k==6)=true) (h4:(o.k==4)=false) (l:List Int) (B:Nat) (w:World) (hl:o.ni=l.length) (hI:Ws w B o.I l) (hB:B≤w.heap.size):Calls Tryz.prog 46 #[.agg (af o)] w (LayO w (bW o l)):=by
 have hs:=fun W=>lN o ho W
 have hr:=fun W=>aY o ho W
 rw[decide_eq_true h] at hr;obtain⟨s1,s2,s3,s4,s5,s6,s7⟩:=oD h hl;obtain⟨qa,qb,qc,qd,qe⟩:=gP h;have th:=gJ o;have dA:2≤av o:=by have hk:o.k=6:=(by simpa using h6);have hh:bn o=2:=gu hk;unfold fu at s6;omega
 have uw:=fun W=>ku o qb.2 W
 obtain⟨N,hN⟩:∃ N:Nat,av o=N:=⟨(av o).toNat,by omega⟩;obtain⟨D,hD⟩:∃ D:Nat,fu o=D:=⟨(fu o).toNat,by omega⟩;have hL:bW o l=ke (fe o) D l:=by unfold bW;rw[if_pos h,hD,Int.toNat_natCast]
 rw[hL];have zc:fe o=((zs N).set 0 o.st).set 1 o.st:=by unfold fe;rw[if_pos (by simpa using h6),hN,Int.toNat_natCast]
 have xS:(fe o).length=N:=by rw[iu,hN,Int.toNat_natCast]
 rw[hN] at hs s6 dA th;rw[hD] at s6;have r7:bn o+cQ o*o.wd=D:=hD;have bH:cQ o=0:=by unfold cQ;rw[if_neg (by simpa using h4)]
 rw[bH] at r7 s1 s2 s3 s4;clear bH;obtain⟨H,hH⟩:∃ H,bn o=H:=⟨_,rfl⟩;rw[hH] at r7 qc;rw[hH] at uw;have e1:IntKind.i64.wrap 0=0:=rfl;have e2:IntKind.i64.wrap H=(D:Int):=by rw[Int.zero_mul,Int.add_zero] at r7;rw[r7];exact ac (by omega) (by omega)
 obtain⟨Z,hZ⟩:∃ Z,fe o=Z:=⟨_,rfl⟩;rw[hZ] at xS zc ⊢;have xG:=oN ho;rw[hZ] at xG;have nN:=hid (jB D xG hI.2);have g2:0<N:=by omega
 have g3:N≤300:=by omega
 have g5:(0:Int)<(N:Int):=by omega
 have g6:1<N:=by omega
 have g7:(1:Int)<(N:Int):=by omega
 have qE:=fun W=>BN N g3 W
 have uL:=hid xS;have GV:=hid zc;have jZ:=hid (show D+l.length≤N by omega);have B7:=hid (show(dn (zs N))[0]?=some (.int .u32 0) by rw[fA,zs,List.getElem?_replicate,if_pos g2];rfl);have Iz:=hid (show(dn ((zs N).set 0 o.st))[1]?=some (.int .u32 0) by rw[fA,List.getElem?_set_ne (by omega),zs,List.getElem?_replicate,if_pos g6];rfl);have uc:D+l.length≤300:=by omega
 unfold af at hs hr uw;have HS:=hid hs;have gX:=hid hr;have fo:=hid uw;have nK:=hid hB;have HI:=hid hI;have um:=hid hl;have jQ:=hid e1;have qP:=hid e2;clear hs hr uw hB hI hl hL zc xS hZ xG hH r7 qa qb qc qd qe s1 s2 s3 s4 s5 s6 dA th hN hD h ho e1 e2;have hn:=ObX.new w o;have hB:=bt w (.cells (af o) 26);unfold af at *;have HN:=hid hn;have HB:=hid hB;clear hn hB;go_enter Tryz.func46,Tryz.ntmps46;go_wp2_with fail;refine(HS.out _).mono ?_;rintro e w1 ⟨rfl,am⟩;have aP:=ObX.kept HN.out am;have aO:=bv HB.out am;have iR:=HN.out.lt;have bZ:w.heap.size+1≤w1.heap.size:=by have:=am.size;simp at this;omega
 have bL:=RowB.new w1 (dn (zs N)) 22;have cz:=bt w1 (.cells (dn (zs N)) 22);have fC:(w1.alloc (.cells (dn (zs N)) 22)).heap.size=w1.heap.size+1:=by rw[World.size_alloc]
 obtain⟨W2,sR⟩:∃ W2,w1.alloc (.cells (dn (zs N)) 22)=W2:=⟨_,rfl⟩;rw[sR] at bL cz fC;obtain⟨b,hb⟩:∃ b,w1.heap.size=b:=⟨_,rfl⟩;obtain⟨n,aq⟩:∃ n,w.heap.size=n:=⟨_,rfl⟩;have cC:=aP.kept cz;have bz:=aO.trans (cz.mono (by omega));rw[aq] at aP cC bZ bz ⊢;rw[hb] at bL cz bZ fC;have HO:=hid cC;have HR:=hid bL;have cw:=hid bz;have bT:=hid aO;clear am aP cC bL cz aO bz;obtain⟨d0,d1,d2,d3,d4,d5,d6,d7⟩:=HO.out.cells;go_wp2_with fail;refine(gX.out _).mono ?_;rintro e w3 ⟨rfl,cW⟩;have bC:=HR.out.kept cW;have eK:=HO.out.kept cW;have fI:=cw.out.trans (cW.mono (by omega));have J3:b<w3.heap.size:=bC.lt;clear HR HO cw cW d0 d1 d2 d3 d4 d5 d6 d7;have c0:w3.cell? ⟨b,0,none⟩=some (.int .u32 0):=(bC.cell 0).trans B7.out;have f0:w3.frozen? ⟨b,0,none⟩=false:=bC.frozen 0;obtain⟨d0,d1,d2,d3,d4,d5,d6,d7⟩:=eK.cells;have dZ:=bC.set 0 (.int .u32 o.st);rw[fY] at dZ;have kY:ObX (w3.setCell ⟨b,0,none⟩ (.int .u32 o.st)) n o:=(dT w3 b 0 (.int .u32 o.st) n (by omega)).trans eK;have lY:=ce fI b 0 (by omega) (.int .u32 o.st);obtain⟨W5,MU⟩:∃ W,w3.setCell ⟨b,0,none⟩ (.int .u32 o.st)=W:=⟨_,rfl⟩;rw[MU] at dZ kY lY;have c1:W5.cell? ⟨b,1,none⟩=some (.int .u32 0):=(dZ.cell 1).trans Iz.out;have f1:W5.frozen? ⟨b,1,none⟩=false:=dZ.frozen 1;obtain⟨x0,x1,x2,x3,x4,x5,x6,x7⟩:=kY.cells;have j5:=dZ.set 1 (.int .u32 o.st);rw[fY] at j5;have Hu:ObX (W5.setCell ⟨b,1,none⟩ (.int .u32 o.st)) n o:=(dT W5 b 1 (.int .u32 o.st) n (by omega)).trans kY;have Jm:=ce lY b 1 (by omega) (.int .u32 o.st);clear dZ kY lY;obtain⟨W6,GO⟩:∃ W,W5.setCell ⟨b,1,none⟩ (.int .u32 o.st)=W:=⟨_,rfl⟩;rw[GO] at j5 Hu Jm;obtain⟨y0,y1,y2,y3,y4,y5,y6,y7⟩:=Hu.cells;have HR:=hid j5;have HO:=hid Hu;have cw:=hid Jm;clear bC eK fI j5 Hu Jm;go_wp2_with fail;clear d0 d1 d2 d3 d4 d5 d6 d7 y0 y1 y2 y3 y4 y5 y6 y7 c0 f0 qE c1 f1 x0 x1 x2 x3 x4 x5 x6 x7
 go_loopw [37] (fun j wr=>∃ k:Nat,k≤l.length∧j=.int .i64 k∧LySt w n b B o l Z D k wr) (fun j _=>l.length - (intOf j).toNat)
 case atStart=>exact⟨0,Nat.zero_le _,rfl,cw.out,HO.out,by rw[List.take_zero,lC,GV.out];exact HR.out,HI.out.below (cw.out.mono (by have:=nK.out;omega)) (Nat.le_refl _)⟩
 case round=>
  obtain⟨k,hk,rfl,dQ⟩:=hrel
  by_cases aZ:k<l.length
  ·obtain⟨z,hz⟩:=eF aZ;obtain⟨_,sb,so,hA,F2,ba⟩:=dQ.2.2.2.get hz
   have Kj:∀ W,(Instr.indexAt 23 (.slice o.I o.ni o.ci) (.int .i64 (k:Int))).run Tryz.prog W=.ok (.pointer (some ⟨sb,so+k,none⟩)) W:=fun W=>by
    have h2:k<o.ni:=by have:=um.out;omega
    have h3:(k:Int)<(o.ni:Int):=by omega
    rw[hA];go_simp
   clear hA;have zG:k<o.ni:=by have:=um.out;omega
   have yw:decide (k<o.ni)=true:=decide_eq_true zG;have e1:=jQ.out;have e2:=qP.out;have e3:IntKind.i64.wrap ((D:Int)+(k:Int))=(D:Int)+(k:Int):=ac (by omega) (by omega);have g8:(D:Int)+(k:Int)<(N:Int):=by have:=jZ.out;omega
   have g9:D+k<N:=by have:=jZ.out;omega
   have g10:(0:Int)≤(D:Int)+(k:Int):=by omega
   have g11:((D:Int)+(k:Int)).toNat=D+k:=by omega
   have lA:=hid dQ;have HZ:=hid hz;clear dQ hz;go_wp2_with fail;have fU:n<b:=by omega
   have y8:B≤n:=by have:=nK.out;omega
   have ct:(fun w':World=>Below b wr w'∧w'.cell? ⟨n,0,none⟩=some (.int .i64 o.k)∧w'.cell? ⟨n,1,none⟩=some (.int .i64 o.wd)∧w'.cell? ⟨n,2,none⟩=some (.int .i64 o.s)∧w'.cell? ⟨n,3,none⟩=some (.int .i64 o.c)∧w'.cell? ⟨n,4,none⟩=some (.int .u32 o.st)∧w'.cell? ⟨n,5,none⟩=some (.slice o.I o.ni o.ci)∧w'.cell? ⟨n,6,none⟩=some (.int .i64 o.wr)∧w'.cell? ⟨n,7,none⟩=some (.slice o.R o.nr o.cr)) wr.drew:=⟨(Below.refl b wr).drew,(ObX.kept lA.out.2.1 (Below.refl _ wr).drew).cells⟩;have rj:=lA.out.below (Below.refl _ wr).drew fU y8;refine wp_region_held_drew (S:=(fun w':World=>Below b wr w'∧w'.cell? ⟨n,0,none⟩=some (.int .i64 o.k)∧w'.cell? ⟨n,1,none⟩=some (.int .i64 o.wd)∧w'.cell? ⟨n,2,none⟩=some (.int .i64 o.s)∧w'.cell? ⟨n,3,none⟩=some (.int .i64 o.c)∧w'.cell? ⟨n,4,none⟩=some (.int .u32 o.st)∧w'.cell? ⟨n,5,none⟩=some (.slice o.I o.ni o.ci)∧w'.cell? ⟨n,6,none⟩=some (.int .i64 o.wr)∧w'.cell? ⟨n,7,none⟩=some (.slice o.R o.nr o.cr))) (by kernel_rfl) ct (fun hHeld=>?_);generalize wr.drew=wd at hHeld rj ⊢;have hHeld:(fun w':World=>Below b wr w'∧w'.cell? ⟨n,0,none⟩=some (.int .i64 o.k)∧w'.cell? ⟨n,1,none⟩=some (.int .i64 o.wd)∧w'.cell? ⟨n,2,none⟩=some (.int .i64 o.s)∧w'.cell? ⟨n,3,none⟩=some (.int .i64 o.c)∧w'.cell? ⟨n,4,none⟩=some (.int .u32 o.st)∧w'.cell? ⟨n,5,none⟩=some (.slice o.I o.ni o.ci)∧w'.cell? ⟨n,6,none⟩=some (.int .i64 o.wr)∧w'.cell? ⟨n,7,none⟩=some (.slice o.R o.nr o.cr)) wd:=hHeld;replace rj:=hid rj;refine ap 0 1 3 4 ?_;refine ap 5 6 8 10 ?_;refine aJ 2 (fun K hK=>?_);go_simp;refine(fo.out _).mono ?_;rintro ex wx ⟨rfl,br⟩;have ot:=rj.out.below br fU y8;have aN:(fun w':World=>Below b wr w'∧w'.cell? ⟨n,0,none⟩=some (.int .i64 o.k)∧w'.cell? ⟨n,1,none⟩=some (.int .i64 o.wd)∧w'.cell? ⟨n,2,none⟩=some (.int .i64 o.s)∧w'.cell? ⟨n,3,none⟩=some (.int .i64 o.c)∧w'.cell? ⟨n,4,none⟩=some (.int .u32 o.st)∧w'.cell? ⟨n,5,none⟩=some (.slice o.I o.ni o.ci)∧w'.cell? ⟨n,6,none⟩=some (.int .i64 o.wr)∧w'.cell? ⟨n,7,none⟩=some (.slice o.R o.nr o.cr)) wx:=⟨hHeld.1.trans (br.mono (Nat.le_of_lt rj.out.2.2.1.lt)),ot.2.1.cells⟩;replace ot:=hid ot;refine kH hK aN fun hHeld=>?_
   clear hK K;refine bw 7 9 ?_;refine aF 11 ?_;obtain⟨uu,cx⟩:=ot.out.cell aZ (by rw[uL.out];exact jZ.out);have fx:wx.frozen? ⟨b,D+k,none⟩=false:=ot.out.2.2.1.frozen _;refine aJ 12 (fun K hK=>?_);go_simp;have t7:=ot.out.step (Below.refl _ wx) HZ.out (by rw[uL.out];exact jZ.out) fU y8;have aN:(fun w':World=>Below b wr w'∧w'.cell? ⟨n,0,none⟩=some (.int .i64 o.k)∧w'.cell? ⟨n,1,none⟩=some (.int .i64 o.wd)∧w'.cell? ⟨n,2,none⟩=some (.int .i64 o.s)∧w'.cell? ⟨n,3,none⟩=some (.int .i64 o.c)∧w'.cell? ⟨n,4,none⟩=some (.int .u32 o.st)∧w'.cell? ⟨n,5,none⟩=some (.slice o.I o.ni o.ci)∧w'.cell? ⟨n,6,none⟩=some (.int .i64 o.wr)∧w'.cell? ⟨n,7,none⟩=some (.slice o.R o.nr o.cr)) (wx.setCell ⟨b,D+k,none⟩ (.int .u32 z)):=⟨ce hHeld.1 b _ (Nat.le_refl _) _,t7.2.1.cells⟩;replace t7:=hid t7;clear cx fx;refine kH hK aN fun hHeld=>?_
   clear hK K;refine bh ?_;clear ct;go_wp2_with fail;go_roundw
   case rel=>exact⟨k+1,by omega,by go_num,t7.out⟩
   case measure=>simp[intOf];omega
  ·obtain rfl:k=l.length:=by omega
   have yw:decide (l.length<o.ni)=false:=by have:=um.out;rw[decide_eq_false_iff_not];omega
   have F9:¬ l.length<o.ni:=by have:=um.out;omega
   have lA:=hid dQ;clear dQ aZ hk;go_wp2_with fail;go_ret;have C4:=lA.out.2.2.1;rw[List.take_length] at C4;exact LayO.mk C4 (by rw[fD (by rw[uL.out];exact jZ.out)];exact uL.out) g3 nN.out (by rw[aq];exact lA.out.1) (by omega)
theorem zD (o:Ob) (ho:o.Ok) (h:aT o) (l:List Int) (B:Nat) (w:World) (hl:o.ni=l.length) (hI:Ws w B o.I l) (hB:B≤w.heap.size):Calls Tryz.prog 46 #[.agg (af o)] w (LayO w (bW o l)):=by
 by_cases h6:o.k=6
 ·exact DG o ho h (by simpa using h6) (by rw[h6];rfl) l B w hl hI hB
 ·by_cases h4:o.k=4
  ·exact DH o ho h (by rw[h4];rfl) (by simpa using h4) l B w hl hI hB
  ·exact E3 o ho h (by simpa using h6) (by simpa using h4) l B w hl hI hB
end Go.Proofs.YtolmpehgeinlkaaGreatDoor
