/- The reference: an object's words at the beginning. -/
import Derived.Test.YtolmpehgeinlkaaGreatDoorZcShJ
namespace Go.Proofs.YtolmpehgeinlkaaGreatDoor
open Go.RowKit
open Go.Lib (hid)
attribute [local go_sem] Oper.semAt_some
set_option maxHeartbeats 4000000
set_option maxRecDepth 100000
def LayO (w:World) (L:List Int) (e:Ending) (w':World):Prop:=∃ b N,e=.returned (.slice (some ⟨b,0,none⟩) N N)∧L.length=N∧N≤300∧w.heap.size≤b∧RowB w' b (wsA L) 22∧(∀ z ∈ L,(Lit.int .u32 z).wf=true)∧Below w.heap.size w w'
theorem LayO.mk {w w':World} {b N:Nat} {L:List Int} (hr:RowB w' b (wsA L) 22) (hN:L.length=N) (h3:N≤300) (hw:∀ z ∈ L,(Lit.int .u32 z).wf=true) (hb:Below w.heap.size w w') (h0:w.heap.size≤b):LayO w L (.returned (.slice (some ⟨b,0,none⟩) N N)) w':=⟨b,N,rfl,hN,h3,h0,hr,hw,hb⟩
def LySt (w:World) (n b B:Nat) (o:Ob) (l Z:List Int) (D k:Nat) (wr:World):Prop:=Below n w wr∧ObX wr n o∧RowB wr b (wsA (spl Z D (l.take k))) 22∧Ws wr B o.I l
theorem LySt.step {w wr wx:World} {n b B D k:Nat} {o:Ob} {l Z:List Int} {z:Int} (h:LySt w n b B o l Z D k wr) (hx:Below wr.heap.size wr wx) (hz:l[k]?=some z) (hD:D+l.length≤Z.length) (hn:n<b) (hB:B≤n):LySt w n b B o l Z D (k+1) (wx.setCell ⟨b,D+k,none⟩ (.int .u32 z)):=by
 obtain⟨h1,h2,h3,h4⟩:=h;have hlt:=h3.lt;have hk:=get_lt hz;refine⟨below_set1 (h1.trans (hx.mono (by omega))) b _ (by omega) _,(heap_set _ _ _ _ _ (by omega)).trans (h2.kept hx),?_,?_⟩
 ·have h5:=(h3.kept hx).set (D+k) (.int .u32 z);rw[wsA_set] at h5;have hl:(l.take k).length=k:=by simp;omega
  have h6:=spl_snoc (Z:=Z) (b:=D) (l:=l.take k) (x:=z) (by rw[hl];omega);rw[hl] at h6;rw[h6,← take_snoc hz] at h5;exact h5
 ·exact h4.below (below_set1 (hx.mono (by omega)) b _ (by omega) _) (Nat.le_refl _)
theorem LySt.below {w wr wx:World} {n b B D k:Nat} {o:Ob} {l Z:List Int} (h:LySt w n b B o l Z D k wr) (hx:Below wr.heap.size wr wx) (hn:n<b) (hB:B≤n):LySt w n b B o l Z D k wx:=by
 obtain⟨h1,h2,h3,h4⟩:=h;have hlt:=h3.lt;exact⟨h1.trans (hx.mono (by omega)),h2.kept hx,h3.kept hx,h4.below (hx.mono (by omega)) (Nat.le_refl _)⟩
theorem LySt.cell {w wr:World} {n b B D k:Nat} {o:Ob} {l Z:List Int} (h:LySt w n b B o l Z D k wr) (hk:k<l.length) (hD:D+l.length≤Z.length):∃ u,wr.cell? ⟨b,D+k,none⟩=some u:=by
 have h3:=h.2.2.1.cell (D+k);have hl:(spl Z D (l.take k)).length=Z.length:=spl_len (by simp;omega);rw[h3,wsA_get];obtain⟨u,hu⟩:=get_some (l:=spl Z D (l.take k)) (k:=D+k) (by omega);exact⟨_,by rw[hu];rfl⟩
theorem lay_bd {o:Ob} {l:List Int} (h:anyR o) (hl:o.ni=l.length):0≤slotZ o∧slotZ o≤16∧0≤slotZ o*o.wd∧slotZ o*o.wd≤256∧0≤offZ o∧offZ o+l.length≤sizeZ o∧l.length≤8:=by
 obtain⟨a,b,c,d,e⟩:=any_bd h
 rcases any_cases h with ⟨k,q⟩ | ⟨k,q⟩ | ⟨k,q⟩ | ⟨k,q⟩ | ⟨k,q⟩ | ⟨k,q⟩
 ·have hs:slotZ o=0:=by unfold slotZ;rw[if_neg (by omega)]
  have z:=four_bd q;have hlw:(l.length:Int)=o.wd:=by unfold fourR wordsR at q;omega
  unfold offZ;rw[hs,sizeZ_four q,head_four k];omega
 ·have hs:slotZ o=0:=by unfold slotZ;rw[if_neg (by omega)]
  have z:=chen_bd q;have hlw:(l.length:Int)=o.wd:=by unfold chenR wordsR at q;omega
  have mm:2*o.wd≤((o.nr:Int)+2)*o.wd:=Int.mul_le_mul_of_nonneg_right (by omega) (by omega);unfold offZ;rw[hs,sizeZ_chen q,head_chen k];omega
 ·have hs:slotZ o=0:=by unfold slotZ;rw[if_neg (by omega)]
  have z:=seq_bd q;have hlw:(l.length:Int)=o.wd:=by unfold seqR wordsR at q;omega
  unfold offZ;rw[hs,sizeZ_seq q,head_seq k];omega
 ·have hs:slotZ o=o.st%o.s:=by unfold slotZ;rw[if_pos k]
  have z:=ring_bd q;have p0:=Int.emod_nonneg o.st (show o.s≠0 by omega);have p1:=Int.emod_lt_of_pos o.st (show 0<o.s by omega);have hlw:(l.length:Int)=o.wd:=by unfold ringR wordsR at q;omega
  have m:=mul_bd (a:=o.st%o.s) (b:=o.wd) (by omega) (by omega) (by omega) (by omega)
  have mm:(o.st%o.s)*o.wd+o.wd≤o.s*o.wd:=by
   have:=Int.mul_le_mul_of_nonneg_right (show o.st%o.s+1≤o.s by omega) (show 0≤o.wd by omega);rw[Int.add_mul] at this;omega
  unfold offZ;rw[hs,sizeZ_ring q,head_ring k];omega
 ·have hs:slotZ o=0:=by unfold slotZ;rw[if_neg (by omega)]
  have z:=cab_bd q;have hlw:(l.length:Int)=o.wd:=by unfold cabR wordsR at q;omega
  have mm:2*o.wd≤o.s*o.wd:=Int.mul_le_mul_of_nonneg_right (by omega) (by omega);unfold offZ;rw[hs,sizeZ_cab q,head_cab k];omega
 ·have hs:slotZ o=0:=by unfold slotZ;rw[if_neg (by omega)]
  have z:=fifo_bd q;have hlw:(l.length:Int)=0:=by unfold fifoR wordsR at q;omega
  have mm:1*o.wd≤o.s*o.wd:=Int.mul_le_mul_of_nonneg_right (by omega) (by omega);unfold offZ;rw[hs,sizeZ_fifo q,head_fifo k];omega
theorem rlay_0 (o:Ob) (ho:o.Ok) (h:anyR o) (h6:(o.k==6)=false) (h4:(o.k==4)=false) (l:List Int) (B:Nat) (w:World) (hl:o.ni=l.length) (hI:Ws w B o.I l) (hB:B≤w.heap.size):Calls Tryz.prog 46 #[.agg (obA o)] w (LayO w (layZ o l)):=by
 have hs:=fun W=>rsize_o o ho W
 have hr:=fun W=>r14Right_o o ho W
 rw[decide_eq_true h] at hr;obtain⟨s1,s2,s3,s4,s5,s6,s7⟩:=lay_bd h hl;obtain⟨qa,qb,qc,qd,qe⟩:=any_bd h;have hzb:=size_bd o;have hz1:1≤sizeZ o:=by have:=Int.mul_nonneg (show 0≤recZ o by omega) (show 0≤o.wd by omega);omega
 have hhd:=fun W=>head_o o qb.2 W
 obtain⟨N,hN⟩:∃ N:Nat,sizeZ o=N:=⟨(sizeZ o).toNat,by omega⟩;obtain⟨D,hD⟩:∃ D:Nat,offZ o=D:=⟨(offZ o).toNat,by omega⟩;have hL:layZ o l=spl (layB o) D l:=by unfold layZ;rw[if_pos h,hD,Int.toNat_natCast]
 rw[hL];have hlB:layB o=(zs N).set 0 o.st:=by unfold layB;rw[if_neg (by simpa using h6),hN,Int.toNat_natCast]
 have hZl:(layB o).length=N:=by rw[layB_len,hN,Int.toNat_natCast]
 rw[hN] at hs s6 hz1 hzb;rw[hD] at s6;have hDd:headZ o+slotZ o*o.wd=D:=hD;have hsl:slotZ o=0:=by unfold slotZ;rw[if_neg (by simpa using h4)]
 rw[hsl] at hDd s1 s2 s3 s4;clear hsl;obtain⟨H,hH⟩:∃ H,headZ o=H:=⟨_,rfl⟩;rw[hH] at hDd qc;rw[hH] at hhd;have e1:IntKind.i64.wrap 0=0:=rfl;have e2:IntKind.i64.wrap H=(D:Int):=by rw[Int.zero_mul,Int.add_zero] at hDd;rw[hDd];exact sh_wrap (by omega) (by omega)
 obtain⟨Z,hZ⟩:∃ Z,layB o=Z:=⟨_,rfl⟩;rw[hZ] at hZl hlB ⊢;have hwZ:=wf_layB ho;rw[hZ] at hwZ;have HWF:=hid (wf_spl D hwZ hI.2);have g2:0<N:=by omega
 have g3:N≤300:=by omega
 have g5:(0:Int)<(N:Int):=by omega
 have hmk:=fun W=>mkW N g3 W
 have HZl:=hid hZl;have HlB:=hid hlB;have HDN:=hid (show D+l.length≤N by omega);have HZ0:=hid (show(wsA (zs N))[0]?=some (.int .u32 0) by rw[wsA_get,zs,List.getElem?_replicate,if_pos g2];rfl);have hDN:D+l.length≤300:=by omega
 unfold obA at hs hr hhd;have HS:=hid hs;have HRT:=hid hr;have HHD:=hid hhd;have HBw:=hid hB;have HI:=hid hI;have HNI:=hid hl;have HE1:=hid e1;have HE2:=hid e2;clear hs hr hhd hB hI hl hL hlB hZl hZ hwZ hH hDd qa qb qc qd qe s1 s2 s3 s4 s5 s6 hz1 hzb hN hD h ho e1 e2;have hn:=ObX.new w o;have hB:=(Below.refl w.heap.size w).alloc (Nat.le_refl _) (.cells (obA o) 26);unfold obA at *;have HN:=hid hn;have HB:=hid hB;clear hn hB;go_enter Tryz.func46,Tryz.ntmps46;go_wp2_with fail;refine(HS.out _).mono ?_;rintro e w1 ⟨rfl,hb1⟩;have ho1:=ObX.kept HN.out hb1;have hB1:=HB.out.trans (hb1.mono (by have:=HB.out.size;omega));have hn1:=HN.out.lt;have hs1:w.heap.size+1≤w1.heap.size:=by have:=hb1.size;simp at this;omega
 have hnew:=RowB.new w1 (wsA (zs N)) 22;have hbb:=(Below.refl w1.heap.size w1).alloc (Nat.le_refl _) (.cells (wsA (zs N)) 22);have hsz2:(w1.alloc (.cells (wsA (zs N)) 22)).heap.size=w1.heap.size+1:=by rw[World.size_alloc]
 obtain⟨W2,hW2⟩:∃ W2,w1.alloc (.cells (wsA (zs N)) 22)=W2:=⟨_,rfl⟩;rw[hW2] at hnew hbb hsz2;obtain⟨b,hb⟩:∃ b,w1.heap.size=b:=⟨_,rfl⟩;obtain⟨n,hn0⟩:∃ n,w.heap.size=n:=⟨_,rfl⟩;have ho2:=ho1.kept hbb;have hB2:=hB1.trans (hbb.mono (by omega));rw[hn0] at ho1 ho2 hs1 hB2 ⊢;rw[hb] at hnew hbb hs1 hsz2;have HO:=hid ho2;have HR:=hid hnew;have HB2:=hid hB2;have HB1:=hid hB1;clear hb1 ho1 ho2 hnew hbb hB1 hB2;obtain⟨d0,d1,d2,d3,d4,d5,d6,d7⟩:=HO.out.cells;go_wp2_with fail;refine(HRT.out _).mono ?_;rintro e w3 ⟨rfl,hb3⟩;have hr3:=HR.out.kept hb3;have ho3:=HO.out.kept hb3;have hB3:=HB2.out.trans (hb3.mono (by omega));have hs3:b<w3.heap.size:=hr3.lt;clear HR HO HB2 hb3 d0 d1 d2 d3 d4 d5 d6 d7;have c0:w3.cell? ⟨b,0,none⟩=some (.int .u32 0):=(hr3.cell 0).trans HZ0.out;have f0:w3.frozen? ⟨b,0,none⟩=false:=hr3.frozen 0;obtain⟨d0,d1,d2,d3,d4,d5,d6,d7⟩:=ho3.cells;have hr4:=hr3.set 0 (.int .u32 o.st);rw[wsA_set] at hr4;have ho4:ObX (w3.setCell ⟨b,0,none⟩ (.int .u32 o.st)) n o:=(heap_set w3 b 0 (.int .u32 o.st) n (by omega)).trans ho3;have hB4:=below_set1 hB3 b 0 (by omega) (.int .u32 o.st);obtain⟨W6,hW6⟩:∃ W,w3.setCell ⟨b,0,none⟩ (.int .u32 o.st)=W:=⟨_,rfl⟩;rw[hW6] at hr4 ho4 hB4;obtain⟨y0,y1,y2,y3,y4,y5,y6,y7⟩:=ho4.cells;have HR:=hid hr4;have HO:=hid ho4;have HB2:=hid hB4;clear hr3 ho3 hB3 hr4 ho4 hB4;go_wp2_with fail;clear d0 d1 d2 d3 d4 d5 d6 d7 y0 y1 y2 y3 y4 y5 y6 y7 c0 f0 hmk
 go_loopw [37] (fun j wr=>∃ k:Nat,k≤l.length∧j=.int .i64 k∧LySt w n b B o l Z D k wr) (fun j _=>l.length - (intOf j).toNat)
 case atStart=>exact⟨0,Nat.zero_le _,rfl,HB2.out,HO.out,by rw[List.take_zero,spl_nil,HlB.out];exact HR.out,HI.out.below (HB2.out.mono (by have:=HBw.out;omega)) (Nat.le_refl _)⟩
 case round=>
  obtain⟨k,hk,rfl,hst⟩:=hrel
  by_cases hlt:k<l.length
  ·obtain⟨z,hz⟩:=get_some hlt;obtain⟨_,sb,so,hA,hsb,hcell⟩:=hst.2.2.2.get hz
   have hix:∀ W,(Instr.indexAt 23 (.slice o.I o.ni o.ci) (.int .i64 (k:Int))).run Tryz.prog W=.ok (.pointer (some ⟨sb,so+k,none⟩)) W:=fun W=>by
    have h2:k<o.ni:=by have:=HNI.out;omega
    have h3:(k:Int)<(o.ni:Int):=by omega
    rw[hA];go_simp
   clear hA;have hlt2:k<o.ni:=by have:=HNI.out;omega
   have hlt3:decide (k<o.ni)=true:=decide_eq_true hlt2;have e1:=HE1.out;have e2:=HE2.out;have e3:IntKind.i64.wrap ((D:Int)+(k:Int))=(D:Int)+(k:Int):=sh_wrap (by omega) (by omega);have g8:(D:Int)+(k:Int)<(N:Int):=by have:=HDN.out;omega
   have g9:D+k<N:=by have:=HDN.out;omega
   have g10:(0:Int)≤(D:Int)+(k:Int):=by omega
   have g11:((D:Int)+(k:Int)).toNat=D+k:=by omega
   have HST:=hid hst;have HZ:=hid hz;clear hst hz;go_wp2_with fail;have hnb:n<b:=by omega
   have hBn:B≤n:=by have:=HBw.out;omega
   have hSd:(fun w':World=>Below b wr w'∧w'.cell? ⟨n,0,none⟩=some (.int .i64 o.k)∧w'.cell? ⟨n,1,none⟩=some (.int .i64 o.wd)∧w'.cell? ⟨n,2,none⟩=some (.int .i64 o.s)∧w'.cell? ⟨n,3,none⟩=some (.int .i64 o.c)∧w'.cell? ⟨n,4,none⟩=some (.int .u32 o.st)∧w'.cell? ⟨n,5,none⟩=some (.slice o.I o.ni o.ci)∧w'.cell? ⟨n,6,none⟩=some (.int .i64 o.wr)∧w'.cell? ⟨n,7,none⟩=some (.slice o.R o.nr o.cr)) wr.drew:=⟨(Below.refl b wr).drew,(ObX.kept HST.out.2.1 (Below.refl _ wr).drew).cells⟩;have hsd:=HST.out.below (Below.refl _ wr).drew hnb hBn;refine wp_region_held_drew (S:=(fun w':World=>Below b wr w'∧w'.cell? ⟨n,0,none⟩=some (.int .i64 o.k)∧w'.cell? ⟨n,1,none⟩=some (.int .i64 o.wd)∧w'.cell? ⟨n,2,none⟩=some (.int .i64 o.s)∧w'.cell? ⟨n,3,none⟩=some (.int .i64 o.c)∧w'.cell? ⟨n,4,none⟩=some (.int .u32 o.st)∧w'.cell? ⟨n,5,none⟩=some (.slice o.I o.ni o.ci)∧w'.cell? ⟨n,6,none⟩=some (.int .i64 o.wr)∧w'.cell? ⟨n,7,none⟩=some (.slice o.R o.nr o.cr))) (by kernel_rfl) hSd (fun hHeld=>?_);generalize wr.drew=wd at hHeld hsd ⊢;have hHeld:(fun w':World=>Below b wr w'∧w'.cell? ⟨n,0,none⟩=some (.int .i64 o.k)∧w'.cell? ⟨n,1,none⟩=some (.int .i64 o.wd)∧w'.cell? ⟨n,2,none⟩=some (.int .i64 o.s)∧w'.cell? ⟨n,3,none⟩=some (.int .i64 o.c)∧w'.cell? ⟨n,4,none⟩=some (.int .u32 o.st)∧w'.cell? ⟨n,5,none⟩=some (.slice o.I o.ni o.ci)∧w'.cell? ⟨n,6,none⟩=some (.int .i64 o.wr)∧w'.cell? ⟨n,7,none⟩=some (.slice o.R o.nr o.cr)) wd:=hHeld;replace hsd:=hid hsd;refine tk4 0 1 3 4 ?_;refine tk4 5 6 8 10 ?_;refine clH 2 (fun K hK=>?_);go_simp;refine(HHD.out _).mono ?_;rintro ex wx ⟨rfl,hbx⟩;have hsx:=hsd.out.below hbx hnb hBn;have hSx:(fun w':World=>Below b wr w'∧w'.cell? ⟨n,0,none⟩=some (.int .i64 o.k)∧w'.cell? ⟨n,1,none⟩=some (.int .i64 o.wd)∧w'.cell? ⟨n,2,none⟩=some (.int .i64 o.s)∧w'.cell? ⟨n,3,none⟩=some (.int .i64 o.c)∧w'.cell? ⟨n,4,none⟩=some (.int .u32 o.st)∧w'.cell? ⟨n,5,none⟩=some (.slice o.I o.ni o.ci)∧w'.cell? ⟨n,6,none⟩=some (.int .i64 o.wr)∧w'.cell? ⟨n,7,none⟩=some (.slice o.R o.nr o.cr)) wx:=⟨hHeld.1.trans (hbx.mono (Nat.le_of_lt hsd.out.2.2.1.lt)),hsx.2.1.cells⟩;replace hsx:=hid hsx;refine kH hK hSx fun hHeld=>?_
   clear hK K;refine tk2 7 9 ?_;refine tkH 11 ?_;obtain⟨uu,cx⟩:=hsx.out.cell hlt (by rw[HZl.out];exact HDN.out);have fx:wx.frozen? ⟨b,D+k,none⟩=false:=hsx.out.2.2.1.frozen _;refine clH 12 (fun K hK=>?_);go_simp;have hsy:=hsx.out.step (Below.refl _ wx) HZ.out (by rw[HZl.out];exact HDN.out) hnb hBn;have hSx:(fun w':World=>Below b wr w'∧w'.cell? ⟨n,0,none⟩=some (.int .i64 o.k)∧w'.cell? ⟨n,1,none⟩=some (.int .i64 o.wd)∧w'.cell? ⟨n,2,none⟩=some (.int .i64 o.s)∧w'.cell? ⟨n,3,none⟩=some (.int .i64 o.c)∧w'.cell? ⟨n,4,none⟩=some (.int .u32 o.st)∧w'.cell? ⟨n,5,none⟩=some (.slice o.I o.ni o.ci)∧w'.cell? ⟨n,6,none⟩=some (.int .i64 o.wr)∧w'.cell? ⟨n,7,none⟩=some (.slice o.R o.nr o.cr)) (wx.setCell ⟨b,D+k,none⟩ (.int .u32 z)):=⟨below_set1 hHeld.1 b _ (Nat.le_refl _) _,hsy.2.1.cells⟩;replace hsy:=hid hsy;clear cx fx;refine kH hK hSx fun hHeld=>?_
   clear hK K;refine dnH ?_;clear hSd;go_wp2_with fail;go_roundw
   case rel=>exact⟨k+1,by omega,by go_num,hsy.out⟩
   case measure=>simp[intOf];omega
  ·obtain rfl:k=l.length:=by omega
   have hlt3:decide (l.length<o.ni)=false:=by have:=HNI.out;rw[decide_eq_false_iff_not];omega
   have hlt4:¬ l.length<o.ni:=by have:=HNI.out;omega
   have HST:=hid hst;clear hst hlt hk;go_wp2_with fail;go_ret;have hrw:=HST.out.2.2.1;rw[List.take_length] at hrw;exact LayO.mk hrw (by rw[spl_len (by rw[HZl.out];exact HDN.out)];exact HZl.out) g3 HWF.out (by rw[hn0];exact HST.out.1) (by omega)
theorem rlay_4 (o:Ob) (ho:o.Ok) (h:anyR o) (h6:(o.k==6)=false) (h4:(o.k==4)=true) (l:List Int) (B:Nat) (w:World) (hl:o.ni=l.length) (hI:Ws w B o.I l) (hB:B≤w.heap.size):Calls Tryz.prog 46 #[.agg (obA o)] w (LayO w (layZ o l)):=by
 have hs:=fun W=>rsize_o o ho W
 have hr:=fun W=>r14Right_o o ho W
 rw[decide_eq_true h] at hr;obtain⟨s1,s2,s3,s4,s5,s6,s7⟩:=lay_bd h hl;obtain⟨qa,qb,qc,qd,qe⟩:=any_bd h;have hzb:=size_bd o;have hz1:1≤sizeZ o:=by have:=Int.mul_nonneg (show 0≤recZ o by omega) (show 0≤o.wd by omega);omega
 have hhd:=fun W=>head_o o qb.2 W
 obtain⟨N,hN⟩:∃ N:Nat,sizeZ o=N:=⟨(sizeZ o).toNat,by omega⟩;obtain⟨D,hD⟩:∃ D:Nat,offZ o=D:=⟨(offZ o).toNat,by omega⟩;have hL:layZ o l=spl (layB o) D l:=by unfold layZ;rw[if_pos h,hD,Int.toNat_natCast]
 rw[hL];have hlB:layB o=(zs N).set 0 o.st:=by unfold layB;rw[if_neg (by simpa using h6),hN,Int.toNat_natCast]
 have hZl:(layB o).length=N:=by rw[layB_len,hN,Int.toNat_natCast]
 rw[hN] at hs s6 hz1 hzb;rw[hD] at s6;have hDd:headZ o+slotZ o*o.wd=D:=hD;have hk4:o.k=4:=by simpa using h4
 have hring:ringR o:=by rcases any_cases h with ⟨k,q⟩ | ⟨k,q⟩ | ⟨k,q⟩ | ⟨k,q⟩ | ⟨k,q⟩ | ⟨k,q⟩ <;> first | exact q | (exfalso;omega)
 have z:=ring_bd hring;have hsl:slotZ o=o.st%o.s:=by unfold slotZ;rw[if_pos hk4]
 have z0:=ho.st0;have z1:=ho.st1;have nz2:¬ o.s=0:=by omega
 have f2:o.st.tmod o.s=o.st%o.s:=Int.tmod_eq_emod_of_nonneg z0;have f4:IntKind.i64.wrap o.st=o.st:=sh_wrap (by omega) (by omega);have f5:IntKind.i64.wrap (o.st%o.s)=o.st%o.s:=sh_wrap (by rw[← hsl];omega) (by rw[← hsl];omega);have nz:(o.s==0)=false:=by rw[beq_eq_false_iff_ne];omega
 rw[hsl] at hDd s1 s2 s3 s4;clear hk4 hring z hsl z0 z1;obtain⟨H,hH⟩:∃ H,headZ o=H:=⟨_,rfl⟩;rw[hH] at hDd qc;rw[hH] at hhd;have e1:IntKind.i64.wrap ((o.st%o.s)*o.wd)=(o.st%o.s)*o.wd:=sh_wrap (by omega) (by omega);have e2:IntKind.i64.wrap (H+(o.st%o.s)*o.wd)=(D:Int):=by rw[hDd];exact sh_wrap (by omega) (by omega)
 obtain⟨Z,hZ⟩:∃ Z,layB o=Z:=⟨_,rfl⟩;rw[hZ] at hZl hlB ⊢;have hwZ:=wf_layB ho;rw[hZ] at hwZ;have HWF:=hid (wf_spl D hwZ hI.2);have g2:0<N:=by omega
 have g3:N≤300:=by omega
 have g5:(0:Int)<(N:Int):=by omega
 have hmk:=fun W=>mkW N g3 W
 have HZl:=hid hZl;have HlB:=hid hlB;have HDN:=hid (show D+l.length≤N by omega);have HZ0:=hid (show(wsA (zs N))[0]?=some (.int .u32 0) by rw[wsA_get,zs,List.getElem?_replicate,if_pos g2];rfl);have hDN:D+l.length≤300:=by omega
 unfold obA at hs hr hhd;have HS:=hid hs;have HRT:=hid hr;have HHD:=hid hhd;have HBw:=hid hB;have HI:=hid hI;have HNI:=hid hl;have HE1:=hid e1;have HE2:=hid e2;clear hs hr hhd hB hI hl hL hlB hZl hZ hwZ hH hDd qa qb qc qd qe s1 s2 s3 s4 s5 s6 hz1 hzb hN hD h ho e1 e2;have hn:=ObX.new w o;have hB:=(Below.refl w.heap.size w).alloc (Nat.le_refl _) (.cells (obA o) 26);unfold obA at *;have HN:=hid hn;have HB:=hid hB;clear hn hB;go_enter Tryz.func46,Tryz.ntmps46;go_wp2_with fail;refine(HS.out _).mono ?_;rintro e w1 ⟨rfl,hb1⟩;have ho1:=ObX.kept HN.out hb1;have hB1:=HB.out.trans (hb1.mono (by have:=HB.out.size;omega));have hn1:=HN.out.lt;have hs1:w.heap.size+1≤w1.heap.size:=by have:=hb1.size;simp at this;omega
 have hnew:=RowB.new w1 (wsA (zs N)) 22;have hbb:=(Below.refl w1.heap.size w1).alloc (Nat.le_refl _) (.cells (wsA (zs N)) 22);have hsz2:(w1.alloc (.cells (wsA (zs N)) 22)).heap.size=w1.heap.size+1:=by rw[World.size_alloc]
 obtain⟨W2,hW2⟩:∃ W2,w1.alloc (.cells (wsA (zs N)) 22)=W2:=⟨_,rfl⟩;rw[hW2] at hnew hbb hsz2;obtain⟨b,hb⟩:∃ b,w1.heap.size=b:=⟨_,rfl⟩;obtain⟨n,hn0⟩:∃ n,w.heap.size=n:=⟨_,rfl⟩;have ho2:=ho1.kept hbb;have hB2:=hB1.trans (hbb.mono (by omega));rw[hn0] at ho1 ho2 hs1 hB2 ⊢;rw[hb] at hnew hbb hs1 hsz2;have HO:=hid ho2;have HR:=hid hnew;have HB2:=hid hB2;have HB1:=hid hB1;clear hb1 ho1 ho2 hnew hbb hB1 hB2;obtain⟨d0,d1,d2,d3,d4,d5,d6,d7⟩:=HO.out.cells;go_wp2_with fail;refine(HRT.out _).mono ?_;rintro e w3 ⟨rfl,hb3⟩;have hr3:=HR.out.kept hb3;have ho3:=HO.out.kept hb3;have hB3:=HB2.out.trans (hb3.mono (by omega));have hs3:b<w3.heap.size:=hr3.lt;clear HR HO HB2 hb3 d0 d1 d2 d3 d4 d5 d6 d7;have c0:w3.cell? ⟨b,0,none⟩=some (.int .u32 0):=(hr3.cell 0).trans HZ0.out;have f0:w3.frozen? ⟨b,0,none⟩=false:=hr3.frozen 0;obtain⟨d0,d1,d2,d3,d4,d5,d6,d7⟩:=ho3.cells;have hr4:=hr3.set 0 (.int .u32 o.st);rw[wsA_set] at hr4;have ho4:ObX (w3.setCell ⟨b,0,none⟩ (.int .u32 o.st)) n o:=(heap_set w3 b 0 (.int .u32 o.st) n (by omega)).trans ho3;have hB4:=below_set1 hB3 b 0 (by omega) (.int .u32 o.st);obtain⟨W6,hW6⟩:∃ W,w3.setCell ⟨b,0,none⟩ (.int .u32 o.st)=W:=⟨_,rfl⟩;rw[hW6] at hr4 ho4 hB4;obtain⟨y0,y1,y2,y3,y4,y5,y6,y7⟩:=ho4.cells;have HR:=hid hr4;have HO:=hid ho4;have HB2:=hid hB4;clear hr3 ho3 hB3 hr4 ho4 hB4;go_wp2_with fail;clear d0 d1 d2 d3 d4 d5 d6 d7 y0 y1 y2 y3 y4 y5 y6 y7 c0 f0 hmk
 go_loopw [37] (fun j wr=>∃ k:Nat,k≤l.length∧j=.int .i64 k∧LySt w n b B o l Z D k wr) (fun j _=>l.length - (intOf j).toNat)
 case atStart=>exact⟨0,Nat.zero_le _,rfl,HB2.out,HO.out,by rw[List.take_zero,spl_nil,HlB.out];exact HR.out,HI.out.below (HB2.out.mono (by have:=HBw.out;omega)) (Nat.le_refl _)⟩
 case round=>
  obtain⟨k,hk,rfl,hst⟩:=hrel
  by_cases hlt:k<l.length
  ·obtain⟨z,hz⟩:=get_some hlt;obtain⟨_,sb,so,hA,hsb,hcell⟩:=hst.2.2.2.get hz
   have hix:∀ W,(Instr.indexAt 23 (.slice o.I o.ni o.ci) (.int .i64 (k:Int))).run Tryz.prog W=.ok (.pointer (some ⟨sb,so+k,none⟩)) W:=fun W=>by
    have h2:k<o.ni:=by have:=HNI.out;omega
    have h3:(k:Int)<(o.ni:Int):=by omega
    rw[hA];go_simp
   clear hA;have hlt2:k<o.ni:=by have:=HNI.out;omega
   have hlt3:decide (k<o.ni)=true:=decide_eq_true hlt2;have e1:=HE1.out;have e2:=HE2.out;have e3:IntKind.i64.wrap ((D:Int)+(k:Int))=(D:Int)+(k:Int):=sh_wrap (by omega) (by omega);have g8:(D:Int)+(k:Int)<(N:Int):=by have:=HDN.out;omega
   have g9:D+k<N:=by have:=HDN.out;omega
   have g10:(0:Int)≤(D:Int)+(k:Int):=by omega
   have g11:((D:Int)+(k:Int)).toNat=D+k:=by omega
   have HST:=hid hst;have HZ:=hid hz;clear hst hz;go_wp2_with fail;have hnb:n<b:=by omega
   have hBn:B≤n:=by have:=HBw.out;omega
   have hSd:(fun w':World=>Below b wr w'∧w'.cell? ⟨n,0,none⟩=some (.int .i64 o.k)∧w'.cell? ⟨n,1,none⟩=some (.int .i64 o.wd)∧w'.cell? ⟨n,2,none⟩=some (.int .i64 o.s)∧w'.cell? ⟨n,3,none⟩=some (.int .i64 o.c)∧w'.cell? ⟨n,4,none⟩=some (.int .u32 o.st)∧w'.cell? ⟨n,5,none⟩=some (.slice o.I o.ni o.ci)∧w'.cell? ⟨n,6,none⟩=some (.int .i64 o.wr)∧w'.cell? ⟨n,7,none⟩=some (.slice o.R o.nr o.cr)) wr.drew:=⟨(Below.refl b wr).drew,(ObX.kept HST.out.2.1 (Below.refl _ wr).drew).cells⟩;have hsd:=HST.out.below (Below.refl _ wr).drew hnb hBn;refine wp_region_held_drew (S:=(fun w':World=>Below b wr w'∧w'.cell? ⟨n,0,none⟩=some (.int .i64 o.k)∧w'.cell? ⟨n,1,none⟩=some (.int .i64 o.wd)∧w'.cell? ⟨n,2,none⟩=some (.int .i64 o.s)∧w'.cell? ⟨n,3,none⟩=some (.int .i64 o.c)∧w'.cell? ⟨n,4,none⟩=some (.int .u32 o.st)∧w'.cell? ⟨n,5,none⟩=some (.slice o.I o.ni o.ci)∧w'.cell? ⟨n,6,none⟩=some (.int .i64 o.wr)∧w'.cell? ⟨n,7,none⟩=some (.slice o.R o.nr o.cr))) (by kernel_rfl) hSd (fun hHeld=>?_);generalize wr.drew=wd at hHeld hsd ⊢;have hHeld:(fun w':World=>Below b wr w'∧w'.cell? ⟨n,0,none⟩=some (.int .i64 o.k)∧w'.cell? ⟨n,1,none⟩=some (.int .i64 o.wd)∧w'.cell? ⟨n,2,none⟩=some (.int .i64 o.s)∧w'.cell? ⟨n,3,none⟩=some (.int .i64 o.c)∧w'.cell? ⟨n,4,none⟩=some (.int .u32 o.st)∧w'.cell? ⟨n,5,none⟩=some (.slice o.I o.ni o.ci)∧w'.cell? ⟨n,6,none⟩=some (.int .i64 o.wr)∧w'.cell? ⟨n,7,none⟩=some (.slice o.R o.nr o.cr)) wd:=hHeld;replace hsd:=hid hsd;refine tk4 0 1 3 4 ?_;refine tk4 5 6 8 10 ?_;refine clH 2 (fun K hK=>?_);go_simp;refine(HHD.out _).mono ?_;rintro ex wx ⟨rfl,hbx⟩;have hsx:=hsd.out.below hbx hnb hBn;have hSx:(fun w':World=>Below b wr w'∧w'.cell? ⟨n,0,none⟩=some (.int .i64 o.k)∧w'.cell? ⟨n,1,none⟩=some (.int .i64 o.wd)∧w'.cell? ⟨n,2,none⟩=some (.int .i64 o.s)∧w'.cell? ⟨n,3,none⟩=some (.int .i64 o.c)∧w'.cell? ⟨n,4,none⟩=some (.int .u32 o.st)∧w'.cell? ⟨n,5,none⟩=some (.slice o.I o.ni o.ci)∧w'.cell? ⟨n,6,none⟩=some (.int .i64 o.wr)∧w'.cell? ⟨n,7,none⟩=some (.slice o.R o.nr o.cr)) wx:=⟨hHeld.1.trans (hbx.mono (Nat.le_of_lt hsd.out.2.2.1.lt)),hsx.2.1.cells⟩;replace hsx:=hid hsx;refine kH hK hSx fun hHeld=>?_
   clear hK K;refine tk2 7 9 ?_;refine tkH 11 ?_;obtain⟨uu,cx⟩:=hsx.out.cell hlt (by rw[HZl.out];exact HDN.out);have fx:wx.frozen? ⟨b,D+k,none⟩=false:=hsx.out.2.2.1.frozen _;refine clH 12 (fun K hK=>?_);go_simp;have hsy:=hsx.out.step (Below.refl _ wx) HZ.out (by rw[HZl.out];exact HDN.out) hnb hBn;have hSx:(fun w':World=>Below b wr w'∧w'.cell? ⟨n,0,none⟩=some (.int .i64 o.k)∧w'.cell? ⟨n,1,none⟩=some (.int .i64 o.wd)∧w'.cell? ⟨n,2,none⟩=some (.int .i64 o.s)∧w'.cell? ⟨n,3,none⟩=some (.int .i64 o.c)∧w'.cell? ⟨n,4,none⟩=some (.int .u32 o.st)∧w'.cell? ⟨n,5,none⟩=some (.slice o.I o.ni o.ci)∧w'.cell? ⟨n,6,none⟩=some (.int .i64 o.wr)∧w'.cell? ⟨n,7,none⟩=some (.slice o.R o.nr o.cr)) (wx.setCell ⟨b,D+k,none⟩ (.int .u32 z)):=⟨below_set1 hHeld.1 b _ (Nat.le_refl _) _,hsy.2.1.cells⟩;replace hsy:=hid hsy;clear cx fx;refine kH hK hSx fun hHeld=>?_
   clear hK K;refine dnH ?_;clear hSd;go_wp2_with fail;go_roundw
   case rel=>exact⟨k+1,by omega,by go_num,hsy.out⟩
   case measure=>simp[intOf];omega
  ·obtain rfl:k=l.length:=by omega
   have hlt3:decide (l.length<o.ni)=false:=by have:=HNI.out;rw[decide_eq_false_iff_not];omega
   have hlt4:¬ l.length<o.ni:=by have:=HNI.out;omega
   have HST:=hid hst;clear hst hlt hk;go_wp2_with fail;go_ret;have hrw:=HST.out.2.2.1;rw[List.take_length] at hrw;exact LayO.mk hrw (by rw[spl_len (by rw[HZl.out];exact HDN.out)];exact HZl.out) g3 HWF.out (by rw[hn0];exact HST.out.1) (by omega)
theorem rlay_6 (o:Ob) (ho:o.Ok) (h:anyR o) (h6:(o.k==6)=true) (h4:(o.k==4)=false) (l:List Int) (B:Nat) (w:World) (hl:o.ni=l.length) (hI:Ws w B o.I l) (hB:B≤w.heap.size):Calls Tryz.prog 46 #[.agg (obA o)] w (LayO w (layZ o l)):=by
 have hs:=fun W=>rsize_o o ho W
 have hr:=fun W=>r14Right_o o ho W
 rw[decide_eq_true h] at hr;obtain⟨s1,s2,s3,s4,s5,s6,s7⟩:=lay_bd h hl;obtain⟨qa,qb,qc,qd,qe⟩:=any_bd h;have hzb:=size_bd o;have hz1:2≤sizeZ o:=by have hk:o.k=6:=(by simpa using h6);have hh:headZ o=2:=head_fifo hk;unfold offZ at s6;omega
 have hhd:=fun W=>head_o o qb.2 W
 obtain⟨N,hN⟩:∃ N:Nat,sizeZ o=N:=⟨(sizeZ o).toNat,by omega⟩;obtain⟨D,hD⟩:∃ D:Nat,offZ o=D:=⟨(offZ o).toNat,by omega⟩;have hL:layZ o l=spl (layB o) D l:=by unfold layZ;rw[if_pos h,hD,Int.toNat_natCast]
 rw[hL];have hlB:layB o=((zs N).set 0 o.st).set 1 o.st:=by unfold layB;rw[if_pos (by simpa using h6),hN,Int.toNat_natCast]
 have hZl:(layB o).length=N:=by rw[layB_len,hN,Int.toNat_natCast]
 rw[hN] at hs s6 hz1 hzb;rw[hD] at s6;have hDd:headZ o+slotZ o*o.wd=D:=hD;have hsl:slotZ o=0:=by unfold slotZ;rw[if_neg (by simpa using h4)]
 rw[hsl] at hDd s1 s2 s3 s4;clear hsl;obtain⟨H,hH⟩:∃ H,headZ o=H:=⟨_,rfl⟩;rw[hH] at hDd qc;rw[hH] at hhd;have e1:IntKind.i64.wrap 0=0:=rfl;have e2:IntKind.i64.wrap H=(D:Int):=by rw[Int.zero_mul,Int.add_zero] at hDd;rw[hDd];exact sh_wrap (by omega) (by omega)
 obtain⟨Z,hZ⟩:∃ Z,layB o=Z:=⟨_,rfl⟩;rw[hZ] at hZl hlB ⊢;have hwZ:=wf_layB ho;rw[hZ] at hwZ;have HWF:=hid (wf_spl D hwZ hI.2);have g2:0<N:=by omega
 have g3:N≤300:=by omega
 have g5:(0:Int)<(N:Int):=by omega
 have g6:1<N:=by omega
 have g7:(1:Int)<(N:Int):=by omega
 have hmk:=fun W=>mkW N g3 W
 have HZl:=hid hZl;have HlB:=hid hlB;have HDN:=hid (show D+l.length≤N by omega);have HZ0:=hid (show(wsA (zs N))[0]?=some (.int .u32 0) by rw[wsA_get,zs,List.getElem?_replicate,if_pos g2];rfl);have HZ1:=hid (show(wsA ((zs N).set 0 o.st))[1]?=some (.int .u32 0) by rw[wsA_get,List.getElem?_set_ne (by omega),zs,List.getElem?_replicate,if_pos g6];rfl);have hDN:D+l.length≤300:=by omega
 unfold obA at hs hr hhd;have HS:=hid hs;have HRT:=hid hr;have HHD:=hid hhd;have HBw:=hid hB;have HI:=hid hI;have HNI:=hid hl;have HE1:=hid e1;have HE2:=hid e2;clear hs hr hhd hB hI hl hL hlB hZl hZ hwZ hH hDd qa qb qc qd qe s1 s2 s3 s4 s5 s6 hz1 hzb hN hD h ho e1 e2;have hn:=ObX.new w o;have hB:=(Below.refl w.heap.size w).alloc (Nat.le_refl _) (.cells (obA o) 26);unfold obA at *;have HN:=hid hn;have HB:=hid hB;clear hn hB;go_enter Tryz.func46,Tryz.ntmps46;go_wp2_with fail;refine(HS.out _).mono ?_;rintro e w1 ⟨rfl,hb1⟩;have ho1:=ObX.kept HN.out hb1;have hB1:=HB.out.trans (hb1.mono (by have:=HB.out.size;omega));have hn1:=HN.out.lt;have hs1:w.heap.size+1≤w1.heap.size:=by have:=hb1.size;simp at this;omega
 have hnew:=RowB.new w1 (wsA (zs N)) 22;have hbb:=(Below.refl w1.heap.size w1).alloc (Nat.le_refl _) (.cells (wsA (zs N)) 22);have hsz2:(w1.alloc (.cells (wsA (zs N)) 22)).heap.size=w1.heap.size+1:=by rw[World.size_alloc]
 obtain⟨W2,hW2⟩:∃ W2,w1.alloc (.cells (wsA (zs N)) 22)=W2:=⟨_,rfl⟩;rw[hW2] at hnew hbb hsz2;obtain⟨b,hb⟩:∃ b,w1.heap.size=b:=⟨_,rfl⟩;obtain⟨n,hn0⟩:∃ n,w.heap.size=n:=⟨_,rfl⟩;have ho2:=ho1.kept hbb;have hB2:=hB1.trans (hbb.mono (by omega));rw[hn0] at ho1 ho2 hs1 hB2 ⊢;rw[hb] at hnew hbb hs1 hsz2;have HO:=hid ho2;have HR:=hid hnew;have HB2:=hid hB2;have HB1:=hid hB1;clear hb1 ho1 ho2 hnew hbb hB1 hB2;obtain⟨d0,d1,d2,d3,d4,d5,d6,d7⟩:=HO.out.cells;go_wp2_with fail;refine(HRT.out _).mono ?_;rintro e w3 ⟨rfl,hb3⟩;have hr3:=HR.out.kept hb3;have ho3:=HO.out.kept hb3;have hB3:=HB2.out.trans (hb3.mono (by omega));have hs3:b<w3.heap.size:=hr3.lt;clear HR HO HB2 hb3 d0 d1 d2 d3 d4 d5 d6 d7;have c0:w3.cell? ⟨b,0,none⟩=some (.int .u32 0):=(hr3.cell 0).trans HZ0.out;have f0:w3.frozen? ⟨b,0,none⟩=false:=hr3.frozen 0;obtain⟨d0,d1,d2,d3,d4,d5,d6,d7⟩:=ho3.cells;have hr4:=hr3.set 0 (.int .u32 o.st);rw[wsA_set] at hr4;have ho4:ObX (w3.setCell ⟨b,0,none⟩ (.int .u32 o.st)) n o:=(heap_set w3 b 0 (.int .u32 o.st) n (by omega)).trans ho3;have hB4:=below_set1 hB3 b 0 (by omega) (.int .u32 o.st);obtain⟨W5,hW5⟩:∃ W,w3.setCell ⟨b,0,none⟩ (.int .u32 o.st)=W:=⟨_,rfl⟩;rw[hW5] at hr4 ho4 hB4;have c1:W5.cell? ⟨b,1,none⟩=some (.int .u32 0):=(hr4.cell 1).trans HZ1.out;have f1:W5.frozen? ⟨b,1,none⟩=false:=hr4.frozen 1;obtain⟨x0,x1,x2,x3,x4,x5,x6,x7⟩:=ho4.cells;have hr5:=hr4.set 1 (.int .u32 o.st);rw[wsA_set] at hr5;have ho5:ObX (W5.setCell ⟨b,1,none⟩ (.int .u32 o.st)) n o:=(heap_set W5 b 1 (.int .u32 o.st) n (by omega)).trans ho4;have hB5:=below_set1 hB4 b 1 (by omega) (.int .u32 o.st);clear hr4 ho4 hB4;obtain⟨W6,hW6⟩:∃ W,W5.setCell ⟨b,1,none⟩ (.int .u32 o.st)=W:=⟨_,rfl⟩;rw[hW6] at hr5 ho5 hB5;obtain⟨y0,y1,y2,y3,y4,y5,y6,y7⟩:=ho5.cells;have HR:=hid hr5;have HO:=hid ho5;have HB2:=hid hB5;clear hr3 ho3 hB3 hr5 ho5 hB5;go_wp2_with fail;clear d0 d1 d2 d3 d4 d5 d6 d7 y0 y1 y2 y3 y4 y5 y6 y7 c0 f0 hmk c1 f1 x0 x1 x2 x3 x4 x5 x6 x7
 go_loopw [37] (fun j wr=>∃ k:Nat,k≤l.length∧j=.int .i64 k∧LySt w n b B o l Z D k wr) (fun j _=>l.length - (intOf j).toNat)
 case atStart=>exact⟨0,Nat.zero_le _,rfl,HB2.out,HO.out,by rw[List.take_zero,spl_nil,HlB.out];exact HR.out,HI.out.below (HB2.out.mono (by have:=HBw.out;omega)) (Nat.le_refl _)⟩
 case round=>
  obtain⟨k,hk,rfl,hst⟩:=hrel
  by_cases hlt:k<l.length
  ·obtain⟨z,hz⟩:=get_some hlt;obtain⟨_,sb,so,hA,hsb,hcell⟩:=hst.2.2.2.get hz
   have hix:∀ W,(Instr.indexAt 23 (.slice o.I o.ni o.ci) (.int .i64 (k:Int))).run Tryz.prog W=.ok (.pointer (some ⟨sb,so+k,none⟩)) W:=fun W=>by
    have h2:k<o.ni:=by have:=HNI.out;omega
    have h3:(k:Int)<(o.ni:Int):=by omega
    rw[hA];go_simp
   clear hA;have hlt2:k<o.ni:=by have:=HNI.out;omega
   have hlt3:decide (k<o.ni)=true:=decide_eq_true hlt2;have e1:=HE1.out;have e2:=HE2.out;have e3:IntKind.i64.wrap ((D:Int)+(k:Int))=(D:Int)+(k:Int):=sh_wrap (by omega) (by omega);have g8:(D:Int)+(k:Int)<(N:Int):=by have:=HDN.out;omega
   have g9:D+k<N:=by have:=HDN.out;omega
   have g10:(0:Int)≤(D:Int)+(k:Int):=by omega
   have g11:((D:Int)+(k:Int)).toNat=D+k:=by omega
   have HST:=hid hst;have HZ:=hid hz;clear hst hz;go_wp2_with fail;have hnb:n<b:=by omega
   have hBn:B≤n:=by have:=HBw.out;omega
   have hSd:(fun w':World=>Below b wr w'∧w'.cell? ⟨n,0,none⟩=some (.int .i64 o.k)∧w'.cell? ⟨n,1,none⟩=some (.int .i64 o.wd)∧w'.cell? ⟨n,2,none⟩=some (.int .i64 o.s)∧w'.cell? ⟨n,3,none⟩=some (.int .i64 o.c)∧w'.cell? ⟨n,4,none⟩=some (.int .u32 o.st)∧w'.cell? ⟨n,5,none⟩=some (.slice o.I o.ni o.ci)∧w'.cell? ⟨n,6,none⟩=some (.int .i64 o.wr)∧w'.cell? ⟨n,7,none⟩=some (.slice o.R o.nr o.cr)) wr.drew:=⟨(Below.refl b wr).drew,(ObX.kept HST.out.2.1 (Below.refl _ wr).drew).cells⟩;have hsd:=HST.out.below (Below.refl _ wr).drew hnb hBn;refine wp_region_held_drew (S:=(fun w':World=>Below b wr w'∧w'.cell? ⟨n,0,none⟩=some (.int .i64 o.k)∧w'.cell? ⟨n,1,none⟩=some (.int .i64 o.wd)∧w'.cell? ⟨n,2,none⟩=some (.int .i64 o.s)∧w'.cell? ⟨n,3,none⟩=some (.int .i64 o.c)∧w'.cell? ⟨n,4,none⟩=some (.int .u32 o.st)∧w'.cell? ⟨n,5,none⟩=some (.slice o.I o.ni o.ci)∧w'.cell? ⟨n,6,none⟩=some (.int .i64 o.wr)∧w'.cell? ⟨n,7,none⟩=some (.slice o.R o.nr o.cr))) (by kernel_rfl) hSd (fun hHeld=>?_);generalize wr.drew=wd at hHeld hsd ⊢;have hHeld:(fun w':World=>Below b wr w'∧w'.cell? ⟨n,0,none⟩=some (.int .i64 o.k)∧w'.cell? ⟨n,1,none⟩=some (.int .i64 o.wd)∧w'.cell? ⟨n,2,none⟩=some (.int .i64 o.s)∧w'.cell? ⟨n,3,none⟩=some (.int .i64 o.c)∧w'.cell? ⟨n,4,none⟩=some (.int .u32 o.st)∧w'.cell? ⟨n,5,none⟩=some (.slice o.I o.ni o.ci)∧w'.cell? ⟨n,6,none⟩=some (.int .i64 o.wr)∧w'.cell? ⟨n,7,none⟩=some (.slice o.R o.nr o.cr)) wd:=hHeld;replace hsd:=hid hsd;refine tk4 0 1 3 4 ?_;refine tk4 5 6 8 10 ?_;refine clH 2 (fun K hK=>?_);go_simp;refine(HHD.out _).mono ?_;rintro ex wx ⟨rfl,hbx⟩;have hsx:=hsd.out.below hbx hnb hBn;have hSx:(fun w':World=>Below b wr w'∧w'.cell? ⟨n,0,none⟩=some (.int .i64 o.k)∧w'.cell? ⟨n,1,none⟩=some (.int .i64 o.wd)∧w'.cell? ⟨n,2,none⟩=some (.int .i64 o.s)∧w'.cell? ⟨n,3,none⟩=some (.int .i64 o.c)∧w'.cell? ⟨n,4,none⟩=some (.int .u32 o.st)∧w'.cell? ⟨n,5,none⟩=some (.slice o.I o.ni o.ci)∧w'.cell? ⟨n,6,none⟩=some (.int .i64 o.wr)∧w'.cell? ⟨n,7,none⟩=some (.slice o.R o.nr o.cr)) wx:=⟨hHeld.1.trans (hbx.mono (Nat.le_of_lt hsd.out.2.2.1.lt)),hsx.2.1.cells⟩;replace hsx:=hid hsx;refine kH hK hSx fun hHeld=>?_
   clear hK K;refine tk2 7 9 ?_;refine tkH 11 ?_;obtain⟨uu,cx⟩:=hsx.out.cell hlt (by rw[HZl.out];exact HDN.out);have fx:wx.frozen? ⟨b,D+k,none⟩=false:=hsx.out.2.2.1.frozen _;refine clH 12 (fun K hK=>?_);go_simp;have hsy:=hsx.out.step (Below.refl _ wx) HZ.out (by rw[HZl.out];exact HDN.out) hnb hBn;have hSx:(fun w':World=>Below b wr w'∧w'.cell? ⟨n,0,none⟩=some (.int .i64 o.k)∧w'.cell? ⟨n,1,none⟩=some (.int .i64 o.wd)∧w'.cell? ⟨n,2,none⟩=some (.int .i64 o.s)∧w'.cell? ⟨n,3,none⟩=some (.int .i64 o.c)∧w'.cell? ⟨n,4,none⟩=some (.int .u32 o.st)∧w'.cell? ⟨n,5,none⟩=some (.slice o.I o.ni o.ci)∧w'.cell? ⟨n,6,none⟩=some (.int .i64 o.wr)∧w'.cell? ⟨n,7,none⟩=some (.slice o.R o.nr o.cr)) (wx.setCell ⟨b,D+k,none⟩ (.int .u32 z)):=⟨below_set1 hHeld.1 b _ (Nat.le_refl _) _,hsy.2.1.cells⟩;replace hsy:=hid hsy;clear cx fx;refine kH hK hSx fun hHeld=>?_
   clear hK K;refine dnH ?_;clear hSd;go_wp2_with fail;go_roundw
   case rel=>exact⟨k+1,by omega,by go_num,hsy.out⟩
   case measure=>simp[intOf];omega
  ·obtain rfl:k=l.length:=by omega
   have hlt3:decide (l.length<o.ni)=false:=by have:=HNI.out;rw[decide_eq_false_iff_not];omega
   have hlt4:¬ l.length<o.ni:=by have:=HNI.out;omega
   have HST:=hid hst;clear hst hlt hk;go_wp2_with fail;go_ret;have hrw:=HST.out.2.2.1;rw[List.take_length] at hrw;exact LayO.mk hrw (by rw[spl_len (by rw[HZl.out];exact HDN.out)];exact HZl.out) g3 HWF.out (by rw[hn0];exact HST.out.1) (by omega)
theorem rlay_own (o:Ob) (ho:o.Ok) (h:anyR o) (l:List Int) (B:Nat) (w:World) (hl:o.ni=l.length) (hI:Ws w B o.I l) (hB:B≤w.heap.size):Calls Tryz.prog 46 #[.agg (obA o)] w (LayO w (layZ o l)):=by
 by_cases h6:o.k=6
 ·exact rlay_6 o ho h (by simpa using h6) (by rw[h6];rfl) l B w hl hI hB
 ·by_cases h4:o.k=4
  ·exact rlay_4 o ho h (by rw[h4];rfl) (by simpa using h4) l B w hl hI hB
  ·exact rlay_0 o ho h (by simpa using h6) (by simpa using h4) l B w hl hI hB
end Go.Proofs.YtolmpehgeinlkaaGreatDoor
