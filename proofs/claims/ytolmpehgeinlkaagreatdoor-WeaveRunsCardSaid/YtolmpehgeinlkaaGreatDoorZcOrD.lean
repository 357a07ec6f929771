/- The document's operation: note, a record's next word. -/
import Derived.Test.YtolmpehgeinlkaaGreatDoorZcOrA
import Derived.Test.YtolmpehgeinlkaaGreatDoorZcShG
namespace Go.Proofs.YtolmpehgeinlkaaGreatDoor
open Go.RowKit
open Go.Lib (hid)
attribute [local go_sem] Oper.semAt_some
set_option maxHeartbeats 2000000
set_option maxRecDepth 100000
abbrev QOrD0 (a0:Nat) (a1:Ob) (a2:Kc) (w':World):Prop:=w'.cell? ⟨a0,0,none⟩=some (.int .i64 a1.k)∧w'.cell? ⟨a0,1,none⟩=some (.int .i64 a1.wd)∧w'.cell? ⟨a0,2,none⟩=some (.int .i64 a1.s)∧w'.cell? ⟨a0,3,none⟩=some (.int .i64 a1.c)∧w'.cell? ⟨a0,4,none⟩=some (.int .u32 a1.st)∧w'.cell? ⟨a0,5,none⟩=some (.slice a1.I a1.ni a1.ci)∧w'.cell? ⟨a0,6,none⟩=some (.int .i64 a1.wr)∧w'.cell? ⟨a0,7,none⟩=some (.slice a1.R a1.nr a1.cr)∧w'.cell? ⟨a0,12,none⟩=some (.int .i64 (a2.i:Int))
abbrev QOrD1 (a0:Nat) (a1:Kc) (a2:Ob) (w':World):Prop:=w'.cell? ⟨a0,9,none⟩=some (.int .i64 a1.op)∧w'.cell? ⟨a0,0,none⟩=some (.int .i64 a2.k)
abbrev QOrD2 (a0:Nat) (a1:Kc) (a2 a3 a4:Nat) (a5:Int) (w':World):Prop:=w'.cell? ⟨a0,12,none⟩=some (.int .i64 (a1.i:Int))∧w'.cell? ⟨a0,38,none⟩=some (.slice (some ⟨a2,a3,none⟩) a1.rc.length a4)∧w'.cell? ⟨a2,a3+a1.i,none⟩=some (.int .u32 a5)
abbrev QOrD3 (a0:Nat) (a1:Kc) (w':World):Prop:=w'.cell? ⟨a0,12,none⟩=some (.int .i64 ((a1.i:Int)+1))∧w'.cell? ⟨a0,1,none⟩=some (.int .i64 (a1.wd:Int))
section
variable (yb lb cap:Nat) (o:Ob) (c:Kc) (rv:Value) (l:List Int)
theorem note_out {R:Nat} {v:Nat→Bool} {s:Nat} (h:¬ s<R):Kc.noteR R v (s:Int)=v:=by
 funext k
 unfold Kc.noteR;rw[decide_eq_false (show ¬ (s:Int)<(R:Int) by omega),Bool.and_false,Bool.or_false]
theorem note_in {R:Nat} {v:Nat→Bool} {s:Nat} (h:s<R) (k:Nat):Kc.noteR R v (s:Int) k=(v k || decide (k=s)):=by
 unfold Kc.noteR;rw[decide_eq_true (show(s:Int)<(R:Int) by omega),Bool.and_true]
 congr 1
 rw[decide_eq_decide];omega
theorem note_r_in (s R:Nat) (w:World) (h:SR w yb lb cap o c rv l) (hs:s<4294967296) (hR:recZ o=(R:Int)) (hR2:R≤20) (hsR:s<R):Calls Tryz.prog 127 #[.pointer (some ⟨yb,0,none⟩),.int .u32 (s:Int)] w (DidRK yb lb cap o w rv { c with used:=Kc.noteR R c.used (s:Int) } l (.tuple #[])):=by
 obtain⟨HS0,HM0,hfit,HF,HWD,HSL,HCP,HNR⟩:=h.start;clear hfit h;have HRE:=hid fun W=>records_o o (by have:=HNR.out;have:=HF.out.nr1;omega) W
 rw[hR] at HRE;have hd:decide ((s:Int)<(R:Int))=true:=decide_eq_true (by omega);have hw:IntKind.i64.wrap (s:Int)=(s:Int):=sh_wrap (by omega) (by omega);have HP:=hid hsR;have h20:s<20:=by omega
 clear hR hsR;unfold obA at HRE;have hr0:=HS0.out.row;have c0_0:=hr0.at 0 (.int .i64 o.k);have c1_0:=hr0.at 1 (.int .i64 o.wd);have c2_0:=hr0.at 2 (.int .i64 o.s);have c3_0:=hr0.at 3 (.int .i64 o.c);have c4_0:=hr0.at 4 (.int .u32 o.st);have c5_0:=hr0.at 5 (.slice o.I o.ni o.ci);have c6_0:=hr0.at 6 (.int .i64 o.wr);have c7_0:=hr0.at 7 (.slice o.R o.nr o.cr);clear hr0;go_enter Tryz.func127,Tryz.ntmps127;go_wp2_with fail;refine(HRE.out _).mono ?_;rintro ex w1 ⟨rfl,hb⟩;have HS1:=hid (HS0.out.below hb);have HM1:=hid (HM0.out.trans (Mv.below hb _));clear hb;have hr:=HS1.out.row;have hc:=used_cell hr s h20;have hg:=hr.frozen (18+s);have hz0:(0:Int)≤(s:Int):=by omega
 have hz1:(s:Int)<20:=by omega
 clear hr;go_wp2_with fail;obtain⟨hs1,hm1⟩:=HS1.out.note s h20 (Kc.noteR R c.used (s:Int)) (note_in HP.out)
 go_end0
 exact⟨rfl,hs1,HM1.out.trans hm1⟩
theorem note_r_out (s R:Nat) (w:World) (h:SR w yb lb cap o c rv l) (hs:s<4294967296) (hR:recZ o=(R:Int)) (_hR2:R≤20) (hsR:¬ s<R):Calls Tryz.prog 127 #[.pointer (some ⟨yb,0,none⟩),.int .u32 (s:Int)] w (DidRK yb lb cap o w rv { c with used:=Kc.noteR R c.used (s:Int) } l (.tuple #[])):=by
 obtain⟨HS0,HM0,hfit,HF,HWD,HSL,HCP,HNR⟩:=h.start;clear hfit h;have HRE:=hid fun W=>records_o o (by have:=HNR.out;have:=HF.out.nr1;omega) W
 rw[hR] at HRE;have hd:decide ((s:Int)<(R:Int))=false:=decide_eq_false (by omega);have hw:IntKind.i64.wrap (s:Int)=(s:Int):=sh_wrap (by omega) (by omega);have HP:=hid hsR;clear hR hsR;unfold obA at HRE;have hr0:=HS0.out.row;have c0_0:=hr0.at 0 (.int .i64 o.k);have c1_0:=hr0.at 1 (.int .i64 o.wd);have c2_0:=hr0.at 2 (.int .i64 o.s);have c3_0:=hr0.at 3 (.int .i64 o.c);have c4_0:=hr0.at 4 (.int .u32 o.st);have c5_0:=hr0.at 5 (.slice o.I o.ni o.ci);have c6_0:=hr0.at 6 (.int .i64 o.wr);have c7_0:=hr0.at 7 (.slice o.R o.nr o.cr);clear hr0;go_enter Tryz.func127,Tryz.ntmps127;go_wp2_with fail;refine(HRE.out _).mono ?_;rintro ex w1 ⟨rfl,hb⟩;have HS1:=hid (HS0.out.below hb);have HM1:=hid (HM0.out.trans (Mv.below hb _));clear hb;go_wp2_with fail
 go_end0
 rw[note_out HP.out];exact⟨rfl,HS1.out,HM1.out⟩
theorem note_r (z:Int) (R:Nat) (w:World) (h:SR w yb lb cap o c rv l) (hz:0≤z∧z<4294967296) (hR:recZ o=(R:Int)) (hR2:R≤20):Calls Tryz.prog 127 #[.pointer (some ⟨yb,0,none⟩),.int .u32 z] w (DidRK yb lb cap o w rv { c with used:=Kc.noteR R c.used z } l (.tuple #[])):=by
 obtain⟨s,rfl⟩:∃ s:Nat,z=(s:Int):=⟨z.toNat,by omega⟩
 by_cases hs:s<R
 ·exact note_r_in yb lb cap o c rv l s R w h (by omega) hR hR2 hs
 ·exact note_r_out yb lb cap o c rv l s R w h (by omega) hR hR2 hs
end
section
variable {yb lb cap:Nat} {w w':World} {rv rv':Value} {o:Ob} {c c':Kc} {l l':List Int} {B LL:Nat}
theorem SR.cellB (h:SR w yb lb cap o c rv l) (hB:c.base=B) (hL:B+LL=l.length) (j:Nat) (hj:j<LL):w.cell? ⟨lb,B+j,none⟩=some (.int .u32 (c.rdm l j))∧w.frozen? ⟨lb,B+j,none⟩=false∧0≤c.rdm l j∧c.rdm l j<4294967296:=by
 subst hB;exact h.cell j (by omega)
theorem SR.putB (h:SR w yb lb cap o c rv l) (hB:c.base=B) (hL:B+LL=l.length) (j:Nat) (hj:j<LL) (v:Int) (hv:0≤v∧v<4294967296):SR (w.setCell ⟨lb,B+j,none⟩ (.int .u32 v)) yb lb cap o c rv (c.wrm l j v)∧Mv yb lb lb w (w.setCell ⟨lb,B+j,none⟩ (.int .u32 v)) rv rv:=by
 subst hB;exact h.put j (by omega) v hv
theorem SR.app {v':Value} {w9:World} {z:Int} (h:SR w yb lb cap o c rv l) (hz:0≤z∧z<4294967296) (hown:w9.ownsRow 0 22 1 v' (c.rc.length+1) ((ints .u32).all c.rc++[.int .u32 z])) (ht:Tch (fun b=>rv.ownBlock=some b) w w9) (hob:v'.ownBlock=rv.ownBlock∨v'.ownBlock=some w.heap.size):
  SR (w9.setCell ⟨yb,38,none⟩ v') yb lb cap o { c with rc:=c.rc++[z] } v' l∧Mv yb lb lb w (w9.setCell ⟨yb,38,none⟩ v') rv v':=by
 have hr9:=h.row.tch ht h.s2;have hlt:=h.row.lt
 have hml:lb<w.heap.size:=by
  obtain⟨cur,hc⟩:=own_row h.mem;exact hc.lt
 have hne:∀ b,b<w.heap.size→rv.ownBlock≠some b→v'.ownBlock≠some b:=fun b hb hn e=>by
  rcases hob with q | q
  ·exact hn (q ▸ e)
  ·rw[q] at e;have:=Option.some.inj e;omega
 have hm9:=own_tch h.mem ht (fun b hb e=>h.s3 (by have:lb=b:=Option.some.inj hb;rw[this,e]));have hset:Tch (fun b=>b=yb) w9 (w9.setCell ⟨yb,38,none⟩ v'):=(Tch.refl (fun b=>b=yb) w9).set (b:=yb) rfl 38 v';have hf:=h.fits;refine⟨⟨hr9.set 38 v',own_tch (own_app rfl hown) hset (fun b hb e=>hne yb hlt h.s2 (by rw[hb,e])),?_,⟨hf.kd,hf.wd,hf.sl,hf.cap,hf.nr,hf.wd1,hf.nr1,hf.sl1,hf.cap1,hf.rd1,hf.base1,hf.size1,hf.i1,hf.tr1,hf.st1,hf.A0,hf.A1,hf.B0,hf.B1⟩,own_tch hm9 hset (fun b hb e=>h.s1 (by have:lb=b:=Option.some.inj hb;rw[this,e])),h.w32,h.len,h.s1,hne yb hlt h.s2,hne lb hml h.s3,h.opk⟩,⟨(ht.mono fun _ _ q=>.inr (.inr (.inr q))).set (.inl rfl) 38 v',fun b hb=>?_⟩⟩
 ·intro x hx
  rcases List.mem_append.1 hx with q | q
  ·exact h.w32r x q
  ·rw[List.mem_singleton.1 q];exact hz
 ·rcases hob with q | q
  ·exact .inl (q ▸ hb)
  ·rw[q] at hb;exact .inr (by have:=Option.some.inj hb;omega)
end
section
variable (yb lb cap:Nat) (o:Ob) (c:Kc) (rv:Value) (l:List Int)
def Kc.wend (c:Kc) (row:Int):Kc:=if row<0 then c.fin 0 else c.go row.toNat
def Kc.wdone (c:Kc) (row:Int) (d:Kc):Kc:=if c.wd≤c.i+1 then d.wend row else d
theorem word_r_w (B LL CC:Nat) (z:Int) (Hd frm:Nat) (row:Int) (w:World) (h:SR w yb lb cap o c rv l) (hBB:c.base=B) (hLL:B+LL=l.length) (hk:isK o.k=true) (hH:headZ o=(Hd:Int)) (hH5:Hd≤5) (hz:0≤z∧z≤20) (hfrm:frm=Hd+z.toNat*c.wd) (hj:frm+c.i<LL) (hi2:c.i<1000) (hwr:c.wr=true) (hi:c.i<c.rc.length):
  Calls Tryz.prog 125 #[.pointer (some ⟨yb,0,none⟩),.slice (some ⟨lb,B,none⟩) LL CC,.int .u32 z,.int .i64 row] w (DidR yb lb cap o w rv (c.wdone row (c.wst l frm)) (c.wmem l frm) (.tuple #[])):=by
 have HS0:=hid h;have HM0:=hid (Mv.refl (sb:=yb) (mb:=lb) (lb:=lb) w rv);have hfit:=h.fits;have HWD:=hid hfit.wd;have HSL:=hid hfit.sl;have HCP:=hid hfit.cap;have HNR:=hid hfit.nr;have hop:=oA_wr hk h.opk;rw[hwr] at hop;have hw1:=hfit.wd1;have hwd:=hfit.wd;have hnr1:=hfit.nr1;have hw0:0≤o.wd:=by omega
 have hw8:o.wd≤8:=by omega
 have m1:0≤z*o.wd:=Int.mul_nonneg hz.1 hw0;have m2:z*o.wd≤20*8:=Int.mul_le_mul hz.2 hw8 hw0 (by decide);have e0:IntKind.i64.wrap z=z:=sh_wrap (by omega) (by omega);have e1:IntKind.i64.wrap (z*o.wd)=z*o.wd:=sh_wrap (by omega) (by omega);have e2:IntKind.i64.wrap ((Hd:Int)+z*o.wd)=(Hd:Int)+z*o.wd:=sh_wrap (by omega) (by omega);have e3:IntKind.i64.wrap ((Hd:Int)+z*o.wd+(c.i:Int))=(Hd:Int)+z*o.wd+(c.i:Int):=sh_wrap (by omega) (by omega)
 have hAT:(Hd:Int)+z*o.wd+(c.i:Int)=((frm+c.i:Nat):Int):=by
  rw[hfrm,Int.natCast_add,Int.natCast_add,Int.natCast_mul,Int.toNat_of_nonneg hz.1,hwd]
 have HHD:=hid fun W=>head_o o (by have:=HNR.out;omega) W
 rw[hH] at HHD;unfold obA at HHD;have HWK:=hid fun W=>rWrites_any o.k W hk
 obtain⟨HI,hHI⟩:∃ x:Int,(Hd:Int)=x:=⟨_,rfl⟩;rw[hHI] at HHD e2 e3 hAT;obtain⟨AT,hAT2⟩:∃ x,frm+c.i=x:=⟨_,rfl⟩;rw[hAT2] at hAT hj;have HAT:=hid hAT;have HA2:=hid hAT2;have HOP:=hid hop;have HLL:=hid (And.intro hBB hLL);have HJ:=hid hj;have HWR:=hid hwr;have HI2:=hid hi2;have HRL:=hid hi;have hi0:(0:Int)≤(c.i:Int):=by omega
 have hi9:(c.i:Int)≤1000:=by omega
 have HKK:=hid hk;clear h hfit hop hw1 hwd hnr1 hw0 hw8 m1 m2 hHI hH hfrm hAT hAT2 hj hBB hLL hk hwr hi2 hi hz;go_enter Tryz.func125,Tryz.ntmps125;go_wp2_with fail;have hr0:=HS0.out.drew.row;have hSd:(QOrD0 yb o c) w.drew:=(by and_intros <;> exact hr0.c rfl);have HS1:=hid HS0.out.drew;have HM1:=hid (HM0.out.trans (Mv.drew w _));clear hr0;refine rgn hSd fun w1 hw9 hHeld=>?_
 rw[hw9] at HS1 HM1;clear hw9 hSd;refine tk4 0 1 2 3 ?_;refine tk4 5 6 7 8 ?_;refine tk4 9 10 11 12 ?_;refine tk4 14 15 16 17 ?_;refine clH 4 (fun K hK=>?_)
 ·go_simp;refine(HHD.out _).mono ?_;rintro ex w2 ⟨rfl,hb⟩;have HS2:=hid (HS1.out.below hb);have HM2:=hid (HM1.out.trans (Mv.below hb _));clear hb;have hr2:=HS2.out.row;have hSx2:(QOrD0 yb o c) w2:=(by and_intros <;> exact hr2.c rfl);clear hr2;refine kH hK hSx2 fun hHeld=>?_
  clear hK K;refine tk2 13 18 ?_;refine tkH 19 ?_;refine dnH ?_;clear hHeld hSx2;rw[HAT.out];have hATl:(AT:Int)<(LL:Int):=by have:=HJ.out;omega
  have hAT0:(0:Int)≤(AT:Int):=by omega
  clear e0 e1 e2 e3;go_wp2_with fail;have hop:=HOP.out;have hr2:=HS2.out.drew.row;have hSd:(QOrD1 yb c o) w2.drew:=⟨(hr2.cell 9).trans rfl,(hr2.cell 0).trans rfl⟩;have HS3:=hid HS2.out.drew;have HM3:=hid (HM2.out.trans (Mv.drew w2 _));clear hr2;refine rgn hSd fun w3 hw9 hHeld=>?_
  rw[hw9] at HS3 HM3;clear hw9 hSd;refine tk4 0 1 2 3 ?_;refine tk4 4 5 6 7 ?_;refine tkH 8 ?_;refine clH 9 (fun K hK=>?_)
  ·go_simp;refine(HWK.out _).mono ?_;rintro ex w4 ⟨rfl,rfl⟩;have HS4:=HS3;have HM4:=HM3;have hr4:=HS4.out.row;have hSx4:(QOrD1 yb c o) w4:=⟨(hr4.cell 9).trans rfl,(hr4.cell 0).trans rfl⟩;clear hr4;refine kH hK hSx4 fun hHeld=>?_
   clear hK K;refine tkH 10 ?_;refine dnH ?_;clear hHeld hSx4;clear hop;go_wp2_with fail;obtain⟨A,cp,hrv,hc1,hc2,hsl⟩:=HS4.out.rc.sl;obtain⟨x,hx⟩:=get_some HRL.out;have hxd:c.rc.getD c.i 0=x:=by rw[List.getD_eq_getElem?_getD,hx];rfl
   have hxb:=HS4.out.w32r.get hx;obtain⟨rb,ro,hA,hrb,hcell⟩:=hsl c.i x hx;subst hA
   have hxc:w4.cell? ⟨rb,ro+c.i,none⟩=some (.int .u32 x):=by
    have:=hcell 0 _ rfl
    simpa [ints,Enc.of1] using this
   have HRV:=hid hrv;have hlen:(c.i:Int)<(c.rc.length:Int):=by have:=HRL.out;omega
   have hI2:((c.i:Int)).toNat=c.i:=by omega
   have HXB:=hid hxb;have HXD:=hid hxd;have HXX:=hid hx;have HS5:=hid HS4.out.drew;have HM5:=hid (HM4.out.trans (Mv.drew w4 _));have hr:=HS5.out.row;have hSd:(QOrD2 yb c rb ro cp x) w4.drew:=⟨(hr.cell 12).trans rfl,(hr.cell 38).trans (by rw[← HRV.out];rfl),hxc⟩;clear hr hrv hc1 hc2 hsl hxb hxd hx hrb hcell hxc;refine rgn hSd fun w5 hw9 hHeld=>?_
   rw[hw9] at HS5 HM5;clear hw9 hSd;refine tk4 0 1 2 3 ?_;refine tk4 4 5 6 7 ?_;refine tk4 8 9 10 11 ?_;refine tkH 12 ?_;refine clH 13 (fun K hK=>?_)
   ·obtain⟨mA,gA,_,_⟩:=HS5.out.cellB HLL.out.1 HLL.out.2 AT HJ.out;go_simp;obtain⟨hs,hm⟩:=HS5.out.putB HLL.out.1 HLL.out.2 AT HJ.out x HXB.out;obtain⟨HS6,HM6⟩:=nx hs HM5 hm;have hSx:(QOrD2 yb c rb ro cp x) (w5.setCell ⟨lb,B+AT,none⟩ (.int .u32 x)):=⟨(hs.row.cell 12).trans rfl,(hs.row.cell 38).trans (by rw[← HRV.out];rfl),rec_cell HRV.out hs.rc HXX.out⟩;clear hs hm;refine kH hK hSx fun hHeld=>?_
    clear hK K;refine dnH ?_;clear hHeld hSx hI2 hlen mA gA;generalize w5.setCell ⟨lb,B+AT,none⟩ (.int .u32 x)=w6 at HS6 HM6 ⊢
    have hE:SR w6 yb lb cap o c rv (c.wmem l frm):=by
     unfold Kc.wmem;rw[if_pos HWR.out,HA2.out,HXD.out];exact HS6.out
    have hE1:({ c with i:=c.i+1 }:Kc)=c.wst l frm:=by unfold Kc.wst;rw[if_pos HWR.out]
    have HS7:=hid hE;have HE1:=hid hE1;clear hE hE1 HRV HXB HXD HXX;have HM7:=HM6;have hr:=HS7.out.row;have c12:=hr.at 12 (.int .i64 (c.i:Int));have f12:=hr.frozen 12;have c1w:=hr.at 1 (.int .i64 (c.wd:Int)) (by rw[← HWD.out];rfl);clear hr;go_wp2_with fail;obtain⟨hs0,hm⟩:=HS7.out.setI HI2.out
    have hs:SR (w6.setCell ⟨yb,12,none⟩ (.int .i64 ((c.i:Int)+1))) yb lb cap o (c.wst l frm) rv (c.wmem l frm):=by
     rw[← HE1.out];exact hs0
    have HS8:=hid hs.drew;have HM8:=hid ((HM7.out.trans hm).trans (Mv.drew _ _));have c12':(w6.setCell ⟨yb,12,none⟩ (.int .i64 ((c.i:Int)+1))).drew.cell? ⟨yb,12,none⟩=some (.int .i64 ((c.i:Int)+1)):=(hs.row.cell 12).trans (by show some (Value.int .i64 (((c.wst l frm).i:Nat):Int))=_;rfl);have c1':(w6.setCell ⟨yb,12,none⟩ (.int .i64 ((c.i:Int)+1))).drew.cell? ⟨yb,1,none⟩=some (.int .i64 (c.wd:Int)):=(hs.row.cell 1).trans (by rw[← HWD.out];rfl);clear hs hs0 hm c12 f12 c1w;obtain⟨bd,hd⟩:∃ b,decide ((c.i:Int)+1<(c.wd:Int))=b:=⟨_,rfl⟩;have HBD:=hid hd;refine rgn (S:=(QOrD3 yb c)) ⟨c12',c1'⟩ fun wd hw9 hHeld=>?_
    rw[hw9] at HS8 HM8;clear hw9;refine tk4 0 1 2 3 ?_;refine tk4 4 5 6 7 ?_;refine tk2 8 9 ?_;refine dnH ?_;clear hHeld hd;cases bd
    ·have HLA:=hid (show c.wd≤c.i+1 by have:=of_decide_eq_false HBD.out;omega)
     by_cases hrow:row<0
     ·have hq:decide (row<0)=true:=decide_eq_true hrow;have HQ:=hid hrow;clear hrow;go_wp2_with fail;refine(end_r yb lb cap o _ _ _ 0 _ HS8.out HKK.out).mono (mvD HM8 fun w9 rv9 HS9 HM9=>?_);go_wp2_with fail
      go_end0
      exact⟨_,rfl,(by unfold Kc.wdone Kc.wend;rw[if_pos HLA.out];rw[if_pos HQ.out];exact HS9.out),HM9.out⟩
     ·obtain⟨q,rfl⟩:∃ q:Nat,row=(q:Int):=⟨row.toNat,by omega⟩;have hq:decide ((q:Int)<0)=false:=decide_eq_false (by omega);clear hrow;go_wp2_with fail;refine(to_r yb lb cap o _ _ _ (q) q _ HS8.out rfl).mono (mvK HM8 fun w9 HS9 HM9=>?_);go_wp2_with fail
      go_end0
      exact⟨_,rfl,(by unfold Kc.wdone Kc.wend;rw[if_pos HLA.out];rw[if_neg (by omega)];exact HS9.out),HM9.out⟩
    ·have HLA:=hid (show ¬ c.wd≤c.i+1 by have:=of_decide_eq_true HBD.out;omega);go_wp2_with fail
     go_end0
     exact⟨_,rfl,(by unfold Kc.wdone;rw[if_neg HLA.out];exact HS8.out),HM8.out⟩
theorem word_r_r (B LL CC:Nat) (z:Int) (Hd frm:Nat) (row:Int) (w:World) (h:SR w yb lb cap o c rv l) (hBB:c.base=B) (hLL:B+LL=l.length) (hk:isK o.k=true) (hH:headZ o=(Hd:Int)) (hH5:Hd≤5) (hz:0≤z∧z≤20) (hfrm:frm=Hd+z.toNat*c.wd) (hj:frm+c.i<LL) (hi2:c.i<1000) (hwr:c.wr=false) (hi:c.rc.length≤1000000):
  Calls Tryz.prog 125 #[.pointer (some ⟨yb,0,none⟩),.slice (some ⟨lb,B,none⟩) LL CC,.int .u32 z,.int .i64 row] w (DidR yb lb cap o w rv (c.wdone row (c.wst l frm)) (c.wmem l frm) (.tuple #[])):=by
 have HS0:=hid h;have HM0:=hid (Mv.refl (sb:=yb) (mb:=lb) (lb:=lb) w rv);have hfit:=h.fits;have HWD:=hid hfit.wd;have HSL:=hid hfit.sl;have HCP:=hid hfit.cap;have HNR:=hid hfit.nr;have hop:=oA_wr hk h.opk;rw[hwr] at hop;have hw1:=hfit.wd1;have hwd:=hfit.wd;have hnr1:=hfit.nr1;have hw0:0≤o.wd:=by omega
 have hw8:o.wd≤8:=by omega
 have m1:0≤z*o.wd:=Int.mul_nonneg hz.1 hw0;have m2:z*o.wd≤20*8:=Int.mul_le_mul hz.2 hw8 hw0 (by decide);have e0:IntKind.i64.wrap z=z:=sh_wrap (by omega) (by omega);have e1:IntKind.i64.wrap (z*o.wd)=z*o.wd:=sh_wrap (by omega) (by omega);have e2:IntKind.i64.wrap ((Hd:Int)+z*o.wd)=(Hd:Int)+z*o.wd:=sh_wrap (by omega) (by omega);have e3:IntKind.i64.wrap ((Hd:Int)+z*o.wd+(c.i:Int))=(Hd:Int)+z*o.wd+(c.i:Int):=sh_wrap (by omega) (by omega)
 have hAT:(Hd:Int)+z*o.wd+(c.i:Int)=((frm+c.i:Nat):Int):=by
  rw[hfrm,Int.natCast_add,Int.natCast_add,Int.natCast_mul,Int.toNat_of_nonneg hz.1,hwd]
 have HHD:=hid fun W=>head_o o (by have:=HNR.out;omega) W
 rw[hH] at HHD;unfold obA at HHD;have HWK:=hid fun W=>rWrites_any o.k W hk
 obtain⟨HI,hHI⟩:∃ x:Int,(Hd:Int)=x:=⟨_,rfl⟩;rw[hHI] at HHD e2 e3 hAT;obtain⟨AT,hAT2⟩:∃ x,frm+c.i=x:=⟨_,rfl⟩;rw[hAT2] at hAT hj;have HAT:=hid hAT;have HA2:=hid hAT2;have HOP:=hid hop;have HLL:=hid (And.intro hBB hLL);have HJ:=hid hj;have HWR:=hid hwr;have HI2:=hid hi2;have HRL:=hid hi;have hi0:(0:Int)≤(c.i:Int):=by omega
 have hi9:(c.i:Int)≤1000:=by omega
 have HKK:=hid hk;clear h hfit hop hw1 hwd hnr1 hw0 hw8 m1 m2 hHI hH hfrm hAT hAT2 hj hBB hLL hk hwr hi2 hi hz;go_enter Tryz.func125,Tryz.ntmps125;go_wp2_with fail;have hr0:=HS0.out.drew.row;have hSd:(QOrD0 yb o c) w.drew:=(by and_intros <;> exact hr0.c rfl);have HS1:=hid HS0.out.drew;have HM1:=hid (HM0.out.trans (Mv.drew w _));clear hr0;refine rgn hSd fun w1 hw9 hHeld=>?_
 rw[hw9] at HS1 HM1;clear hw9 hSd;refine tk4 0 1 2 3 ?_;refine tk4 5 6 7 8 ?_;refine tk4 9 10 11 12 ?_;refine tk4 14 15 16 17 ?_;refine clH 4 (fun K hK=>?_)
 ·go_simp;refine(HHD.out _).mono ?_;rintro ex w2 ⟨rfl,hb⟩;have HS2:=hid (HS1.out.below hb);have HM2:=hid (HM1.out.trans (Mv.below hb _));clear hb;have hr2:=HS2.out.row;have hSx2:(QOrD0 yb o c) w2:=(by and_intros <;> exact hr2.c rfl);clear hr2;refine kH hK hSx2 fun hHeld=>?_
  clear hK K;refine tk2 13 18 ?_;refine tkH 19 ?_;refine dnH ?_;clear hHeld hSx2;rw[HAT.out];have hATl:(AT:Int)<(LL:Int):=by have:=HJ.out;omega
  have hAT0:(0:Int)≤(AT:Int):=by omega
  clear e0 e1 e2 e3;go_wp2_with fail;have hop:=HOP.out;have hr2:=HS2.out.drew.row;have hSd:(QOrD1 yb c o) w2.drew:=⟨(hr2.cell 9).trans rfl,(hr2.cell 0).trans rfl⟩;have HS3:=hid HS2.out.drew;have HM3:=hid (HM2.out.trans (Mv.drew w2 _));clear hr2;refine rgn hSd fun w3 hw9 hHeld=>?_
  rw[hw9] at HS3 HM3;clear hw9 hSd;refine tk4 0 1 2 3 ?_;refine tk4 4 5 6 7 ?_;refine tkH 8 ?_;refine clH 9 (fun K hK=>?_)
  ·go_simp;refine(HWK.out _).mono ?_;rintro ex w4 ⟨rfl,rfl⟩;have HS4:=HS3;have HM4:=HM3;have hr4:=HS4.out.row;have hSx4:(QOrD1 yb c o) w4:=⟨(hr4.cell 9).trans rfl,(hr4.cell 0).trans rfl⟩;clear hr4;refine kH hK hSx4 fun hHeld=>?_
   clear hK K;refine tkH 10 ?_;refine dnH ?_;clear hHeld hSx4;clear hop;go_wp2_with fail;obtain⟨mz,gz,zb0,zb1⟩:=HS4.out.cellB HLL.out.1 HLL.out.2 AT HJ.out;obtain⟨x,hx⟩:∃ x,c.rdm l AT=x:=⟨_,rfl⟩;rw[hx] at mz zb0 zb1;have HXB:=hid (And.intro zb0 zb1);have HXX:=hid hx;have HS5:=hid HS4.out.drew;have HM5:=hid (HM4.out.trans (Mv.drew w4 _));have hr:=HS5.out.row;have hSd:(fun w':World=>w'.cell? ⟨lb,B+AT,none⟩=some (.int .u32 x)) w4.drew:=mz;have c38:w4.drew.cell? ⟨yb,38,none⟩=some rv:=(hr.cell 38).trans rfl;clear hr mz gz zb0 zb1 hx;refine rgn (S:=(fun w':World=>w'.cell? ⟨lb,B+AT,none⟩=some (.int .u32 x))) hSd fun w5 hw9 hHeld=>?_
   rw[hw9] at c38 HS5 HM5;clear hw9 hSd;refine tk4 0 1 2 3 ?_;refine tk4 5 6 7 8 ?_;refine rdH [4,9] ?_;refine cnH (fun K hK=>?_) ?_
   ·go_simp;refine kH hK hHeld fun hHeld=>?_
    clear hK K;refine clH 9 (fun K hK=>?_)
    ·go_simp;have hba:=(Below.refl w5.heap.size w5).alloc (Nat.le_refl _) (.cells #[.int .u32 x] 22);have HSA:=hid (HS5.out.below hba);have HMA:=hid (HM5.out.trans (Mv.below hba rv));have hSa:(fun w':World=>w'.cell? ⟨lb,B+AT,none⟩=some (.int .u32 x)) (w5.alloc (.cells #[.int .u32 x] 22)):=(HSA.out.cellB HLL.out.1 HLL.out.2 AT HJ.out).1.trans (by show some (Value.int .u32 (c.rdm l AT))=_;rw[HXX.out]);have c38a:(w5.alloc (.cells #[.int .u32 x] 22)).cell? ⟨yb,38,none⟩=some rv:=(HSA.out.row.cell 38).trans rfl;clear hba;refine kH hK hSa fun hHeld=>?_
     clear hK K;refine clH 10 (fun K hK=>?_)
     ·refine step_appT (by rfl) (.tmp 56) (.tmp 61) 23 (by rfl) u32Ty 0 HSA.out.rc (by rfl) (cells_new' w5 [.int .u32 x] _ _ rfl) (by rfl) (by rfl) (by simp[Value.oneCell']) (by have:=HRL.out;unfold maxLen;omega) (by have:=HRL.out;omega) (Nat.zero_le _) ?_;intro v' w9 hown9 ht9 hob9;obtain⟨A9,M9,c9,rfl⟩:=own_slice hown9;have HO9:=hid hown9;have HT9:=hid ht9;have HB9:=hid hob9;have hr9:=HSA.out.row.tch ht9 HSA.out.s2;have hS9:(fun w':World=>w'.cell? ⟨lb,B+AT,none⟩=some (.int .u32 x)) w9:=ht9.cell hHeld HSA.out.s3;have c38n:w9.cell? ⟨yb,38,none⟩=some rv:=(hr9.cell 38).trans rfl;have f38n:=hr9.frozen 38;clear hown9 ht9 hob9 hr9;refine kH hK hS9 fun hHeld=>?_
      clear hK K;refine tk2 11 12 ?_;refine clH 13 (fun K hK=>?_)
      ·go_simp;obtain⟨hsf,hmf⟩:=HSA.out.app HXB.out HO9.out HT9.out HB9.out;have HSF:=hid hsf;have HMF:=hid (HMA.out.trans hmf);have hSf:(fun w':World=>w'.cell? ⟨lb,B+AT,none⟩=some (.int .u32 x)) (w9.setCell ⟨yb,38,none⟩ (.slice A9 M9 c9)):=(hsf.cellB HLL.out.1 HLL.out.2 AT HJ.out).1.trans (by show some (Value.int .u32 (c.rdm l AT))=_;rw[HXX.out]);clear hsf hmf;refine kH hK hSf fun hHeld=>?_
       clear hK K;refine dnH ?_;clear hHeld;generalize w9.setCell ⟨yb,38,none⟩ (.slice A9 M9 c9)=w6 at HSF HMF ⊢
       have hE:SR w6 yb lb cap o { c with rc:=c.rc++[c.rdm l (frm+c.i)] } (.slice A9 M9 c9) (c.wmem l frm):=by
        unfold Kc.wmem;rw[if_neg (by rw[HWR.out];decide),HA2.out,HXX.out];exact HSF.out
       have hE1:({ c with rc:=c.rc++[c.rdm l (frm+c.i)],i:=c.i+1 }:Kc)=c.wst l frm:=by unfold Kc.wst;rw[if_neg (by rw[HWR.out];decide)]
       have HS6:=hid hE;have HM6:=HMF;have HE1:=hid hE1;clear hE hE1;have hr:=HS6.out.row;have c12:=hr.at 12 (.int .i64 (c.i:Int));have f12:=hr.frozen 12;have c1w:=hr.at 1 (.int .i64 (c.wd:Int)) (by rw[← HWD.out];rfl);clear hr;go_wp2_with fail;obtain⟨hs0,hm⟩:=HS6.out.setI HI2.out
       have hs:SR (w6.setCell ⟨yb,12,none⟩ (.int .i64 ((c.i:Int)+1))) yb lb cap o (c.wst l frm) (.slice A9 M9 c9) (c.wmem l frm):=by
        rw[← HE1.out];exact hs0
       have HS7:=hid hs.drew;have HM7:=hid ((HM6.out.trans hm).trans (Mv.drew _ _));have c12':(w6.setCell ⟨yb,12,none⟩ (.int .i64 ((c.i:Int)+1))).drew.cell? ⟨yb,12,none⟩=some (.int .i64 ((c.i:Int)+1)):=(hs.row.cell 12).trans (by show some (Value.int .i64 (((c.wst l frm).i:Nat):Int))=_;rfl);have c1':(w6.setCell ⟨yb,12,none⟩ (.int .i64 ((c.i:Int)+1))).drew.cell? ⟨yb,1,none⟩=some (.int .i64 (c.wd:Int)):=(hs.row.cell 1).trans (by rw[← HWD.out];rfl);clear hs hs0 hm c12 f12 c1w;obtain⟨bd,hd⟩:∃ b,decide ((c.i:Int)+1<(c.wd:Int))=b:=⟨_,rfl⟩;have HBD:=hid hd;refine rgn (S:=(QOrD3 yb c)) ⟨c12',c1'⟩ fun wd hw9 hHeld=>?_
       rw[hw9] at HS7 HM7;clear hw9;refine tk4 0 1 2 3 ?_;refine tk4 4 5 6 7 ?_;refine tk2 8 9 ?_;refine dnH ?_;clear hHeld hd;cases bd
       ·have HLA:=hid (show c.wd≤c.i+1 by have:=of_decide_eq_false HBD.out;omega)
        by_cases hrow:row<0
        ·have hq:decide (row<0)=true:=decide_eq_true hrow;have HQ:=hid hrow;clear hrow;go_wp2_with fail;refine(end_r yb lb cap o _ _ _ 0 _ HS7.out HKK.out).mono (mvD HM7 fun w8 rv8 HS8 HM8=>?_);go_wp2_with fail
         go_end0
         exact⟨_,rfl,(by unfold Kc.wdone Kc.wend;rw[if_pos HLA.out];rw[if_pos HQ.out];exact HS8.out),HM8.out⟩
        ·obtain⟨q,rfl⟩:∃ q:Nat,row=(q:Int):=⟨row.toNat,by omega⟩;have hq:decide ((q:Int)<0)=false:=decide_eq_false (by omega);clear hrow;go_wp2_with fail;refine(to_r yb lb cap o _ _ _ (q) q _ HS7.out rfl).mono (mvK HM7 fun w8 HS8 HM8=>?_);go_wp2_with fail
         go_end0
         exact⟨_,rfl,(by unfold Kc.wdone Kc.wend;rw[if_pos HLA.out];rw[if_neg (by omega)];exact HS8.out),HM8.out⟩
       ·have HLA:=hid (show ¬ c.wd≤c.i+1 by have:=of_decide_eq_true HBD.out;omega);go_wp2_with fail
        go_end0
        exact⟨_,rfl,(by unfold Kc.wdone;rw[if_neg HLA.out];exact HS7.out),HM7.out⟩
   ·refine cnH (fun K hK=>?_) AllReadyH.nil
    ·go_simp;have hba:=(Below.refl w5.heap.size w5).alloc (Nat.le_refl _) (.cells #[.int .u32 x] 22);have HSA:=hid (HS5.out.below hba);have HMA:=hid (HM5.out.trans (Mv.below hba rv));have hSa:(fun w':World=>w'.cell? ⟨lb,B+AT,none⟩=some (.int .u32 x)) (w5.alloc (.cells #[.int .u32 x] 22)):=(HSA.out.cellB HLL.out.1 HLL.out.2 AT HJ.out).1.trans (by show some (Value.int .u32 (c.rdm l AT))=_;rw[HXX.out]);have c38a:(w5.alloc (.cells #[.int .u32 x] 22)).cell? ⟨yb,38,none⟩=some rv:=(HSA.out.row.cell 38).trans rfl;clear hba;refine kH hK hSa fun hHeld=>?_
     clear hK K;refine clH 4 (fun K hK=>?_)
     ·go_simp;refine kH hK hHeld fun hHeld=>?_
      clear hK K;refine clH 10 (fun K hK=>?_)
      ·refine step_appT (by rfl) (.tmp 56) (.tmp 61) 23 (by rfl) u32Ty 0 HSA.out.rc (by rfl) (cells_new' w5 [.int .u32 x] _ _ rfl) (by rfl) (by rfl) (by simp[Value.oneCell']) (by have:=HRL.out;unfold maxLen;omega) (by have:=HRL.out;omega) (Nat.zero_le _) ?_;intro v' w9 hown9 ht9 hob9;obtain⟨A9,M9,c9,rfl⟩:=own_slice hown9;have HO9:=hid hown9;have HT9:=hid ht9;have HB9:=hid hob9;have hr9:=HSA.out.row.tch ht9 HSA.out.s2;have hS9:(fun w':World=>w'.cell? ⟨lb,B+AT,none⟩=some (.int .u32 x)) w9:=ht9.cell hHeld HSA.out.s3;have c38n:w9.cell? ⟨yb,38,none⟩=some rv:=(hr9.cell 38).trans rfl;have f38n:=hr9.frozen 38;clear hown9 ht9 hob9 hr9;refine kH hK hS9 fun hHeld=>?_
       clear hK K;refine tk2 11 12 ?_;refine clH 13 (fun K hK=>?_)
       ·go_simp;obtain⟨hsf,hmf⟩:=HSA.out.app HXB.out HO9.out HT9.out HB9.out;have HSF:=hid hsf;have HMF:=hid (HMA.out.trans hmf);have hSf:(fun w':World=>w'.cell? ⟨lb,B+AT,none⟩=some (.int .u32 x)) (w9.setCell ⟨yb,38,none⟩ (.slice A9 M9 c9)):=(hsf.cellB HLL.out.1 HLL.out.2 AT HJ.out).1.trans (by show some (Value.int .u32 (c.rdm l AT))=_;rw[HXX.out]);clear hsf hmf;refine kH hK hSf fun hHeld=>?_
        clear hK K;refine dnH ?_;clear hHeld;generalize w9.setCell ⟨yb,38,none⟩ (.slice A9 M9 c9)=w6 at HSF HMF ⊢
        have hE:SR w6 yb lb cap o { c with rc:=c.rc++[c.rdm l (frm+c.i)] } (.slice A9 M9 c9) (c.wmem l frm):=by
         unfold Kc.wmem;rw[if_neg (by rw[HWR.out];decide),HA2.out,HXX.out];exact HSF.out
        have hE1:({ c with rc:=c.rc++[c.rdm l (frm+c.i)],i:=c.i+1 }:Kc)=c.wst l frm:=by unfold Kc.wst;rw[if_neg (by rw[HWR.out];decide)]
        have HS6:=hid hE;have HM6:=HMF;have HE1:=hid hE1;clear hE hE1;have hr:=HS6.out.row;have c12:=hr.at 12 (.int .i64 (c.i:Int));have f12:=hr.frozen 12;have c1w:=hr.at 1 (.int .i64 (c.wd:Int)) (by rw[← HWD.out];rfl);clear hr;go_wp2_with fail;obtain⟨hs0,hm⟩:=HS6.out.setI HI2.out
        have hs:SR (w6.setCell ⟨yb,12,none⟩ (.int .i64 ((c.i:Int)+1))) yb lb cap o (c.wst l frm) (.slice A9 M9 c9) (c.wmem l frm):=by
         rw[← HE1.out];exact hs0
        have HS7:=hid hs.drew;have HM7:=hid ((HM6.out.trans hm).trans (Mv.drew _ _));have c12':(w6.setCell ⟨yb,12,none⟩ (.int .i64 ((c.i:Int)+1))).drew.cell? ⟨yb,12,none⟩=some (.int .i64 ((c.i:Int)+1)):=(hs.row.cell 12).trans (by show some (Value.int .i64 (((c.wst l frm).i:Nat):Int))=_;rfl);have c1':(w6.setCell ⟨yb,12,none⟩ (.int .i64 ((c.i:Int)+1))).drew.cell? ⟨yb,1,none⟩=some (.int .i64 (c.wd:Int)):=(hs.row.cell 1).trans (by rw[← HWD.out];rfl);clear hs hs0 hm c12 f12 c1w;obtain⟨bd,hd⟩:∃ b,decide ((c.i:Int)+1<(c.wd:Int))=b:=⟨_,rfl⟩;have HBD:=hid hd;refine rgn (S:=(QOrD3 yb c)) ⟨c12',c1'⟩ fun wd hw9 hHeld=>?_
        rw[hw9] at HS7 HM7;clear hw9;refine tk4 0 1 2 3 ?_;refine tk4 4 5 6 7 ?_;refine tk2 8 9 ?_;refine dnH ?_;clear hHeld hd;cases bd
        ·have HLA:=hid (show c.wd≤c.i+1 by have:=of_decide_eq_false HBD.out;omega)
         by_cases hrow:row<0
         ·have hq:decide (row<0)=true:=decide_eq_true hrow;have HQ:=hid hrow;clear hrow;go_wp2_with fail;refine(end_r yb lb cap o _ _ _ 0 _ HS7.out HKK.out).mono (mvD HM7 fun w8 rv8 HS8 HM8=>?_);go_wp2_with fail
          go_end0
          exact⟨_,rfl,(by unfold Kc.wdone Kc.wend;rw[if_pos HLA.out];rw[if_pos HQ.out];exact HS8.out),HM8.out⟩
         ·obtain⟨q,rfl⟩:∃ q:Nat,row=(q:Int):=⟨row.toNat,by omega⟩;have hq:decide ((q:Int)<0)=false:=decide_eq_false (by omega);clear hrow;go_wp2_with fail;refine(to_r yb lb cap o _ _ _ (q) q _ HS7.out rfl).mono (mvK HM7 fun w8 HS8 HM8=>?_);go_wp2_with fail
          go_end0
          exact⟨_,rfl,(by unfold Kc.wdone Kc.wend;rw[if_pos HLA.out];rw[if_neg (by omega)];exact HS8.out),HM8.out⟩
        ·have HLA:=hid (show ¬ c.wd≤c.i+1 by have:=of_decide_eq_true HBD.out;omega);go_wp2_with fail
         go_end0
         exact⟨_,rfl,(by unfold Kc.wdone;rw[if_neg HLA.out];exact HS7.out),HM7.out⟩
end
end Go.Proofs.YtolmpehgeinlkaaGreatDoor
