/- The document's operation: the kind chen. -/
import Derived.Test.YtolmpehgeinlkaaGreatDoorZcOrE
namespace Go.Proofs.YtolmpehgeinlkaaGreatDoor
open Go.RowKit
open Go.Lib (hid)
attribute [local go_sem] Oper.semAt_some
set_option maxHeartbeats 1000000
set_option maxRecDepth 100000
abbrev QOrF0 (a0:Nat) (a1:Kc) (w':World):Prop:=w'.cell? ⟨a0,12,none⟩=some (.int .i64 (a1.i:Int))∧w'.cell? ⟨a0,17,none⟩=some (.int .u32 a1.B)
theorem choose_bd (v:Nat→Bool):0≤Kc.chooseR v∧Kc.chooseR v<20:=by
 unfold Kc.chooseR;cases h:(List.range 20).find? (fun k=>!v k) with
 | none=>exact⟨Int.le_refl _,by show(0:Int)<20;decide⟩
 | some k=>
  have:=List.mem_of_find?_eq_some h;rw[List.mem_range] at this;exact⟨Int.natCast_nonneg k,by show(k:Int)<20;omega⟩
theorem SR.cell0 {yb lb cap:Nat} {w:World} {rv:Value} {o:Ob} {c:Kc} {l:List Int} {B LL:Nat} (h:SR w yb lb cap o c rv l) (hB:c.base=B) (hL:B+LL=l.length) (hj:0<LL):w.cell? ⟨lb,B,none⟩=some (.int .u32 (c.rdm l 0)):=by
 have:=(h.cellB hB hL 0 hj).1
 rwa [Nat.add_zero] at this
theorem incR_bd {a m:Int} (hm:0<m):0≤Kc.incR a m∧Kc.incR a m<m:=⟨Int.emod_nonneg _ (by omega),Int.emod_lt_of_pos _ hm⟩
theorem gapR_bd {a b m:Int} (hm:0<m):0≤Kc.gapR a b m∧Kc.gapR a b m<m:=⟨Int.emod_nonneg _ (by omega),Int.emod_lt_of_pos _ hm⟩
section
variable (yb lb cap:Nat) (o:Ob) (c:Kc) (rv:Value) (l:List Int)
theorem r_chen_w0 (B LL CC:Nat) (w:World) (h:SR w yb lb cap o c rv l) (hBB:c.base=B) (hLL:B+LL=l.length) (hk:isK o.k=true) (hph:c.ph=0) (hRz:recZ o=((c.nr+2:Nat):Int)) (hj:0<LL):Calls Tryz.prog 83 #[.pointer (some ⟨yb,0,none⟩),.slice (some ⟨lb,B,none⟩) LL CC] w (DidR yb lb cap o w rv (({ c with used:=Kc.noteR (c.nr+2) c.used (c.rdm l 0) }:Kc).go 1) l (.tuple #[])):=by
 obtain⟨HS0,HM0,hfit,HF,HWD,HSL,HCP,HNR⟩:=h.start;have HLL:=hid (And.intro hBB hLL);have HKK:=hid hk;have HPH:=hid hph;clear h hfit hBB hLL hk hph;obtain⟨mz_0,gz_0,zb0,zb1⟩:=HS0.out.cellB HLL.out.1 HLL.out.2 (0) (hj);obtain⟨z,hz'⟩:∃ x,c.rdm l (0)=x:=⟨_,rfl⟩;rw[hz'] at mz_0 zb0 zb1;try rw[hz']
 have Hz':=hid hz';clear hz';rw[Nat.add_zero] at mz_0 gz_0;have hnr:=HF.out.nr1;have HRZ:=hid (And.intro hRz (show c.nr+2≤20 by omega));have HZB:=hid (And.intro zb0 zb1);clear hRz hnr;have hL0:(0:Int)<(LL:Int):=by omega
 have hr0:=HS0.out.row;have c7_0:=hr0.at 7 (.slice o.R o.nr o.cr);have c11_0:=hr0.ph 11 0 HPH;clear hr0;go_enter Tryz.func83,Tryz.ntmps83;go_wp2_with fail;refine(note_r yb lb cap o _ _ _ z (c.nr+2) _ HS0.out ⟨HZB.out.1,HZB.out.2⟩ HRZ.out.1 HRZ.out.2).mono (mvK HM0 fun w1 HS1 HM1=>?_);go_wp2_with fail;refine(to_r yb lb cap o _ _ _ (1) 1 _ HS1.out rfl).mono (mvK HM1 fun w2 HS2 HM2=>?_);go_wp2_with fail
 go_end0
 exact⟨_,rfl,HS2.out,HM2.out⟩
theorem r_chen_w1_last (B LL CC:Nat) (w:World) (h:SR w yb lb cap o c rv l) (hBB:c.base=B) (hLL:B+LL=l.length) (hk:isK o.k=true) (hph:c.ph=1) (hRz:recZ o=((c.nr+2:Nat):Int)) (hi:c.i<c.nr) (hlast:c.nr≤c.i+1) (hj:1+c.i<LL):Calls Tryz.prog 83 #[.pointer (some ⟨yb,0,none⟩),.slice (some ⟨lb,B,none⟩) LL CC] w (DidR yb lb cap o w rv (({ c with used:=(Kc.noteR (c.nr+2) c.used (c.rdm l (1+c.i))),i:=c.i+1,B:=Kc.chooseR (Kc.noteR (c.nr+2) c.used (c.rdm l (1+c.i))) }:Kc).go 2) l (.tuple #[])):=by
 obtain⟨HS0,HM0,hfit,HF,HWD,HSL,HCP,HNR⟩:=h.start;have HLL:=hid (And.intro hBB hLL);have HKK:=hid hk;have HPH:=hid hph;clear h hfit hBB hLL hk hph;have hI2:(1+(c.i:Int)).toNat=1+c.i:=by omega
 have hI3:0≤1+(c.i:Int):=by omega
 have hI4:1+(c.i:Int)<(LL:Int):=by omega
 have hi8:=HF.out.i1;have hI5:IntKind.i64.wrap (1+(c.i:Int))=1+(c.i:Int):=sh_wrap (by omega) (by omega);have hI6:IntKind.i64.wrap ((c.i:Int)+1)=(c.i:Int)+1:=sh_wrap (by omega) (by omega);have hq:((c.i:Int)+1==(o.nr:Int))=true:=by have:=HNR.out;simp;omega
 have HI9:=hid (show c.i<1000 by have:=HF.out.nr1;omega);obtain⟨mz_0,gz_0,zb0,zb1⟩:=HS0.out.cellB HLL.out.1 HLL.out.2 (1+c.i) (hj);obtain⟨z,hz'⟩:∃ x,c.rdm l (1+c.i)=x:=⟨_,rfl⟩;rw[hz'] at mz_0 zb0 zb1;try rw[hz']
 have Hz':=hid hz';clear hz';have hnr:=HF.out.nr1;have HRZ:=hid (And.intro hRz (show c.nr+2≤20 by omega));have HZB:=hid (And.intro zb0 zb1);clear hRz hnr;have hcb:=choose_bd (Kc.noteR (c.nr+2) c.used z);have hce:Kc.chooseR (Kc.noteR (c.nr+2) c.used z)=Kc.chooseR (Kc.noteR (c.nr+2) c.used z):=rfl;obtain⟨Z,hZ⟩:∃ x,Kc.chooseR (Kc.noteR (c.nr+2) c.used z)=x:=⟨_,rfl⟩;rw[hZ] at hcb ⊢;have HZ:=hid hZ;have HCB:=hid hcb;clear hce hZ hcb;clear hlast hi hi8;have hr0:=HS0.out.row;have c7_0:=hr0.at 7 (.slice o.R o.nr o.cr);have c11_0:=hr0.ph 11 1 HPH;have c12_0:=hr0.at 12 (.int .i64 (c.i:Int));clear hr0;go_enter Tryz.func83,Tryz.ntmps83;go_wp2_with fail;refine(note_r yb lb cap o _ _ _ z (c.nr+2) _ HS0.out ⟨HZB.out.1,HZB.out.2⟩ HRZ.out.1 HRZ.out.2).mono (mvK HM0 fun w1 HS1 HM1=>?_);have hr1:=HS1.out.row;have c12_1:=hr1.at 12 (.int .i64 (c.i:Int));have c17_1:=hr1.at 17 (.int .u32 c.B);have f12_1:=hr1.frozen 12;have f17_1:=hr1.frozen 17;clear hr1;go_wp2_with fail;obtain⟨HS2,HM2⟩:=nxR (w1.setCell ⟨yb,12,none⟩ (.int .i64 ((c.i:Int)+1))) (HS1.out.setI HI9.out) HM1;have hch:=choose_r yb lb cap o _ _ _ _ HS2.out;rw[show Kc.chooseR _=Z from HZ.out] at hch;have HCH:=hid hch;clear hch;refine(HCH.out).mono ?_;rintro ex wq ⟨rfl,hwq⟩;rw[hwq];clear hwq;go_wp2_with fail;obtain⟨HS3,HM3⟩:=nxR ((w1.setCell ⟨yb,12,none⟩ (.int .i64 ((c.i:Int)+1))).setCell ⟨yb,17,none⟩ (.int .u32 Z)) (HS2.out.setB Z ⟨HCB.out.1,by have:=HCB.out.2;omega⟩) HM2;refine(to_r yb lb cap o _ _ _ (2) 2 _ HS3.out rfl).mono (mvK HM3 fun w4 HS4 HM4=>?_);go_wp2_with fail
 go_end0
 exact⟨_,rfl,HS4.out,HM4.out⟩
theorem r_chen_w1_next (B LL CC:Nat) (w:World) (h:SR w yb lb cap o c rv l) (hBB:c.base=B) (hLL:B+LL=l.length) (hk:isK o.k=true) (hph:c.ph=1) (hRz:recZ o=((c.nr+2:Nat):Int)) (_hi:c.i<c.nr) (hlast:¬ c.nr≤c.i+1) (hj:1+c.i<LL):Calls Tryz.prog 83 #[.pointer (some ⟨yb,0,none⟩),.slice (some ⟨lb,B,none⟩) LL CC] w (DidR yb lb cap o w rv { c with used:=(Kc.noteR (c.nr+2) c.used (c.rdm l (1+c.i))),i:=c.i+1 } l (.tuple #[])):=by
 obtain⟨HS0,HM0,hfit,HF,HWD,HSL,HCP,HNR⟩:=h.start;have HLL:=hid (And.intro hBB hLL);have HKK:=hid hk;have HPH:=hid hph;clear h hfit hBB hLL hk hph;have hI2:(1+(c.i:Int)).toNat=1+c.i:=by omega
 have hI3:0≤1+(c.i:Int):=by omega
 have hI4:1+(c.i:Int)<(LL:Int):=by omega
 have hi8:=HF.out.i1;have hI5:IntKind.i64.wrap (1+(c.i:Int))=1+(c.i:Int):=sh_wrap (by omega) (by omega);have hI6:IntKind.i64.wrap ((c.i:Int)+1)=(c.i:Int)+1:=sh_wrap (by omega) (by omega);have hq:((c.i:Int)+1==(o.nr:Int))=false:=by have:=HNR.out;simp;omega
 have HI9:=hid (show c.i<1000 by have:=HF.out.nr1;omega);obtain⟨mz_0,gz_0,zb0,zb1⟩:=HS0.out.cellB HLL.out.1 HLL.out.2 (1+c.i) (hj);obtain⟨z,hz'⟩:∃ x,c.rdm l (1+c.i)=x:=⟨_,rfl⟩;rw[hz'] at mz_0 zb0 zb1;try rw[hz']
 have Hz':=hid hz';clear hz';have hnr:=HF.out.nr1;have HRZ:=hid (And.intro hRz (show c.nr+2≤20 by omega));have HZB:=hid (And.intro zb0 zb1);clear hRz hnr;clear hlast _hi hi8;have hr0:=HS0.out.row;have c7_0:=hr0.at 7 (.slice o.R o.nr o.cr);have c11_0:=hr0.ph 11 1 HPH;have c12_0:=hr0.at 12 (.int .i64 (c.i:Int));clear hr0;go_enter Tryz.func83,Tryz.ntmps83;go_wp2_with fail;refine(note_r yb lb cap o _ _ _ z (c.nr+2) _ HS0.out ⟨HZB.out.1,HZB.out.2⟩ HRZ.out.1 HRZ.out.2).mono (mvK HM0 fun w1 HS1 HM1=>?_);have hr1:=HS1.out.row;have c12_1:=hr1.at 12 (.int .i64 (c.i:Int));have f12_1:=hr1.frozen 12;clear hr1;go_wp2_with fail;obtain⟨HS2,HM2⟩:=nxR (w1.setCell ⟨yb,12,none⟩ (.int .i64 ((c.i:Int)+1))) (HS1.out.setI HI9.out) HM1
 go_end0
 exact⟨_,rfl,HS2.out,HM2.out⟩
theorem r_chen_w2 (B LL CC:Nat) (w:World) (h:SR w yb lb cap o c rv l) (hBB:c.base=B) (hLL:B+LL=l.length) (hk:isK o.k=true) (hph:c.ph=2) (hHd:headZ o=((1+c.nr:Nat):Int)) (hw1:c.wr=true→c.i<c.rc.length) (hw2:c.rc.length≤1000000) (hw3:c.i<1000) (hj:1+c.nr+c.B.toNat*c.wd+c.i<LL) (hB:0≤c.B∧c.B≤20):Calls Tryz.prog 83 #[.pointer (some ⟨yb,0,none⟩),.slice (some ⟨lb,B,none⟩) LL CC] w (DidR yb lb cap o w rv (c.word l (1+c.nr+c.B.toNat*c.wd) (·.go 3)).1 (c.word l (1+c.nr+c.B.toNat*c.wd) (·.go 3)).2 (.tuple #[])):=by
 obtain⟨HS0,HM0,hfit,HF,HWD,HSL,HCP,HNR⟩:=h.start;have HLL:=hid (And.intro hBB hLL);have HKK:=hid hk;have HPH:=hid hph;clear h hfit hBB hLL hk hph;have HHD:=hid (And.intro hHd (show(1+c.nr:Nat)≤5 from(by have:=HF.out.nr1;omega)));have HWI:=hid hw1;have HRL:=hid hw2;have HI2:=hid hw3;have HJ:=hid hj;clear hHd hw1 hw2 hw3 hj;have HAB:=hid hB;clear hB;have hr0:=HS0.out.row;have c11_0:=hr0.ph 11 2 HPH;have c7_0:=hr0.at 7 (.slice o.R o.nr o.cr);have c17_0:=hr0.at 17 (.int .u32 c.B);clear hr0;go_enter Tryz.func83,Tryz.ntmps83;go_wp2_with fail;refine(word_rgo yb lb cap o c rv l B LL CC (c.B) ((1+c.nr:Nat)) _ 3 _ HS0.out HLL.out.1 HLL.out.2 HKK.out HHD.out.1 HHD.out.2 HAB.out rfl HJ.out HI2.out HWI.out HRL.out).mono (mvD HM0 fun w1 rv1 HS1 HM1=>?_);go_wp2_with fail
 go_end0
 exact⟨_,rfl,HS1.out,HM1.out⟩
theorem r_chen_w3 (B LL CC:Nat) (w:World) (h:SR w yb lb cap o c rv l) (hBB:c.base=B) (hLL:B+LL=l.length) (hk:isK o.k=true) (hph:c.ph=3) (hj:0<LL):Calls Tryz.prog 83 #[.pointer (some ⟨yb,0,none⟩),.slice (some ⟨lb,B,none⟩) LL CC] w (DidR yb lb cap o w rv (c.go 4) (c.wrm l 0 c.B) (.tuple #[])):=by
 obtain⟨HS0,HM0,hfit,HF,HWD,HSL,HCP,HNR⟩:=h.start;have HLL:=hid (And.intro hBB hLL);have HKK:=hid hk;have HPH:=hid hph;clear h hfit hBB hLL hk hph;have hL0:(0:Int)<(LL:Int):=by omega
 obtain⟨my_0,gy_0,_,_⟩:=HS0.out.cellB HLL.out.1 HLL.out.2 (0) (hj);rw[Nat.add_zero] at my_0 gy_0;have hr0:=HS0.out.row;have c7_0:=hr0.at 7 (.slice o.R o.nr o.cr);have c11_0:=hr0.ph 11 3 HPH;have c17_0:=hr0.at 17 (.int .u32 c.B);clear hr0;go_enter Tryz.func83,Tryz.ntmps83;go_wp2_with fail;obtain⟨hs,hm⟩:=HS0.out.putB HLL.out.1 HLL.out.2 (0) (hj) (c.B) (⟨HF.out.B0,HF.out.B1⟩);rw[Nat.add_zero] at hs hm;obtain⟨HS1,HM1⟩:=nx hs HM0 hm;clear hs hm;refine(to_r yb lb cap o _ _ _ (4) 4 _ HS1.out rfl).mono (mvK HM1 fun w2 HS2 HM2=>?_);go_wp2_with fail
 go_end0
 exact⟨_,rfl,HS2.out,HM2.out⟩
theorem r_chen_w4_eqlast (B LL CC:Nat) (w:World) (h:SR w yb lb cap o c rv l) (hBB:c.base=B) (hLL:B+LL=l.length) (hk:isK o.k=true) (hph:c.ph=4) (hi:c.i<c.nr) (hlast:c.nr≤c.i+1) (he:c.rdm l (1+c.i)=(c.nr:Int)+2) (hj:1+c.i<LL):Calls Tryz.prog 83 #[.pointer (some ⟨yb,0,none⟩),.slice (some ⟨lb,B,none⟩) LL CC] w (DidR yb lb cap o w rv (({ c with i:=c.i+1 }:Kc).fin 0) (c.wrm l (1+c.i) c.B) (.tuple #[])):=by
 obtain⟨HS0,HM0,hfit,HF,HWD,HSL,HCP,HNR⟩:=h.start;have HLL:=hid (And.intro hBB hLL);have HKK:=hid hk;have HPH:=hid hph;clear h hfit hBB hLL hk hph;have hI2:(1+(c.i:Int)).toNat=1+c.i:=by omega
 have hI3:0≤1+(c.i:Int):=by omega
 have hI4:1+(c.i:Int)<(LL:Int):=by omega
 have hi8:=HF.out.i1;have hI5:IntKind.i64.wrap (1+(c.i:Int))=1+(c.i:Int):=sh_wrap (by omega) (by omega);have hI6:IntKind.i64.wrap ((c.i:Int)+1)=(c.i:Int)+1:=sh_wrap (by omega) (by omega);have hq:((c.i:Int)+1==(o.nr:Int))=true:=by have:=HNR.out;simp;omega
 have hnr:=HF.out.nr1;have hn0:=HNR.out;have e1:IntKind.i64.wrap ((o.nr:Int)+2)=(o.nr:Int)+2:=sh_wrap (by omega) (by omega);have e2:IntKind.u32.wrap ((o.nr:Int)+2)=(c.nr:Int)+2:=by rw[sh_wrap32 (by omega) (by omega),hn0]
 clear hnr hn0;have HI9:=hid (show c.i<1000 by have:=HF.out.nr1;omega);have HBB:=hid (And.intro HF.out.B0 HF.out.B1);have HJ:=hid hj;obtain⟨mz_0,gz_0,zb0,zb1⟩:=HS0.out.cellB HLL.out.1 HLL.out.2 (1+c.i) (hj);obtain⟨z,hz'⟩:∃ x,c.rdm l (1+c.i)=x:=⟨_,rfl⟩;rw[hz'] at mz_0 zb0 zb1;try rw[hz']
 have Hz':=hid hz';clear hz';rw[Hz'.out] at he;have hd:(z==(c.nr:Int)+2)=true:=by simpa using he
 clear he hlast hi hi8;have hr0:=HS0.out.row;have c7_0:=hr0.at 7 (.slice o.R o.nr o.cr);have c11_0:=hr0.ph 11 4 HPH;have c12_0:=hr0.at 12 (.int .i64 (c.i:Int));clear hr0;go_enter Tryz.func83,Tryz.ntmps83;go_wp2_with fail;have hr0:=HS0.out.drew.row;have hSd:(QOrF0 yb c) w.drew:=⟨(hr0.cell 12).trans rfl,(hr0.cell 17).trans rfl⟩;have HS1:=hid HS0.out.drew;have HM1:=hid (HM0.out.trans (Mv.drew w _));clear hr0;refine rgn hSd fun w1 hw9 hHeld=>?_
 rw[hw9] at HS1 HM1;clear hw9 hSd;refine tk4 0 1 2 3 ?_;refine tk4 4 5 6 7 ?_;refine tk2 8 9 ?_;refine tkH 10 ?_;refine clH 11 (fun K hK=>?_)
 ·obtain⟨my_1,gy_1,_,_⟩:=HS1.out.cellB HLL.out.1 HLL.out.2 (1+c.i) (HJ.out);go_simp;obtain⟨HS2,HM2⟩:=nxx (HS1.out.putB HLL.out.1 HLL.out.2 (1+c.i) (HJ.out) (c.B) (HBB.out)) HM1;have hr:=HS2.out.row;have hSx:(QOrF0 yb c) (w1.setCell ⟨lb,B+(1+c.i),none⟩ (.int .u32 (c.B))):=⟨(hr.cell 12).trans rfl,(hr.cell 17).trans rfl⟩;clear hr;refine kH hK hSx fun hHeld=>?_
  clear hK K;refine dnH ?_;clear hHeld hSx;have hr2:=HS2.out.row;have c7_2:(w1.setCell ⟨lb,B+(1+c.i),none⟩ (.int .u32 (c.B))).cell? ⟨yb,7,none⟩=some (.slice o.R o.nr o.cr):=(hr2.cell 7).trans rfl;have c12_2:(w1.setCell ⟨lb,B+(1+c.i),none⟩ (.int .u32 (c.B))).cell? ⟨yb,12,none⟩=some (.int .i64 (c.i:Int)):=(hr2.cell 12).trans rfl;have f12_2:=hr2.frozen 12;clear hr2;go_wp2_with fail;obtain⟨HS3,HM3⟩:=nxR ((w1.setCell ⟨lb,B+(1+c.i),none⟩ (.int .u32 (c.B))).setCell ⟨yb,12,none⟩ (.int .i64 ((c.i:Int)+1))) (HS2.out.setI HI9.out) HM2;refine(end_r yb lb cap o _ _ _ 0 _ HS3.out HKK.out).mono (mvD HM3 fun w4 rv4 HS4 HM4=>?_);go_wp2_with fail
  go_end0
  exact⟨_,rfl,HS4.out,HM4.out⟩
theorem r_chen_w4_eqnext (B LL CC:Nat) (w:World) (h:SR w yb lb cap o c rv l) (hBB:c.base=B) (hLL:B+LL=l.length) (hk:isK o.k=true) (hph:c.ph=4) (_hi:c.i<c.nr) (hlast:¬ c.nr≤c.i+1) (he:c.rdm l (1+c.i)=(c.nr:Int)+2) (hj:1+c.i<LL):Calls Tryz.prog 83 #[.pointer (some ⟨yb,0,none⟩),.slice (some ⟨lb,B,none⟩) LL CC] w (DidR yb lb cap o w rv { c with i:=c.i+1 } (c.wrm l (1+c.i) c.B) (.tuple #[])):=by
 obtain⟨HS0,HM0,hfit,HF,HWD,HSL,HCP,HNR⟩:=h.start;have HLL:=hid (And.intro hBB hLL);have HKK:=hid hk;have HPH:=hid hph;clear h hfit hBB hLL hk hph;have hI2:(1+(c.i:Int)).toNat=1+c.i:=by omega
 have hI3:0≤1+(c.i:Int):=by omega
 have hI4:1+(c.i:Int)<(LL:Int):=by omega
 have hi8:=HF.out.i1;have hI5:IntKind.i64.wrap (1+(c.i:Int))=1+(c.i:Int):=sh_wrap (by omega) (by omega);have hI6:IntKind.i64.wrap ((c.i:Int)+1)=(c.i:Int)+1:=sh_wrap (by omega) (by omega);have hq:((c.i:Int)+1==(o.nr:Int))=false:=by have:=HNR.out;simp;omega
 have hnr:=HF.out.nr1;have hn0:=HNR.out;have e1:IntKind.i64.wrap ((o.nr:Int)+2)=(o.nr:Int)+2:=sh_wrap (by omega) (by omega);have e2:IntKind.u32.wrap ((o.nr:Int)+2)=(c.nr:Int)+2:=by rw[sh_wrap32 (by omega) (by omega),hn0]
 clear hnr hn0;have HI9:=hid (show c.i<1000 by have:=HF.out.nr1;omega);have HBB:=hid (And.intro HF.out.B0 HF.out.B1);have HJ:=hid hj;obtain⟨mz_0,gz_0,zb0,zb1⟩:=HS0.out.cellB HLL.out.1 HLL.out.2 (1+c.i) (hj);obtain⟨z,hz'⟩:∃ x,c.rdm l (1+c.i)=x:=⟨_,rfl⟩;rw[hz'] at mz_0 zb0 zb1;try rw[hz']
 have Hz':=hid hz';clear hz';rw[Hz'.out] at he;have hd:(z==(c.nr:Int)+2)=true:=by simpa using he
 clear he hlast _hi hi8;have hr0:=HS0.out.row;have c7_0:=hr0.at 7 (.slice o.R o.nr o.cr);have c11_0:=hr0.ph 11 4 HPH;have c12_0:=hr0.at 12 (.int .i64 (c.i:Int));clear hr0;go_enter Tryz.func83,Tryz.ntmps83;go_wp2_with fail;have hr0:=HS0.out.drew.row;have hSd:(QOrF0 yb c) w.drew:=⟨(hr0.cell 12).trans rfl,(hr0.cell 17).trans rfl⟩;have HS1:=hid HS0.out.drew;have HM1:=hid (HM0.out.trans (Mv.drew w _));clear hr0;refine rgn hSd fun w1 hw9 hHeld=>?_
 rw[hw9] at HS1 HM1;clear hw9 hSd;refine tk4 0 1 2 3 ?_;refine tk4 4 5 6 7 ?_;refine tk2 8 9 ?_;refine tkH 10 ?_;refine clH 11 (fun K hK=>?_)
 ·obtain⟨my_1,gy_1,_,_⟩:=HS1.out.cellB HLL.out.1 HLL.out.2 (1+c.i) (HJ.out);go_simp;obtain⟨HS2,HM2⟩:=nxx (HS1.out.putB HLL.out.1 HLL.out.2 (1+c.i) (HJ.out) (c.B) (HBB.out)) HM1;have hr:=HS2.out.row;have hSx:(QOrF0 yb c) (w1.setCell ⟨lb,B+(1+c.i),none⟩ (.int .u32 (c.B))):=⟨(hr.cell 12).trans rfl,(hr.cell 17).trans rfl⟩;clear hr;refine kH hK hSx fun hHeld=>?_
  clear hK K;refine dnH ?_;clear hHeld hSx;have hr2:=HS2.out.row;have c7_2:(w1.setCell ⟨lb,B+(1+c.i),none⟩ (.int .u32 (c.B))).cell? ⟨yb,7,none⟩=some (.slice o.R o.nr o.cr):=(hr2.cell 7).trans rfl;have c12_2:(w1.setCell ⟨lb,B+(1+c.i),none⟩ (.int .u32 (c.B))).cell? ⟨yb,12,none⟩=some (.int .i64 (c.i:Int)):=(hr2.cell 12).trans rfl;have f12_2:=hr2.frozen 12;clear hr2;go_wp2_with fail;obtain⟨HS3,HM3⟩:=nxR ((w1.setCell ⟨lb,B+(1+c.i),none⟩ (.int .u32 (c.B))).setCell ⟨yb,12,none⟩ (.int .i64 ((c.i:Int)+1))) (HS2.out.setI HI9.out) HM2
  go_end0
  exact⟨_,rfl,HS3.out,HM3.out⟩
theorem r_chen_w4_nelast (B LL CC:Nat) (w:World) (h:SR w yb lb cap o c rv l) (hBB:c.base=B) (hLL:B+LL=l.length) (hk:isK o.k=true) (hph:c.ph=4) (hi:c.i<c.nr) (hlast:c.nr≤c.i+1) (he:¬ c.rdm l (1+c.i)=(c.nr:Int)+2) (hj:1+c.i<LL):Calls Tryz.prog 83 #[.pointer (some ⟨yb,0,none⟩),.slice (some ⟨lb,B,none⟩) LL CC] w (DidR yb lb cap o w rv (({ c with i:=c.i+1 }:Kc).fin 0) l (.tuple #[])):=by
 obtain⟨HS0,HM0,hfit,HF,HWD,HSL,HCP,HNR⟩:=h.start;have HLL:=hid (And.intro hBB hLL);have HKK:=hid hk;have HPH:=hid hph;clear h hfit hBB hLL hk hph;have hI2:(1+(c.i:Int)).toNat=1+c.i:=by omega
 have hI3:0≤1+(c.i:Int):=by omega
 have hI4:1+(c.i:Int)<(LL:Int):=by omega
 have hi8:=HF.out.i1;have hI5:IntKind.i64.wrap (1+(c.i:Int))=1+(c.i:Int):=sh_wrap (by omega) (by omega);have hI6:IntKind.i64.wrap ((c.i:Int)+1)=(c.i:Int)+1:=sh_wrap (by omega) (by omega);have hq:((c.i:Int)+1==(o.nr:Int))=true:=by have:=HNR.out;simp;omega
 have hnr:=HF.out.nr1;have hn0:=HNR.out;have e1:IntKind.i64.wrap ((o.nr:Int)+2)=(o.nr:Int)+2:=sh_wrap (by omega) (by omega);have e2:IntKind.u32.wrap ((o.nr:Int)+2)=(c.nr:Int)+2:=by rw[sh_wrap32 (by omega) (by omega),hn0]
 clear hnr hn0;have HI9:=hid (show c.i<1000 by have:=HF.out.nr1;omega);have HBB:=hid (And.intro HF.out.B0 HF.out.B1);have HJ:=hid hj;obtain⟨mz_0,gz_0,zb0,zb1⟩:=HS0.out.cellB HLL.out.1 HLL.out.2 (1+c.i) (hj);obtain⟨z,hz'⟩:∃ x,c.rdm l (1+c.i)=x:=⟨_,rfl⟩;rw[hz'] at mz_0 zb0 zb1;try rw[hz']
 have Hz':=hid hz';clear hz';rw[Hz'.out] at he;have hd:(z==(c.nr:Int)+2)=false:=by simpa using he
 clear he hlast hi hi8;have hr0:=HS0.out.row;have c7_0:=hr0.at 7 (.slice o.R o.nr o.cr);have c11_0:=hr0.ph 11 4 HPH;have c12_0:=hr0.at 12 (.int .i64 (c.i:Int));have f12_0:=hr0.frozen 12;clear hr0;go_enter Tryz.func83,Tryz.ntmps83;go_wp2_with fail;obtain⟨HS1,HM1⟩:=nxR (w.setCell ⟨yb,12,none⟩ (.int .i64 ((c.i:Int)+1))) (HS0.out.setI HI9.out) HM0;refine(end_r yb lb cap o _ _ _ 0 _ HS1.out HKK.out).mono (mvD HM1 fun w2 rv2 HS2 HM2=>?_);go_wp2_with fail
 go_end0
 exact⟨_,rfl,HS2.out,HM2.out⟩
theorem r_chen_w4_nenext (B LL CC:Nat) (w:World) (h:SR w yb lb cap o c rv l) (hBB:c.base=B) (hLL:B+LL=l.length) (hk:isK o.k=true) (hph:c.ph=4) (_hi:c.i<c.nr) (hlast:¬ c.nr≤c.i+1) (he:¬ c.rdm l (1+c.i)=(c.nr:Int)+2) (hj:1+c.i<LL):Calls Tryz.prog 83 #[.pointer (some ⟨yb,0,none⟩),.slice (some ⟨lb,B,none⟩) LL CC] w (DidR yb lb cap o w rv { c with i:=c.i+1 } l (.tuple #[])):=by
 obtain⟨HS0,HM0,hfit,HF,HWD,HSL,HCP,HNR⟩:=h.start;have HLL:=hid (And.intro hBB hLL);have HKK:=hid hk;have HPH:=hid hph;clear h hfit hBB hLL hk hph;have hI2:(1+(c.i:Int)).toNat=1+c.i:=by omega
 have hI3:0≤1+(c.i:Int):=by omega
 have hI4:1+(c.i:Int)<(LL:Int):=by omega
 have hi8:=HF.out.i1;have hI5:IntKind.i64.wrap (1+(c.i:Int))=1+(c.i:Int):=sh_wrap (by omega) (by omega);have hI6:IntKind.i64.wrap ((c.i:Int)+1)=(c.i:Int)+1:=sh_wrap (by omega) (by omega);have hq:((c.i:Int)+1==(o.nr:Int))=false:=by have:=HNR.out;simp;omega
 have hnr:=HF.out.nr1;have hn0:=HNR.out;have e1:IntKind.i64.wrap ((o.nr:Int)+2)=(o.nr:Int)+2:=sh_wrap (by omega) (by omega);have e2:IntKind.u32.wrap ((o.nr:Int)+2)=(c.nr:Int)+2:=by rw[sh_wrap32 (by omega) (by omega),hn0]
 clear hnr hn0;have HI9:=hid (show c.i<1000 by have:=HF.out.nr1;omega);have HBB:=hid (And.intro HF.out.B0 HF.out.B1);have HJ:=hid hj;obtain⟨mz_0,gz_0,zb0,zb1⟩:=HS0.out.cellB HLL.out.1 HLL.out.2 (1+c.i) (hj);obtain⟨z,hz'⟩:∃ x,c.rdm l (1+c.i)=x:=⟨_,rfl⟩;rw[hz'] at mz_0 zb0 zb1;try rw[hz']
 have Hz':=hid hz';clear hz';rw[Hz'.out] at he;have hd:(z==(c.nr:Int)+2)=false:=by simpa using he
 clear he hlast _hi hi8;have hr0:=HS0.out.row;have c7_0:=hr0.at 7 (.slice o.R o.nr o.cr);have c11_0:=hr0.ph 11 4 HPH;have c12_0:=hr0.at 12 (.int .i64 (c.i:Int));have f12_0:=hr0.frozen 12;clear hr0;go_enter Tryz.func83,Tryz.ntmps83;go_wp2_with fail;obtain⟨HS1,HM1⟩:=nxR (w.setCell ⟨yb,12,none⟩ (.int .i64 ((c.i:Int)+1))) (HS0.out.setI HI9.out) HM0
 go_end0
 exact⟨_,rfl,HS1.out,HM1.out⟩
theorem r_chen_r0 (B LL CC:Nat) (w:World) (h:SR w yb lb cap o c rv l) (hBB:c.base=B) (hLL:B+LL=l.length) (hk:isK o.k=true) (hph:c.ph=0) (hj:1+c.rd<LL):Calls Tryz.prog 84 #[.pointer (some ⟨yb,0,none⟩),.slice (some ⟨lb,B,none⟩) LL CC] w (DidR yb lb cap o w rv (c.go 1) (c.wrm l (1+c.rd) ((c.nr:Int)+2)) (.tuple #[])):=by
 obtain⟨HS0,HM0,hfit,HF,HWD,HSL,HCP,HNR⟩:=h.start;have HLL:=hid (And.intro hBB hLL);have HKK:=hid hk;have HPH:=hid hph;clear h hfit hBB hLL hk hph;have hnr:=HF.out.nr1;have hn0:=HNR.out;have e1:IntKind.i64.wrap ((o.nr:Int)+2)=(o.nr:Int)+2:=sh_wrap (by omega) (by omega);have e2:IntKind.u32.wrap ((o.nr:Int)+2)=(c.nr:Int)+2:=by rw[sh_wrap32 (by omega) (by omega),hn0]
 clear hnr hn0;have hrd:=HF.out.rd1;have hI2:(1+(c.rd:Int)).toNat=1+c.rd:=by omega
 have hI3:0≤1+(c.rd:Int):=by omega
 have hI4:1+(c.rd:Int)<(LL:Int):=by omega
 have hI5:IntKind.i64.wrap (1+(c.rd:Int))=1+(c.rd:Int):=sh_wrap (by omega) (by omega);clear hrd;have hnr:=HF.out.nr1;obtain⟨my_0,gy_0,_,_⟩:=HS0.out.cellB HLL.out.1 HLL.out.2 (1+c.rd) (hj);have hr0:=HS0.out.row;have c7_0:=hr0.at 7 (.slice o.R o.nr o.cr);have c10_0:=hr0.at 10 (.int .i64 (c.rd:Int));have c11_0:=hr0.ph 11 0 HPH;clear hr0;go_enter Tryz.func84,Tryz.ntmps84;go_wp2_with fail;obtain⟨HS1,HM1⟩:=nxx (HS0.out.putB HLL.out.1 HLL.out.2 (1+c.rd) (hj) ((c.nr:Int)+2) (⟨by omega,by omega⟩)) HM0;refine(to_r yb lb cap o _ _ _ (1) 1 _ HS1.out rfl).mono (mvK HM1 fun w2 HS2 HM2=>?_);go_wp2_with fail
 go_end0
 exact⟨_,rfl,HS2.out,HM2.out⟩
theorem r_chen_r1 (B LL CC:Nat) (w:World) (h:SR w yb lb cap o c rv l) (hBB:c.base=B) (hLL:B+LL=l.length) (hk:isK o.k=true) (hph:c.ph=1) (hj:0<LL):Calls Tryz.prog 84 #[.pointer (some ⟨yb,0,none⟩),.slice (some ⟨lb,B,none⟩) LL CC] w (DidR yb lb cap o w rv (({ c with A:=c.rdm l 0 }:Kc).go 2) l (.tuple #[])):=by
 obtain⟨HS0,HM0,hfit,HF,HWD,HSL,HCP,HNR⟩:=h.start;have HLL:=hid (And.intro hBB hLL);have HKK:=hid hk;have HPH:=hid hph;clear h hfit hBB hLL hk hph;have hnr:=HF.out.nr1;have hn0:=HNR.out;have e1:IntKind.i64.wrap ((o.nr:Int)+2)=(o.nr:Int)+2:=sh_wrap (by omega) (by omega);have e2:IntKind.u32.wrap ((o.nr:Int)+2)=(c.nr:Int)+2:=by rw[sh_wrap32 (by omega) (by omega),hn0]
 clear hnr hn0;have hrd:=HF.out.rd1;have hI5:IntKind.i64.wrap (1+(c.rd:Int))=1+(c.rd:Int):=sh_wrap (by omega) (by omega);clear hrd;have hL0:(0:Int)<(LL:Int):=by omega
 obtain⟨mz_0,gz_0,zb0,zb1⟩:=HS0.out.cellB HLL.out.1 HLL.out.2 (0) (hj);obtain⟨z,hz'⟩:∃ x,c.rdm l (0)=x:=⟨_,rfl⟩;rw[hz'] at mz_0 zb0 zb1;try rw[hz']
 have Hz':=hid hz';clear hz';rw[Nat.add_zero] at mz_0 gz_0;have hr0:=HS0.out.row;have c7_0:=hr0.at 7 (.slice o.R o.nr o.cr);have c10_0:=hr0.at 10 (.int .i64 (c.rd:Int));have c11_0:=hr0.ph 11 1 HPH;have c16_0:=hr0.at 16 (.int .u32 c.A);have f16_0:=hr0.frozen 16;clear hr0;go_enter Tryz.func84,Tryz.ntmps84;go_wp2_with fail;obtain⟨HS1,HM1⟩:=nxx (HS0.out.setA (z) ⟨by omega,by omega⟩) HM0;refine(to_r yb lb cap o _ _ _ (2) 2 _ HS1.out rfl).mono (mvK HM1 fun w2 HS2 HM2=>?_);go_wp2_with fail
 go_end0
 exact⟨_,rfl,HS2.out,HM2.out⟩
theorem r_chen_r2_eq (B LL CC:Nat) (w:World) (h:SR w yb lb cap o c rv l) (hBB:c.base=B) (hLL:B+LL=l.length) (hk:isK o.k=true) (hph:c.ph=2) (he:c.rdm l (1+c.rd)=(c.nr:Int)+2) (hj:1+c.rd<LL):Calls Tryz.prog 84 #[.pointer (some ⟨yb,0,none⟩),.slice (some ⟨lb,B,none⟩) LL CC] w (DidR yb lb cap o w rv (c.go 3) (c.wrm l (1+c.rd) c.A) (.tuple #[])):=by
 obtain⟨HS0,HM0,hfit,HF,HWD,HSL,HCP,HNR⟩:=h.start;have HLL:=hid (And.intro hBB hLL);have HKK:=hid hk;have HPH:=hid hph;clear h hfit hBB hLL hk hph;have hnr:=HF.out.nr1;have hn0:=HNR.out;have e1:IntKind.i64.wrap ((o.nr:Int)+2)=(o.nr:Int)+2:=sh_wrap (by omega) (by omega);have e2:IntKind.u32.wrap ((o.nr:Int)+2)=(c.nr:Int)+2:=by rw[sh_wrap32 (by omega) (by omega),hn0]
 clear hnr hn0;have hrd:=HF.out.rd1;have hI2:(1+(c.rd:Int)).toNat=1+c.rd:=by omega
 have hI3:0≤1+(c.rd:Int):=by omega
 have hI4:1+(c.rd:Int)<(LL:Int):=by omega
 have hI5:IntKind.i64.wrap (1+(c.rd:Int))=1+(c.rd:Int):=sh_wrap (by omega) (by omega);clear hrd;obtain⟨mz_0,gz_0,zb0,zb1⟩:=HS0.out.cellB HLL.out.1 HLL.out.2 (1+c.rd) (hj);obtain⟨z,hz'⟩:∃ x,c.rdm l (1+c.rd)=x:=⟨_,rfl⟩;rw[hz'] at mz_0 zb0 zb1;try rw[hz']
 have Hz':=hid hz';clear hz';rw[Hz'.out] at he;have hd:(z==(c.nr:Int)+2)=true:=by simpa using he
 clear he;have hr0:=HS0.out.row;have c7_0:=hr0.at 7 (.slice o.R o.nr o.cr);have c10_0:=hr0.at 10 (.int .i64 (c.rd:Int));have c11_0:=hr0.ph 11 2 HPH;have c16_0:=hr0.at 16 (.int .u32 c.A);clear hr0;go_enter Tryz.func84,Tryz.ntmps84;go_wp2_with fail;obtain⟨HS1,HM1⟩:=nxx (HS0.out.putB HLL.out.1 HLL.out.2 (1+c.rd) (hj) (c.A) (⟨HF.out.A0,HF.out.A1⟩)) HM0;refine(to_r yb lb cap o _ _ _ (3) 3 _ HS1.out rfl).mono (mvK HM1 fun w2 HS2 HM2=>?_);go_wp2_with fail
 go_end0
 exact⟨_,rfl,HS2.out,HM2.out⟩
theorem r_chen_r2_ne (B LL CC:Nat) (w:World) (h:SR w yb lb cap o c rv l) (hBB:c.base=B) (hLL:B+LL=l.length) (hk:isK o.k=true) (hph:c.ph=2) (he:¬ c.rdm l (1+c.rd)=(c.nr:Int)+2) (hj:1+c.rd<LL):Calls Tryz.prog 84 #[.pointer (some ⟨yb,0,none⟩),.slice (some ⟨lb,B,none⟩) LL CC] w (DidR yb lb cap o w rv (c.go 3) l (.tuple #[])):=by
 obtain⟨HS0,HM0,hfit,HF,HWD,HSL,HCP,HNR⟩:=h.start;have HLL:=hid (And.intro hBB hLL);have HKK:=hid hk;have HPH:=hid hph;clear h hfit hBB hLL hk hph;have hnr:=HF.out.nr1;have hn0:=HNR.out;have e1:IntKind.i64.wrap ((o.nr:Int)+2)=(o.nr:Int)+2:=sh_wrap (by omega) (by omega);have e2:IntKind.u32.wrap ((o.nr:Int)+2)=(c.nr:Int)+2:=by rw[sh_wrap32 (by omega) (by omega),hn0]
 clear hnr hn0;have hrd:=HF.out.rd1;have hI2:(1+(c.rd:Int)).toNat=1+c.rd:=by omega
 have hI3:0≤1+(c.rd:Int):=by omega
 have hI4:1+(c.rd:Int)<(LL:Int):=by omega
 have hI5:IntKind.i64.wrap (1+(c.rd:Int))=1+(c.rd:Int):=sh_wrap (by omega) (by omega);clear hrd;obtain⟨mz_0,gz_0,zb0,zb1⟩:=HS0.out.cellB HLL.out.1 HLL.out.2 (1+c.rd) (hj);obtain⟨z,hz'⟩:∃ x,c.rdm l (1+c.rd)=x:=⟨_,rfl⟩;rw[hz'] at mz_0 zb0 zb1;try rw[hz']
 have Hz':=hid hz';clear hz';rw[Hz'.out] at he;have hd:(z==(c.nr:Int)+2)=false:=by simpa using he
 clear he;have hr0:=HS0.out.row;have c7_0:=hr0.at 7 (.slice o.R o.nr o.cr);have c10_0:=hr0.at 10 (.int .i64 (c.rd:Int));have c11_0:=hr0.ph 11 2 HPH;have c16_0:=hr0.at 16 (.int .u32 c.A);clear hr0;go_enter Tryz.func84,Tryz.ntmps84;go_wp2_with fail;refine(to_r yb lb cap o _ _ _ (3) 3 _ HS0.out rfl).mono (mvK HM0 fun w1 HS1 HM1=>?_);go_wp2_with fail
 go_end0
 exact⟨_,rfl,HS1.out,HM1.out⟩
theorem r_chen_r3 (B LL CC:Nat) (w:World) (h:SR w yb lb cap o c rv l) (hBB:c.base=B) (hLL:B+LL=l.length) (hk:isK o.k=true) (hph:c.ph=3) (hj:1+c.rd<LL):Calls Tryz.prog 84 #[.pointer (some ⟨yb,0,none⟩),.slice (some ⟨lb,B,none⟩) LL CC] w (DidR yb lb cap o w rv (({ c with B:=c.rdm l (1+c.rd)%((c.nr:Int)+2) }:Kc).go 4) l (.tuple #[])):=by
 obtain⟨HS0,HM0,hfit,HF,HWD,HSL,HCP,HNR⟩:=h.start;have HLL:=hid (And.intro hBB hLL);have HKK:=hid hk;have HPH:=hid hph;clear h hfit hBB hLL hk hph;have hnr:=HF.out.nr1;have hn0:=HNR.out;have e1:IntKind.i64.wrap ((o.nr:Int)+2)=(o.nr:Int)+2:=sh_wrap (by omega) (by omega);have e2:IntKind.u32.wrap ((o.nr:Int)+2)=(c.nr:Int)+2:=by rw[sh_wrap32 (by omega) (by omega),hn0]
 clear hnr hn0;have hrd:=HF.out.rd1;have hI2:(1+(c.rd:Int)).toNat=1+c.rd:=by omega
 have hI3:0≤1+(c.rd:Int):=by omega
 have hI4:1+(c.rd:Int)<(LL:Int):=by omega
 have hI5:IntKind.i64.wrap (1+(c.rd:Int))=1+(c.rd:Int):=sh_wrap (by omega) (by omega);clear hrd;obtain⟨mz_0,gz_0,zb0,zb1⟩:=HS0.out.cellB HLL.out.1 HLL.out.2 (1+c.rd) (hj);obtain⟨z,hz'⟩:∃ x,c.rdm l (1+c.rd)=x:=⟨_,rfl⟩;rw[hz'] at mz_0 zb0 zb1;try rw[hz']
 have Hz':=hid hz';clear hz';have hnr:=HF.out.nr1;have m0:((c.nr:Int)+2==0)=false:=by simp;omega
 have m1:¬ (c.nr:Int)+2=0:=by omega
 have t1:z.tmod ((c.nr:Int)+2)=z%((c.nr:Int)+2):=Int.tmod_eq_emod_of_nonneg zb0;have q0:=Int.emod_nonneg z m1;have q1:=Int.emod_lt_of_pos z (show(0:Int)<(c.nr:Int)+2 by omega);obtain⟨Q,hQ⟩:∃ x,z%((c.nr:Int)+2)=x:=⟨_,rfl⟩;rw[hQ] at t1 q0 q1 ⊢;have t2:IntKind.u32.wrap Q=Q:=sh_wrap32 q0 (by omega);obtain⟨NN,hNN⟩:∃ x,(c.nr:Int)+2=x:=⟨_,rfl⟩;rw[hNN] at e2 m0 m1 t1 q1;have q2:Q<4294967296:=by omega
 clear hQ hNN hnr;have hr0:=HS0.out.row;have c7_0:=hr0.at 7 (.slice o.R o.nr o.cr);have c10_0:=hr0.at 10 (.int .i64 (c.rd:Int));have c11_0:=hr0.ph 11 3 HPH;have c17_0:=hr0.at 17 (.int .u32 c.B);have f17_0:=hr0.frozen 17;clear hr0;go_enter Tryz.func84,Tryz.ntmps84;go_wp2_with fail;obtain⟨HS1,HM1⟩:=nxx (HS0.out.setB (Q) ⟨q0,q2⟩) HM0;refine(to_r yb lb cap o _ _ _ (4) 4 _ HS1.out rfl).mono (mvK HM1 fun w2 HS2 HM2=>?_);go_wp2_with fail
 go_end0
 exact⟨_,rfl,HS2.out,HM2.out⟩
theorem r_chen_r4 (B LL CC:Nat) (w:World) (h:SR w yb lb cap o c rv l) (hBB:c.base=B) (hLL:B+LL=l.length) (hk:isK o.k=true) (hph:c.ph=4) (hHd:headZ o=((1+c.nr:Nat):Int)) (hw1:c.wr=true→c.i<c.rc.length) (hw2:c.rc.length≤1000000) (hw3:c.i<1000) (hj:1+c.nr+c.B.toNat*c.wd+c.i<LL) (hB:0≤c.B∧c.B≤20):Calls Tryz.prog 84 #[.pointer (some ⟨yb,0,none⟩),.slice (some ⟨lb,B,none⟩) LL CC] w (DidR yb lb cap o w rv (c.word l (1+c.nr+c.B.toNat*c.wd) (·.fin 0)).1 (c.word l (1+c.nr+c.B.toNat*c.wd) (·.fin 0)).2 (.tuple #[])):=by
 obtain⟨HS0,HM0,hfit,HF,HWD,HSL,HCP,HNR⟩:=h.start;have HLL:=hid (And.intro hBB hLL);have HKK:=hid hk;have HPH:=hid hph;clear h hfit hBB hLL hk hph;have HHD:=hid (And.intro hHd (show(1+c.nr:Nat)≤5 from(by have:=HF.out.nr1;omega)));have HWI:=hid hw1;have HRL:=hid hw2;have HI2:=hid hw3;have HJ:=hid hj;clear hHd hw1 hw2 hw3 hj;have HAB:=hid hB;clear hB;have hnr:=HF.out.nr1;have hn0:=HNR.out;have e1:IntKind.i64.wrap ((o.nr:Int)+2)=(o.nr:Int)+2:=sh_wrap (by omega) (by omega);have e2:IntKind.u32.wrap ((o.nr:Int)+2)=(c.nr:Int)+2:=by rw[sh_wrap32 (by omega) (by omega),hn0]
 clear hnr hn0;have hrd:=HF.out.rd1;have hI5:IntKind.i64.wrap (1+(c.rd:Int))=1+(c.rd:Int):=sh_wrap (by omega) (by omega);clear hrd;have hr0:=HS0.out.row;have c11_0:=hr0.ph 11 4 HPH;have c7_0:=hr0.at 7 (.slice o.R o.nr o.cr);have c10_0:=hr0.at 10 (.int .i64 (c.rd:Int));have c17_0:=hr0.at 17 (.int .u32 c.B);clear hr0;go_enter Tryz.func84,Tryz.ntmps84;go_wp2_with fail;refine(word_rfin yb lb cap o c rv l B LL CC (c.B) ((1+c.nr:Nat)) _ _ HS0.out HLL.out.1 HLL.out.2 HKK.out HHD.out.1 HHD.out.2 HAB.out rfl HJ.out HI2.out HWI.out HRL.out).mono (mvD HM0 fun w1 rv1 HS1 HM1=>?_);go_wp2_with fail
 go_end0
 exact⟨_,rfl,HS1.out,HM1.out⟩
end
end Go.Proofs.YtolmpehgeinlkaaGreatDoor
