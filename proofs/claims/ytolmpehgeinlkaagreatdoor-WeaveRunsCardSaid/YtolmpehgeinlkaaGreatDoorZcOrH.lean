/- The document's operation: the kind cab. -/
import Derived.Test.YtolmpehgeinlkaaGreatDoorZcOrF
namespace Go.Proofs.YtolmpehgeinlkaaGreatDoor
open Go.RowKit
open Go.Lib (hid)
attribute [local go_sem] Oper.semAt_some
set_option maxHeartbeats 1000000
set_option maxRecDepth 100000
abbrev QOrH0 (a0:Nat) (a1:Kc) (a2 a3:Nat) (a4:Int) (w':World):Prop:=w'.cell? ⟨a0,2,none⟩=some (.int .i64 (a1.sl:Int))∧w'.cell? ⟨a2,a3,none⟩=some (.int .u32 a4)
abbrev QOrH1 (a0:Nat) (a1:Kc) (a2:Ob) (w':World):Prop:=w'.cell? ⟨a0,12,none⟩=some (.int .i64 ((a1.i:Int)+1))∧w'.cell? ⟨a0,7,none⟩=some (.slice a2.R a2.nr a2.cr)
section
variable (yb lb cap:Nat) (o:Ob) (c:Kc) (rv:Value) (l:List Int)
theorem r_cab_w0 (B LL CC:Nat) (w:World) (h:SR w yb lb cap o c rv l) (hBB:c.base=B) (hLL:B+LL=l.length) (hk:isK o.k=true) (hph:c.ph=0) (hRz:recZ o=((c.sl:Nat):Int)) (hs:1≤c.sl) (hj:0<LL):Calls Tryz.prog 88 #[.pointer (some ⟨yb,0,none⟩),.slice (some ⟨lb,B,none⟩) LL CC] w (DidR yb lb cap o w rv (({ c with used:=Kc.noteR c.sl c.used (c.rdm l 0%(c.sl:Int)) }:Kc).go 1) l (.tuple #[])):=by
 obtain⟨HS0,HM0,hfit,HF,HWD,HSL,HCP,HNR⟩:=h.start;have HLL:=hid (And.intro hBB hLL);have HKK:=hid hk;have HPH:=hid hph;clear h hfit hBB hLL hk hph;obtain⟨mz_0,gz_0,zb0,zb1⟩:=HS0.out.cellB HLL.out.1 HLL.out.2 (0) (hj);obtain⟨z,hz'⟩:∃ x,c.rdm l (0)=x:=⟨_,rfl⟩;rw[hz'] at mz_0 zb0 zb1;try rw[hz']
 have Hz':=hid hz';clear hz';rw[Nat.add_zero] at mz_0 gz_0;have hsl1:=HF.out.sl1;have e1:IntKind.u32.wrap (c.sl:Int)=(c.sl:Int):=sh_wrap32 (by omega) (by omega);have m0:((c.sl:Int)==0)=false:=by simp;omega
 have m1:¬ (c.sl:Int)=0:=by omega
 have m2:¬ c.sl=0:=by omega
 have t1:z.tmod (c.sl:Int)=z%(c.sl:Int):=Int.tmod_eq_emod_of_nonneg zb0;have q0:=Int.emod_nonneg z m1;have q1:=Int.emod_lt_of_pos z (show(0:Int)<(c.sl:Int) by omega);obtain⟨Q,hQ⟩:∃ x,z%(c.sl:Int)=x:=⟨_,rfl⟩;rw[hQ] at t1 q0 q1;try rw[hQ]
 have t2:IntKind.u32.wrap Q=Q:=sh_wrap32 q0 (by omega);have q2:Q<4294967296:=by omega
 have HQB:=hid (And.intro q0 q2);have HJ0:=hid hj;clear hsl1;clear hQ;have hL0:(0:Int)<(LL:Int):=by omega
 have HRZ:=hid (And.intro hRz (show c.sl≤20 by have:=HF.out.sl1;omega));clear hRz;have hr0:=HS0.out.row;have c11_0:=hr0.ph 11 0 HPH;clear hr0;go_enter Tryz.func88,Tryz.ntmps88;go_wp2_with fail;refine rgR (S:=(QOrH0 yb c lb B z)) HS0 HM0 (fun HS1=>⟨(HS1.out.row.cell 2).trans (by rw[← HSL.out];rfl),(HS1.out.cell0 HLL.out.1 HLL.out.2 HJ0.out).trans (by show some (Value.int .u32 (c.rdm l 0))=_;rw[Hz'.out])⟩) fun w1 HS1 HM1 hHeld=>?_
 refine tk4 0 1 2 3 ?_;refine tk4 4 5 6 7 ?_;refine tk2 8 9 ?_;refine tkH 10 ?_;refine clH 11 (fun K hK=>?_)
 ·go_simp;refine(note_r yb lb cap o _ _ _ Q c.sl _ HS1.out HQB.out HRZ.out.1 HRZ.out.2).mono (mvK HM1 fun w2 HS2 HM2=>?_);have hSx:(QOrH0 yb c lb B z) w2:=⟨(HS2.out.row.cell 2).trans (by rw[← HSL.out];rfl),(HS2.out.cell0 HLL.out.1 HLL.out.2 HJ0.out).trans (by show some (Value.int .u32 (c.rdm l 0))=_;rw[Hz'.out])⟩;refine kH hK hSx fun hHeld=>?_
  clear hK K;refine dnH ?_;clear hHeld hSx;go_wp2_with fail;refine(to_r yb lb cap o _ _ _ (1) 1 _ HS2.out rfl).mono (mvK HM2 fun w3 HS3 HM3=>?_);go_wp2_with fail
  go_end0
  exact⟨_,rfl,HS3.out,HM3.out⟩
theorem r_cab_w1_poslast (B LL CC:Nat) (w:World) (h:SR w yb lb cap o c rv l) (hBB:c.base=B) (hLL:B+LL=l.length) (hk:isK o.k=true) (hph:c.ph=1) (hRz:recZ o=((c.sl:Nat):Int)) (hi:c.i<c.nr) (hlast:c.nr≤c.i+1) (hpos:0<c.rdm l (1+c.i)) (hj:1+c.i<LL):Calls Tryz.prog 88 #[.pointer (some ⟨yb,0,none⟩),.slice (some ⟨lb,B,none⟩) LL CC] w (DidR yb lb cap o w rv (({ c with used:=(Kc.noteR c.sl c.used (c.rdm l (1+c.i) - 1)),i:=c.i+1,B:=Kc.chooseR (Kc.noteR c.sl c.used (c.rdm l (1+c.i) - 1)) }:Kc).go 2) l (.tuple #[])):=by
 obtain⟨HS0,HM0,hfit,HF,HWD,HSL,HCP,HNR⟩:=h.start;have HLL:=hid (And.intro hBB hLL);have HKK:=hid hk;have HPH:=hid hph;clear h hfit hBB hLL hk hph;have hI2:(1+(c.i:Int)).toNat=1+c.i:=by omega
 have hI3:0≤1+(c.i:Int):=by omega
 have hI4:1+(c.i:Int)<(LL:Int):=by omega
 have hi8:=HF.out.i1;have hI5:IntKind.i64.wrap (1+(c.i:Int))=1+(c.i:Int):=sh_wrap (by omega) (by omega);have hI6:IntKind.i64.wrap ((c.i:Int)+1)=(c.i:Int)+1:=sh_wrap (by omega) (by omega);have hq:((c.i:Int)+1==(o.nr:Int))=true:=by have:=HNR.out;simp;omega
 have HI9:=hid (show c.i<1000 by have:=HF.out.nr1;omega);obtain⟨mz_0,gz_0,zb0,zb1⟩:=HS0.out.cellB HLL.out.1 HLL.out.2 (1+c.i) (hj);obtain⟨z,hz'⟩:∃ x,c.rdm l (1+c.i)=x:=⟨_,rfl⟩;rw[hz'] at mz_0 zb0 zb1;try rw[hz']
 have Hz':=hid hz';clear hz';rw[Hz'.out] at hpos;have hp1:decide (0<z)=true:=decide_eq_true hpos;have HRZ:=hid (And.intro hRz (show c.sl≤20 by have:=HF.out.sl1;omega));have e5:IntKind.u32.wrap (z - 1)=z - 1:=sh_wrap32 (by omega) (by omega);have HZB:=hid (show 0≤z - 1∧z - 1<4294967296 by omega);clear hRz hpos;have hcb:=choose_bd (Kc.noteR c.sl c.used (z - 1));obtain⟨Z,hZ⟩:∃ x,Kc.chooseR (Kc.noteR c.sl c.used (z - 1))=x:=⟨_,rfl⟩;rw[hZ] at hcb ⊢;have HZ:=hid hZ;have HCB:=hid hcb;clear hZ hcb;clear hlast hi hi8;have hr0:=HS0.out.row;have c11_0:=hr0.ph 11 1 HPH;have c12_0:=hr0.at 12 (.int .i64 (c.i:Int));clear hr0;go_enter Tryz.func88,Tryz.ntmps88;go_wp2_with fail;refine(note_r yb lb cap o _ _ _ (z - 1) c.sl _ HS0.out HZB.out HRZ.out.1 HRZ.out.2).mono (mvK HM0 fun w1 HS1 HM1=>?_);have hr1:=HS1.out.row;have c12_1:=hr1.at 12 (.int .i64 (c.i:Int));have f12_1:=hr1.frozen 12;clear hr1;go_wp2_with fail;obtain⟨HS2,HM2⟩:=nxR (w1.setCell ⟨yb,12,none⟩ (.int .i64 ((c.i:Int)+1))) (HS1.out.setI HI9.out) HM1;refine rgR (S:=(QOrH1 yb c o)) HS2 HM2 (fun HS3=>⟨(HS3.out.row.cell 12).trans (by show some (Value.int .i64 ((c.i+1:Nat):Int))=_;rfl),(HS3.out.row.cell 7).trans rfl⟩) fun w3 HS3 HM3 hHeld=>?_
 refine tk4 0 1 2 3 ?_;refine tk4 4 5 6 7 ?_;refine tk2 8 9 ?_;refine tkH 10 ?_;refine dnH ?_;clear hHeld;go_wp2_with fail;have hch:=choose_r yb lb cap o _ _ _ _ HS3.out;rw[show Kc.chooseR _=Z from HZ.out] at hch;have HCH:=hid hch;clear hch;refine(HCH.out).mono ?_;rintro ex wq ⟨rfl,hwq⟩;rw[hwq];clear hwq;have hr3:=HS3.out.row;have c17_3:=hr3.at 17 (.int .u32 c.B);have f17_3:=hr3.frozen 17;clear hr3;go_wp2_with fail;obtain⟨HS4,HM4⟩:=nxR (w3.setCell ⟨yb,17,none⟩ (.int .u32 Z)) (HS3.out.setB Z ⟨HCB.out.1,by have:=HCB.out.2;omega⟩) HM3;refine(to_r yb lb cap o _ _ _ (2) 2 _ HS4.out rfl).mono (mvK HM4 fun w5 HS5 HM5=>?_);go_wp2_with fail
 go_end0
 exact⟨_,rfl,HS5.out,HM5.out⟩
theorem r_cab_w1_posnext (B LL CC:Nat) (w:World) (h:SR w yb lb cap o c rv l) (hBB:c.base=B) (hLL:B+LL=l.length) (hk:isK o.k=true) (hph:c.ph=1) (hRz:recZ o=((c.sl:Nat):Int)) (_hi:c.i<c.nr) (hlast:¬ c.nr≤c.i+1) (hpos:0<c.rdm l (1+c.i)) (hj:1+c.i<LL):Calls Tryz.prog 88 #[.pointer (some ⟨yb,0,none⟩),.slice (some ⟨lb,B,none⟩) LL CC] w (DidR yb lb cap o w rv { c with used:=(Kc.noteR c.sl c.used (c.rdm l (1+c.i) - 1)),i:=c.i+1 } l (.tuple #[])):=by
 obtain⟨HS0,HM0,hfit,HF,HWD,HSL,HCP,HNR⟩:=h.start;have HLL:=hid (And.intro hBB hLL);have HKK:=hid hk;have HPH:=hid hph;clear h hfit hBB hLL hk hph;have hI2:(1+(c.i:Int)).toNat=1+c.i:=by omega
 have hI3:0≤1+(c.i:Int):=by omega
 have hI4:1+(c.i:Int)<(LL:Int):=by omega
 have hi8:=HF.out.i1;have hI5:IntKind.i64.wrap (1+(c.i:Int))=1+(c.i:Int):=sh_wrap (by omega) (by omega);have hI6:IntKind.i64.wrap ((c.i:Int)+1)=(c.i:Int)+1:=sh_wrap (by omega) (by omega);have hq:((c.i:Int)+1==(o.nr:Int))=false:=by have:=HNR.out;simp;omega
 have HI9:=hid (show c.i<1000 by have:=HF.out.nr1;omega);obtain⟨mz_0,gz_0,zb0,zb1⟩:=HS0.out.cellB HLL.out.1 HLL.out.2 (1+c.i) (hj);obtain⟨z,hz'⟩:∃ x,c.rdm l (1+c.i)=x:=⟨_,rfl⟩;rw[hz'] at mz_0 zb0 zb1;try rw[hz']
 have Hz':=hid hz';clear hz';rw[Hz'.out] at hpos;have hp1:decide (0<z)=true:=decide_eq_true hpos;have HRZ:=hid (And.intro hRz (show c.sl≤20 by have:=HF.out.sl1;omega));have e5:IntKind.u32.wrap (z - 1)=z - 1:=sh_wrap32 (by omega) (by omega);have HZB:=hid (show 0≤z - 1∧z - 1<4294967296 by omega);clear hRz hpos;clear hlast _hi hi8;have hr0:=HS0.out.row;have c11_0:=hr0.ph 11 1 HPH;have c12_0:=hr0.at 12 (.int .i64 (c.i:Int));clear hr0;go_enter Tryz.func88,Tryz.ntmps88;go_wp2_with fail;refine(note_r yb lb cap o _ _ _ (z - 1) c.sl _ HS0.out HZB.out HRZ.out.1 HRZ.out.2).mono (mvK HM0 fun w1 HS1 HM1=>?_);have hr1:=HS1.out.row;have c12_1:=hr1.at 12 (.int .i64 (c.i:Int));have f12_1:=hr1.frozen 12;clear hr1;go_wp2_with fail;obtain⟨HS2,HM2⟩:=nxR (w1.setCell ⟨yb,12,none⟩ (.int .i64 ((c.i:Int)+1))) (HS1.out.setI HI9.out) HM1;refine rgR (S:=(QOrH1 yb c o)) HS2 HM2 (fun HS3=>⟨(HS3.out.row.cell 12).trans (by show some (Value.int .i64 ((c.i+1:Nat):Int))=_;rfl),(HS3.out.row.cell 7).trans rfl⟩) fun w3 HS3 HM3 hHeld=>?_
 refine tk4 0 1 2 3 ?_;refine tk4 4 5 6 7 ?_;refine tk2 8 9 ?_;refine tkH 10 ?_;refine dnH ?_;clear hHeld;go_wp2_with fail
 go_end0
 exact⟨_,rfl,HS3.out,HM3.out⟩
theorem r_cab_w1_nillast (B LL CC:Nat) (w:World) (h:SR w yb lb cap o c rv l) (hBB:c.base=B) (hLL:B+LL=l.length) (hk:isK o.k=true) (hph:c.ph=1) (hRz:recZ o=((c.sl:Nat):Int)) (hi:c.i<c.nr) (hlast:c.nr≤c.i+1) (hpos:¬ 0<c.rdm l (1+c.i)) (hj:1+c.i<LL):Calls Tryz.prog 88 #[.pointer (some ⟨yb,0,none⟩),.slice (some ⟨lb,B,none⟩) LL CC] w (DidR yb lb cap o w rv (({ c with used:=c.used,i:=c.i+1,B:=Kc.chooseR c.used }:Kc).go 2) l (.tuple #[])):=by
 obtain⟨HS0,HM0,hfit,HF,HWD,HSL,HCP,HNR⟩:=h.start;have HLL:=hid (And.intro hBB hLL);have HKK:=hid hk;have HPH:=hid hph;clear h hfit hBB hLL hk hph;have hI2:(1+(c.i:Int)).toNat=1+c.i:=by omega
 have hI3:0≤1+(c.i:Int):=by omega
 have hI4:1+(c.i:Int)<(LL:Int):=by omega
 have hi8:=HF.out.i1;have hI5:IntKind.i64.wrap (1+(c.i:Int))=1+(c.i:Int):=sh_wrap (by omega) (by omega);have hI6:IntKind.i64.wrap ((c.i:Int)+1)=(c.i:Int)+1:=sh_wrap (by omega) (by omega);have hq:((c.i:Int)+1==(o.nr:Int))=true:=by have:=HNR.out;simp;omega
 have HI9:=hid (show c.i<1000 by have:=HF.out.nr1;omega);obtain⟨mz_0,gz_0,zb0,zb1⟩:=HS0.out.cellB HLL.out.1 HLL.out.2 (1+c.i) (hj);obtain⟨z,hz'⟩:∃ x,c.rdm l (1+c.i)=x:=⟨_,rfl⟩;rw[hz'] at mz_0 zb0 zb1;try rw[hz']
 have Hz':=hid hz';clear hz';rw[Hz'.out] at hpos;have hp1:decide (0<z)=false:=decide_eq_false hpos;have HRZ:=hid (And.intro hRz (show c.sl≤20 by have:=HF.out.sl1;omega));clear hRz hpos;have hcb:=choose_bd c.used;obtain⟨Z,hZ⟩:∃ x,Kc.chooseR c.used=x:=⟨_,rfl⟩;rw[hZ] at hcb ⊢;have HZ:=hid hZ;have HCB:=hid hcb;clear hZ hcb;clear hlast hi hi8;have hr0:=HS0.out.row;have c11_0:=hr0.ph 11 1 HPH;have c12_0:=hr0.at 12 (.int .i64 (c.i:Int));have f12_0:=hr0.frozen 12;clear hr0;go_enter Tryz.func88,Tryz.ntmps88;go_wp2_with fail;obtain⟨HS1,HM1⟩:=nxR (w.setCell ⟨yb,12,none⟩ (.int .i64 ((c.i:Int)+1))) (HS0.out.setI HI9.out) HM0;refine rgR (S:=(QOrH1 yb c o)) HS1 HM1 (fun HS2=>⟨(HS2.out.row.cell 12).trans (by show some (Value.int .i64 ((c.i+1:Nat):Int))=_;rfl),(HS2.out.row.cell 7).trans rfl⟩) fun w2 HS2 HM2 hHeld=>?_
 refine tk4 0 1 2 3 ?_;refine tk4 4 5 6 7 ?_;refine tk2 8 9 ?_;refine tkH 10 ?_;refine dnH ?_;clear hHeld;go_wp2_with fail;have hch:=choose_r yb lb cap o _ _ _ _ HS2.out;rw[show Kc.chooseR _=Z from HZ.out] at hch;have HCH:=hid hch;clear hch;refine(HCH.out).mono ?_;rintro ex wq ⟨rfl,hwq⟩;rw[hwq];clear hwq;have hr2:=HS2.out.row;have c17_2:=hr2.at 17 (.int .u32 c.B);have f17_2:=hr2.frozen 17;clear hr2;go_wp2_with fail;obtain⟨HS3,HM3⟩:=nxR (w2.setCell ⟨yb,17,none⟩ (.int .u32 Z)) (HS2.out.setB Z ⟨HCB.out.1,by have:=HCB.out.2;omega⟩) HM2;refine(to_r yb lb cap o _ _ _ (2) 2 _ HS3.out rfl).mono (mvK HM3 fun w4 HS4 HM4=>?_);go_wp2_with fail
 go_end0
 exact⟨_,rfl,HS4.out,HM4.out⟩
theorem r_cab_w1_nilnext (B LL CC:Nat) (w:World) (h:SR w yb lb cap o c rv l) (hBB:c.base=B) (hLL:B+LL=l.length) (hk:isK o.k=true) (hph:c.ph=1) (hRz:recZ o=((c.sl:Nat):Int)) (_hi:c.i<c.nr) (hlast:¬ c.nr≤c.i+1) (hpos:¬ 0<c.rdm l (1+c.i)) (hj:1+c.i<LL):Calls Tryz.prog 88 #[.pointer (some ⟨yb,0,none⟩),.slice (some ⟨lb,B,none⟩) LL CC] w (DidR yb lb cap o w rv { c with used:=c.used,i:=c.i+1 } l (.tuple #[])):=by
 obtain⟨HS0,HM0,hfit,HF,HWD,HSL,HCP,HNR⟩:=h.start;have HLL:=hid (And.intro hBB hLL);have HKK:=hid hk;have HPH:=hid hph;clear h hfit hBB hLL hk hph;have hI2:(1+(c.i:Int)).toNat=1+c.i:=by omega
 have hI3:0≤1+(c.i:Int):=by omega
 have hI4:1+(c.i:Int)<(LL:Int):=by omega
 have hi8:=HF.out.i1;have hI5:IntKind.i64.wrap (1+(c.i:Int))=1+(c.i:Int):=sh_wrap (by omega) (by omega);have hI6:IntKind.i64.wrap ((c.i:Int)+1)=(c.i:Int)+1:=sh_wrap (by omega) (by omega);have hq:((c.i:Int)+1==(o.nr:Int))=false:=by have:=HNR.out;simp;omega
 have HI9:=hid (show c.i<1000 by have:=HF.out.nr1;omega);obtain⟨mz_0,gz_0,zb0,zb1⟩:=HS0.out.cellB HLL.out.1 HLL.out.2 (1+c.i) (hj);obtain⟨z,hz'⟩:∃ x,c.rdm l (1+c.i)=x:=⟨_,rfl⟩;rw[hz'] at mz_0 zb0 zb1;try rw[hz']
 have Hz':=hid hz';clear hz';rw[Hz'.out] at hpos;have hp1:decide (0<z)=false:=decide_eq_false hpos;have HRZ:=hid (And.intro hRz (show c.sl≤20 by have:=HF.out.sl1;omega));clear hRz hpos;clear hlast _hi hi8;have hr0:=HS0.out.row;have c11_0:=hr0.ph 11 1 HPH;have c12_0:=hr0.at 12 (.int .i64 (c.i:Int));have f12_0:=hr0.frozen 12;clear hr0;go_enter Tryz.func88,Tryz.ntmps88;go_wp2_with fail;obtain⟨HS1,HM1⟩:=nxR (w.setCell ⟨yb,12,none⟩ (.int .i64 ((c.i:Int)+1))) (HS0.out.setI HI9.out) HM0;refine rgR (S:=(QOrH1 yb c o)) HS1 HM1 (fun HS2=>⟨(HS2.out.row.cell 12).trans (by show some (Value.int .i64 ((c.i+1:Nat):Int))=_;rfl),(HS2.out.row.cell 7).trans rfl⟩) fun w2 HS2 HM2 hHeld=>?_
 refine tk4 0 1 2 3 ?_;refine tk4 4 5 6 7 ?_;refine tk2 8 9 ?_;refine tkH 10 ?_;refine dnH ?_;clear hHeld;go_wp2_with fail
 go_end0
 exact⟨_,rfl,HS2.out,HM2.out⟩
theorem r_cab_w2 (B LL CC:Nat) (w:World) (h:SR w yb lb cap o c rv l) (hBB:c.base=B) (hLL:B+LL=l.length) (hk:isK o.k=true) (hph:c.ph=2) (hHd:headZ o=((1+c.nr:Nat):Int)) (hw1:c.wr=true→c.i<c.rc.length) (hw2:c.rc.length≤1000000) (hw3:c.i<1000) (hj:1+c.nr+c.B.toNat*c.wd+c.i<LL) (hB:0≤c.B∧c.B≤20):Calls Tryz.prog 88 #[.pointer (some ⟨yb,0,none⟩),.slice (some ⟨lb,B,none⟩) LL CC] w (DidR yb lb cap o w rv (c.word l (1+c.nr+c.B.toNat*c.wd) (·.go 3)).1 (c.word l (1+c.nr+c.B.toNat*c.wd) (·.go 3)).2 (.tuple #[])):=by
 obtain⟨HS0,HM0,hfit,HF,HWD,HSL,HCP,HNR⟩:=h.start;have HLL:=hid (And.intro hBB hLL);have HKK:=hid hk;have HPH:=hid hph;clear h hfit hBB hLL hk hph;have HHD:=hid (And.intro hHd (show(1+c.nr:Nat)≤5 from(by have:=HF.out.nr1;omega)));have HWI:=hid hw1;have HRL:=hid hw2;have HI2:=hid hw3;have HJ:=hid hj;clear hHd hw1 hw2 hw3 hj;have HAB:=hid hB;clear hB;have hr0:=HS0.out.row;have c11_0:=hr0.ph 11 2 HPH;have c17_0:=hr0.at 17 (.int .u32 c.B);clear hr0;go_enter Tryz.func88,Tryz.ntmps88;go_wp2_with fail;refine(word_rgo yb lb cap o c rv l B LL CC (c.B) ((1+c.nr:Nat)) _ 3 _ HS0.out HLL.out.1 HLL.out.2 HKK.out HHD.out.1 HHD.out.2 HAB.out rfl HJ.out HI2.out HWI.out HRL.out).mono (mvD HM0 fun w1 rv1 HS1 HM1=>?_);go_wp2_with fail
 go_end0
 exact⟨_,rfl,HS1.out,HM1.out⟩
theorem r_cab_w3 (B LL CC:Nat) (w:World) (h:SR w yb lb cap o c rv l) (hBB:c.base=B) (hLL:B+LL=l.length) (hk:isK o.k=true) (hph:c.ph=3) (hj:0<LL):Calls Tryz.prog 88 #[.pointer (some ⟨yb,0,none⟩),.slice (some ⟨lb,B,none⟩) LL CC] w (DidR yb lb cap o w rv (c.fin 0) (c.wrm l 0 c.B) (.tuple #[])):=by
 obtain⟨HS0,HM0,hfit,HF,HWD,HSL,HCP,HNR⟩:=h.start;have HLL:=hid (And.intro hBB hLL);have HKK:=hid hk;have HPH:=hid hph;clear h hfit hBB hLL hk hph;have hL0:(0:Int)<(LL:Int):=by omega
 obtain⟨my_0,gy_0,_,_⟩:=HS0.out.cellB HLL.out.1 HLL.out.2 (0) (hj);rw[Nat.add_zero] at my_0 gy_0;have hr0:=HS0.out.row;have c11_0:=hr0.ph 11 3 HPH;have c17_0:=hr0.at 17 (.int .u32 c.B);clear hr0;go_enter Tryz.func88,Tryz.ntmps88;go_wp2_with fail;obtain⟨hs,hm⟩:=HS0.out.putB HLL.out.1 HLL.out.2 (0) (hj) (c.B) (⟨HF.out.B0,HF.out.B1⟩);rw[Nat.add_zero] at hs hm;obtain⟨HS1,HM1⟩:=nx hs HM0 hm;clear hs hm;refine(end_r yb lb cap o _ _ _ 0 _ HS1.out HKK.out).mono (mvD HM1 fun w2 rv2 HS2 HM2=>?_);go_wp2_with fail
 go_end0
 exact⟨_,rfl,HS2.out,HM2.out⟩
theorem r_cab_r0 (B LL CC:Nat) (w:World) (h:SR w yb lb cap o c rv l) (hBB:c.base=B) (hLL:B+LL=l.length) (hk:isK o.k=true) (hph:c.ph=0) (hs:1≤c.sl) (hj:0<LL):Calls Tryz.prog 89 #[.pointer (some ⟨yb,0,none⟩),.slice (some ⟨lb,B,none⟩) LL CC] w (DidR yb lb cap o w rv (({ c with A:=c.rdm l 0%(c.sl:Int) }:Kc).go 1) l (.tuple #[])):=by
 obtain⟨HS0,HM0,hfit,HF,HWD,HSL,HCP,HNR⟩:=h.start;have HLL:=hid (And.intro hBB hLL);have HKK:=hid hk;have HPH:=hid hph;clear h hfit hBB hLL hk hph;obtain⟨mz_0,gz_0,zb0,zb1⟩:=HS0.out.cellB HLL.out.1 HLL.out.2 (0) (hj);obtain⟨z,hz'⟩:∃ x,c.rdm l (0)=x:=⟨_,rfl⟩;rw[hz'] at mz_0 zb0 zb1;try rw[hz']
 have Hz':=hid hz';clear hz';rw[Nat.add_zero] at mz_0 gz_0;have hsl1:=HF.out.sl1;have e1:IntKind.u32.wrap (c.sl:Int)=(c.sl:Int):=sh_wrap32 (by omega) (by omega);have m0:((c.sl:Int)==0)=false:=by simp;omega
 have m1:¬ (c.sl:Int)=0:=by omega
 have m2:¬ c.sl=0:=by omega
 have t1:z.tmod (c.sl:Int)=z%(c.sl:Int):=Int.tmod_eq_emod_of_nonneg zb0;have q0:=Int.emod_nonneg z m1;have q1:=Int.emod_lt_of_pos z (show(0:Int)<(c.sl:Int) by omega);obtain⟨Q,hQ⟩:∃ x,z%(c.sl:Int)=x:=⟨_,rfl⟩;rw[hQ] at t1 q0 q1;try rw[hQ]
 have t2:IntKind.u32.wrap Q=Q:=sh_wrap32 q0 (by omega);have q2:Q<4294967296:=by omega
 have HQB:=hid (And.intro q0 q2);have HJ0:=hid hj;clear hsl1;have hL0:(0:Int)<(LL:Int):=by omega
 have hrd:=HF.out.rd1;have hI5:IntKind.i64.wrap (1+(c.rd:Int))=1+(c.rd:Int):=sh_wrap (by omega) (by omega);clear hrd;clear hQ;have hr0:=HS0.out.row;have c10_0:=hr0.at 10 (.int .i64 (c.rd:Int));have c11_0:=hr0.ph 11 0 HPH;clear hr0;go_enter Tryz.func89,Tryz.ntmps89;go_wp2_with fail;refine rgR (S:=(QOrH0 yb c lb B z)) HS0 HM0 (fun HS1=>⟨(HS1.out.row.cell 2).trans (by rw[← HSL.out];rfl),(HS1.out.cell0 HLL.out.1 HLL.out.2 HJ0.out).trans (by show some (Value.int .u32 (c.rdm l 0))=_;rw[Hz'.out])⟩) fun w1 HS1 HM1 hHeld=>?_
 refine tk4 0 1 2 3 ?_;refine tk4 4 5 6 7 ?_;refine tk2 8 9 ?_;refine tkH 10 ?_;refine dnH ?_;clear hHeld;have hr1:=HS1.out.row;have c10_1:=hr1.at 10 (.int .i64 (c.rd:Int));have c11_1:=hr1.ph 11 0 HPH;clear hr1;have hr1:=HS1.out.row;have c16_1:=hr1.at 16 (.int .u32 c.A);have f16_1:=hr1.frozen 16;clear hr1;go_wp2_with fail;obtain⟨HS2,HM2⟩:=nxx (HS1.out.setA (Q) HQB.out) HM1;refine(to_r yb lb cap o _ _ _ (1) 1 _ HS2.out rfl).mono (mvK HM2 fun w3 HS3 HM3=>?_);go_wp2_with fail
 go_end0
 exact⟨_,rfl,HS3.out,HM3.out⟩
theorem r_cab_r1 (B LL CC:Nat) (w:World) (h:SR w yb lb cap o c rv l) (hBB:c.base=B) (hLL:B+LL=l.length) (hk:isK o.k=true) (hph:c.ph=1) (hs:1≤c.sl) (hj:0<LL) (hj1:1+c.rd<LL):Calls Tryz.prog 89 #[.pointer (some ⟨yb,0,none⟩),.slice (some ⟨lb,B,none⟩) LL CC] w (DidR yb lb cap o w rv (c.go 2) (c.wrm l (1+c.rd) ((c.A+1)%4294967296)) (.tuple #[])):=by
 obtain⟨HS0,HM0,hfit,HF,HWD,HSL,HCP,HNR⟩:=h.start;have HLL:=hid (And.intro hBB hLL);have HKK:=hid hk;have HPH:=hid hph;clear h hfit hBB hLL hk hph;obtain⟨mz_0,gz_0,zb0,zb1⟩:=HS0.out.cellB HLL.out.1 HLL.out.2 (0) (hj);obtain⟨z,hz'⟩:∃ x,c.rdm l (0)=x:=⟨_,rfl⟩;rw[hz'] at mz_0 zb0 zb1;try rw[hz']
 have Hz':=hid hz';clear hz';rw[Nat.add_zero] at mz_0 gz_0;have hsl1:=HF.out.sl1;have e1:IntKind.u32.wrap (c.sl:Int)=(c.sl:Int):=sh_wrap32 (by omega) (by omega);have m0:((c.sl:Int)==0)=false:=by simp;omega
 have m1:¬ (c.sl:Int)=0:=by omega
 have m2:¬ c.sl=0:=by omega
 have t1:z.tmod (c.sl:Int)=z%(c.sl:Int):=Int.tmod_eq_emod_of_nonneg zb0;have q0:=Int.emod_nonneg z m1;have q1:=Int.emod_lt_of_pos z (show(0:Int)<(c.sl:Int) by omega);obtain⟨Q,hQ⟩:∃ x,z%(c.sl:Int)=x:=⟨_,rfl⟩;rw[hQ] at t1 q0 q1;try rw[hQ]
 have t2:IntKind.u32.wrap Q=Q:=sh_wrap32 q0 (by omega);have q2:Q<4294967296:=by omega
 have HQB:=hid (And.intro q0 q2);have HJ0:=hid hj;clear hsl1;have hL0:(0:Int)<(LL:Int):=by omega
 have hrd:=HF.out.rd1;have hI2:(1+(c.rd:Int)).toNat=1+c.rd:=by omega
 have hI3:0≤1+(c.rd:Int):=by omega
 have hI4:1+(c.rd:Int)<(LL:Int):=by omega
 have hI5:IntKind.i64.wrap (1+(c.rd:Int))=1+(c.rd:Int):=sh_wrap (by omega) (by omega);clear hrd;have hu:IntKind.u32.wrap (c.A+1)=(c.A+1)%4294967296:=by simp[IntKind.wrap,IntKind.signed,IntKind.bits]
 clear hQ;have hr0:=HS0.out.row;have c10_0:=hr0.at 10 (.int .i64 (c.rd:Int));have c11_0:=hr0.ph 11 1 HPH;clear hr0;go_enter Tryz.func89,Tryz.ntmps89;go_wp2_with fail;refine rgR (S:=(QOrH0 yb c lb B z)) HS0 HM0 (fun HS1=>⟨(HS1.out.row.cell 2).trans (by rw[← HSL.out];rfl),(HS1.out.cell0 HLL.out.1 HLL.out.2 HJ0.out).trans (by show some (Value.int .u32 (c.rdm l 0))=_;rw[Hz'.out])⟩) fun w1 HS1 HM1 hHeld=>?_
 refine tk4 0 1 2 3 ?_;refine tk4 4 5 6 7 ?_;refine tk2 8 9 ?_;refine tkH 10 ?_;refine dnH ?_;clear hHeld;have hr1:=HS1.out.row;have c10_1:=hr1.at 10 (.int .i64 (c.rd:Int));have c11_1:=hr1.ph 11 1 HPH;clear hr1;obtain⟨my_1,gy_1,_,_⟩:=HS1.out.cellB HLL.out.1 HLL.out.2 (1+c.rd) (hj1);have hr1:=HS1.out.row;have c16_1:=hr1.at 16 (.int .u32 c.A);clear hr1;go_wp2_with fail;obtain⟨HS2,HM2⟩:=nxx (HS1.out.putB HLL.out.1 HLL.out.2 (1+c.rd) (hj1) ((c.A+1)%4294967296) (⟨by omega,by omega⟩)) HM1;refine(to_r yb lb cap o _ _ _ (2) 2 _ HS2.out rfl).mono (mvK HM2 fun w3 HS3 HM3=>?_);go_wp2_with fail
 go_end0
 exact⟨_,rfl,HS3.out,HM3.out⟩
theorem r_cab_r2_same (B LL CC:Nat) (w:World) (h:SR w yb lb cap o c rv l) (hBB:c.base=B) (hLL:B+LL=l.length) (hk:isK o.k=true) (hph:c.ph=2) (hs:1≤c.sl) (hj:0<LL) (_ht:c.tr<1000) (he:c.rdm l 0%(c.sl:Int)=c.A):Calls Tryz.prog 89 #[.pointer (some ⟨yb,0,none⟩),.slice (some ⟨lb,B,none⟩) LL CC] w (DidR yb lb cap o w rv (c.go 3) l (.tuple #[])):=by
 obtain⟨HS0,HM0,hfit,HF,HWD,HSL,HCP,HNR⟩:=h.start;have HLL:=hid (And.intro hBB hLL);have HKK:=hid hk;have HPH:=hid hph;clear h hfit hBB hLL hk hph;obtain⟨mz_0,gz_0,zb0,zb1⟩:=HS0.out.cellB HLL.out.1 HLL.out.2 (0) (hj);obtain⟨z,hz'⟩:∃ x,c.rdm l (0)=x:=⟨_,rfl⟩;rw[hz'] at mz_0 zb0 zb1;try rw[hz']
 have Hz':=hid hz';clear hz';rw[Nat.add_zero] at mz_0 gz_0;have hsl1:=HF.out.sl1;have e1:IntKind.u32.wrap (c.sl:Int)=(c.sl:Int):=sh_wrap32 (by omega) (by omega);have m0:((c.sl:Int)==0)=false:=by simp;omega
 have m1:¬ (c.sl:Int)=0:=by omega
 have m2:¬ c.sl=0:=by omega
 have t1:z.tmod (c.sl:Int)=z%(c.sl:Int):=Int.tmod_eq_emod_of_nonneg zb0;have q0:=Int.emod_nonneg z m1;have q1:=Int.emod_lt_of_pos z (show(0:Int)<(c.sl:Int) by omega);obtain⟨Q,hQ⟩:∃ x,z%(c.sl:Int)=x:=⟨_,rfl⟩;rw[hQ] at t1 q0 q1;try rw[hQ]
 have t2:IntKind.u32.wrap Q=Q:=sh_wrap32 q0 (by omega);have q2:Q<4294967296:=by omega
 have HQB:=hid (And.intro q0 q2);have HJ0:=hid hj;clear hsl1;have hL0:(0:Int)<(LL:Int):=by omega
 have hrd:=HF.out.rd1;have hI5:IntKind.i64.wrap (1+(c.rd:Int))=1+(c.rd:Int):=sh_wrap (by omega) (by omega);clear hrd;rw[Hz'.out,hQ] at he;have hd:(Q==c.A)=true:=by simpa using he
 clear he hQ;clear _ht;have hr0:=HS0.out.row;have c10_0:=hr0.at 10 (.int .i64 (c.rd:Int));have c11_0:=hr0.ph 11 2 HPH;clear hr0;go_enter Tryz.func89,Tryz.ntmps89;go_wp2_with fail;refine rgR (S:=(QOrH0 yb c lb B z)) HS0 HM0 (fun HS1=>⟨(HS1.out.row.cell 2).trans (by rw[← HSL.out];rfl),(HS1.out.cell0 HLL.out.1 HLL.out.2 HJ0.out).trans (by show some (Value.int .u32 (c.rdm l 0))=_;rw[Hz'.out])⟩) fun w1 HS1 HM1 hHeld=>?_
 refine tk4 0 1 2 3 ?_;refine tk4 4 5 6 7 ?_;refine tk2 8 9 ?_;refine tkH 10 ?_;refine dnH ?_;clear hHeld;have hr1:=HS1.out.row;have c10_1:=hr1.at 10 (.int .i64 (c.rd:Int));have c11_1:=hr1.ph 11 2 HPH;clear hr1;have hr1:=HS1.out.row;have c16_1:=hr1.at 16 (.int .u32 c.A);clear hr1;go_wp2_with fail;refine(to_r yb lb cap o _ _ _ (3) 3 _ HS1.out rfl).mono (mvK HM1 fun w2 HS2 HM2=>?_);go_wp2_with fail
 go_end0
 exact⟨_,rfl,HS2.out,HM2.out⟩
theorem r_cab_r2_again (B LL CC:Nat) (w:World) (h:SR w yb lb cap o c rv l) (hBB:c.base=B) (hLL:B+LL=l.length) (hk:isK o.k=true) (hph:c.ph=2) (hs:1≤c.sl) (hj:0<LL) (ht:c.tr<1000) (he:¬ (c.rdm l 0%(c.sl:Int)=c.A)) (hlast:¬ (c.cap≤c.tr+1)):Calls Tryz.prog 89 #[.pointer (some ⟨yb,0,none⟩),.slice (some ⟨lb,B,none⟩) LL CC] w (DidR yb lb cap o w rv (c.fail (·.go 5)) l (.tuple #[])):=by
 obtain⟨HS0,HM0,hfit,HF,HWD,HSL,HCP,HNR⟩:=h.start;have HLL:=hid (And.intro hBB hLL);have HKK:=hid hk;have HPH:=hid hph;clear h hfit hBB hLL hk hph;obtain⟨mz_0,gz_0,zb0,zb1⟩:=HS0.out.cellB HLL.out.1 HLL.out.2 (0) (hj);obtain⟨z,hz'⟩:∃ x,c.rdm l (0)=x:=⟨_,rfl⟩;rw[hz'] at mz_0 zb0 zb1;try rw[hz']
 have Hz':=hid hz';clear hz';rw[Nat.add_zero] at mz_0 gz_0;have hsl1:=HF.out.sl1;have e1:IntKind.u32.wrap (c.sl:Int)=(c.sl:Int):=sh_wrap32 (by omega) (by omega);have m0:((c.sl:Int)==0)=false:=by simp;omega
 have m1:¬ (c.sl:Int)=0:=by omega
 have m2:¬ c.sl=0:=by omega
 have t1:z.tmod (c.sl:Int)=z%(c.sl:Int):=Int.tmod_eq_emod_of_nonneg zb0;have q0:=Int.emod_nonneg z m1;have q1:=Int.emod_lt_of_pos z (show(0:Int)<(c.sl:Int) by omega);obtain⟨Q,hQ⟩:∃ x,z%(c.sl:Int)=x:=⟨_,rfl⟩;rw[hQ] at t1 q0 q1;try rw[hQ]
 have t2:IntKind.u32.wrap Q=Q:=sh_wrap32 q0 (by omega);have q2:Q<4294967296:=by omega
 have HQB:=hid (And.intro q0 q2);have HJ0:=hid hj;clear hsl1;have hL0:(0:Int)<(LL:Int):=by omega
 have hrd:=HF.out.rd1;have hI5:IntKind.i64.wrap (1+(c.rd:Int))=1+(c.rd:Int):=sh_wrap (by omega) (by omega);clear hrd;rw[Hz'.out,hQ] at he;have hd:(Q==c.A)=false:=by simpa using he
 clear he hQ;have hfl:=fun W (h:SR W yb lb cap o c rv l)=>fail_r yb lb cap o c rv l W h ht
 have hd2:decide ((c.cap:Int)≤(c.tr:Int)+1)=false:=decide_eq_false (by omega);rw[hd2] at hfl;have HFL:=hid hfl;clear hfl hd2;unfold Kc.fail;simp only[ge_iff_le];rw[if_neg hlast];clear hlast ht;have hr0:=HS0.out.row;have c10_0:=hr0.at 10 (.int .i64 (c.rd:Int));have c11_0:=hr0.ph 11 2 HPH;clear hr0;go_enter Tryz.func89,Tryz.ntmps89;go_wp2_with fail;refine rgR (S:=(QOrH0 yb c lb B z)) HS0 HM0 (fun HS1=>⟨(HS1.out.row.cell 2).trans (by rw[← HSL.out];rfl),(HS1.out.cell0 HLL.out.1 HLL.out.2 HJ0.out).trans (by show some (Value.int .u32 (c.rdm l 0))=_;rw[Hz'.out])⟩) fun w1 HS1 HM1 hHeld=>?_
 refine tk4 0 1 2 3 ?_;refine tk4 4 5 6 7 ?_;refine tk2 8 9 ?_;refine tkH 10 ?_;refine dnH ?_;clear hHeld;have hr1:=HS1.out.row;have c10_1:=hr1.at 10 (.int .i64 (c.rd:Int));have c11_1:=hr1.ph 11 2 HPH;clear hr1;have hr1:=HS1.out.row;have c16_1:=hr1.at 16 (.int .u32 c.A);clear hr1;go_wp2_with fail;refine(HFL.out _ HS1.out).mono (mvD HM1 fun w2 rv2 HS2 HM2=>?_);go_wp2_with fail
 go_end0
 exact⟨_,rfl,HS2.out,HM2.out⟩
theorem r_cab_r2_last (B LL CC:Nat) (w:World) (h:SR w yb lb cap o c rv l) (hBB:c.base=B) (hLL:B+LL=l.length) (hk:isK o.k=true) (hph:c.ph=2) (hs:1≤c.sl) (hj:0<LL) (ht:c.tr<1000) (he:¬ (c.rdm l 0%(c.sl:Int)=c.A)) (hlast:c.cap≤c.tr+1):Calls Tryz.prog 89 #[.pointer (some ⟨yb,0,none⟩),.slice (some ⟨lb,B,none⟩) LL CC] w (DidR yb lb cap o w rv (c.fail (·.go 5)) l (.tuple #[])):=by
 obtain⟨HS0,HM0,hfit,HF,HWD,HSL,HCP,HNR⟩:=h.start;have HLL:=hid (And.intro hBB hLL);have HKK:=hid hk;have HPH:=hid hph;clear h hfit hBB hLL hk hph;obtain⟨mz_0,gz_0,zb0,zb1⟩:=HS0.out.cellB HLL.out.1 HLL.out.2 (0) (hj);obtain⟨z,hz'⟩:∃ x,c.rdm l (0)=x:=⟨_,rfl⟩;rw[hz'] at mz_0 zb0 zb1;try rw[hz']
 have Hz':=hid hz';clear hz';rw[Nat.add_zero] at mz_0 gz_0;have hsl1:=HF.out.sl1;have e1:IntKind.u32.wrap (c.sl:Int)=(c.sl:Int):=sh_wrap32 (by omega) (by omega);have m0:((c.sl:Int)==0)=false:=by simp;omega
 have m1:¬ (c.sl:Int)=0:=by omega
 have m2:¬ c.sl=0:=by omega
 have t1:z.tmod (c.sl:Int)=z%(c.sl:Int):=Int.tmod_eq_emod_of_nonneg zb0;have q0:=Int.emod_nonneg z m1;have q1:=Int.emod_lt_of_pos z (show(0:Int)<(c.sl:Int) by omega);obtain⟨Q,hQ⟩:∃ x,z%(c.sl:Int)=x:=⟨_,rfl⟩;rw[hQ] at t1 q0 q1;try rw[hQ]
 have t2:IntKind.u32.wrap Q=Q:=sh_wrap32 q0 (by omega);have q2:Q<4294967296:=by omega
 have HQB:=hid (And.intro q0 q2);have HJ0:=hid hj;clear hsl1;have hL0:(0:Int)<(LL:Int):=by omega
 have hrd:=HF.out.rd1;have hI5:IntKind.i64.wrap (1+(c.rd:Int))=1+(c.rd:Int):=sh_wrap (by omega) (by omega);clear hrd;rw[Hz'.out,hQ] at he;have hd:(Q==c.A)=false:=by simpa using he
 clear he hQ;have hfl:=fun W (h:SR W yb lb cap o c rv l)=>fail_r yb lb cap o c rv l W h ht
 have hd2:decide ((c.cap:Int)≤(c.tr:Int)+1)=true:=decide_eq_true (by omega);rw[hd2] at hfl;have HFL:=hid hfl;clear hfl hd2;unfold Kc.fail;simp only[ge_iff_le];rw[if_pos hlast];clear hlast ht;have hr0:=HS0.out.row;have c10_0:=hr0.at 10 (.int .i64 (c.rd:Int));have c11_0:=hr0.ph 11 2 HPH;clear hr0;go_enter Tryz.func89,Tryz.ntmps89;go_wp2_with fail;refine rgR (S:=(QOrH0 yb c lb B z)) HS0 HM0 (fun HS1=>⟨(HS1.out.row.cell 2).trans (by rw[← HSL.out];rfl),(HS1.out.cell0 HLL.out.1 HLL.out.2 HJ0.out).trans (by show some (Value.int .u32 (c.rdm l 0))=_;rw[Hz'.out])⟩) fun w1 HS1 HM1 hHeld=>?_
 refine tk4 0 1 2 3 ?_;refine tk4 4 5 6 7 ?_;refine tk2 8 9 ?_;refine tkH 10 ?_;refine dnH ?_;clear hHeld;have hr1:=HS1.out.row;have c10_1:=hr1.at 10 (.int .i64 (c.rd:Int));have c11_1:=hr1.ph 11 2 HPH;clear hr1;have hr1:=HS1.out.row;have c16_1:=hr1.at 16 (.int .u32 c.A);clear hr1;go_wp2_with fail;refine(HFL.out _ HS1.out).mono (mvD HM1 fun w2 rv2 HS2 HM2=>?_);go_wp2_with fail;refine(to_r yb lb cap o _ _ _ (5) 5 _ HS2.out rfl).mono (mvK HM2 fun w3 HS3 HM3=>?_);go_wp2_with fail
 go_end0
 exact⟨_,rfl,HS3.out,HM3.out⟩
theorem r_cab_r3 (B LL CC:Nat) (w:World) (h:SR w yb lb cap o c rv l) (hBB:c.base=B) (hLL:B+LL=l.length) (hk:isK o.k=true) (hph:c.ph=3) (hHd:headZ o=((1+c.nr:Nat):Int)) (hw1:c.wr=true→c.i<c.rc.length) (hw2:c.rc.length≤1000000) (hw3:c.i<1000) (hj:1+c.nr+c.A.toNat*c.wd+c.i<LL) (hs:1≤c.sl) (hj0:0<LL) (hB:0≤c.A∧c.A≤20):Calls Tryz.prog 89 #[.pointer (some ⟨yb,0,none⟩),.slice (some ⟨lb,B,none⟩) LL CC] w (DidR yb lb cap o w rv (c.word l (1+c.nr+c.A.toNat*c.wd) (·.go 4)).1 (c.word l (1+c.nr+c.A.toNat*c.wd) (·.go 4)).2 (.tuple #[])):=by
 obtain⟨HS0,HM0,hfit,HF,HWD,HSL,HCP,HNR⟩:=h.start;have HLL:=hid (And.intro hBB hLL);have HKK:=hid hk;have HPH:=hid hph;clear h hfit hBB hLL hk hph;have HHD:=hid (And.intro hHd (show(1+c.nr:Nat)≤5 from(by have:=HF.out.nr1;omega)));have HWI:=hid hw1;have HRL:=hid hw2;have HI2:=hid hw3;have HJ:=hid hj;clear hHd hw1 hw2 hw3 hj;have hj:=hj0;clear hj0;obtain⟨mz_0,gz_0,zb0,zb1⟩:=HS0.out.cellB HLL.out.1 HLL.out.2 (0) (hj);obtain⟨z,hz'⟩:∃ x,c.rdm l (0)=x:=⟨_,rfl⟩;rw[hz'] at mz_0 zb0 zb1;try rw[hz']
 have Hz':=hid hz';clear hz';rw[Nat.add_zero] at mz_0 gz_0;have hsl1:=HF.out.sl1;have e1:IntKind.u32.wrap (c.sl:Int)=(c.sl:Int):=sh_wrap32 (by omega) (by omega);have m0:((c.sl:Int)==0)=false:=by simp;omega
 have m1:¬ (c.sl:Int)=0:=by omega
 have m2:¬ c.sl=0:=by omega
 have t1:z.tmod (c.sl:Int)=z%(c.sl:Int):=Int.tmod_eq_emod_of_nonneg zb0;have q0:=Int.emod_nonneg z m1;have q1:=Int.emod_lt_of_pos z (show(0:Int)<(c.sl:Int) by omega);obtain⟨Q,hQ⟩:∃ x,z%(c.sl:Int)=x:=⟨_,rfl⟩;rw[hQ] at t1 q0 q1;try rw[hQ]
 have t2:IntKind.u32.wrap Q=Q:=sh_wrap32 q0 (by omega);have q2:Q<4294967296:=by omega
 have HQB:=hid (And.intro q0 q2);have HJ0:=hid hj;clear hsl1;have hL0:(0:Int)<(LL:Int):=by omega
 have hrd:=HF.out.rd1;have hI5:IntKind.i64.wrap (1+(c.rd:Int))=1+(c.rd:Int):=sh_wrap (by omega) (by omega);clear hrd;clear hQ;have HAB:=hid hB;clear hB;have hr0:=HS0.out.row;have c10_0:=hr0.at 10 (.int .i64 (c.rd:Int));have c11_0:=hr0.ph 11 3 HPH;clear hr0;go_enter Tryz.func89,Tryz.ntmps89;go_wp2_with fail;refine rgR (S:=(QOrH0 yb c lb B z)) HS0 HM0 (fun HS1=>⟨(HS1.out.row.cell 2).trans (by rw[← HSL.out];rfl),(HS1.out.cell0 HLL.out.1 HLL.out.2 HJ0.out).trans (by show some (Value.int .u32 (c.rdm l 0))=_;rw[Hz'.out])⟩) fun w1 HS1 HM1 hHeld=>?_
 refine tk4 0 1 2 3 ?_;refine tk4 4 5 6 7 ?_;refine tk2 8 9 ?_;refine tkH 10 ?_;refine dnH ?_;clear hHeld;have hr1:=HS1.out.row;have c10_1:=hr1.at 10 (.int .i64 (c.rd:Int));have c11_1:=hr1.ph 11 3 HPH;clear hr1;have hr1:=HS1.out.row;have c16_1:=hr1.at 16 (.int .u32 c.A);clear hr1;go_wp2_with fail;refine(word_rgo yb lb cap o c rv l B LL CC (c.A) ((1+c.nr:Nat)) _ 4 _ HS1.out HLL.out.1 HLL.out.2 HKK.out HHD.out.1 HHD.out.2 HAB.out rfl HJ.out HI2.out HWI.out HRL.out).mono (mvD HM1 fun w2 rv2 HS2 HM2=>?_);go_wp2_with fail
 go_end0
 exact⟨_,rfl,HS2.out,HM2.out⟩
theorem r_cab_r4 (B LL CC:Nat) (w:World) (h:SR w yb lb cap o c rv l) (hBB:c.base=B) (hLL:B+LL=l.length) (hk:isK o.k=true) (hph:c.ph=4) (hs:1≤c.sl) (hj:0<LL) (hj1:1+c.rd<LL):Calls Tryz.prog 89 #[.pointer (some ⟨yb,0,none⟩),.slice (some ⟨lb,B,none⟩) LL CC] w (DidR yb lb cap o w rv (c.fin 0) (c.wrm l (1+c.rd) 0) (.tuple #[])):=by
 obtain⟨HS0,HM0,hfit,HF,HWD,HSL,HCP,HNR⟩:=h.start;have HLL:=hid (And.intro hBB hLL);have HKK:=hid hk;have HPH:=hid hph;clear h hfit hBB hLL hk hph;obtain⟨mz_0,gz_0,zb0,zb1⟩:=HS0.out.cellB HLL.out.1 HLL.out.2 (0) (hj);obtain⟨z,hz'⟩:∃ x,c.rdm l (0)=x:=⟨_,rfl⟩;rw[hz'] at mz_0 zb0 zb1;try rw[hz']
 have Hz':=hid hz';clear hz';rw[Nat.add_zero] at mz_0 gz_0;have hsl1:=HF.out.sl1;have e1:IntKind.u32.wrap (c.sl:Int)=(c.sl:Int):=sh_wrap32 (by omega) (by omega);have m0:((c.sl:Int)==0)=false:=by simp;omega
 have m1:¬ (c.sl:Int)=0:=by omega
 have m2:¬ c.sl=0:=by omega
 have t1:z.tmod (c.sl:Int)=z%(c.sl:Int):=Int.tmod_eq_emod_of_nonneg zb0;have q0:=Int.emod_nonneg z m1;have q1:=Int.emod_lt_of_pos z (show(0:Int)<(c.sl:Int) by omega);obtain⟨Q,hQ⟩:∃ x,z%(c.sl:Int)=x:=⟨_,rfl⟩;rw[hQ] at t1 q0 q1;try rw[hQ]
 have t2:IntKind.u32.wrap Q=Q:=sh_wrap32 q0 (by omega);have q2:Q<4294967296:=by omega
 have HQB:=hid (And.intro q0 q2);have HJ0:=hid hj;clear hsl1;have hL0:(0:Int)<(LL:Int):=by omega
 have hrd:=HF.out.rd1;have hI2:(1+(c.rd:Int)).toNat=1+c.rd:=by omega
 have hI3:0≤1+(c.rd:Int):=by omega
 have hI4:1+(c.rd:Int)<(LL:Int):=by omega
 have hI5:IntKind.i64.wrap (1+(c.rd:Int))=1+(c.rd:Int):=sh_wrap (by omega) (by omega);clear hrd;clear hQ;have hr0:=HS0.out.row;have c10_0:=hr0.at 10 (.int .i64 (c.rd:Int));have c11_0:=hr0.ph 11 4 HPH;clear hr0;go_enter Tryz.func89,Tryz.ntmps89;go_wp2_with fail;refine rgR (S:=(QOrH0 yb c lb B z)) HS0 HM0 (fun HS1=>⟨(HS1.out.row.cell 2).trans (by rw[← HSL.out];rfl),(HS1.out.cell0 HLL.out.1 HLL.out.2 HJ0.out).trans (by show some (Value.int .u32 (c.rdm l 0))=_;rw[Hz'.out])⟩) fun w1 HS1 HM1 hHeld=>?_
 refine tk4 0 1 2 3 ?_;refine tk4 4 5 6 7 ?_;refine tk2 8 9 ?_;refine tkH 10 ?_;refine dnH ?_;clear hHeld;have hr1:=HS1.out.row;have c10_1:=hr1.at 10 (.int .i64 (c.rd:Int));have c11_1:=hr1.ph 11 4 HPH;clear hr1;obtain⟨my_1,gy_1,_,_⟩:=HS1.out.cellB HLL.out.1 HLL.out.2 (1+c.rd) (hj1);go_wp2_with fail;obtain⟨HS2,HM2⟩:=nxx (HS1.out.putB HLL.out.1 HLL.out.2 (1+c.rd) (hj1) (0) (⟨by decide,by decide⟩)) HM1;refine(end_r yb lb cap o _ _ _ 0 _ HS2.out HKK.out).mono (mvD HM2 fun w3 rv3 HS3 HM3=>?_);go_wp2_with fail
 go_end0
 exact⟨_,rfl,HS3.out,HM3.out⟩
theorem r_cab_r5 (B LL CC:Nat) (w:World) (h:SR w yb lb cap o c rv l) (hBB:c.base=B) (hLL:B+LL=l.length) (hk:isK o.k=true) (hph:c.ph=5) (hs:1≤c.sl) (hj:0<LL) (hj1:1+c.rd<LL):Calls Tryz.prog 89 #[.pointer (some ⟨yb,0,none⟩),.slice (some ⟨lb,B,none⟩) LL CC] w (DidR yb lb cap o w rv (c.fin 1) (c.wrm l (1+c.rd) 0) (.tuple #[])):=by
 obtain⟨HS0,HM0,hfit,HF,HWD,HSL,HCP,HNR⟩:=h.start;have HLL:=hid (And.intro hBB hLL);have HKK:=hid hk;have HPH:=hid hph;clear h hfit hBB hLL hk hph;obtain⟨mz_0,gz_0,zb0,zb1⟩:=HS0.out.cellB HLL.out.1 HLL.out.2 (0) (hj);obtain⟨z,hz'⟩:∃ x,c.rdm l (0)=x:=⟨_,rfl⟩;rw[hz'] at mz_0 zb0 zb1;try rw[hz']
 have Hz':=hid hz';clear hz';rw[Nat.add_zero] at mz_0 gz_0;have hsl1:=HF.out.sl1;have e1:IntKind.u32.wrap (c.sl:Int)=(c.sl:Int):=sh_wrap32 (by omega) (by omega);have m0:((c.sl:Int)==0)=false:=by simp;omega
 have m1:¬ (c.sl:Int)=0:=by omega
 have m2:¬ c.sl=0:=by omega
 have t1:z.tmod (c.sl:Int)=z%(c.sl:Int):=Int.tmod_eq_emod_of_nonneg zb0;have q0:=Int.emod_nonneg z m1;have q1:=Int.emod_lt_of_pos z (show(0:Int)<(c.sl:Int) by omega);obtain⟨Q,hQ⟩:∃ x,z%(c.sl:Int)=x:=⟨_,rfl⟩;rw[hQ] at t1 q0 q1;try rw[hQ]
 have t2:IntKind.u32.wrap Q=Q:=sh_wrap32 q0 (by omega);have q2:Q<4294967296:=by omega
 have HQB:=hid (And.intro q0 q2);have HJ0:=hid hj;clear hsl1;have hL0:(0:Int)<(LL:Int):=by omega
 have hrd:=HF.out.rd1;have hI2:(1+(c.rd:Int)).toNat=1+c.rd:=by omega
 have hI3:0≤1+(c.rd:Int):=by omega
 have hI4:1+(c.rd:Int)<(LL:Int):=by omega
 have hI5:IntKind.i64.wrap (1+(c.rd:Int))=1+(c.rd:Int):=sh_wrap (by omega) (by omega);clear hrd;clear hQ;have hr0:=HS0.out.row;have c10_0:=hr0.at 10 (.int .i64 (c.rd:Int));have c11_0:=hr0.ph 11 5 HPH;clear hr0;go_enter Tryz.func89,Tryz.ntmps89;go_wp2_with fail;refine rgR (S:=(QOrH0 yb c lb B z)) HS0 HM0 (fun HS1=>⟨(HS1.out.row.cell 2).trans (by rw[← HSL.out];rfl),(HS1.out.cell0 HLL.out.1 HLL.out.2 HJ0.out).trans (by show some (Value.int .u32 (c.rdm l 0))=_;rw[Hz'.out])⟩) fun w1 HS1 HM1 hHeld=>?_
 refine tk4 0 1 2 3 ?_;refine tk4 4 5 6 7 ?_;refine tk2 8 9 ?_;refine tkH 10 ?_;refine dnH ?_;clear hHeld;have hr1:=HS1.out.row;have c10_1:=hr1.at 10 (.int .i64 (c.rd:Int));have c11_1:=hr1.ph 11 5 HPH;clear hr1;obtain⟨my_1,gy_1,_,_⟩:=HS1.out.cellB HLL.out.1 HLL.out.2 (1+c.rd) (hj1);go_wp2_with fail;obtain⟨HS2,HM2⟩:=nxx (HS1.out.putB HLL.out.1 HLL.out.2 (1+c.rd) (hj1) (0) (⟨by decide,by decide⟩)) HM1;refine(end_r yb lb cap o _ _ _ 1 _ HS2.out HKK.out).mono (mvD HM2 fun w3 rv3 HS3 HM3=>?_);go_wp2_with fail
 go_end0
 exact⟨_,rfl,HS3.out,HM3.out⟩
end
end Go.Proofs.YtolmpehgeinlkaaGreatDoor
