/- Counters; the kind seq: each step of a write, and of a read. -/
import Derived.Test.YtolmpehgeinlkaaGreatDoorZcOgH
namespace Go.Proofs.YtolmpehgeinlkaaGreatDoor
open Go.RowKit
open Go.Lib (hid)
attribute [local go_sem] Oper.semAt_some
set_option maxHeartbeats 1000000
set_option maxRecDepth 100000
theorem tmod_lt {v m:Int} (h0:0≤v) (h1:v<m):v.tmod m=v:=by
 rw[Int.tmod_eq_emod_of_nonneg h0,Int.emod_eq_of_lt h0 h1]
theorem step_in (v m:Int) (w:World) (h0:0≤v) (h1:v<m) (h2:2≤m) (h3:m<4294967296) (h4:v+1<m):Calls Tryz.prog 186 #[.int .u32 v,.int .u32 1,.int .u32 m] w fun e w'=>e=.returned (.int .u32 (v+1))∧Below w.heap.size w w':=by
 have t1:=tmod_lt h0 h1;have t2:(1:Int).tmod m=1:=tmod_lt (by omega) (by omega);have m0:(m==0)=false:=by simp;omega
 have m1:¬ m=0:=by omega
 have e1:IntKind.u32.wrap v=v:=sh_wrap32 h0 (by omega);have e2:IntKind.u32.wrap (m - v)=m - v:=sh_wrap32 (by omega) (by omega);have e3:(m - v)%4294967296=m - v:=Int.emod_eq_of_lt (by omega) (by omega);have d1:decide (m - v≤1)=false:=decide_eq_false (by omega);have d2:¬ (m - v≤1):=by omega
 have HB0:=hid ((Below.refl w.heap.size w).drew);go_enter Tryz.func186,Tryz.ntmps186;go_wp2_with fail;refine rgn (S:=(fun _:World=>True)) (trivial) fun wd hw9 hHeld=>?_
 rw[hw9] at HB0;clear hw9;refine tk4 0 1 2 3 ?_;refine tk4 4 5 6 7 ?_;refine dnH ?_;clear hHeld;go_wp2_with fail;go_ret;exact⟨rfl,HB0.out⟩
theorem step_out (v m:Int) (w:World) (h0:0≤v) (h1:v<m) (h2:2≤m) (h3:m<4294967296) (h4:v+1=m):Calls Tryz.prog 186 #[.int .u32 v,.int .u32 1,.int .u32 m] w fun e w'=>e=.returned (.int .u32 (0))∧Below w.heap.size w w':=by
 have t1:=tmod_lt h0 h1;have t2:(1:Int).tmod m=1:=tmod_lt (by omega) (by omega);have m0:(m==0)=false:=by simp;omega
 have m1:¬ m=0:=by omega
 have e1:IntKind.u32.wrap v=v:=sh_wrap32 h0 (by omega);have e2:IntKind.u32.wrap (m - v)=m - v:=sh_wrap32 (by omega) (by omega);have e3:(m - v)%4294967296=m - v:=Int.emod_eq_of_lt (by omega) (by omega);have d1:decide (m - v≤1)=true:=decide_eq_true (by omega);have d2:m - v≤1:=by omega
 have e4:(1 - (m - v))%4294967296=0:=by rw[show 1 - (m - v)=0 by omega];rfl
 have HB0:=hid ((Below.refl w.heap.size w).drew);go_enter Tryz.func186,Tryz.ntmps186;go_wp2_with fail;refine rgn (S:=(fun _:World=>True)) (trivial) fun wd hw9 hHeld=>?_
 rw[hw9] at HB0;clear hw9;refine tk4 0 1 2 3 ?_;refine tk4 4 5 6 7 ?_;refine dnH ?_;clear hHeld;go_wp2_with fail;go_ret;exact⟨ret_int (by omega),HB0.out⟩
theorem next_o (v m:Int) (w:World) (h0:0≤v) (h1:v<m) (h2:2≤m) (h3:m<4294967296):Calls Tryz.prog 170 #[.int .u32 v,.int .u32 m] w fun e w'=>e=.returned (.int .u32 (Kc.inc v m))∧Below w.heap.size w w':=by
 have hs:Calls Tryz.prog 186 #[.int .u32 v,.int .u32 1,.int .u32 m] w fun e w'=>e=.returned (.int .u32 (Kc.inc v m))∧Below w.heap.size w w':=by
  unfold Kc.inc
  split
  ·exact step_in v m w h0 h1 h2 h3 ‹_›
  ·exact step_out v m w h0 h1 h2 h3 (by omega)
 have HS:=hid hs;clear hs;obtain⟨q,hq⟩:∃ x,Kc.inc v m=x:=⟨_,rfl⟩;rw[hq] at HS ⊢;clear hq;go_enter Tryz.func170,Tryz.ntmps170;go_wp2_with fail;refine HS.out.mono ?_;rintro e w1 ⟨rfl,hb⟩;have HB:=hid hb;clear hb;go_wp2_with fail;go_ret;exact⟨rfl,HB.out⟩
theorem gap_up (a b m:Int) (w:World) (h0:0≤a) (h1:a<m) (h2:0≤b) (h3:b<m) (h5:m<4294967296) (h4:a≤b):Calls Tryz.prog 172 #[.int .u32 a,.int .u32 b,.int .u32 m] w fun e w'=>e=.returned (.int .u32 (b - a))∧Below w.heap.size w w':=by
 have t1:=tmod_lt h0 h1;have t2:=tmod_lt h2 h3;have m0:(m==0)=false:=by simp;omega
 have m1:¬ m=0:=by omega
 have d1:decide (b<a)=false:=decide_eq_false (by omega);have d2:¬ (b<a):=by omega
 have a9:a<4294967296:=by omega
 have b9:b<4294967296:=by omega
 have HB0:=hid ((Below.refl w.heap.size w).drew);go_enter Tryz.func172,Tryz.ntmps172;go_wp2_with fail;refine rgn (S:=(fun _:World=>True)) (trivial) fun wd hw9 hHeld=>?_
 rw[hw9] at HB0;clear hw9;refine tk4 0 1 2 3 ?_;refine tk4 4 5 6 7 ?_;refine dnH ?_;clear hHeld;go_wp2_with fail;go_ret;exact⟨rfl,HB0.out⟩
theorem gap_round (a b m:Int) (w:World) (h0:0≤a) (h1:a<m) (h2:0≤b) (h3:b<m) (h5:m<4294967296) (h4:¬ (a≤b)):Calls Tryz.prog 172 #[.int .u32 a,.int .u32 b,.int .u32 m] w fun e w'=>e=.returned (.int .u32 (b+m - a))∧Below w.heap.size w w':=by
 have t1:=tmod_lt h0 h1;have t2:=tmod_lt h2 h3;have m0:(m==0)=false:=by simp;omega
 have m1:¬ m=0:=by omega
 have d1:decide (b<a)=true:=decide_eq_true (by omega);have d2:b<a:=by omega
 have a9:a<4294967296:=by omega
 have b9:b<4294967296:=by omega
 have HB0:=hid ((Below.refl w.heap.size w).drew);go_enter Tryz.func172,Tryz.ntmps172;go_wp2_with fail;refine rgn (S:=(fun _:World=>True)) (trivial) fun wd hw9 hHeld=>?_
 rw[hw9] at HB0;clear hw9;refine tk4 0 1 2 3 ?_;refine tk4 4 5 6 7 ?_;refine dnH ?_;clear hHeld;go_wp2_with fail;go_ret;exact⟨ret_int (by omega),HB0.out⟩
theorem gap_o (a b m:Int) (w:World) (h0:0≤a) (h1:a<m) (h2:0≤b) (h3:b<m) (h5:m<4294967296):Calls Tryz.prog 172 #[.int .u32 a,.int .u32 b,.int .u32 m] w fun e w'=>e=.returned (.int .u32 (Kc.gap a b m))∧Below w.heap.size w w':=by
 unfold Kc.gap
 split
 ·exact gap_up a b m w h0 h1 h2 h3 h5 ‹_›
 ·exact gap_round a b m w h0 h1 h2 h3 h5 ‹_›
section
variable (sb mb lb:Nat) (ty:TypeId) (o:Ob) (c:Kc) (rv:Value) (l:List Int)
theorem seq_w0 (w:World) (h:St w sb mb lb ty o c rv l) (hph:c.ph=0) (hj:c.base+0<l.length):Calls Tryz.prog 143 #[.pointer (some ⟨sb,0,none⟩)] w (Did sb mb lb ty o w rv (({ c with A:=c.rdm l 0 }:Kc).go 1) l (.tuple #[])):=by
 obtain⟨HS0,HM0,hfit,HF,HWD,HSL,HCP,HNR⟩:=h.start;clear hfit h;have HPH:=hid hph;clear hph;obtain⟨u0,hu0,hr0⟩:=HS0.out.op.row;have c10_0:=hr0.ph 10 0 HPH;clear hr0 hu0;have hz:=rdm_bd hj HS0.out.mem.w32;have HR:=hid fun W (h:St W sb mb lb ty o c rv l)=>read_o sb mb lb ty o c rv l 0 0 W h (by omega) hj
 obtain⟨z,hz'⟩:∃ x,c.rdm l 0=x:=⟨_,rfl⟩;rw[hz'] at HR hz;try rw[hz']
 have Hz':=hid hz';clear hz' hj;have hz0:=hz.1;have hz1:=hz.2;clear hz;go_enter Tryz.func143,Tryz.ntmps143;go_wp2_with fail;refine(HR.out _ HS0.out).mono (mvK HM0 fun w1 HS1 HM1=>?_);obtain⟨u1,hu1,hr1⟩:=HS1.out.op.row;have c13_1:=hr1.at 13 (.int .u32 c.A);have f13_1:=hr1.frozen 13;clear hr1 hu1;go_wp2_with fail;obtain⟨HS2,HM2⟩:=nxx (HS1.out.setA (z) ⟨hz0,hz1⟩) HM1;go_wp2_with fail;refine(go_o sb mb lb ty o _ _ _ 1 1 _ HS2.out rfl).mono (mvK HM2 fun w3 HS3 HM3=>?_);go_wp2_with fail
 go_end0
 exact⟨_,rfl,HS3.out,HM3.out⟩
theorem seq_w1 (w:World) (h:St w sb mb lb ty o c rv l) (hph:c.ph=1) (hj:c.base+0<l.length):Calls Tryz.prog 143 #[.pointer (some ⟨sb,0,none⟩)] w (Did sb mb lb ty o w rv (c.go 2) (c.wrm l 0 ((c.A+1)%4294967296)) (.tuple #[])):=by
 obtain⟨HS0,HM0,hfit,HF,HWD,HSL,HCP,HNR⟩:=h.start;clear hfit h;have HPH:=hid hph;clear hph;obtain⟨u0,hu0,hr0⟩:=HS0.out.op.row;have c10_0:=hr0.ph 10 1 HPH;clear hr0 hu0;have HW:=hid fun W (h:St W sb mb lb ty o c rv l)=>write_o sb mb lb ty o c rv l 0 0 ((c.A+1)%4294967296) W h (by omega) hj (by omega)
 clear hj;have hu:IntKind.u32.wrap (c.A+1)=(c.A+1)%4294967296:=by simp[IntKind.wrap,IntKind.signed,IntKind.bits]
 go_enter Tryz.func143,Tryz.ntmps143;go_wp2_with fail;refine rgK (S:=(fun w':World=>w'.cell? ⟨sb,13,none⟩=some (.int .u32 c.A))) HS0 HM0 (fun HS1=>let ⟨_,_,hr0⟩:=HS1.out.op.row;(hr0.cell 13).trans rfl) fun w1 HS1 HM1 hHeld=>?_
 refine tk4 0 1 2 3 ?_;refine tk4 4 5 6 7 ?_;refine tkH 8 ?_;refine clH 9 (fun K hK=>?_)
 ·go_simp;refine(HW.out _ HS1.out).mono (mvK HM1 fun w2 HS2 HM2=>?_);obtain⟨u2,hu2,hr2⟩:=HS2.out.op.row;have hSx2:(fun w':World=>w'.cell? ⟨sb,13,none⟩=some (.int .u32 c.A)) w2:=(hr2.cell 13).trans rfl;clear hr2 hu2;refine kH hK hSx2 fun hHeld=>?_
  clear hK K;refine dnH ?_;clear hHeld hSx2;go_wp2_with fail;refine(go_o sb mb lb ty o _ _ _ 2 2 _ HS2.out rfl).mono (mvK HM2 fun w3 HS3 HM3=>?_);go_wp2_with fail
  go_end0
  exact⟨_,rfl,HS3.out,HM3.out⟩
theorem seq_w2 (w:World) (h:St w sb mb lb ty o c rv l) (hph:c.ph=2) (hwr:c.wr=true→c.i<c.rc.length) (hrl:c.rc.length≤1000000) (hi2:c.i<1000) (hj:c.base+(1+c.i)<l.length) (hf1:1≤1000000):Calls Tryz.prog 143 #[.pointer (some ⟨sb,0,none⟩)] w (Did sb mb lb ty o w rv (c.word l (1) (·.go 3)).1 (c.word l (1) (·.go 3)).2 (.tuple #[])):=by
 obtain⟨HS0,HM0,hfit,HF,HWD,HSL,HCP,HNR⟩:=h.start;clear hfit h;have HPH:=hid hph;clear hph;obtain⟨u0,hu0,hr0⟩:=HS0.out.op.row;have c10_0:=hr0.ph 10 2 HPH;clear hr0 hu0;have HWO:=hid fun W (rv:Value) (h:St W sb mb lb ty o c rv l)=>word_o sb mb lb ty o c rv l (1) W h hwr hrl hi2 hj hf1
 clear hwr hrl hi2 hj hf1;rw[Kc.word_eq]
 by_cases hlast:c.wd≤c.i+1
 ·rw[if_pos hlast];have hd:decide ((c.wd:Int)≤(c.i:Int)+1)=true:=decide_eq_true (by omega);rw[hd] at HWO;clear hlast hd;go_enter Tryz.func143,Tryz.ntmps143;go_wp2_with fail;refine(HWO.out _ _ HS0.out).mono (mvD HM0 fun w1 rv1 HS1 HM1=>?_);go_wp2_with fail;refine(go_o sb mb lb ty o _ _ _ 3 3 _ HS1.out rfl).mono (mvK HM1 fun w2 HS2 HM2=>?_);go_wp2_with fail
  go_end0
  exact⟨_,rfl,HS2.out,HM2.out⟩
 ·rw[if_neg hlast];have hd:decide ((c.wd:Int)≤(c.i:Int)+1)=false:=decide_eq_false (by omega);rw[hd] at HWO;clear hlast hd;go_enter Tryz.func143,Tryz.ntmps143;go_wp2_with fail;refine(HWO.out _ _ HS0.out).mono (mvD HM0 fun w1 rv1 HS1 HM1=>?_);go_wp2_with fail
  go_end0
  exact⟨_,rfl,HS1.out,HM1.out⟩
theorem seq_w3 (w:World) (h:St w sb mb lb ty o c rv l) (hph:c.ph=3) (hj:c.base+0<l.length):Calls Tryz.prog 143 #[.pointer (some ⟨sb,0,none⟩)] w (Did sb mb lb ty o w rv (c.fin 0) (c.wrm l 0 ((c.A+2)%4294967296)) (.tuple #[])):=by
 obtain⟨HS0,HM0,hfit,HF,HWD,HSL,HCP,HNR⟩:=h.start;clear hfit h;have HPH:=hid hph;clear hph;obtain⟨u0,hu0,hr0⟩:=HS0.out.op.row;have c10_0:=hr0.ph 10 3 HPH;clear hr0 hu0;have HW:=hid fun W (h:St W sb mb lb ty o c rv l)=>write_o sb mb lb ty o c rv l 0 0 ((c.A+2)%4294967296) W h (by omega) hj (by omega)
 clear hj;have hu:IntKind.u32.wrap (c.A+2)=(c.A+2)%4294967296:=by simp[IntKind.wrap,IntKind.signed,IntKind.bits]
 go_enter Tryz.func143,Tryz.ntmps143;go_wp2_with fail;refine rgK (S:=(fun w':World=>w'.cell? ⟨sb,13,none⟩=some (.int .u32 c.A))) HS0 HM0 (fun HS1=>let ⟨_,_,hr0⟩:=HS1.out.op.row;(hr0.cell 13).trans rfl) fun w1 HS1 HM1 hHeld=>?_
 refine tk4 0 1 2 3 ?_;refine tk4 4 5 6 7 ?_;refine tkH 8 ?_;refine clH 9 (fun K hK=>?_)
 ·go_simp;refine(HW.out _ HS1.out).mono (mvK HM1 fun w2 HS2 HM2=>?_);obtain⟨u2,hu2,hr2⟩:=HS2.out.op.row;have hSx2:(fun w':World=>w'.cell? ⟨sb,13,none⟩=some (.int .u32 c.A)) w2:=(hr2.cell 13).trans rfl;clear hr2 hu2;refine kH hK hSx2 fun hHeld=>?_
  clear hK K;refine dnH ?_;clear hHeld hSx2;go_wp2_with fail;refine(end_o sb mb lb ty o _ _ _ 0 _ HS2.out).mono (mvD HM2 fun w3 rv3 HS3 HM3=>?_);go_wp2_with fail
  go_end0
  exact⟨_,rfl,HS3.out,HM3.out⟩
theorem seqFail_last (w:World) (h:St w sb mb lb ty o c rv l) (ht:c.tr<1000) (hlast:c.cap≤c.tr+1):Calls Tryz.prog 169 #[.pointer (some ⟨sb,0,none⟩)] w (Did sb mb lb ty o w rv (c.fail (·.fin 1)) l (.tuple #[])):=by
 obtain⟨HS0,HM0,hfit,HF,HWD,HSL,HCP,HNR⟩:=h.start;clear hfit h;have hfl:=fun W (h:St W sb mb lb ty o c rv l)=>fail_o sb mb lb ty o c rv l W h ht
 have hd:decide ((c.cap:Int)≤(c.tr:Int)+1)=true:=decide_eq_true (by omega);rw[hd] at hfl;have HFL:=hid hfl;clear hfl hd;unfold Kc.fail;simp only[ge_iff_le];rw[if_pos hlast];clear hlast ht;go_enter Tryz.func169,Tryz.ntmps169;go_wp2_with fail;refine(HFL.out _ HS0.out).mono (mvD HM0 fun w1 rv1 HS1 HM1=>?_);go_wp2_with fail;refine(end_o sb mb lb ty o _ _ _ 1 _ HS1.out).mono (mvD HM1 fun w2 rv2 HS2 HM2=>?_);go_wp2_with fail
 go_end0
 exact⟨_,rfl,HS2.out,HM2.out⟩
theorem seqFail_again (w:World) (h:St w sb mb lb ty o c rv l) (ht:c.tr<1000) (hlast:¬ (c.cap≤c.tr+1)):Calls Tryz.prog 169 #[.pointer (some ⟨sb,0,none⟩)] w (Did sb mb lb ty o w rv (c.fail (·.fin 1)) l (.tuple #[])):=by
 obtain⟨HS0,HM0,hfit,HF,HWD,HSL,HCP,HNR⟩:=h.start;clear hfit h;have hfl:=fun W (h:St W sb mb lb ty o c rv l)=>fail_o sb mb lb ty o c rv l W h ht
 have hd:decide ((c.cap:Int)≤(c.tr:Int)+1)=false:=decide_eq_false (by omega);rw[hd] at hfl;have HFL:=hid hfl;clear hfl hd;unfold Kc.fail;simp only[ge_iff_le];rw[if_neg hlast];clear hlast ht;go_enter Tryz.func169,Tryz.ntmps169;go_wp2_with fail;refine(HFL.out _ HS0.out).mono (mvD HM0 fun w1 rv1 HS1 HM1=>?_);go_wp2_with fail
 go_end0
 exact⟨_,rfl,HS1.out,HM1.out⟩
theorem seqFail_o (w:World) (h:St w sb mb lb ty o c rv l) (ht:c.tr<1000):Calls Tryz.prog 169 #[.pointer (some ⟨sb,0,none⟩)] w (Did sb mb lb ty o w rv (c.fail (·.fin 1)) l (.tuple #[])):=by
 by_cases hl:c.cap≤c.tr+1
 ·exact seqFail_last sb mb lb ty o c rv l w h ht hl
 ·exact seqFail_again sb mb lb ty o c rv l w h ht hl
theorem seq_r0_odd (w:World) (h:St w sb mb lb ty o c rv l) (hph:c.ph=0) (ht:c.tr<1000) (hj:c.base+0<l.length) (hodd:c.rdm l 0%2=1):Calls Tryz.prog 144 #[.pointer (some ⟨sb,0,none⟩)] w (Did sb mb lb ty o w rv (({ c with A:=c.rdm l 0 }:Kc).fail (·.fin 1)) l (.tuple #[])):=by
 obtain⟨HS0,HM0,hfit,HF,HWD,HSL,HCP,HNR⟩:=h.start;clear hfit h;have HPH:=hid hph;clear hph;obtain⟨u0,hu0,hr0⟩:=HS0.out.op.row;have c10_0:=hr0.ph 10 0 HPH;clear hr0 hu0;have hz:=rdm_bd hj HS0.out.mem.w32;have HR:=hid fun W (h:St W sb mb lb ty o c rv l)=>read_o sb mb lb ty o c rv l 0 0 W h (by omega) hj
 obtain⟨z,hz'⟩:∃ x,c.rdm l 0=x:=⟨_,rfl⟩;rw[hz'] at HR hz;try rw[hz']
 have Hz':=hid hz';clear hz' hj;have hz0:=hz.1;have hz1:=hz.2;clear hz;rw[Hz'.out] at hodd;have hd:((z%2)==1)=true:=by rw[hodd];rfl
 have hfl:=fun W (h:St W sb mb lb ty o { c with A:=z } rv l)=>seqFail_o sb mb lb ty o { c with A:=z } rv l W h ht
 have HFL:=hid hfl;clear hfl ht;clear hodd;go_enter Tryz.func144,Tryz.ntmps144;go_wp2_with fail;refine(HR.out _ HS0.out).mono (mvK HM0 fun w1 HS1 HM1=>?_);obtain⟨u1,hu1,hr1⟩:=HS1.out.op.row;have c13_1:=hr1.at 13 (.int .u32 c.A);have f13_1:=hr1.frozen 13;clear hr1 hu1;go_wp2_with fail;obtain⟨HS2,HM2⟩:=nxx (HS1.out.setA (z) ⟨hz0,hz1⟩) HM1;refine(HFL.out _ HS2.out).mono (mvD HM2 fun w3 rv3 HS3 HM3=>?_);go_wp2_with fail
 go_end0
 exact⟨_,rfl,HS3.out,HM3.out⟩
theorem seq_r0_even (w:World) (h:St w sb mb lb ty o c rv l) (hph:c.ph=0) (ht:c.tr<1000) (hj:c.base+0<l.length) (hodd:¬ (c.rdm l 0%2=1)):Calls Tryz.prog 144 #[.pointer (some ⟨sb,0,none⟩)] w (Did sb mb lb ty o w rv (({ c with A:=c.rdm l 0 }:Kc).go 1) l (.tuple #[])):=by
 obtain⟨HS0,HM0,hfit,HF,HWD,HSL,HCP,HNR⟩:=h.start;clear hfit h;have HPH:=hid hph;clear hph;obtain⟨u0,hu0,hr0⟩:=HS0.out.op.row;have c10_0:=hr0.ph 10 0 HPH;clear hr0 hu0;have hz:=rdm_bd hj HS0.out.mem.w32;have HR:=hid fun W (h:St W sb mb lb ty o c rv l)=>read_o sb mb lb ty o c rv l 0 0 W h (by omega) hj
 obtain⟨z,hz'⟩:∃ x,c.rdm l 0=x:=⟨_,rfl⟩;rw[hz'] at HR hz;try rw[hz']
 have Hz':=hid hz';clear hz' hj;have hz0:=hz.1;have hz1:=hz.2;clear hz;rw[Hz'.out] at hodd;have hd:((z%2)==1)=false:=by simp;omega
 have hfl:=fun W (h:St W sb mb lb ty o { c with A:=z } rv l)=>seqFail_o sb mb lb ty o { c with A:=z } rv l W h ht
 have HFL:=hid hfl;clear hfl ht;clear hodd;go_enter Tryz.func144,Tryz.ntmps144;go_wp2_with fail;refine(HR.out _ HS0.out).mono (mvK HM0 fun w1 HS1 HM1=>?_);obtain⟨u1,hu1,hr1⟩:=HS1.out.op.row;have c13_1:=hr1.at 13 (.int .u32 c.A);have f13_1:=hr1.frozen 13;clear hr1 hu1;go_wp2_with fail;obtain⟨HS2,HM2⟩:=nxx (HS1.out.setA (z) ⟨hz0,hz1⟩) HM1;go_wp2_with fail;refine(go_o sb mb lb ty o _ _ _ 1 1 _ HS2.out rfl).mono (mvK HM2 fun w3 HS3 HM3=>?_);go_wp2_with fail
 go_end0
 exact⟨_,rfl,HS3.out,HM3.out⟩
theorem seq_r1 (w:World) (h:St w sb mb lb ty o c rv l) (hph:c.ph=1) (hwr:c.wr=true→c.i<c.rc.length) (hrl:c.rc.length≤1000000) (hi2:c.i<1000) (hj:c.base+(1+c.i)<l.length) (hf1:1≤1000000):Calls Tryz.prog 144 #[.pointer (some ⟨sb,0,none⟩)] w (Did sb mb lb ty o w rv (c.word l (1) (·.go 2)).1 (c.word l (1) (·.go 2)).2 (.tuple #[])):=by
 obtain⟨HS0,HM0,hfit,HF,HWD,HSL,HCP,HNR⟩:=h.start;clear hfit h;have HPH:=hid hph;clear hph;obtain⟨u0,hu0,hr0⟩:=HS0.out.op.row;have c10_0:=hr0.ph 10 1 HPH;clear hr0 hu0;have HWO:=hid fun W (rv:Value) (h:St W sb mb lb ty o c rv l)=>word_o sb mb lb ty o c rv l (1) W h hwr hrl hi2 hj hf1
 clear hwr hrl hi2 hj hf1;rw[Kc.word_eq]
 by_cases hlast:c.wd≤c.i+1
 ·rw[if_pos hlast];have hd:decide ((c.wd:Int)≤(c.i:Int)+1)=true:=decide_eq_true (by omega);rw[hd] at HWO;clear hlast hd;go_enter Tryz.func144,Tryz.ntmps144;go_wp2_with fail;refine(HWO.out _ _ HS0.out).mono (mvD HM0 fun w1 rv1 HS1 HM1=>?_);go_wp2_with fail;refine(go_o sb mb lb ty o _ _ _ 2 2 _ HS1.out rfl).mono (mvK HM1 fun w2 HS2 HM2=>?_);go_wp2_with fail
  go_end0
  exact⟨_,rfl,HS2.out,HM2.out⟩
 ·rw[if_neg hlast];have hd:decide ((c.wd:Int)≤(c.i:Int)+1)=false:=decide_eq_false (by omega);rw[hd] at HWO;clear hlast hd;go_enter Tryz.func144,Tryz.ntmps144;go_wp2_with fail;refine(HWO.out _ _ HS0.out).mono (mvD HM0 fun w1 rv1 HS1 HM1=>?_);go_wp2_with fail
  go_end0
  exact⟨_,rfl,HS1.out,HM1.out⟩
theorem seq_r2_same (w:World) (h:St w sb mb lb ty o c rv l) (hph:c.ph=2) (ht:c.tr<1000) (hj:c.base+0<l.length) (hs:c.rdm l 0=c.A):Calls Tryz.prog 144 #[.pointer (some ⟨sb,0,none⟩)] w (Did sb mb lb ty o w rv (c.fin 0) l (.tuple #[])):=by
 obtain⟨HS0,HM0,hfit,HF,HWD,HSL,HCP,HNR⟩:=h.start;clear hfit h;have HPH:=hid hph;clear hph;obtain⟨u0,hu0,hr0⟩:=HS0.out.op.row;have c10_0:=hr0.ph 10 2 HPH;clear hr0 hu0;have hz:=rdm_bd hj HS0.out.mem.w32;have HR:=hid fun W (h:St W sb mb lb ty o c rv l)=>read_o sb mb lb ty o c rv l 0 0 W h (by omega) hj
 obtain⟨z,hz'⟩:∃ x,c.rdm l 0=x:=⟨_,rfl⟩;rw[hz'] at HR hz;try rw[hz']
 have Hz':=hid hz';clear hz' hj;have hz0:=hz.1;have hz1:=hz.2;clear hz;rw[Hz'.out] at hs;have hd:(z==c.A)=true:=by simpa using hs
 have HFL:=hid fun W (h:St W sb mb lb ty o c rv l)=>seqFail_o sb mb lb ty o c rv l W h ht
 clear ht hs;go_enter Tryz.func144,Tryz.ntmps144;go_wp2_with fail;refine rgK (S:=(fun w':World=>w'.cell? ⟨sb,13,none⟩=some (.int .u32 c.A))) HS0 HM0 (fun HS1=>let ⟨_,_,hr0⟩:=HS1.out.op.row;(hr0.cell 13).trans rfl) fun w1 HS1 HM1 hHeld=>?_
 refine tk4 0 1 2 4 ?_;refine tk4 5 6 7 8 ?_;refine clH 3 (fun K hK=>?_)
 ·go_simp;refine(HR.out _ HS1.out).mono (mvK HM1 fun w2 HS2 HM2=>?_);obtain⟨u2,hu2,hr2⟩:=HS2.out.op.row;have hSx2:(fun w':World=>w'.cell? ⟨sb,13,none⟩=some (.int .u32 c.A)) w2:=(hr2.cell 13).trans rfl;clear hr2 hu2;refine kH hK hSx2 fun hHeld=>?_
  clear hK K;refine tkH 9 ?_;refine dnH ?_;clear hHeld hSx2;go_wp2_with fail;refine(end_o sb mb lb ty o _ _ _ 0 _ HS2.out).mono (mvD HM2 fun w3 rv3 HS3 HM3=>?_);go_wp2_with fail
  go_end0
  exact⟨_,rfl,HS3.out,HM3.out⟩
theorem seq_r2_other (w:World) (h:St w sb mb lb ty o c rv l) (hph:c.ph=2) (ht:c.tr<1000) (hj:c.base+0<l.length) (hs:¬ (c.rdm l 0=c.A)):Calls Tryz.prog 144 #[.pointer (some ⟨sb,0,none⟩)] w (Did sb mb lb ty o w rv (c.fail (·.fin 1)) l (.tuple #[])):=by
 obtain⟨HS0,HM0,hfit,HF,HWD,HSL,HCP,HNR⟩:=h.start;clear hfit h;have HPH:=hid hph;clear hph;obtain⟨u0,hu0,hr0⟩:=HS0.out.op.row;have c10_0:=hr0.ph 10 2 HPH;clear hr0 hu0;have hz:=rdm_bd hj HS0.out.mem.w32;have HR:=hid fun W (h:St W sb mb lb ty o c rv l)=>read_o sb mb lb ty o c rv l 0 0 W h (by omega) hj
 obtain⟨z,hz'⟩:∃ x,c.rdm l 0=x:=⟨_,rfl⟩;rw[hz'] at HR hz;try rw[hz']
 have Hz':=hid hz';clear hz' hj;have hz0:=hz.1;have hz1:=hz.2;clear hz;rw[Hz'.out] at hs;have hd:(z==c.A)=false:=by simpa using hs
 have HFL:=hid fun W (h:St W sb mb lb ty o c rv l)=>seqFail_o sb mb lb ty o c rv l W h ht
 clear ht hs;go_enter Tryz.func144,Tryz.ntmps144;go_wp2_with fail;refine rgK (S:=(fun w':World=>w'.cell? ⟨sb,13,none⟩=some (.int .u32 c.A))) HS0 HM0 (fun HS1=>let ⟨_,_,hr0⟩:=HS1.out.op.row;(hr0.cell 13).trans rfl) fun w1 HS1 HM1 hHeld=>?_
 refine tk4 0 1 2 4 ?_;refine tk4 5 6 7 8 ?_;refine clH 3 (fun K hK=>?_)
 ·go_simp;refine(HR.out _ HS1.out).mono (mvK HM1 fun w2 HS2 HM2=>?_);obtain⟨u2,hu2,hr2⟩:=HS2.out.op.row;have hSx2:(fun w':World=>w'.cell? ⟨sb,13,none⟩=some (.int .u32 c.A)) w2:=(hr2.cell 13).trans rfl;clear hr2 hu2;refine kH hK hSx2 fun hHeld=>?_
  clear hK K;refine tkH 9 ?_;refine dnH ?_;clear hHeld hSx2;go_wp2_with fail;refine(HFL.out _ HS2.out).mono (mvD HM2 fun w3 rv3 HS3 HM3=>?_);go_wp2_with fail
  go_end0
  exact⟨_,rfl,HS3.out,HM3.out⟩
end
end Go.Proofs.YtolmpehgeinlkaaGreatDoor
