/- Counters; the kind seq: each step of a write, and of a read. -/
import Derived.Test.YtabfcjohdgjkoaaGreatDoorZcOgH
namespace Go.Proofs.YtabfcjohdgjkoaaGreatDoor
open Go.RowKit
open Go.Lib (hid)
attribute [local go_sem] Oper.semAt_some
set_option maxHeartbeats 1000000
set_option maxRecDepth 100000
theorem gL {v m:Int} (h0:0≤v) (h1:v<m):v.tmod m=v:=by
 rw[Int.tmod_eq_emod_of_nonneg h0,Int.emod_eq_of_lt h0 h1]
theorem E5 (v m:Int) (w:World) (h0:0≤v) (h1:v<m) (h2:2≤m) (h3:m<4294967296) (h4:v+1<m):Calls Tryz.prog 253 #[.int .u32 v,.int .u32 1,.int .u32 m] w fun e w'=>e=.returned (.int .u32 (v+1))∧Below w.heap.size w w':=by
 have t1:=gL h0 h1;have t2:(1:Int).tmod m=1:=gL (by omega) (by omega);have m0:(m==0)=false:=by simp;omega
 have m1:¬ m=0:=by omega
 have e1:IntKind.u32.wrap v=v:=aK h0 (by omega);have e2:IntKind.u32.wrap (m - v)=m - v:=aK (by omega) (by omega);have e3:(m - v)%4294967296=m - v:=Int.emod_eq_of_lt (by omega) (by omega);have d1:decide (m - v≤1)=false:=decide_eq_false (by omega);have d2:¬ (m - v≤1):=by omega
 have pH:=hid ((Below.refl w.heap.size w).drew);go_enter Tryz.func253,Tryz.ntmps253;go_wp2_with fail;refine fg (S:=(fun _:World=>True)) (trivial) fun wd bq hHeld=>?_
 rw[bq] at pH;clear bq;refine ai 0 1 2 3 ?_;refine ai 4 5 6 7 ?_;refine aY ?_;clear hHeld;go_wp2_with fail;go_ret;exact⟨rfl,pH.out⟩
theorem BC (v m:Int) (w:World) (h0:0≤v) (h1:v<m) (h2:2≤m) (h3:m<4294967296) (h4:v+1=m):Calls Tryz.prog 253 #[.int .u32 v,.int .u32 1,.int .u32 m] w fun e w'=>e=.returned (.int .u32 (0))∧Below w.heap.size w w':=by
 have t1:=gL h0 h1;have t2:(1:Int).tmod m=1:=gL (by omega) (by omega);have m0:(m==0)=false:=by simp;omega
 have m1:¬ m=0:=by omega
 have e1:IntKind.u32.wrap v=v:=aK h0 (by omega);have e2:IntKind.u32.wrap (m - v)=m - v:=aK (by omega) (by omega);have e3:(m - v)%4294967296=m - v:=Int.emod_eq_of_lt (by omega) (by omega);have d1:decide (m - v≤1)=true:=decide_eq_true (by omega);have d2:m - v≤1:=by omega
 have e4:(1 - (m - v))%4294967296=0:=by rw[show 1 - (m - v)=0 by omega];rfl
 have pH:=hid ((Below.refl w.heap.size w).drew);go_enter Tryz.func253,Tryz.ntmps253;go_wp2_with fail;refine fg (S:=(fun _:World=>True)) (trivial) fun wd bq hHeld=>?_
 rw[bq] at pH;clear bq;refine ai 0 1 2 3 ?_;refine ai 4 5 6 7 ?_;refine aY ?_;clear hHeld;go_wp2_with fail;go_ret;exact⟨rm (by omega),pH.out⟩
theorem AV (v m:Int) (w:World) (h0:0≤v) (h1:v<m) (h2:2≤m) (h3:m<4294967296):Calls Tryz.prog 213 #[.int .u32 v,.int .u32 m] w fun e w'=>e=.returned (.int .u32 (Kc.inc v m))∧Below w.heap.size w w':=by
 have hs:Calls Tryz.prog 253 #[.int .u32 v,.int .u32 1,.int .u32 m] w fun e w'=>e=.returned (.int .u32 (Kc.inc v m))∧Below w.heap.size w w':=by
  unfold Kc.inc
  split
  ·exact E5 v m w h0 h1 h2 h3 ‹_›
  ·exact BC v m w h0 h1 h2 h3 (by omega)
 have HS:=hid hs;clear hs;obtain⟨q,hq⟩:∃ x,Kc.inc v m=x:=⟨_,rfl⟩;rw[hq] at HS ⊢;clear hq;go_enter Tryz.func213,Tryz.ntmps213;go_wp2_with fail;refine HS.out.mono ?_;rintro e w1 ⟨rfl,hb⟩;have HB:=hid hb;clear hb;go_wp2_with fail;go_ret;exact⟨rfl,HB.out⟩
theorem Hi (a b m:Int) (w:World) (h0:0≤a) (h1:a<m) (h2:0≤b) (h3:b<m) (h5:m<4294967296) (h4:a≤b):Calls Tryz.prog 215 #[.int .u32 a,.int .u32 b,.int .u32 m] w fun e w'=>e=.returned (.int .u32 (b - a))∧Below w.heap.size w w':=by
 have t1:=gL h0 h1;have t2:=gL h2 h3;have m0:(m==0)=false:=by simp;omega
 have m1:¬ m=0:=by omega
 have d1:decide (b<a)=false:=decide_eq_false (by omega);have d2:¬ (b<a):=by omega
 have a9:a<4294967296:=by omega
 have b9:b<4294967296:=by omega
 have pH:=hid ((Below.refl w.heap.size w).drew);go_enter Tryz.func215,Tryz.ntmps215;go_wp2_with fail;refine fg (S:=(fun _:World=>True)) (trivial) fun wd bq hHeld=>?_
 rw[bq] at pH;clear bq;refine ai 0 1 2 3 ?_;refine ai 4 5 6 7 ?_;refine aY ?_;clear hHeld;go_wp2_with fail;go_ret;exact⟨rfl,pH.out⟩
theorem xd (a b m:Int) (w:World) (h0:0≤a) (h1:a<m) (h2:0≤b) (h3:b<m) (h5:m<4294967296) (h4:¬ (a≤b)):Calls Tryz.prog 215 #[.int .u32 a,.int .u32 b,.int .u32 m] w fun e w'=>e=.returned (.int .u32 (b+m - a))∧Below w.heap.size w w':=by
 have t1:=gL h0 h1;have t2:=gL h2 h3;have m0:(m==0)=false:=by simp;omega
 have m1:¬ m=0:=by omega
 have d1:decide (b<a)=true:=decide_eq_true (by omega);have d2:b<a:=by omega
 have a9:a<4294967296:=by omega
 have b9:b<4294967296:=by omega
 have pH:=hid ((Below.refl w.heap.size w).drew);go_enter Tryz.func215,Tryz.ntmps215;go_wp2_with fail;refine fg (S:=(fun _:World=>True)) (trivial) fun wd bq hHeld=>?_
 rw[bq] at pH;clear bq;refine ai 0 1 2 3 ?_;refine ai 4 5 6 7 ?_;refine aY ?_;clear hHeld;go_wp2_with fail;go_ret;exact⟨rm (by omega),pH.out⟩
theorem sy (a b m:Int) (w:World) (h0:0≤a) (h1:a<m) (h2:0≤b) (h3:b<m) (h5:m<4294967296):Calls Tryz.prog 215 #[.int .u32 a,.int .u32 b,.int .u32 m] w fun e w'=>e=.returned (.int .u32 (Kc.gap a b m))∧Below w.heap.size w w':=by
 unfold Kc.gap
 split
 ·exact Hi a b m w h0 h1 h2 h3 h5 ‹_›
 ·exact xd a b m w h0 h1 h2 h3 h5 ‹_›
section
variable (sb mb lb:Nat) (ty:TypeId) (o:Ob) (c:Kc) (rv:Value) (l:List Int)
theorem IU (w:World) (h:St w sb mb lb ty o c rv l) (ae:c.ph=0) (hj:c.base+0<l.length):Calls Tryz.prog 164 #[.pointer (some ⟨sb,0,none⟩)] w (Did sb mb lb ty o w rv (({ c with A:=c.rdm l 0 }:Kc).go 1) l (.tuple #[])):=by
 obtain⟨aA,bh,am,HF,cL,ct,dn,cQ⟩:=h.start;clear am h;have bP:=hid ae;clear ae;obtain⟨u0,bC,ak⟩:=aA.out.op.row;have c10_0:=ak.ph 10 0 bP;clear ak bC;have hz:=cR hj aA.out.mem.w32;have HR:=hid fun W (h:St W sb mb lb ty o c rv l)=>cS sb mb lb ty o c rv l 0 0 W h (by omega) hj
 obtain⟨z,aP⟩:∃ x,c.rdm l 0=x:=⟨_,rfl⟩;rw[aP] at HR hz;try rw[aP]
 have lH:=hid aP;clear aP hj;have eJ:=hz.1;have d8:=hz.2;clear hz;go_enter Tryz.func164,Tryz.ntmps164;go_wp2_with fail;refine(HR.out _ aA.out).mono (cu bh fun w1 al aT=>?_);obtain⟨u1,iz,bV⟩:=al.out.op.row;have c13_1:=bV.at 13 (.int .u32 c.A);have f13_1:=bV.frozen 13;clear bV iz;go_wp2_with fail;obtain⟨aL,bk⟩:=qm (al.out.setA (z) ⟨eJ,d8⟩) aT;go_wp2_with fail;refine(dy sb mb lb ty o _ _ _ 1 1 _ aL.out rfl).mono (cu bk fun w3 aZ bx=>?_);go_wp2_with fail
 go_end0
 exact⟨_,rfl,aZ.out,bx.out⟩
theorem IV (w:World) (h:St w sb mb lb ty o c rv l) (ae:c.ph=1) (hj:c.base+0<l.length):Calls Tryz.prog 164 #[.pointer (some ⟨sb,0,none⟩)] w (Did sb mb lb ty o w rv (c.go 2) (c.wrm l 0 ((c.A+1)%4294967296)) (.tuple #[])):=by
 obtain⟨aA,bh,am,HF,cL,ct,dn,cQ⟩:=h.start;clear am h;have bP:=hid ae;clear ae;obtain⟨u0,bC,ak⟩:=aA.out.op.row;have c10_0:=ak.ph 10 1 bP;clear ak bC;have HW:=hid fun W (h:St W sb mb lb ty o c rv l)=>ef sb mb lb ty o c rv l 0 0 ((c.A+1)%4294967296) W h (by omega) hj (by omega)
 clear hj;have hu:IntKind.u32.wrap (c.A+1)=(c.A+1)%4294967296:=by simp[IntKind.wrap,IntKind.signed,IntKind.bits]
 go_enter Tryz.func164,Tryz.ntmps164;go_wp2_with fail;refine ea (S:=(fun w':World=>w'.cell? ⟨sb,13,none⟩=some (.int .u32 c.A))) aA bh (fun al=>let ⟨_,_,ak⟩:=al.out.op.row;(ak.cell 13).trans rfl) fun w1 al aT hHeld=>?_
 refine ai 0 1 2 3 ?_;refine ai 4 5 6 7 ?_;refine aX 8 ?_;refine aV 9 (fun K hK=>?_)
 ·go_simp;refine(HW.out _ al.out).mono (cu aT fun w2 aL bk=>?_);obtain⟨u2,bI,av⟩:=aL.out.op.row;have ap:(fun w':World=>w'.cell? ⟨sb,13,none⟩=some (.int .u32 c.A)) w2:=(av.cell 13).trans rfl;clear av bI;refine kH hK ap fun hHeld=>?_
  clear hK K;refine aY ?_;clear hHeld ap;go_wp2_with fail;refine(dy sb mb lb ty o _ _ _ 2 2 _ aL.out rfl).mono (cu bk fun w3 aZ bx=>?_);go_wp2_with fail
  go_end0
  exact⟨_,rfl,aZ.out,bx.out⟩
theorem IW (w:World) (h:St w sb mb lb ty o c rv l) (ae:c.ph=2) (dP:c.wr=true→c.i<c.rc.length) (di:c.rc.length≤1000000) (fy:c.i<1000) (hj:c.base+(1+c.i)<l.length) (fL:1≤1000000):Calls Tryz.prog 164 #[.pointer (some ⟨sb,0,none⟩)] w (Did sb mb lb ty o w rv (c.word l (1) (·.go 3)).1 (c.word l (1) (·.go 3)).2 (.tuple #[])):=by
 obtain⟨aA,bh,am,HF,cL,ct,dn,cQ⟩:=h.start;clear am h;have bP:=hid ae;clear ae;obtain⟨u0,bC,ak⟩:=aA.out.op.row;have c10_0:=ak.ph 10 2 bP;clear ak bC;have fc:=hid fun W (rv:Value) (h:St W sb mb lb ty o c rv l)=>fR sb mb lb ty o c rv l (1) W h dP di fy hj fL
 clear dP di fy hj fL;rw[Kc.word_eq]
 by_cases ao:c.wd≤c.i+1
 ·rw[if_pos ao];have hd:decide ((c.wd:Int)≤(c.i:Int)+1)=true:=decide_eq_true (by omega);rw[hd] at fc;clear ao hd;go_enter Tryz.func164,Tryz.ntmps164;go_wp2_with fail;refine(fc.out _ _ aA.out).mono (fz bh fun w1 rv1 al aT=>?_);go_wp2_with fail;refine(dy sb mb lb ty o _ _ _ 3 3 _ al.out rfl).mono (cu aT fun w2 aL bk=>?_);go_wp2_with fail
  go_end0
  exact⟨_,rfl,aL.out,bk.out⟩
 ·rw[if_neg ao];have hd:decide ((c.wd:Int)≤(c.i:Int)+1)=false:=decide_eq_false (by omega);rw[hd] at fc;clear ao hd;go_enter Tryz.func164,Tryz.ntmps164;go_wp2_with fail;refine(fc.out _ _ aA.out).mono (fz bh fun w1 rv1 al aT=>?_);go_wp2_with fail
  go_end0
  exact⟨_,rfl,al.out,aT.out⟩
theorem IX (w:World) (h:St w sb mb lb ty o c rv l) (ae:c.ph=3) (hj:c.base+0<l.length):Calls Tryz.prog 164 #[.pointer (some ⟨sb,0,none⟩)] w (Did sb mb lb ty o w rv (c.fin 0) (c.wrm l 0 ((c.A+2)%4294967296)) (.tuple #[])):=by
 obtain⟨aA,bh,am,HF,cL,ct,dn,cQ⟩:=h.start;clear am h;have bP:=hid ae;clear ae;obtain⟨u0,bC,ak⟩:=aA.out.op.row;have c10_0:=ak.ph 10 3 bP;clear ak bC;have HW:=hid fun W (h:St W sb mb lb ty o c rv l)=>ef sb mb lb ty o c rv l 0 0 ((c.A+2)%4294967296) W h (by omega) hj (by omega)
 clear hj;have hu:IntKind.u32.wrap (c.A+2)=(c.A+2)%4294967296:=by simp[IntKind.wrap,IntKind.signed,IntKind.bits]
 go_enter Tryz.func164,Tryz.ntmps164;go_wp2_with fail;refine ea (S:=(fun w':World=>w'.cell? ⟨sb,13,none⟩=some (.int .u32 c.A))) aA bh (fun al=>let ⟨_,_,ak⟩:=al.out.op.row;(ak.cell 13).trans rfl) fun w1 al aT hHeld=>?_
 refine ai 0 1 2 3 ?_;refine ai 4 5 6 7 ?_;refine aX 8 ?_;refine aV 9 (fun K hK=>?_)
 ·go_simp;refine(HW.out _ al.out).mono (cu aT fun w2 aL bk=>?_);obtain⟨u2,bI,av⟩:=aL.out.op.row;have ap:(fun w':World=>w'.cell? ⟨sb,13,none⟩=some (.int .u32 c.A)) w2:=(av.cell 13).trans rfl;clear av bI;refine kH hK ap fun hHeld=>?_
  clear hK K;refine aY ?_;clear hHeld ap;go_wp2_with fail;refine(fT sb mb lb ty o _ _ _ 0 _ aL.out).mono (fz bk fun w3 rv3 aZ bx=>?_);go_wp2_with fail
  go_end0
  exact⟨_,rfl,aZ.out,bx.out⟩
theorem rr (w:World) (h:St w sb mb lb ty o c rv l) (ht:c.tr<1000) (ao:c.cap≤c.tr+1):Calls Tryz.prog 212 #[.pointer (some ⟨sb,0,none⟩)] w (Did sb mb lb ty o w rv (c.fail (·.fin 1)) l (.tuple #[])):=by
 obtain⟨aA,bh,am,HF,cL,ct,dn,cQ⟩:=h.start;clear am h;have kv:=fun W (h:St W sb mb lb ty o c rv l)=>l4 sb mb lb ty o c rv l W h ht
 have hd:decide ((c.cap:Int)≤(c.tr:Int)+1)=true:=decide_eq_true (by omega);rw[hd] at kv;have rV:=hid kv;clear kv hd;unfold Kc.fail;simp only[ge_iff_le];rw[if_pos ao];clear ao ht;go_enter Tryz.func212,Tryz.ntmps212;go_wp2_with fail;refine(rV.out _ aA.out).mono (fz bh fun w1 rv1 al aT=>?_);go_wp2_with fail;refine(fT sb mb lb ty o _ _ _ 1 _ al.out).mono (fz aT fun w2 rv2 aL bk=>?_);go_wp2_with fail
 go_end0
 exact⟨_,rfl,aL.out,bk.out⟩
theorem pF (w:World) (h:St w sb mb lb ty o c rv l) (ht:c.tr<1000) (ao:¬ (c.cap≤c.tr+1)):Calls Tryz.prog 212 #[.pointer (some ⟨sb,0,none⟩)] w (Did sb mb lb ty o w rv (c.fail (·.fin 1)) l (.tuple #[])):=by
 obtain⟨aA,bh,am,HF,cL,ct,dn,cQ⟩:=h.start;clear am h;have kv:=fun W (h:St W sb mb lb ty o c rv l)=>l4 sb mb lb ty o c rv l W h ht
 have hd:decide ((c.cap:Int)≤(c.tr:Int)+1)=false:=decide_eq_false (by omega);rw[hd] at kv;have rV:=hid kv;clear kv hd;unfold Kc.fail;simp only[ge_iff_le];rw[if_neg ao];clear ao ht;go_enter Tryz.func212,Tryz.ntmps212;go_wp2_with fail;refine(rV.out _ aA.out).mono (fz bh fun w1 rv1 al aT=>?_);go_wp2_with fail
 go_end0
 exact⟨_,rfl,al.out,aT.out⟩
theorem jO (w:World) (h:St w sb mb lb ty o c rv l) (ht:c.tr<1000):Calls Tryz.prog 212 #[.pointer (some ⟨sb,0,none⟩)] w (Did sb mb lb ty o w rv (c.fail (·.fin 1)) l (.tuple #[])):=by
 by_cases hl:c.cap≤c.tr+1
 ·exact rr sb mb lb ty o c rv l w h ht hl
 ·exact pF sb mb lb ty o c rv l w h ht hl
theorem uQ (w:World) (h:St w sb mb lb ty o c rv l) (ae:c.ph=0) (ht:c.tr<1000) (hj:c.base+0<l.length) (uq:c.rdm l 0%2=1):Calls Tryz.prog 165 #[.pointer (some ⟨sb,0,none⟩)] w (Did sb mb lb ty o w rv (({ c with A:=c.rdm l 0 }:Kc).fail (·.fin 1)) l (.tuple #[])):=by
 obtain⟨aA,bh,am,HF,cL,ct,dn,cQ⟩:=h.start;clear am h;have bP:=hid ae;clear ae;obtain⟨u0,bC,ak⟩:=aA.out.op.row;have c10_0:=ak.ph 10 0 bP;clear ak bC;have hz:=cR hj aA.out.mem.w32;have HR:=hid fun W (h:St W sb mb lb ty o c rv l)=>cS sb mb lb ty o c rv l 0 0 W h (by omega) hj
 obtain⟨z,aP⟩:∃ x,c.rdm l 0=x:=⟨_,rfl⟩;rw[aP] at HR hz;try rw[aP]
 have lH:=hid aP;clear aP hj;have eJ:=hz.1;have d8:=hz.2;clear hz;rw[lH.out] at uq;have hd:((z%2)==1)=true:=by rw[uq];rfl
 have kv:=fun W (h:St W sb mb lb ty o { c with A:=z } rv l)=>jO sb mb lb ty o { c with A:=z } rv l W h ht
 have rV:=hid kv;clear kv ht;clear uq;go_enter Tryz.func165,Tryz.ntmps165;go_wp2_with fail;refine(HR.out _ aA.out).mono (cu bh fun w1 al aT=>?_);obtain⟨u1,iz,bV⟩:=al.out.op.row;have c13_1:=bV.at 13 (.int .u32 c.A);have f13_1:=bV.frozen 13;clear bV iz;go_wp2_with fail;obtain⟨aL,bk⟩:=qm (al.out.setA (z) ⟨eJ,d8⟩) aT;refine(rV.out _ aL.out).mono (fz bk fun w3 rv3 aZ bx=>?_);go_wp2_with fail
 go_end0
 exact⟨_,rfl,aZ.out,bx.out⟩
theorem tz (w:World) (h:St w sb mb lb ty o c rv l) (ae:c.ph=0) (ht:c.tr<1000) (hj:c.base+0<l.length) (uq:¬ (c.rdm l 0%2=1)):Calls Tryz.prog 165 #[.pointer (some ⟨sb,0,none⟩)] w (Did sb mb lb ty o w rv (({ c with A:=c.rdm l 0 }:Kc).go 1) l (.tuple #[])):=by
 obtain⟨aA,bh,am,HF,cL,ct,dn,cQ⟩:=h.start;clear am h;have bP:=hid ae;clear ae;obtain⟨u0,bC,ak⟩:=aA.out.op.row;have c10_0:=ak.ph 10 0 bP;clear ak bC;have hz:=cR hj aA.out.mem.w32;have HR:=hid fun W (h:St W sb mb lb ty o c rv l)=>cS sb mb lb ty o c rv l 0 0 W h (by omega) hj
 obtain⟨z,aP⟩:∃ x,c.rdm l 0=x:=⟨_,rfl⟩;rw[aP] at HR hz;try rw[aP]
 have lH:=hid aP;clear aP hj;have eJ:=hz.1;have d8:=hz.2;clear hz;rw[lH.out] at uq;have hd:((z%2)==1)=false:=by simp;omega
 have kv:=fun W (h:St W sb mb lb ty o { c with A:=z } rv l)=>jO sb mb lb ty o { c with A:=z } rv l W h ht
 have rV:=hid kv;clear kv ht;clear uq;go_enter Tryz.func165,Tryz.ntmps165;go_wp2_with fail;refine(HR.out _ aA.out).mono (cu bh fun w1 al aT=>?_);obtain⟨u1,iz,bV⟩:=al.out.op.row;have c13_1:=bV.at 13 (.int .u32 c.A);have f13_1:=bV.frozen 13;clear bV iz;go_wp2_with fail;obtain⟨aL,bk⟩:=qm (al.out.setA (z) ⟨eJ,d8⟩) aT;go_wp2_with fail;refine(dy sb mb lb ty o _ _ _ 1 1 _ aL.out rfl).mono (cu bk fun w3 aZ bx=>?_);go_wp2_with fail
 go_end0
 exact⟨_,rfl,aZ.out,bx.out⟩
theorem IT (w:World) (h:St w sb mb lb ty o c rv l) (ae:c.ph=1) (dP:c.wr=true→c.i<c.rc.length) (di:c.rc.length≤1000000) (fy:c.i<1000) (hj:c.base+(1+c.i)<l.length) (fL:1≤1000000):Calls Tryz.prog 165 #[.pointer (some ⟨sb,0,none⟩)] w (Did sb mb lb ty o w rv (c.word l (1) (·.go 2)).1 (c.word l (1) (·.go 2)).2 (.tuple #[])):=by
 obtain⟨aA,bh,am,HF,cL,ct,dn,cQ⟩:=h.start;clear am h;have bP:=hid ae;clear ae;obtain⟨u0,bC,ak⟩:=aA.out.op.row;have c10_0:=ak.ph 10 1 bP;clear ak bC;have fc:=hid fun W (rv:Value) (h:St W sb mb lb ty o c rv l)=>fR sb mb lb ty o c rv l (1) W h dP di fy hj fL
 clear dP di fy hj fL;rw[Kc.word_eq]
 by_cases ao:c.wd≤c.i+1
 ·rw[if_pos ao];have hd:decide ((c.wd:Int)≤(c.i:Int)+1)=true:=decide_eq_true (by omega);rw[hd] at fc;clear ao hd;go_enter Tryz.func165,Tryz.ntmps165;go_wp2_with fail;refine(fc.out _ _ aA.out).mono (fz bh fun w1 rv1 al aT=>?_);go_wp2_with fail;refine(dy sb mb lb ty o _ _ _ 2 2 _ al.out rfl).mono (cu aT fun w2 aL bk=>?_);go_wp2_with fail
  go_end0
  exact⟨_,rfl,aL.out,bk.out⟩
 ·rw[if_neg ao];have hd:decide ((c.wd:Int)≤(c.i:Int)+1)=false:=decide_eq_false (by omega);rw[hd] at fc;clear ao hd;go_enter Tryz.func165,Tryz.ntmps165;go_wp2_with fail;refine(fc.out _ _ aA.out).mono (fz bh fun w1 rv1 al aT=>?_);go_wp2_with fail
  go_end0
  exact⟨_,rfl,al.out,aT.out⟩
theorem tA (w:World) (h:St w sb mb lb ty o c rv l) (ae:c.ph=2) (ht:c.tr<1000) (hj:c.base+0<l.length) (hs:c.rdm l 0=c.A):Calls Tryz.prog 165 #[.pointer (some ⟨sb,0,none⟩)] w (Did sb mb lb ty o w rv (c.fin 0) l (.tuple #[])):=by
 obtain⟨aA,bh,am,HF,cL,ct,dn,cQ⟩:=h.start;clear am h;have bP:=hid ae;clear ae;obtain⟨u0,bC,ak⟩:=aA.out.op.row;have c10_0:=ak.ph 10 2 bP;clear ak bC;have hz:=cR hj aA.out.mem.w32;have HR:=hid fun W (h:St W sb mb lb ty o c rv l)=>cS sb mb lb ty o c rv l 0 0 W h (by omega) hj
 obtain⟨z,aP⟩:∃ x,c.rdm l 0=x:=⟨_,rfl⟩;rw[aP] at HR hz;try rw[aP]
 have lH:=hid aP;clear aP hj;have eJ:=hz.1;have d8:=hz.2;clear hz;rw[lH.out] at hs;have hd:(z==c.A)=true:=by simpa using hs
 have rV:=hid fun W (h:St W sb mb lb ty o c rv l)=>jO sb mb lb ty o c rv l W h ht
 clear ht hs;go_enter Tryz.func165,Tryz.ntmps165;go_wp2_with fail;refine ea (S:=(fun w':World=>w'.cell? ⟨sb,13,none⟩=some (.int .u32 c.A))) aA bh (fun al=>let ⟨_,_,ak⟩:=al.out.op.row;(ak.cell 13).trans rfl) fun w1 al aT hHeld=>?_
 refine ai 0 1 2 4 ?_;refine ai 5 6 7 8 ?_;refine aV 3 (fun K hK=>?_)
 ·go_simp;refine(HR.out _ al.out).mono (cu aT fun w2 aL bk=>?_);obtain⟨u2,bI,av⟩:=aL.out.op.row;have ap:(fun w':World=>w'.cell? ⟨sb,13,none⟩=some (.int .u32 c.A)) w2:=(av.cell 13).trans rfl;clear av bI;refine kH hK ap fun hHeld=>?_
  clear hK K;refine aX 9 ?_;refine aY ?_;clear hHeld ap;go_wp2_with fail;refine(fT sb mb lb ty o _ _ _ 0 _ aL.out).mono (fz bk fun w3 rv3 aZ bx=>?_);go_wp2_with fail
  go_end0
  exact⟨_,rfl,aZ.out,bx.out⟩
theorem ru (w:World) (h:St w sb mb lb ty o c rv l) (ae:c.ph=2) (ht:c.tr<1000) (hj:c.base+0<l.length) (hs:¬ (c.rdm l 0=c.A)):Calls Tryz.prog 165 #[.pointer (some ⟨sb,0,none⟩)] w (Did sb mb lb ty o w rv (c.fail (·.fin 1)) l (.tuple #[])):=by
 obtain⟨aA,bh,am,HF,cL,ct,dn,cQ⟩:=h.start;clear am h;have bP:=hid ae;clear ae;obtain⟨u0,bC,ak⟩:=aA.out.op.row;have c10_0:=ak.ph 10 2 bP;clear ak bC;have hz:=cR hj aA.out.mem.w32;have HR:=hid fun W (h:St W sb mb lb ty o c rv l)=>cS sb mb lb ty o c rv l 0 0 W h (by omega) hj
 obtain⟨z,aP⟩:∃ x,c.rdm l 0=x:=⟨_,rfl⟩;rw[aP] at HR hz;try rw[aP]
 have lH:=hid aP;clear aP hj;have eJ:=hz.1;have d8:=hz.2;clear hz;rw[lH.out] at hs;have hd:(z==c.A)=false:=by simpa using hs
 have rV:=hid fun W (h:St W sb mb lb ty o c rv l)=>jO sb mb lb ty o c rv l W h ht
 clear ht hs;go_enter Tryz.func165,Tryz.ntmps165;go_wp2_with fail;refine ea (S:=(fun w':World=>w'.cell? ⟨sb,13,none⟩=some (.int .u32 c.A))) aA bh (fun al=>let ⟨_,_,ak⟩:=al.out.op.row;(ak.cell 13).trans rfl) fun w1 al aT hHeld=>?_
 refine ai 0 1 2 4 ?_;refine ai 5 6 7 8 ?_;refine aV 3 (fun K hK=>?_)
 ·go_simp;refine(HR.out _ al.out).mono (cu aT fun w2 aL bk=>?_);obtain⟨u2,bI,av⟩:=aL.out.op.row;have ap:(fun w':World=>w'.cell? ⟨sb,13,none⟩=some (.int .u32 c.A)) w2:=(av.cell 13).trans rfl;clear av bI;refine kH hK ap fun hHeld=>?_
  clear hK K;refine aX 9 ?_;refine aY ?_;clear hHeld ap;go_wp2_with fail;refine(rV.out _ aL.out).mono (fz bk fun w3 rv3 aZ bx=>?_);go_wp2_with fail
  go_end0
  exact⟨_,rfl,aZ.out,bx.out⟩
end
end Go.Proofs.YtabfcjohdgjkoaaGreatDoor
