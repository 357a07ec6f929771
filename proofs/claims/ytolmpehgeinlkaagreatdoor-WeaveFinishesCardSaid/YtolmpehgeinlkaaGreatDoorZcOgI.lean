/- Counters; the kind seq: each step of a write, and of a read. -/
import Derived.Test.YtolmpehgeinlkaaGreatDoorZcOgH
namespace Go.Proofs.YtolmpehgeinlkaaGreatDoor
open Go.RowKit
open Go.Lib (hid)
attribute [local go_sem] Oper.semAt_some
set_option maxHeartbeats 1000000
set_option maxRecDepth 100000
theorem ga {v m:Int} (h0:0≤v) (h1:v<m):v.tmod m=v:=by
 rw[Int.tmod_eq_emod_of_nonneg h0,Int.emod_eq_of_lt h0 h1]
theorem BG (v m:Int) (w:World) (h0:0≤v) (h1:v<m) (h2:2≤m) (h3:m<4294967296) (h4:v+1<m):Calls Tryz.prog 186 #[.int .u32 v,.int .u32 1,.int .u32 m] w fun e w'=>e=.returned (.int .u32 (v+1))∧Below w.heap.size w w':=by
 have t1:=ga h0 h1;have t2:(1:Int).tmod m=1:=ga (by omega) (by omega);have m0:(m==0)=false:=by simp;omega
 have m1:¬ m=0:=by omega
 have e1:IntKind.u32.wrap v=v:=aa h0 (by omega);have e2:IntKind.u32.wrap (m - v)=m - v:=aa (by omega) (by omega);have e3:(m - v)%4294967296=m - v:=Int.emod_eq_of_lt (by omega) (by omega);have d1:decide (m - v≤1)=false:=decide_eq_false (by omega);have d2:¬ (m - v≤1):=by omega
 have ox:=hid ((Below.refl w.heap.size w).drew);go_enter Tryz.func186,Tryz.ntmps186;go_wp2_with fail;refine dR (S:=(fun _:World=>True)) (trivial) fun wd aW hHeld=>?_
 rw[aW] at ox;clear aW;refine ap 0 1 2 3 ?_;refine ap 4 5 6 7 ?_;refine bh ?_;clear hHeld;go_wp2_with fail;go_ret;exact⟨rfl,ox.out⟩
theorem yY (v m:Int) (w:World) (h0:0≤v) (h1:v<m) (h2:2≤m) (h3:m<4294967296) (h4:v+1=m):Calls Tryz.prog 186 #[.int .u32 v,.int .u32 1,.int .u32 m] w fun e w'=>e=.returned (.int .u32 (0))∧Below w.heap.size w w':=by
 have t1:=ga h0 h1;have t2:(1:Int).tmod m=1:=ga (by omega) (by omega);have m0:(m==0)=false:=by simp;omega
 have m1:¬ m=0:=by omega
 have e1:IntKind.u32.wrap v=v:=aa h0 (by omega);have e2:IntKind.u32.wrap (m - v)=m - v:=aa (by omega) (by omega);have e3:(m - v)%4294967296=m - v:=Int.emod_eq_of_lt (by omega) (by omega);have d1:decide (m - v≤1)=true:=decide_eq_true (by omega);have d2:m - v≤1:=by omega
 have e4:(1 - (m - v))%4294967296=0:=by rw[show 1 - (m - v)=0 by omega];rfl
 have ox:=hid ((Below.refl w.heap.size w).drew);go_enter Tryz.func186,Tryz.ntmps186;go_wp2_with fail;refine dR (S:=(fun _:World=>True)) (trivial) fun wd aW hHeld=>?_
 rw[aW] at ox;clear aW;refine ap 0 1 2 3 ?_;refine ap 4 5 6 7 ?_;refine bh ?_;clear hHeld;go_wp2_with fail;go_ret;exact⟨pG (by omega),ox.out⟩
theorem xR (v m:Int) (w:World) (h0:0≤v) (h1:v<m) (h2:2≤m) (h3:m<4294967296):Calls Tryz.prog 170 #[.int .u32 v,.int .u32 m] w fun e w'=>e=.returned (.int .u32 (Kc.inc v m))∧Below w.heap.size w w':=by
 have hs:Calls Tryz.prog 186 #[.int .u32 v,.int .u32 1,.int .u32 m] w fun e w'=>e=.returned (.int .u32 (Kc.inc v m))∧Below w.heap.size w w':=by
  unfold Kc.inc
  split
  ·exact BG v m w h0 h1 h2 h3 ‹_›
  ·exact yY v m w h0 h1 h2 h3 (by omega)
 have HS:=hid hs;clear hs;obtain⟨q,hq⟩:∃ x,Kc.inc v m=x:=⟨_,rfl⟩;rw[hq] at HS ⊢;clear hq;go_enter Tryz.func170,Tryz.ntmps170;go_wp2_with fail;refine HS.out.mono ?_;rintro e w1 ⟨rfl,hb⟩;have HB:=hid hb;clear hb;go_wp2_with fail;go_ret;exact⟨rfl,HB.out⟩
theorem D7 (a b m:Int) (w:World) (h0:0≤a) (h1:a<m) (h2:0≤b) (h3:b<m) (h5:m<4294967296) (h4:a≤b):Calls Tryz.prog 172 #[.int .u32 a,.int .u32 b,.int .u32 m] w fun e w'=>e=.returned (.int .u32 (b - a))∧Below w.heap.size w w':=by
 have t1:=ga h0 h1;have t2:=ga h2 h3;have m0:(m==0)=false:=by simp;omega
 have m1:¬ m=0:=by omega
 have d1:decide (b<a)=false:=decide_eq_false (by omega);have d2:¬ (b<a):=by omega
 have a9:a<4294967296:=by omega
 have b9:b<4294967296:=by omega
 have ox:=hid ((Below.refl w.heap.size w).drew);go_enter Tryz.func172,Tryz.ntmps172;go_wp2_with fail;refine dR (S:=(fun _:World=>True)) (trivial) fun wd aW hHeld=>?_
 rw[aW] at ox;clear aW;refine ap 0 1 2 3 ?_;refine ap 4 5 6 7 ?_;refine bh ?_;clear hHeld;go_wp2_with fail;go_ret;exact⟨rfl,ox.out⟩
theorem vB (a b m:Int) (w:World) (h0:0≤a) (h1:a<m) (h2:0≤b) (h3:b<m) (h5:m<4294967296) (h4:¬ (a≤b)):Calls Tryz.prog 172 #[.int .u32 a,.int .u32 b,.int .u32 m] w fun e w'=>e=.returned (.int .u32 (b+m - a))∧Below w.heap.size w w':=by
 have t1:=ga h0 h1;have t2:=ga h2 h3;have m0:(m==0)=false:=by simp;omega
 have m1:¬ m=0:=by omega
 have d1:decide (b<a)=true:=decide_eq_true (by omega);have d2:b<a:=by omega
 have a9:a<4294967296:=by omega
 have b9:b<4294967296:=by omega
 have ox:=hid ((Below.refl w.heap.size w).drew);go_enter Tryz.func172,Tryz.ntmps172;go_wp2_with fail;refine dR (S:=(fun _:World=>True)) (trivial) fun wd aW hHeld=>?_
 rw[aW] at ox;clear aW;refine ap 0 1 2 3 ?_;refine ap 4 5 6 7 ?_;refine bh ?_;clear hHeld;go_wp2_with fail;go_ret;exact⟨pG (by omega),ox.out⟩
theorem rP (a b m:Int) (w:World) (h0:0≤a) (h1:a<m) (h2:0≤b) (h3:b<m) (h5:m<4294967296):Calls Tryz.prog 172 #[.int .u32 a,.int .u32 b,.int .u32 m] w fun e w'=>e=.returned (.int .u32 (Kc.gap a b m))∧Below w.heap.size w w':=by
 unfold Kc.gap
 split
 ·exact D7 a b m w h0 h1 h2 h3 h5 ‹_›
 ·exact vB a b m w h0 h1 h2 h3 h5 ‹_›
section
variable (sb mb lb:Nat) (ty:TypeId) (o:Ob) (c:Kc) (rv:Value) (l:List Int)
theorem ET (w:World) (h:St w sb mb lb ty o c rv l) (ae:c.ph=0) (hj:c.base+0<l.length):Calls Tryz.prog 143 #[.pointer (some ⟨sb,0,none⟩)] w (Did sb mb lb ty o w rv (({ c with A:=c.rdm l 0 }:Kc).go 1) l (.tuple #[])):=by
 obtain⟨aj,ay,ah,HF,bp,aS,bx,bj⟩:=h.start;clear ah h;have aI:=hid ae;clear ae;obtain⟨u0,bN,ag⟩:=aj.out.op.row;have c10_0:=ag.ph 10 0 aI;clear ag bN;have hz:=cR hj aj.out.mem.w32;have HR:=hid fun W (h:St W sb mb lb ty o c rv l)=>cX sb mb lb ty o c rv l 0 0 W h (by omega) hj
 obtain⟨z,ao⟩:∃ x,c.rdm l 0=x:=⟨_,rfl⟩;rw[ao] at HR hz;try rw[ao]
 have cm:=hid ao;clear ao hj;have dU:=hz.1;have dA:=hz.2;clear hz;go_enter Tryz.func143,Tryz.ntmps143;go_wp2_with fail;refine(HR.out _ aj.out).mono (bF ay fun w1 ai au=>?_);obtain⟨u1,gS,bi⟩:=ai.out.op.row;have c13_1:=bi.at 13 (.int .u32 c.A);have f13_1:=bi.frozen 13;clear bi gS;go_wp2_with fail;obtain⟨ar,aE⟩:=fW (ai.out.setA (z) ⟨dU,dA⟩) au;go_wp2_with fail;refine(dh sb mb lb ty o _ _ _ 1 1 _ ar.out rfl).mono (bF aE fun w3 aM bf=>?_);go_wp2_with fail
 go_end0
 exact⟨_,rfl,aM.out,bf.out⟩
theorem Dv (w:World) (h:St w sb mb lb ty o c rv l) (ae:c.ph=1) (hj:c.base+0<l.length):Calls Tryz.prog 143 #[.pointer (some ⟨sb,0,none⟩)] w (Did sb mb lb ty o w rv (c.go 2) (c.wrm l 0 ((c.A+1)%4294967296)) (.tuple #[])):=by
 obtain⟨aj,ay,ah,HF,bp,aS,bx,bj⟩:=h.start;clear ah h;have aI:=hid ae;clear ae;obtain⟨u0,bN,ag⟩:=aj.out.op.row;have c10_0:=ag.ph 10 1 aI;clear ag bN;have HW:=hid fun W (h:St W sb mb lb ty o c rv l)=>dN sb mb lb ty o c rv l 0 0 ((c.A+1)%4294967296) W h (by omega) hj (by omega)
 clear hj;have hu:IntKind.u32.wrap (c.A+1)=(c.A+1)%4294967296:=by simp[IntKind.wrap,IntKind.signed,IntKind.bits]
 go_enter Tryz.func143,Tryz.ntmps143;go_wp2_with fail;refine dM (S:=(fun w':World=>w'.cell? ⟨sb,13,none⟩=some (.int .u32 c.A))) aj ay (fun ai=>let ⟨_,_,ag⟩:=ai.out.op.row;(ag.cell 13).trans rfl) fun w1 ai au hHeld=>?_
 refine ap 0 1 2 3 ?_;refine ap 4 5 6 7 ?_;refine aF 8 ?_;refine aJ 9 (fun K hK=>?_)
 ·go_simp;refine(HW.out _ ai.out).mono (bF au fun w2 ar aE=>?_);obtain⟨u2,bU,aC⟩:=ar.out.op.row;have aB:(fun w':World=>w'.cell? ⟨sb,13,none⟩=some (.int .u32 c.A)) w2:=(aC.cell 13).trans rfl;clear aC bU;refine kH hK aB fun hHeld=>?_
  clear hK K;refine bh ?_;clear hHeld aB;go_wp2_with fail;refine(dh sb mb lb ty o _ _ _ 2 2 _ ar.out rfl).mono (bF aE fun w3 aM bf=>?_);go_wp2_with fail
  go_end0
  exact⟨_,rfl,aM.out,bf.out⟩
theorem Ei (w:World) (h:St w sb mb lb ty o c rv l) (ae:c.ph=2) (bM:c.wr=true→c.i<c.rc.length) (cJ:c.rc.length≤1000000) (dD:c.i<1000) (hj:c.base+(1+c.i)<l.length) (fj:1≤1000000):Calls Tryz.prog 143 #[.pointer (some ⟨sb,0,none⟩)] w (Did sb mb lb ty o w rv (c.word l (1) (·.go 3)).1 (c.word l (1) (·.go 3)).2 (.tuple #[])):=by
 obtain⟨aj,ay,ah,HF,bp,aS,bx,bj⟩:=h.start;clear ah h;have aI:=hid ae;clear ae;obtain⟨u0,bN,ag⟩:=aj.out.op.row;have c10_0:=ag.ph 10 2 aI;clear ag bN;have eG:=hid fun W (rv:Value) (h:St W sb mb lb ty o c rv l)=>fr sb mb lb ty o c rv l (1) W h bM cJ dD hj fj
 clear bM cJ dD hj fj;rw[Kc.word_eq]
 by_cases ak:c.wd≤c.i+1
 ·rw[if_pos ak];have hd:decide ((c.wd:Int)≤(c.i:Int)+1)=true:=decide_eq_true (by omega);rw[hd] at eG;clear ak hd;go_enter Tryz.func143,Tryz.ntmps143;go_wp2_with fail;refine(eG.out _ _ aj.out).mono (cS ay fun w1 rv1 ai au=>?_);go_wp2_with fail;refine(dh sb mb lb ty o _ _ _ 3 3 _ ai.out rfl).mono (bF au fun w2 ar aE=>?_);go_wp2_with fail
  go_end0
  exact⟨_,rfl,ar.out,aE.out⟩
 ·rw[if_neg ak];have hd:decide ((c.wd:Int)≤(c.i:Int)+1)=false:=decide_eq_false (by omega);rw[hd] at eG;clear ak hd;go_enter Tryz.func143,Tryz.ntmps143;go_wp2_with fail;refine(eG.out _ _ aj.out).mono (cS ay fun w1 rv1 ai au=>?_);go_wp2_with fail
  go_end0
  exact⟨_,rfl,ai.out,au.out⟩
theorem EP (w:World) (h:St w sb mb lb ty o c rv l) (ae:c.ph=3) (hj:c.base+0<l.length):Calls Tryz.prog 143 #[.pointer (some ⟨sb,0,none⟩)] w (Did sb mb lb ty o w rv (c.fin 0) (c.wrm l 0 ((c.A+2)%4294967296)) (.tuple #[])):=by
 obtain⟨aj,ay,ah,HF,bp,aS,bx,bj⟩:=h.start;clear ah h;have aI:=hid ae;clear ae;obtain⟨u0,bN,ag⟩:=aj.out.op.row;have c10_0:=ag.ph 10 3 aI;clear ag bN;have HW:=hid fun W (h:St W sb mb lb ty o c rv l)=>dN sb mb lb ty o c rv l 0 0 ((c.A+2)%4294967296) W h (by omega) hj (by omega)
 clear hj;have hu:IntKind.u32.wrap (c.A+2)=(c.A+2)%4294967296:=by simp[IntKind.wrap,IntKind.signed,IntKind.bits]
 go_enter Tryz.func143,Tryz.ntmps143;go_wp2_with fail;refine dM (S:=(fun w':World=>w'.cell? ⟨sb,13,none⟩=some (.int .u32 c.A))) aj ay (fun ai=>let ⟨_,_,ag⟩:=ai.out.op.row;(ag.cell 13).trans rfl) fun w1 ai au hHeld=>?_
 refine ap 0 1 2 3 ?_;refine ap 4 5 6 7 ?_;refine aF 8 ?_;refine aJ 9 (fun K hK=>?_)
 ·go_simp;refine(HW.out _ ai.out).mono (bF au fun w2 ar aE=>?_);obtain⟨u2,bU,aC⟩:=ar.out.op.row;have aB:(fun w':World=>w'.cell? ⟨sb,13,none⟩=some (.int .u32 c.A)) w2:=(aC.cell 13).trans rfl;clear aC bU;refine kH hK aB fun hHeld=>?_
  clear hK K;refine bh ?_;clear hHeld aB;go_wp2_with fail;refine(fz sb mb lb ty o _ _ _ 0 _ ar.out).mono (cS aE fun w3 rv3 aM bf=>?_);go_wp2_with fail
  go_end0
  exact⟨_,rfl,aM.out,bf.out⟩
theorem o8 (w:World) (h:St w sb mb lb ty o c rv l) (ht:c.tr<1000) (ak:c.cap≤c.tr+1):Calls Tryz.prog 169 #[.pointer (some ⟨sb,0,none⟩)] w (Did sb mb lb ty o w rv (c.fail (·.fin 1)) l (.tuple #[])):=by
 obtain⟨aj,ay,ah,HF,bp,aS,bx,bj⟩:=h.start;clear ah h;have ey:=fun W (h:St W sb mb lb ty o c rv l)=>kM sb mb lb ty o c rv l W h ht
 have hd:decide ((c.cap:Int)≤(c.tr:Int)+1)=true:=decide_eq_true (by omega);rw[hd] at ey;have iW:=hid ey;clear ey hd;unfold Kc.fail;simp only[ge_iff_le];rw[if_pos ak];clear ak ht;go_enter Tryz.func169,Tryz.ntmps169;go_wp2_with fail;refine(iW.out _ aj.out).mono (cS ay fun w1 rv1 ai au=>?_);go_wp2_with fail;refine(fz sb mb lb ty o _ _ _ 1 _ ai.out).mono (cS au fun w2 rv2 ar aE=>?_);go_wp2_with fail
 go_end0
 exact⟨_,rfl,ar.out,aE.out⟩
theorem nH (w:World) (h:St w sb mb lb ty o c rv l) (ht:c.tr<1000) (ak:¬ (c.cap≤c.tr+1)):Calls Tryz.prog 169 #[.pointer (some ⟨sb,0,none⟩)] w (Did sb mb lb ty o w rv (c.fail (·.fin 1)) l (.tuple #[])):=by
 obtain⟨aj,ay,ah,HF,bp,aS,bx,bj⟩:=h.start;clear ah h;have ey:=fun W (h:St W sb mb lb ty o c rv l)=>kM sb mb lb ty o c rv l W h ht
 have hd:decide ((c.cap:Int)≤(c.tr:Int)+1)=false:=decide_eq_false (by omega);rw[hd] at ey;have iW:=hid ey;clear ey hd;unfold Kc.fail;simp only[ge_iff_le];rw[if_neg ak];clear ak ht;go_enter Tryz.func169,Tryz.ntmps169;go_wp2_with fail;refine(iW.out _ aj.out).mono (cS ay fun w1 rv1 ai au=>?_);go_wp2_with fail
 go_end0
 exact⟨_,rfl,ai.out,au.out⟩
theorem iO (w:World) (h:St w sb mb lb ty o c rv l) (ht:c.tr<1000):Calls Tryz.prog 169 #[.pointer (some ⟨sb,0,none⟩)] w (Did sb mb lb ty o w rv (c.fail (·.fin 1)) l (.tuple #[])):=by
 by_cases hl:c.cap≤c.tr+1
 ·exact o8 sb mb lb ty o c rv l w h ht hl
 ·exact nH sb mb lb ty o c rv l w h ht hl
theorem tJ (w:World) (h:St w sb mb lb ty o c rv l) (ae:c.ph=0) (ht:c.tr<1000) (hj:c.base+0<l.length) (vN:c.rdm l 0%2=1):Calls Tryz.prog 144 #[.pointer (some ⟨sb,0,none⟩)] w (Did sb mb lb ty o w rv (({ c with A:=c.rdm l 0 }:Kc).fail (·.fin 1)) l (.tuple #[])):=by
 obtain⟨aj,ay,ah,HF,bp,aS,bx,bj⟩:=h.start;clear ah h;have aI:=hid ae;clear ae;obtain⟨u0,bN,ag⟩:=aj.out.op.row;have c10_0:=ag.ph 10 0 aI;clear ag bN;have hz:=cR hj aj.out.mem.w32;have HR:=hid fun W (h:St W sb mb lb ty o c rv l)=>cX sb mb lb ty o c rv l 0 0 W h (by omega) hj
 obtain⟨z,ao⟩:∃ x,c.rdm l 0=x:=⟨_,rfl⟩;rw[ao] at HR hz;try rw[ao]
 have cm:=hid ao;clear ao hj;have dU:=hz.1;have dA:=hz.2;clear hz;rw[cm.out] at vN;have hd:((z%2)==1)=true:=by rw[vN];rfl
 have ey:=fun W (h:St W sb mb lb ty o { c with A:=z } rv l)=>iO sb mb lb ty o { c with A:=z } rv l W h ht
 have iW:=hid ey;clear ey ht;clear vN;go_enter Tryz.func144,Tryz.ntmps144;go_wp2_with fail;refine(HR.out _ aj.out).mono (bF ay fun w1 ai au=>?_);obtain⟨u1,gS,bi⟩:=ai.out.op.row;have c13_1:=bi.at 13 (.int .u32 c.A);have f13_1:=bi.frozen 13;clear bi gS;go_wp2_with fail;obtain⟨ar,aE⟩:=fW (ai.out.setA (z) ⟨dU,dA⟩) au;refine(iW.out _ ar.out).mono (cS aE fun w3 rv3 aM bf=>?_);go_wp2_with fail
 go_end0
 exact⟨_,rfl,aM.out,bf.out⟩
theorem qU (w:World) (h:St w sb mb lb ty o c rv l) (ae:c.ph=0) (ht:c.tr<1000) (hj:c.base+0<l.length) (vN:¬ (c.rdm l 0%2=1)):Calls Tryz.prog 144 #[.pointer (some ⟨sb,0,none⟩)] w (Did sb mb lb ty o w rv (({ c with A:=c.rdm l 0 }:Kc).go 1) l (.tuple #[])):=by
 obtain⟨aj,ay,ah,HF,bp,aS,bx,bj⟩:=h.start;clear ah h;have aI:=hid ae;clear ae;obtain⟨u0,bN,ag⟩:=aj.out.op.row;have c10_0:=ag.ph 10 0 aI;clear ag bN;have hz:=cR hj aj.out.mem.w32;have HR:=hid fun W (h:St W sb mb lb ty o c rv l)=>cX sb mb lb ty o c rv l 0 0 W h (by omega) hj
 obtain⟨z,ao⟩:∃ x,c.rdm l 0=x:=⟨_,rfl⟩;rw[ao] at HR hz;try rw[ao]
 have cm:=hid ao;clear ao hj;have dU:=hz.1;have dA:=hz.2;clear hz;rw[cm.out] at vN;have hd:((z%2)==1)=false:=by simp;omega
 have ey:=fun W (h:St W sb mb lb ty o { c with A:=z } rv l)=>iO sb mb lb ty o { c with A:=z } rv l W h ht
 have iW:=hid ey;clear ey ht;clear vN;go_enter Tryz.func144,Tryz.ntmps144;go_wp2_with fail;refine(HR.out _ aj.out).mono (bF ay fun w1 ai au=>?_);obtain⟨u1,gS,bi⟩:=ai.out.op.row;have c13_1:=bi.at 13 (.int .u32 c.A);have f13_1:=bi.frozen 13;clear bi gS;go_wp2_with fail;obtain⟨ar,aE⟩:=fW (ai.out.setA (z) ⟨dU,dA⟩) au;go_wp2_with fail;refine(dh sb mb lb ty o _ _ _ 1 1 _ ar.out rfl).mono (bF aE fun w3 aM bf=>?_);go_wp2_with fail
 go_end0
 exact⟨_,rfl,aM.out,bf.out⟩
theorem Et (w:World) (h:St w sb mb lb ty o c rv l) (ae:c.ph=1) (bM:c.wr=true→c.i<c.rc.length) (cJ:c.rc.length≤1000000) (dD:c.i<1000) (hj:c.base+(1+c.i)<l.length) (fj:1≤1000000):Calls Tryz.prog 144 #[.pointer (some ⟨sb,0,none⟩)] w (Did sb mb lb ty o w rv (c.word l (1) (·.go 2)).1 (c.word l (1) (·.go 2)).2 (.tuple #[])):=by
 obtain⟨aj,ay,ah,HF,bp,aS,bx,bj⟩:=h.start;clear ah h;have aI:=hid ae;clear ae;obtain⟨u0,bN,ag⟩:=aj.out.op.row;have c10_0:=ag.ph 10 1 aI;clear ag bN;have eG:=hid fun W (rv:Value) (h:St W sb mb lb ty o c rv l)=>fr sb mb lb ty o c rv l (1) W h bM cJ dD hj fj
 clear bM cJ dD hj fj;rw[Kc.word_eq]
 by_cases ak:c.wd≤c.i+1
 ·rw[if_pos ak];have hd:decide ((c.wd:Int)≤(c.i:Int)+1)=true:=decide_eq_true (by omega);rw[hd] at eG;clear ak hd;go_enter Tryz.func144,Tryz.ntmps144;go_wp2_with fail;refine(eG.out _ _ aj.out).mono (cS ay fun w1 rv1 ai au=>?_);go_wp2_with fail;refine(dh sb mb lb ty o _ _ _ 2 2 _ ai.out rfl).mono (bF au fun w2 ar aE=>?_);go_wp2_with fail
  go_end0
  exact⟨_,rfl,ar.out,aE.out⟩
 ·rw[if_neg ak];have hd:decide ((c.wd:Int)≤(c.i:Int)+1)=false:=decide_eq_false (by omega);rw[hd] at eG;clear ak hd;go_enter Tryz.func144,Tryz.ntmps144;go_wp2_with fail;refine(eG.out _ _ aj.out).mono (cS ay fun w1 rv1 ai au=>?_);go_wp2_with fail
  go_end0
  exact⟨_,rfl,ai.out,au.out⟩
theorem qp (w:World) (h:St w sb mb lb ty o c rv l) (ae:c.ph=2) (ht:c.tr<1000) (hj:c.base+0<l.length) (hs:c.rdm l 0=c.A):Calls Tryz.prog 144 #[.pointer (some ⟨sb,0,none⟩)] w (Did sb mb lb ty o w rv (c.fin 0) l (.tuple #[])):=by
 obtain⟨aj,ay,ah,HF,bp,aS,bx,bj⟩:=h.start;clear ah h;have aI:=hid ae;clear ae;obtain⟨u0,bN,ag⟩:=aj.out.op.row;have c10_0:=ag.ph 10 2 aI;clear ag bN;have hz:=cR hj aj.out.mem.w32;have HR:=hid fun W (h:St W sb mb lb ty o c rv l)=>cX sb mb lb ty o c rv l 0 0 W h (by omega) hj
 obtain⟨z,ao⟩:∃ x,c.rdm l 0=x:=⟨_,rfl⟩;rw[ao] at HR hz;try rw[ao]
 have cm:=hid ao;clear ao hj;have dU:=hz.1;have dA:=hz.2;clear hz;rw[cm.out] at hs;have hd:(z==c.A)=true:=by simpa using hs
 have iW:=hid fun W (h:St W sb mb lb ty o c rv l)=>iO sb mb lb ty o c rv l W h ht
 clear ht hs;go_enter Tryz.func144,Tryz.ntmps144;go_wp2_with fail;refine dM (S:=(fun w':World=>w'.cell? ⟨sb,13,none⟩=some (.int .u32 c.A))) aj ay (fun ai=>let ⟨_,_,ag⟩:=ai.out.op.row;(ag.cell 13).trans rfl) fun w1 ai au hHeld=>?_
 refine ap 0 1 2 4 ?_;refine ap 5 6 7 8 ?_;refine aJ 3 (fun K hK=>?_)
 ·go_simp;refine(HR.out _ ai.out).mono (bF au fun w2 ar aE=>?_);obtain⟨u2,bU,aC⟩:=ar.out.op.row;have aB:(fun w':World=>w'.cell? ⟨sb,13,none⟩=some (.int .u32 c.A)) w2:=(aC.cell 13).trans rfl;clear aC bU;refine kH hK aB fun hHeld=>?_
  clear hK K;refine aF 9 ?_;refine bh ?_;clear hHeld aB;go_wp2_with fail;refine(fz sb mb lb ty o _ _ _ 0 _ ar.out).mono (cS aE fun w3 rv3 aM bf=>?_);go_wp2_with fail
  go_end0
  exact⟨_,rfl,aM.out,bf.out⟩
theorem pl (w:World) (h:St w sb mb lb ty o c rv l) (ae:c.ph=2) (ht:c.tr<1000) (hj:c.base+0<l.length) (hs:¬ (c.rdm l 0=c.A)):Calls Tryz.prog 144 #[.pointer (some ⟨sb,0,none⟩)] w (Did sb mb lb ty o w rv (c.fail (·.fin 1)) l (.tuple #[])):=by
 obtain⟨aj,ay,ah,HF,bp,aS,bx,bj⟩:=h.start;clear ah h;have aI:=hid ae;clear ae;obtain⟨u0,bN,ag⟩:=aj.out.op.row;have c10_0:=ag.ph 10 2 aI;clear ag bN;have hz:=cR hj aj.out.mem.w32;have HR:=hid fun W (h:St W sb mb lb ty o c rv l)=>cX sb mb lb ty o c rv l 0 0 W h (by omega) hj
 obtain⟨z,ao⟩:∃ x,c.rdm l 0=x:=⟨_,rfl⟩;rw[ao] at HR hz;try rw[ao]
 have cm:=hid ao;clear ao hj;have dU:=hz.1;have dA:=hz.2;clear hz;rw[cm.out] at hs;have hd:(z==c.A)=false:=by simpa using hs
 have iW:=hid fun W (h:St W sb mb lb ty o c rv l)=>iO sb mb lb ty o c rv l W h ht
 clear ht hs;go_enter Tryz.func144,Tryz.ntmps144;go_wp2_with fail;refine dM (S:=(fun w':World=>w'.cell? ⟨sb,13,none⟩=some (.int .u32 c.A))) aj ay (fun ai=>let ⟨_,_,ag⟩:=ai.out.op.row;(ag.cell 13).trans rfl) fun w1 ai au hHeld=>?_
 refine ap 0 1 2 4 ?_;refine ap 5 6 7 8 ?_;refine aJ 3 (fun K hK=>?_)
 ·go_simp;refine(HR.out _ ai.out).mono (bF au fun w2 ar aE=>?_);obtain⟨u2,bU,aC⟩:=ar.out.op.row;have aB:(fun w':World=>w'.cell? ⟨sb,13,none⟩=some (.int .u32 c.A)) w2:=(aC.cell 13).trans rfl;clear aC bU;refine kH hK aB fun hHeld=>?_
  clear hK K;refine aF 9 ?_;refine bh ?_;clear hHeld aB;go_wp2_with fail;refine(iW.out _ ar.out).mono (cS aE fun w3 rv3 aM bf=>?_);go_wp2_with fail
  go_end0
  exact⟨_,rfl,aM.out,bf.out⟩
end
end Go.Proofs.YtolmpehgeinlkaaGreatDoor
