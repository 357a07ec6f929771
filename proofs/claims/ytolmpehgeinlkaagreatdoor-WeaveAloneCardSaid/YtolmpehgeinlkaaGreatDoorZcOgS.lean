/- An operation on an object begins. -/
import Derived.Test.YtolmpehgeinlkaaGreatDoorZcOgR
import Derived.Test.YtolmpehgeinlkaaGreatDoorZcShF
namespace Go.Proofs.YtolmpehgeinlkaaGreatDoor
open Go.RowKit
open Go.Lib (hid)
attribute [local go_sem] Oper.semAt_some
set_option maxHeartbeats 4000000
set_option maxRecDepth 100000
def kc0 (o:Ob) (at' op rd:Int) (r:List Int):Kc:=Kc.start o.k o.wd.toNat o.nr o.s.toNat o.c.toNat op rd.toNat at'.toNat (sizeZ o).toNat r
def begE (o:Ob) (at' op rd:Int) (n:Nat):Int:=mbE o (sizeZ o) at' op rd n (oA o.k) (oB o.k)
theorem mbE_zero {o:Ob} {sz at' op rd:Int} {n:Nat} {a b:Int} (h:mbE o sz at' op rd n a b=0):1≤sz∧0≤at'∧((op=a∧rd=0∧(n:Int)=o.wd)∨(op=b∧0≤rd∧rd<o.nr∧n=0)):=by
 unfold mbE at h
 by_cases h1:sz<1∨at'<0
 ·rw[if_pos h1] at h;cases h
 rw[if_neg h1] at h;refine⟨by omega,by omega,?_⟩
 by_cases h3:op=a
 ·rw[if_pos h3] at h
  by_cases h5:rd<0∨1≤rd
  ·rw[if_pos h5] at h;cases h
  rw[if_neg h5] at h
  by_cases h7:(n:Int)=o.wd
  ·exact .inl ⟨h3,by omega,h7⟩
  ·rw[if_pos h7] at h;cases h
 rw[if_neg h3] at h
 by_cases h4:op=b
 ·rw[if_pos h4] at h
  by_cases h5:rd<0∨(o.nr:Int)≤rd
  ·rw[if_pos h5] at h;cases h
  rw[if_neg h5] at h
  by_cases h7:(n:Int)=0
  ·exact .inr ⟨h4,by omega,by omega,by omega⟩
  ·rw[if_pos h7] at h;cases h
 ·rw[if_neg h4] at h;cases h
theorem mulN {a b:Int} (ha:0≤a) (hb:0≤b):(a*b).toNat=a.toNat*b.toNat:=by
 obtain⟨x,rfl⟩:=Int.eq_ofNat_of_zero_le ha;obtain⟨y,rfl⟩:=Int.eq_ofNat_of_zero_le hb;rw[← Int.natCast_mul,Int.toNat_natCast,Int.toNat_natCast,Int.toNat_natCast]
theorem kc0_sta {o:Ob} {at' op rd:Int} {r:List Int} (h:begE o at' op rd r.length=0):Kc.Sta (kc0 o at' op rd r)∧anyR o∧0≤at'∧0≤rd∧((op=oA o.k∧rd=0∧(r.length:Int)=o.wd)∨(op=oB o.k∧rd<o.nr∧r=[])):=by
 obtain⟨h1,h2,h3⟩:=mbE_zero h
 have hR:anyR o:=by
  by_cases q:anyR o
  ·exact q
  ·rw[sizeZ_no q] at h1;omega
 have hrd:0≤rd:=by omega
 have h3':(op=oA o.k∧rd=0∧(r.length:Int)=o.wd)∨(op=oB o.k∧rd<o.nr∧r=[]):=by
  rcases h3 with q | ⟨q1,q2,q3,q4⟩
  ·exact .inl q
  ·exact .inr ⟨q1,q3,List.eq_nil_of_length_eq_zero q4⟩
 refine⟨?_,hR,h2,hrd,h3'⟩;obtain⟨⟨b1,b2⟩,⟨b3,b4⟩,_⟩:=any_bd hR
 have hop:(o.k≠6→op=2∨op=1)∧(o.k=6→op=3∨op=4):=by
  have hk:o.k=1∨o.k=2∨o.k=3∨o.k=4∨o.k=5∨o.k=6:=by
   rcases any_cases hR with q | q | q | q | q | q <;> have:=q.1 <;> omega
  have hA:oA o.k=if o.k=6 then 3 else 2:=by
   unfold oA isK
   rcases hk with q | q | q | q | q | q <;> rw[q] <;> rfl
  have hB:oB o.k=if o.k=6 then 4 else 1:=by
   unfold oB isK
   rcases hk with q | q | q | q | q | q <;> rw[q] <;> rfl
  rw[hA,hB] at h3'
  constructor
  ·intro q;rw[if_neg q,if_neg q] at h3'
   rcases h3' with ⟨e,_⟩ | ⟨e,_⟩
   ·exact .inl e
   ·exact .inr e
  ·intro q;rw[if_pos q,if_pos q] at h3'
   rcases h3' with ⟨e,_⟩ | ⟨e,_⟩
   ·exact .inl e
   ·exact .inr e
 have hk:∀ j:Int,(kc0 o at' op rd r).kd=j→o.k=j:=fun j e=>e
 have hrr:(kc0 o at' op rd r).rd<(kc0 o at' op rd r).nr:=by
  show rd.toNat<o.nr
  rcases h3' with q | q <;> omega
 have hs:(kc0 o at' op rd r).size=(sizeZ o).toNat:=rfl;have hw:(kc0 o at' op rd r).wd=o.wd.toNat:=rfl;have hn:(kc0 o at' op rd r).nr=o.nr:=rfl;have hsl:(kc0 o at' op rd r).sl=o.s.toNat:=rfl;have hcp:(kc0 o at' op rd r).cap=o.c.toNat:=rfl
 have hsl16:o.s≤16∧o.c≤16:=by
  rcases any_cases hR with q | q | q | q | q | q
  ·have:=q.2;unfold fourR at this;omega
  ·have:=q.2;unfold chenR at this;omega
  ·have:=seq_bd q.2;have h:=q.2;unfold seqR at h;omega
  ·have:=ring_bd q.2;omega
  ·have:=cab_bd q.2;omega
  ·have:=fifo_bd q.2;have h:=q.2;unfold fifoR at h;omega
 have four:o.k=1→fourR o:=fun e=>by rcases any_cases hR with q | q | q | q | q | q <;> first | exact q.2 | (have:=q.1;omega)
 have chen:o.k=2→chenR o:=fun e=>by rcases any_cases hR with q | q | q | q | q | q <;> first | exact q.2 | (have:=q.1;omega)
 have seq:o.k=3→seqR o:=fun e=>by rcases any_cases hR with q | q | q | q | q | q <;> first | exact q.2 | (have:=q.1;omega)
 have ring:o.k=4→ringR o:=fun e=>by rcases any_cases hR with q | q | q | q | q | q <;> first | exact q.2 | (have:=q.1;omega)
 have cab:o.k=5→cabR o:=fun e=>by rcases any_cases hR with q | q | q | q | q | q <;> first | exact q.2 | (have:=q.1;omega)
 have fifo:o.k=6→fifoR o:=fun e=>by rcases any_cases hR with q | q | q | q | q | q <;> first | exact q.2 | (have:=q.1;omega)
 refine⟨?_,by omega,by omega,by omega,by omega,hop.1,hop.2,hrr,fun e=>?_,fun e=>?_,fun e=>?_,fun e=>?_,fun e=>?_,fun e=>?_,fun e=>?_,fun e=>?_,fun e=>?_,by omega,fun e=>?_,by omega⟩
 ·show o.k=1∨o.k=2∨o.k=3∨o.k=4∨o.k=5∨o.k=6
  rcases any_cases hR with q | q | q | q | q | q <;> have:=q.1 <;> omega
 ·rw[hs,hw,sizeZ_four (four e)];omega
 ·rw[hs,hw,hn,sizeZ_chen (chen e)];have:=mulN (a:=(o.nr:Int)+2) (b:=o.wd) (by omega) (by omega);rw[show((o.nr:Int)+2).toNat=o.nr+2 by omega] at this;have h0:0≤((o.nr:Int)+2)*o.wd:=Int.mul_nonneg (by omega) (by omega);omega
 ·rw[hs,hw,sizeZ_seq (seq e)];omega
 ·rw[hs,hw,hsl,sizeZ_ring (ring e)];obtain⟨_,_,_,_,_,_,_,_⟩:=ring_bd (ring e);have:=mulN (a:=o.s) (b:=o.wd) (by omega) (by omega);have h0:0≤o.s*o.wd:=Int.mul_nonneg (by omega) (by omega);omega
 ·rw[hs,hw,hn,hsl,sizeZ_cab (cab e)];obtain⟨_,_,_,_,_,_,_,_⟩:=cab_bd (cab e);have:=mulN (a:=o.s) (b:=o.wd) (by omega) (by omega);have h0:0≤o.s*o.wd:=Int.mul_nonneg (by omega) (by omega);omega
 ·rw[hs,hw,hsl,sizeZ_fifo (fifo e)];obtain⟨_,_,_,_,_,_⟩:=fifo_bd (fifo e);have:=mulN (a:=o.s) (b:=o.wd) (by omega) (by omega);have h0:0≤o.s*o.wd:=Int.mul_nonneg (by omega) (by omega);omega
 ·obtain⟨_,_,_,_,_,_,_,_⟩:=ring_bd (ring e);omega
 ·obtain⟨_,_,_,_,_,_,_,_⟩:=cab_bd (cab e);omega
 ·obtain⟨_,_,_,_,_,_⟩:=fifo_bd (fifo e);omega
 ·rw[hcp]
  rcases e with e | e | e
  ·obtain⟨_,_,_,_,_,_⟩:=seq_bd (seq e);omega
  ·obtain⟨_,_,_,_,_,_,_,_⟩:=ring_bd (ring e);omega
  ·obtain⟨_,_,_,_,_,_,_,_⟩:=cab_bd (cab e);omega
theorem any_pos {o:Ob} (h:anyR o):0≤o.s∧0≤o.c∧0≤o.wd:=by
 rcases any_cases h with q | q | q | q | q | q
 ·have h:=q.2;unfold fourR wordsR at h;omega
 ·have h:=q.2;unfold chenR wordsR at h;omega
 ·have h:=q.2;unfold seqR wordsR capsR at h;omega
 ·have:=ring_bd q.2;omega
 ·have:=cab_bd q.2;omega
 ·have h:=q.2;unfold fifoR wordsR at h;omega
theorem kc0_ok {o:Ob} {at' op rd:Int} {r:List Int} (h:begE o at' op rd r.length=0) (hw:W32 r) (hat:at'<9223372036854775808):Kc.Inv (kc0 o at' op rd r)∧Fits o (kc0 o at' op rd r)∧∀ v,newCore o op rd at' (sizeZ o) v=coreG o (kc0 o at' op rd r) 0 v (.pointer none):=by
 obtain⟨hS,hR,hat0,hrd0,hc⟩:=kc0_sta h;obtain⟨p1,p2,p3⟩:=any_pos hR;have hz:=size_bd o;have hk:o.k=1∨o.k=2∨o.k=3∨o.k=4∨o.k=5∨o.k=6:=hS.kd
 have hA:(oA o.k=2∨oA o.k=3)∧(oB o.k=1∨oB o.k=4):=by
  unfold oA oB isK
  rcases hk with q | q | q | q | q | q <;> rw[q] <;> decide
 have hI:Kc.Inv (kc0 o at' op rd r):=by
  refine Kc.inv_start hS hw (fun q=>?_) (fun q=>?_)
  ·rcases hc with ⟨e,_,e2⟩ | ⟨e,_,_⟩
   ·omega
   ·rcases hA.2 with q2 | q2 <;> rw[e,q2] at q <;> omega
  ·rcases hc with ⟨e,_,_⟩ | ⟨_,_,e⟩
   ·exact absurd (by rw[e];exact hA.1) q
   ·exact e
 refine⟨hI,⟨rfl,?_,?_,?_,rfl,hS.wd8,hS.nr4,hS.sl16,hS.cap16,?_,?_,?_,Nat.zero_le _,Nat.zero_le _,Nat.zero_le _,Int.le_refl _,by show(0:Int)<_;omega,Int.le_refl _,by show(0:Int)<_;omega⟩,fun v=>?_⟩
 ·show o.wd=((o.wd.toNat:Nat):Int);omega
 ·show o.s=((o.s.toNat:Nat):Int);omega
 ·show o.c=((o.c.toNat:Nat):Int);omega
 ·have h1:=hS.rd;have h2:=hS.nr4;omega
 ·show at'.toNat<_;omega
 ·show(sizeZ o).toNat≤1000;omega
 ·unfold newCore coreG kc0 Kc.start;have e1:((rd.toNat:Nat):Int)=rd:=by omega
  have e2:((at'.toNat:Nat):Int)=at':=by omega
  have e3:(((sizeZ o).toNat:Nat):Int)=sizeZ o:=by omega
  dsimp only;rw[e1,e2,e3];rfl
theorem used0:UsedIs 0 (fun _=>false):=⟨Int.le_refl _,by omega,fun k=>by simp⟩
theorem OpS.start {o:Ob} {at' op rd:Int} {r:List Int} {w:World} {b N:Nat} {ty:TypeId} {v:Value} (h:begE o at' op rd r.length=0) (hw:W32 r) (hat:at'<9223372036854775808) (hr:RowB w b (newCore o op rd at' (sizeZ o) v) ty) (ho:OwnW N w v r) (hb:v.ownBlock≠some b):OpS w b ty o (kc0 o at' op rd r) v (.pointer none):=by
 obtain⟨_,hf,he⟩:=kc0_ok h hw hat;rw[he] at hr;exact⟨⟨0,used0,hr⟩,ho.1.mono (Nat.zero_le _),hw,hf,hb⟩
theorem ws_w32 {w:World} {B:Nat} {A:Option Addr} {l:List Int} (h:Ws w B A l):W32 l:=fun z hz=>by
 have:=h.2 z hz;simp[Lit.wf,IntKind.min,IntKind.max,IntKind.signed,IntKind.bits] at this;omega
def Begun (o:Ob) (at' op rd:Int) (r:List Int) (w:World) (x:Option Addr) (w':World):Prop:=
 Below w.heap.size w w'∧(begE o at' op rd r.length≠0→x=none)∧(begE o at' op rd r.length=0→∃ xb sb ty rv,x=some ⟨xb,0,none⟩∧w.heap.size≤xb∧w.heap.size≤sb∧(∀ b,rv.ownBlock=some b→w.heap.size≤b)∧Oj w' xb sb ty o (kc0 o at' op rd r) rv (.pointer none)∧Kc.Inv (kc0 o at' op rd r))
section
variable (o:Ob) (at' op rd:Int) (A:Option Addr) (cap:Nat) (r:List Int)
theorem obegin_none (_ho:o.Ok) (hk:¬ (o.k=1∨o.k=2∨o.k=3∨o.k=4∨o.k=5∨o.k=6)) (w:World) (_hl:r.length≤1000000) (hr:Ws w w.heap.size A r) (_hat:at'<9223372036854775808):
  Calls Tryz.prog 91 #[.agg (obA o),.int .i64 at',.int .i64 op,.int .i64 rd,.slice A r.length cap] w fun e w'=>∃ x,e=.returned (.tuple #[.pointer x,.int .i64 (begE o at' op rd r.length)])∧Begun o at' op rd r w x w':=by
 have hn:=RowB.new w (obA o) 26;have hb0:=(Below.refl w.heap.size w).alloc (Nat.le_refl _) (.cells (obA o) 26);have hx:=RowB.new (w.alloc (.cells (obA o) 26)) #[.int .i64 o.k,.pointer none,.pointer none,.pointer none,.pointer none,.pointer none,.pointer none] 114;have hb1:=(Below.refl _ (w.alloc (.cells (obA o) 26))).alloc (Nat.le_refl _) (.cells #[.int .i64 o.k,.pointer none,.pointer none,.pointer none,.pointer none,.pointer none,.pointer none] 114);have hn1:=hn.kept hb1;have hB1:=hb0.trans (hb1.mono hb0.size);have hr1:=hr.below hB1 hB1.size;have hw32:=ws_w32 hr;rw[World.size_alloc] at hx;have k1:(o.k==1)=false:=by simp;omega
 have k2:(o.k==2)=false:=by simp;omega
 have k3:(o.k==3)=false:=by simp;omega
 have k4:(o.k==4)=false:=by simp;omega
 have k5:(o.k==5)=false:=by simp;omega
 have k6:(o.k==6)=false:=by simp;omega
 have hcode:begE o at' op rd r.length=1:=by
  have hnR:¬ anyR o:=fun h=>hk (by rcases any_cases h with q | q | q | q | q | q <;> have:=q.1 <;> omega)
  unfold begE mbE;rw[sizeZ_no hnR,if_pos (.inl (by omega))]
 rw[hcode];have HCO:=hid hcode;have HB:=hid hB1;clear hn hb0 hx hb1 hn1 hB1 hr1 hcode hr hw32 _ho _hl;unfold obA at HB;unfold obA;go_enter Tryz.func91,Tryz.ntmps91;go_wp2_with fail;go_ret2;exact⟨none,rfl,HB.out,fun _=>rfl,fun h=>by rw[HCO.out] at h;cases h⟩
def obF (k:Int):Nat:=match k.toNat with
 | 1=>132
 | 2=>133
 | 3=>134
 | 4=>135
 | 5=>136
 | _=>137
def obT (k:Int):TypeId:=match k.toNat with
 | 1=>141
 | 2=>142
 | 3=>143
 | 4=>144
 | 5=>145
 | _=>146
theorem kBegin_any (ho:o.Ok) (hk:o.k=1∨o.k=2∨o.k=3∨o.k=4∨o.k=5∨o.k=6) (w:World) (hl:r.length≤1000000) (hr:Ws w w.heap.size A r):BegO o at' op rd A cap r (obF o.k) (obT o.k) (sizeZ o) (begE o at' op rd r.length) w:=by
 unfold begE
 rcases hk with q | q | q | q | q | q
 ·have h:=fourBegin_o o at' op rd A cap r ho q w hl hr;rw[q];exact h
 ·have h:=chenBegin_o o at' op rd A cap r ho q w hl hr;rw[q];exact h
 ·have h:=seqBegin_o o at' op rd A cap r ho q w hl hr;rw[q];exact h
 ·have h:=ringBegin_o o at' op rd A cap r ho q w hl hr;rw[q];exact h
 ·have h:=cabBegin_o o at' op rd A cap r ho q w hl hr;rw[q];exact h
 ·have h:=fifoBegin_o o at' op rd A cap r ho (by omega) w hl hr;rw[q];exact h
theorem RowB.cast {w:World} {n:Nat} {a b:Array Value} {t:TypeId} (h:RowB w n a t) (e:a=b):RowB w n b t:=e ▸ h
theorem obegin_ok (ho:o.Ok) (hk:o.k=1∨o.k=2∨o.k=3∨o.k=4∨o.k=5∨o.k=6) (w:World) (hl:r.length≤1000000) (hr:Ws w w.heap.size A r) (hat:at'<9223372036854775808) (hcode:begE o at' op rd r.length=0):
  Calls Tryz.prog 91 #[.agg (obA o),.int .i64 at',.int .i64 op,.int .i64 rd,.slice A r.length cap] w fun e w'=>∃ x,e=.returned (.tuple #[.pointer x,.int .i64 (begE o at' op rd r.length)])∧Begun o at' op rd r w x w':=by
 have hb0:=(Below.refl w.heap.size w).alloc (Nat.le_refl _) (.cells (obA o) 26);have hx:=RowB.new (w.alloc (.cells (obA o) 26)) #[.int .i64 o.k,.pointer none,.pointer none,.pointer none,.pointer none,.pointer none,.pointer none] 114;have hb1:=(Below.refl _ (w.alloc (.cells (obA o) 26))).alloc (Nat.le_refl _) (.cells #[.int .i64 o.k,.pointer none,.pointer none,.pointer none,.pointer none,.pointer none,.pointer none] 114);have hB1:=hb0.trans (hb1.mono hb0.size);have hr1:=hr.below hB1 hB1.size;have hw32:=ws_w32 hr;rw[World.size_alloc] at hx;have hkb:=kBegin_any o at' op rd A cap r ho hk _ hl hr1;obtain⟨FF,hF⟩:∃ x,obF o.k=x:=⟨_,rfl⟩;rw[hF] at hkb;unfold BegO at hkb;have HKB:=hid hkb;have HX:=hid hx;have HB:=hid hB1;have HW:=hid hw32;have HC:=hid hcode;obtain⟨n,hn'⟩:∃ n,w.heap.size=n:=⟨_,rfl⟩;rw[hn'] at HX HB;obtain⟨code,hc0⟩:∃ x,begE o at' op rd r.length=x:=⟨_,rfl⟩;have HC0:=hid hc0;rw[hc0] at hcode ⊢;rw[hc0] at HKB;have d0:(code != 0)=false:=by simpa using hcode
 clear hb0 hx hb1 hB1 hr1 hr hw32 ho hl hkb hcode hc0;unfold obA at HX HB HKB;unfold obA
 rcases hk with q | q | q | q | q | q
 all_goals
  rw[q] at hF;subst hF
  first | have k1:(o.k==1)=true:=by(rw[q];rfl) | have k1:(o.k==1)=false:=by(rw[q];rfl)
  first | have k2:(o.k==2)=true:=by(rw[q];rfl) | have k2:(o.k==2)=false:=by(rw[q];rfl)
  first | have k3:(o.k==3)=true:=by(rw[q];rfl) | have k3:(o.k==3)=false:=by(rw[q];rfl)
  first | have k4:(o.k==4)=true:=by(rw[q];rfl) | have k4:(o.k==4)=false:=by(rw[q];rfl)
  first | have k5:(o.k==5)=true:=by(rw[q];rfl) | have k5:(o.k==5)=false:=by(rw[q];rfl)
  first | have k6:(o.k==6)=true:=by(rw[q];rfl) | have k6:(o.k==6)=false:=by(rw[q];rfl)
  have HK:=hid q;clear q;go_enter Tryz.func91,Tryz.ntmps91;go_wp2_with fail;refine HKB.out.mono ?_;rintro e w1 ⟨x,rfl,hb,hx0,hx1⟩;have hx1r:=HX.out.kept hb;have c1:w1.cell? ⟨n+1,1,none⟩=some (.pointer none):=(hx1r.cell 1).trans rfl;have f1:=hx1r.frozen 1;have c2:w1.cell? ⟨n+1,2,none⟩=some (.pointer none):=(hx1r.cell 2).trans rfl;have f2:=hx1r.frozen 2;have c3:w1.cell? ⟨n+1,3,none⟩=some (.pointer none):=(hx1r.cell 3).trans rfl;have f3:=hx1r.frozen 3;have c4:w1.cell? ⟨n+1,4,none⟩=some (.pointer none):=(hx1r.cell 4).trans rfl;have f4:=hx1r.frozen 4;have c5:w1.cell? ⟨n+1,5,none⟩=some (.pointer none):=(hx1r.cell 5).trans rfl;have f5:=hx1r.frozen 5;have c6:w1.cell? ⟨n+1,6,none⟩=some (.pointer none):=(hx1r.cell 6).trans rfl;have f6:=hx1r.frozen 6;have hbn:=HB.out.trans (hb.mono (by have:=HB.out.size;omega));have HXR:=hid hx1r;have HBN:=hid hbn;have HB1:=hid hb;have HX0:=hid hx0;have HX1:=hid hx1;clear hx1r hbn hb hx0 hx1;obtain⟨b,v,rfl,hbn,hrow,hown,hne⟩:=HX1.out (by rw[← HC0.out];exact HC.out);have HR:=hid (And.intro hrow (And.intro hown hne));have hbs:n+2≤b:=by rw[World.size_alloc,World.size_alloc] at hbn;omega
  clear hrow hown hne hbn;go_wp2_with fail;go_ret2;refine⟨some ⟨n+1,0,none⟩,(by have h1:=HC0.out;have h2:=HC.out;rw[h1] at h2;rw[h2];rfl),?_,fun h=>absurd HC.out h,fun _=>?_⟩
  ·rw[hn'];exact below_set1 HBN.out (n+1) _ (by omega) _
  have hxlt:=HXR.out.lt;have hT:∀ j u,Tch (fun q=>q=n+1) w1 (w1.setCell ⟨n+1,j,none⟩ u):=fun j u=>(Tch.refl (fun q=>q=n+1) w1).set (b:=n+1) rfl j u
  have hvb:∀ q,v.ownBlock=some q→n+2≤q:=fun q hq=>by
   have:=(World.ownsRow.lt HR.out.2.1.1 q hq).1;rw[World.size_alloc,World.size_alloc] at this;omega
  have hop:=fun j u=>OpS.start (N:=0) HC.out HW.out hat (HR.out.1.tch (hT j u) (by omega)) ⟨(own_tch HR.out.2.1.1 (hT j u) (fun q hq e=>by have:=hvb q hq;omega)).mono (Nat.zero_le _),HR.out.2.1.2⟩ HR.out.2.2
  refine⟨n+1,b,_,v,rfl,by omega,by omega,fun q hq=>by have:=hvb q hq;omega,⟨?_,hop _ _,by omega,fun hq=>by have:=hvb _ hq;omega,⟨_,rfl⟩⟩,(kc0_ok HC.out HW.out hat).1⟩;refine(HXR.out.set _ _).cast ?_;show _=opRow o.k b;unfold opRow pAt;rw[HK.out];rfl
theorem obegin_err (ho:o.Ok) (hk:o.k=1∨o.k=2∨o.k=3∨o.k=4∨o.k=5∨o.k=6) (w:World) (hl:r.length≤1000000) (hr:Ws w w.heap.size A r) (_hat:at'<9223372036854775808) (hcode:begE o at' op rd r.length≠0):
  Calls Tryz.prog 91 #[.agg (obA o),.int .i64 at',.int .i64 op,.int .i64 rd,.slice A r.length cap] w fun e w'=>∃ x,e=.returned (.tuple #[.pointer x,.int .i64 (begE o at' op rd r.length)])∧Begun o at' op rd r w x w':=by
 have hb0:=(Below.refl w.heap.size w).alloc (Nat.le_refl _) (.cells (obA o) 26);have hx:=RowB.new (w.alloc (.cells (obA o) 26)) #[.int .i64 o.k,.pointer none,.pointer none,.pointer none,.pointer none,.pointer none,.pointer none] 114;have hb1:=(Below.refl _ (w.alloc (.cells (obA o) 26))).alloc (Nat.le_refl _) (.cells #[.int .i64 o.k,.pointer none,.pointer none,.pointer none,.pointer none,.pointer none,.pointer none] 114);have hB1:=hb0.trans (hb1.mono hb0.size);have hr1:=hr.below hB1 hB1.size;have hw32:=ws_w32 hr;rw[World.size_alloc] at hx;have hkb:=kBegin_any o at' op rd A cap r ho hk _ hl hr1;obtain⟨FF,hF⟩:∃ x,obF o.k=x:=⟨_,rfl⟩;rw[hF] at hkb;unfold BegO at hkb;have HKB:=hid hkb;have HX:=hid hx;have HB:=hid hB1;have HW:=hid hw32;have HC:=hid hcode;obtain⟨n,hn'⟩:∃ n,w.heap.size=n:=⟨_,rfl⟩;rw[hn'] at HX HB;obtain⟨code,hc0⟩:∃ x,begE o at' op rd r.length=x:=⟨_,rfl⟩;have HC0:=hid hc0;rw[hc0] at hcode ⊢;rw[hc0] at HKB;have d0:(code != 0)=true:=by simpa using hcode
 clear hb0 hx hb1 hB1 hr1 hr hw32 ho hl hkb hcode hc0;unfold obA at HX HB HKB;unfold obA
 rcases hk with q | q | q | q | q | q
 all_goals
  rw[q] at hF;subst hF
  first | have k1:(o.k==1)=true:=by(rw[q];rfl) | have k1:(o.k==1)=false:=by(rw[q];rfl)
  first | have k2:(o.k==2)=true:=by(rw[q];rfl) | have k2:(o.k==2)=false:=by(rw[q];rfl)
  first | have k3:(o.k==3)=true:=by(rw[q];rfl) | have k3:(o.k==3)=false:=by(rw[q];rfl)
  first | have k4:(o.k==4)=true:=by(rw[q];rfl) | have k4:(o.k==4)=false:=by(rw[q];rfl)
  first | have k5:(o.k==5)=true:=by(rw[q];rfl) | have k5:(o.k==5)=false:=by(rw[q];rfl)
  first | have k6:(o.k==6)=true:=by(rw[q];rfl) | have k6:(o.k==6)=false:=by(rw[q];rfl)
  have HK:=hid q;clear q;go_enter Tryz.func91,Tryz.ntmps91;go_wp2_with fail;refine HKB.out.mono ?_;rintro e w1 ⟨x,rfl,hb,hx0,hx1⟩;have hx1r:=HX.out.kept hb;have c1:w1.cell? ⟨n+1,1,none⟩=some (.pointer none):=(hx1r.cell 1).trans rfl;have f1:=hx1r.frozen 1;have c2:w1.cell? ⟨n+1,2,none⟩=some (.pointer none):=(hx1r.cell 2).trans rfl;have f2:=hx1r.frozen 2;have c3:w1.cell? ⟨n+1,3,none⟩=some (.pointer none):=(hx1r.cell 3).trans rfl;have f3:=hx1r.frozen 3;have c4:w1.cell? ⟨n+1,4,none⟩=some (.pointer none):=(hx1r.cell 4).trans rfl;have f4:=hx1r.frozen 4;have c5:w1.cell? ⟨n+1,5,none⟩=some (.pointer none):=(hx1r.cell 5).trans rfl;have f5:=hx1r.frozen 5;have c6:w1.cell? ⟨n+1,6,none⟩=some (.pointer none):=(hx1r.cell 6).trans rfl;have f6:=hx1r.frozen 6;have hbn:=HB.out.trans (hb.mono (by have:=HB.out.size;omega));have HXR:=hid hx1r;have HBN:=hid hbn;have HB1:=hid hb;have HX0:=hid hx0;have HX1:=hid hx1;clear hx1r hbn hb hx0 hx1;obtain rfl:x=none:=HX0.out (by rw[← HC0.out];exact HC.out);go_wp2_with fail;go_ret2;refine⟨none,rfl,?_,fun _=>rfl,fun h=>absurd h HC.out⟩;rw[hn'];exact below_set1 HBN.out (n+1) _ (by omega) _
theorem obegin_o (ho:o.Ok) (w:World) (hl:r.length≤1000000) (hr:Ws w w.heap.size A r) (hat:at'<9223372036854775808):
  Calls Tryz.prog 91 #[.agg (obA o),.int .i64 at',.int .i64 op,.int .i64 rd,.slice A r.length cap] w fun e w'=>∃ x,e=.returned (.tuple #[.pointer x,.int .i64 (begE o at' op rd r.length)])∧Begun o at' op rd r w x w':=by
 by_cases hc:begE o at' op rd r.length=0
 ·exact obegin_ok o at' op rd A cap r ho (kc0_sta hc).1.kd w hl hr hat hc
 ·by_cases hk:o.k=1∨o.k=2∨o.k=3∨o.k=4∨o.k=5∨o.k=6
  ·exact obegin_err o at' op rd A cap r ho hk w hl hr hat hc
  ·exact obegin_none o at' op rd A cap r ho hk w hl hr hat
end
end Go.Proofs.YtolmpehgeinlkaaGreatDoor
