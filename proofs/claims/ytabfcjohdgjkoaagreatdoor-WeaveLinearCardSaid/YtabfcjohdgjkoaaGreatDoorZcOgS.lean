/- An operation on an object begins. -/
import Derived.Test.YtabfcjohdgjkoaaGreatDoorZcOgR
namespace Go.Proofs.YtabfcjohdgjkoaaGreatDoor
open Go.RowKit
open Go.Lib (hid)
attribute [local go_sem] Oper.semAt_some
set_option maxHeartbeats 4000000
set_option maxRecDepth 100000
def rT (o:Ob) (at' op rd:Int) (r:List Int):Kc:=Kc.start o.k o.wd.toNat o.nr o.s.toNat o.c.toNat op rd.toNat at'.toNat (aB o).toNat r
def fM (o:Ob) (at' op rd:Int) (n:Nat):Int:=ql o (aB o) at' op rd n (oA o.k) (oB o.k)
theorem AQ {o:Ob} {sz at' op rd:Int} {n:Nat} {a b:Int} (h:ql o sz at' op rd n a b=0):1≤sz∧0≤at'∧((op=a∧rd=0∧(n:Int)=o.wd)∨(op=b∧0≤rd∧rd<o.nr∧n=0)):=by
 unfold ql at h
 by_cases h1:sz<1∨at'<0
 ·rw[if_pos h1] at h;cases h
 rw[if_neg h1] at h;refine⟨by omega,by omega,?_⟩
 by_cases h3:op=a
 ·rw[if_pos h3] at h
  by_cases h5:rd<0∨1≤rd
  ·rw[if_pos h5] at h;cases h
  rw[if_neg h5] at h
  by_cases h7:(n:Int)=o.wd
  ·exact .inl ⟨h3,by omega,h7⟩
  ·rw[if_pos h7] at h;cases h
 rw[if_neg h3] at h
 by_cases h4:op=b
 ·rw[if_pos h4] at h
  by_cases h5:rd<0∨(o.nr:Int)≤rd
  ·rw[if_pos h5] at h;cases h
  rw[if_neg h5] at h
  by_cases h7:(n:Int)=0
  ·exact .inr ⟨h4,by omega,by omega,by omega⟩
  ·rw[if_pos h7] at h;cases h
 ·rw[if_neg h4] at h;cases h
theorem EA {a b:Int} (ha:0≤a) (hb:0≤b):(a*b).toNat=a.toNat*b.toNat:=by
 obtain⟨x,rfl⟩:=Int.eq_ofNat_of_zero_le ha;obtain⟨y,rfl⟩:=Int.eq_ofNat_of_zero_le hb;rw[← Int.natCast_mul,Int.toNat_natCast,Int.toNat_natCast,Int.toNat_natCast]
theorem rf {o:Ob} {at' op rd:Int} {r:List Int} (h:fM o at' op rd r.length=0):Kc.Sta (rT o at' op rd r)∧bD o∧0≤at'∧0≤rd∧((op=oA o.k∧rd=0∧(r.length:Int)=o.wd)∨(op=oB o.k∧rd<o.nr∧r=[])):=by
 obtain⟨h1,h2,h3⟩:=AQ h
 have hR:bD o:=by
  by_cases q:bD o
  ·exact q
  ·rw[cZ q] at h1;omega
 have jX:0≤rd:=by omega
 have DP:(op=oA o.k∧rd=0∧(r.length:Int)=o.wd)∨(op=oB o.k∧rd<o.nr∧r=[]):=by
  rcases h3 with q | ⟨q1,q2,q3,q4⟩
  ·exact .inl q
  ·exact .inr ⟨q1,q3,List.eq_nil_of_length_eq_zero q4⟩
 refine⟨?_,hR,h2,jX,DP⟩;obtain⟨⟨b1,b2⟩,⟨b3,b4⟩,_⟩:=nE hR
 have aU:(o.k≠6→op=2∨op=1)∧(o.k=6→op=3∨op=4):=by
  have hk:o.k=1∨o.k=2∨o.k=3∨o.k=4∨o.k=5∨o.k=6:=by
   rcases ba hR with q | q | q | q | q | q <;> have:=q.1 <;> omega
  have hA:oA o.k=if o.k=6 then 3 else 2:=by
   unfold oA mr
   rcases hk with q | q | q | q | q | q <;> rw[q] <;> rfl
  have hB:oB o.k=if o.k=6 then 4 else 1:=by
   unfold oB mr
   rcases hk with q | q | q | q | q | q <;> rw[q] <;> rfl
  rw[hA,hB] at DP
  constructor
  ·intro q;rw[if_neg q,if_neg q] at DP
   rcases DP with ⟨e,_⟩ | ⟨e,_⟩
   ·exact .inl e
   ·exact .inr e
  ·intro q;rw[if_pos q,if_pos q] at DP
   rcases DP with ⟨e,_⟩ | ⟨e,_⟩
   ·exact .inl e
   ·exact .inr e
 have hk:∀ j:Int,(rT o at' op rd r).kd=j→o.k=j:=fun j e=>e
 have sJ:(rT o at' op rd r).rd<(rT o at' op rd r).nr:=by
  show rd.toNat<o.nr
  rcases DP with q | q <;> omega
 have hs:(rT o at' op rd r).size=(aB o).toNat:=rfl;have hw:(rT o at' op rd r).wd=o.wd.toNat:=rfl;have hn:(rT o at' op rd r).nr=o.nr:=rfl;have aj:(rT o at' op rd r).sl=o.s.toNat:=rfl;have vO:(rT o at' op rd r).cap=o.c.toNat:=rfl
 have Gh:o.s≤16∧o.c≤16:=by
  rcases ba hR with q | q | q | q | q | q
  ·have:=q.2;unfold cG at this;omega
  ·have:=q.2;unfold cF at this;omega
  ·have:=kC q.2;have h:=q.2;unfold ee at h;omega
  ·have:=fh q.2;omega
  ·have:=gP q.2;omega
  ·have:=gG q.2;have h:=q.2;unfold bL at h;omega
 have four:o.k=1→cG o:=fun e=>by rcases ba hR with q | q | q | q | q | q <;> first | exact q.2 | (have:=q.1;omega)
 have chen:o.k=2→cF o:=fun e=>by rcases ba hR with q | q | q | q | q | q <;> first | exact q.2 | (have:=q.1;omega)
 have seq:o.k=3→ee o:=fun e=>by rcases ba hR with q | q | q | q | q | q <;> first | exact q.2 | (have:=q.1;omega)
 have ring:o.k=4→ce o:=fun e=>by rcases ba hR with q | q | q | q | q | q <;> first | exact q.2 | (have:=q.1;omega)
 have cab:o.k=5→eh o:=fun e=>by rcases ba hR with q | q | q | q | q | q <;> first | exact q.2 | (have:=q.1;omega)
 have fifo:o.k=6→bL o:=fun e=>by rcases ba hR with q | q | q | q | q | q <;> first | exact q.2 | (have:=q.1;omega)
 refine⟨?_,by omega,by omega,by omega,by omega,aU.1,aU.2,sJ,fun e=>?_,fun e=>?_,fun e=>?_,fun e=>?_,fun e=>?_,fun e=>?_,fun e=>?_,fun e=>?_,fun e=>?_,by omega,fun e=>?_,by omega⟩
 ·show o.k=1∨o.k=2∨o.k=3∨o.k=4∨o.k=5∨o.k=6
  rcases ba hR with q | q | q | q | q | q <;> have:=q.1 <;> omega
 ·rw[hs,hw,gx (four e)];omega
 ·rw[hs,hw,hn,gv (chen e)];have:=EA (a:=(o.nr:Int)+2) (b:=o.wd) (by omega) (by omega);rw[show((o.nr:Int)+2).toNat=o.nr+2 by omega] at this;have h0:0≤((o.nr:Int)+2)*o.wd:=Int.mul_nonneg (by omega) (by omega);omega
 ·rw[hs,hw,ir (seq e)];omega
 ·rw[hs,hw,aj,gy (ring e)];obtain⟨_,_,_,_,_,_,_,_⟩:=fh (ring e);have:=EA (a:=o.s) (b:=o.wd) (by omega) (by omega);have h0:0≤o.s*o.wd:=Int.mul_nonneg (by omega) (by omega);omega
 ·rw[hs,hw,hn,aj,iq (cab e)];obtain⟨_,_,_,_,_,_,_,_⟩:=gP (cab e);have:=EA (a:=o.s) (b:=o.wd) (by omega) (by omega);have h0:0≤o.s*o.wd:=Int.mul_nonneg (by omega) (by omega);omega
 ·rw[hs,hw,aj,gw (fifo e)];obtain⟨_,_,_,_,_,_⟩:=gG (fifo e);have:=EA (a:=o.s) (b:=o.wd) (by omega) (by omega);have h0:0≤o.s*o.wd:=Int.mul_nonneg (by omega) (by omega);omega
 ·obtain⟨_,_,_,_,_,_,_,_⟩:=fh (ring e);omega
 ·obtain⟨_,_,_,_,_,_,_,_⟩:=gP (cab e);omega
 ·obtain⟨_,_,_,_,_,_⟩:=gG (fifo e);omega
 ·rw[vO]
  rcases e with e | e | e
  ·obtain⟨_,_,_,_,_,_⟩:=kC (seq e);omega
  ·obtain⟨_,_,_,_,_,_,_,_⟩:=fh (ring e);omega
  ·obtain⟨_,_,_,_,_,_,_,_⟩:=gP (cab e);omega
theorem vz {o:Ob} (h:bD o):0≤o.s∧0≤o.c∧0≤o.wd:=by
 rcases ba h with q | q | q | q | q | q
 ·have h:=q.2;unfold cG ax at h;omega
 ·have h:=q.2;unfold cF ax at h;omega
 ·have h:=q.2;unfold ee ax dB at h;omega
 ·have:=fh q.2;omega
 ·have:=gP q.2;omega
 ·have h:=q.2;unfold bL ax at h;omega
theorem ux {o:Ob} {at' op rd:Int} {r:List Int} (h:fM o at' op rd r.length=0) (hw:W32 r) (nl:at'<9223372036854775808):Kc.Inv (rT o at' op rd r)∧Fits o (rT o at' op rd r)∧∀ v,bJ o op rd at' (aB o) v=vF o (rT o at' op rd r) 0 v (.pointer none):=by
 obtain⟨hS,hR,SR,m9,hc⟩:=rf h;obtain⟨p1,p2,p3⟩:=vz hR;have hz:=ny o;have hk:o.k=1∨o.k=2∨o.k=3∨o.k=4∨o.k=5∨o.k=6:=hS.kd
 have hA:(oA o.k=2∨oA o.k=3)∧(oB o.k=1∨oB o.k=4):=by
  unfold oA oB mr
  rcases hk with q | q | q | q | q | q <;> rw[q] <;> decide
 have hI:Kc.Inv (rT o at' op rd r):=by
  refine Kc.inv_start hS hw (fun q=>?_) (fun q=>?_)
  ·rcases hc with ⟨e,_,e2⟩ | ⟨e,_,_⟩
   ·omega
   ·rcases hA.2 with q2 | q2 <;> rw[e,q2] at q <;> omega
  ·rcases hc with ⟨e,_,_⟩ | ⟨_,_,e⟩
   ·exact absurd (by rw[e];exact hA.1) q
   ·exact e
 refine⟨hI,⟨rfl,?_,?_,?_,rfl,hS.wd8,hS.nr4,hS.sl16,hS.cap16,?_,?_,?_,Nat.zero_le _,Nat.zero_le _,Nat.zero_le _,Int.le_refl _,by show(0:Int)<_;omega,Int.le_refl _,by show(0:Int)<_;omega⟩,fun v=>?_⟩
 ·show o.wd=((o.wd.toNat:Nat):Int);omega
 ·show o.s=((o.s.toNat:Nat):Int);omega
 ·show o.c=((o.c.toNat:Nat):Int);omega
 ·have h1:=hS.rd;have h2:=hS.nr4;omega
 ·show at'.toNat<_;omega
 ·show(aB o).toNat≤1000;omega
 ·unfold bJ vF rT Kc.start;have e1:((rd.toNat:Nat):Int)=rd:=by omega
  have e2:((at'.toNat:Nat):Int)=at':=by omega
  have e3:(((aB o).toNat:Nat):Int)=aB o:=by omega
  dsimp only;rw[e1,e2,e3];rfl
theorem Ma:lW 0 (fun _=>false):=⟨Int.le_refl _,by omega,fun k=>by simp⟩
theorem OpS.start {o:Ob} {at' op rd:Int} {r:List Int} {w:World} {b N:Nat} {ty:TypeId} {v:Value} (h:fM o at' op rd r.length=0) (hw:W32 r) (nl:at'<9223372036854775808) (hr:RowB w b (bJ o op rd at' (aB o) v) ty) (ho:OwnW N w v r) (hb:v.ownBlock≠some b):OpS w b ty o (rT o at' op rd r) v (.pointer none):=by
 obtain⟨_,hf,he⟩:=ux h hw nl;rw[he] at hr;exact⟨⟨0,Ma,hr⟩,ho.1.mono (Nat.zero_le _),hw,hf,hb⟩
theorem jD {w:World} {B:Nat} {A:Option Addr} {l:List Int} (h:Ws w B A l):W32 l:=fun z hz=>by
 have:=h.2 z hz;simp[Lit.wf,IntKind.min,IntKind.max,IntKind.signed,IntKind.bits] at this;omega
def vc (o:Ob) (at' op rd:Int) (r:List Int) (w:World) (x:Option Addr) (w':World):Prop:=
 Below w.heap.size w w'∧(fM o at' op rd r.length≠0→x=none)∧(fM o at' op rd r.length=0→∃ xb sb ty rv,x=some ⟨xb,0,none⟩∧w.heap.size≤xb∧w.heap.size≤sb∧(∀ b,rv.ownBlock=some b→w.heap.size≤b)∧Oj w' xb sb ty o (rT o at' op rd r) rv (.pointer none)∧Kc.Inv (rT o at' op rd r))
section
variable (o:Ob) (at' op rd:Int) (A:Option Addr) (cap:Nat) (r:List Int)
theorem sT (_ho:o.Ok) (hk:¬ (o.k=1∨o.k=2∨o.k=3∨o.k=4∨o.k=5∨o.k=6)) (w:World) (_hl:r.length≤1000000) (hr:Ws w w.heap.size A r) (_hat:at'<9223372036854775808):
  Calls Tryz.prog 93 #[.agg (af o),.int .i64 at',.int .i64 op,.int .i64 rd,.slice A r.length cap] w fun e w'=>∃ x,e=.returned (.tuple #[.pointer x,.int .i64 (fM o at' op rd r.length)])∧vc o at' op rd r w x w':=by
 have hn:=RowB.new w (af o) 26;have jU:=bK w (.cells (af o) 26);have hx:=RowB.new (w.alloc (.cells (af o) 26)) #[.int .i64 o.k,.pointer none,.pointer none,.pointer none,.pointer none,.pointer none,.pointer none] 142;have aq:=(Below.refl _ (w.alloc (.cells (af o) 26))).alloc (Nat.le_refl _) (.cells #[.int .i64 o.k,.pointer none,.pointer none,.pointer none,.pointer none,.pointer none,.pointer none] 142);have gT:=hn.kept aq;have bF:=jU.trans (aq.mono jU.size);have bV:=hr.below bF bF.size;have ga:=jD hr;rw[World.size_alloc] at hx;have k1:(o.k==1)=false:=by simp;omega
 have k2:(o.k==2)=false:=by simp;omega
 have k3:(o.k==3)=false:=by simp;omega
 have k4:(o.k==4)=false:=by simp;omega
 have k5:(o.k==5)=false:=by simp;omega
 have k6:(o.k==6)=false:=by simp;omega
 have eQ:fM o at' op rd r.length=1:=by
  have Tn:¬ bD o:=fun h=>hk (by rcases ba h with q | q | q | q | q | q <;> have:=q.1 <;> omega)
  unfold fM ql;rw[cZ Tn,if_pos (.inl (by omega))]
 rw[eQ];have fC:=hid eQ;have HB:=hid bF;clear hn jU hx aq gT bF bV eQ hr ga _ho _hl;unfold af at HB;unfold af;go_enter Tryz.func93,Tryz.ntmps93;go_wp2_with fail;go_ret2;exact⟨none,rfl,HB.out,fun _=>rfl,fun h=>by rw[fC.out] at h;cases h⟩
def Pj (k:Int):Nat:=match k.toNat with
 | 1=>153
 | 2=>154
 | 3=>155
 | 4=>156
 | 5=>157
 | _=>158
def TT (k:Int):TypeId:=match k.toNat with
 | 1=>181
 | 2=>182
 | 3=>183
 | 4=>184
 | 5=>185
 | _=>186
theorem oF (ho:o.Ok) (hk:o.k=1∨o.k=2∨o.k=3∨o.k=4∨o.k=5∨o.k=6) (w:World) (hl:r.length≤1000000) (hr:Ws w w.heap.size A r):jR o at' op rd A cap r (Pj o.k) (TT o.k) (aB o) (fM o at' op rd r.length) w:=by
 unfold fM
 rcases hk with q | q | q | q | q | q
 ·have h:=su o at' op rd A cap r ho q w hl hr;rw[q];exact h
 ·have h:=si o at' op rd A cap r ho q w hl hr;rw[q];exact h
 ·have h:=uO o at' op rd A cap r ho q w hl hr;rw[q];exact h
 ·have h:=tj o at' op rd A cap r ho q w hl hr;rw[q];exact h
 ·have h:=tU o at' op rd A cap r ho q w hl hr;rw[q];exact h
 ·have h:=sn o at' op rd A cap r ho (by omega) w hl hr;rw[q];exact h
theorem RowB.cast {w:World} {n:Nat} {a b:Array Value} {t:TypeId} (h:RowB w n a t) (e:a=b):RowB w n b t:=e ▸ h
theorem xK (ho:o.Ok) (hk:o.k=1∨o.k=2∨o.k=3∨o.k=4∨o.k=5∨o.k=6) (w:World) (hl:r.length≤1000000) (hr:Ws w w.heap.size A r) (nl:at'<9223372036854775808) (eQ:fM o at' op rd r.length=0):
  Calls Tryz.prog 93 #[.agg (af o),.int .i64 at',.int .i64 op,.int .i64 rd,.slice A r.length cap] w fun e w'=>∃ x,e=.returned (.tuple #[.pointer x,.int .i64 (fM o at' op rd r.length)])∧vc o at' op rd r w x w':=by
 have jU:=bK w (.cells (af o) 26);have hx:=RowB.new (w.alloc (.cells (af o) 26)) #[.int .i64 o.k,.pointer none,.pointer none,.pointer none,.pointer none,.pointer none,.pointer none] 142;have aq:=(Below.refl _ (w.alloc (.cells (af o) 26))).alloc (Nat.le_refl _) (.cells #[.int .i64 o.k,.pointer none,.pointer none,.pointer none,.pointer none,.pointer none,.pointer none] 142);have bF:=jU.trans (aq.mono jU.size);have bV:=hr.below bF bF.size;have ga:=jD hr;rw[World.size_alloc] at hx;have zT:=oF o at' op rd A cap r ho hk _ hl bV;obtain⟨FF,hF⟩:∃ x,Pj o.k=x:=⟨_,rfl⟩;rw[hF] at zT;unfold jR at zT;have GB:=hid zT;have HX:=hid hx;have HB:=hid bF;have HW:=hid ga;have HC:=hid eQ;obtain⟨n,i6⟩:∃ n,w.heap.size=n:=⟨_,rfl⟩;rw[i6] at HX HB;obtain⟨code,dl⟩:∃ x,fM o at' op rd r.length=x:=⟨_,rfl⟩;have Fv:=hid dl;rw[dl] at eQ ⊢;rw[dl] at GB;have d0:(code != 0)=false:=by simpa using eQ
 clear jU hx aq bF bV hr ga ho hl zT eQ dl;unfold af at HX HB GB;unfold af
 rcases hk with q | q | q | q | q | q
 all_goals
  rw[q] at hF;subst hF
  first | have k1:(o.k==1)=true:=by(rw[q];rfl) | have k1:(o.k==1)=false:=by(rw[q];rfl)
  first | have k2:(o.k==2)=true:=by(rw[q];rfl) | have k2:(o.k==2)=false:=by(rw[q];rfl)
  first | have k3:(o.k==3)=true:=by(rw[q];rfl) | have k3:(o.k==3)=false:=by(rw[q];rfl)
  first | have k4:(o.k==4)=true:=by(rw[q];rfl) | have k4:(o.k==4)=false:=by(rw[q];rfl)
  first | have k5:(o.k==5)=true:=by(rw[q];rfl) | have k5:(o.k==5)=false:=by(rw[q];rfl)
  first | have k6:(o.k==6)=true:=by(rw[q];rfl) | have k6:(o.k==6)=false:=by(rw[q];rfl)
  have HK:=hid q;clear q;go_enter Tryz.func93,Tryz.ntmps93;go_wp2_with fail;refine GB.out.mono ?_;rintro e w1 ⟨x,rfl,hb,kx,lM⟩;have ff:=HX.out.kept hb;have c1:w1.cell? ⟨n+1,1,none⟩=some (.pointer none):=(ff.cell 1).trans rfl;have f1:=ff.frozen 1;have c2:w1.cell? ⟨n+1,2,none⟩=some (.pointer none):=(ff.cell 2).trans rfl;have f2:=ff.frozen 2;have c3:w1.cell? ⟨n+1,3,none⟩=some (.pointer none):=(ff.cell 3).trans rfl;have f3:=ff.frozen 3;have c4:w1.cell? ⟨n+1,4,none⟩=some (.pointer none):=(ff.cell 4).trans rfl;have f4:=ff.frozen 4;have c5:w1.cell? ⟨n+1,5,none⟩=some (.pointer none):=(ff.cell 5).trans rfl;have f5:=ff.frozen 5;have c6:w1.cell? ⟨n+1,6,none⟩=some (.pointer none):=(ff.cell 6).trans rfl;have f6:=ff.frozen 6;have F2:=eC HB.out hb;have Nq:=hid ff;have MT:=hid F2;have bT:=hid hb;have Qe:=hid kx;have yH:=hid lM;clear ff F2 hb kx lM;obtain⟨b,v,rfl,F2,bH,bU,eZ⟩:=yH.out (by rw[← Fv.out];exact HC.out);have HR:=hid (And.intro bH (And.intro bU eZ));have eE:n+2≤b:=by rw[World.size_alloc,World.size_alloc] at F2;omega
  clear bH bU eZ F2;go_wp2_with fail;go_ret2;refine⟨some ⟨n+1,0,none⟩,(by have h1:=Fv.out;have h2:=HC.out;rw[h1] at h2;rw[h2];rfl),?_,fun h=>absurd HC.out h,fun _=>?_⟩
  ·rw[i6];exact eG MT.out (n+1) _ (by omega) _
  have TJ:=Nq.out.lt;have hT:∀ j u,Tch (fun q=>q=n+1) w1 (w1.setCell ⟨n+1,j,none⟩ u):=fun j u=>(Tch.refl (fun q=>q=n+1) w1).set (b:=n+1) rfl j u
  have El:∀ q,v.ownBlock=some q→n+2≤q:=fun q hq=>by
   have:=(World.ownsRow.lt HR.out.2.1.1 q hq).1;rw[World.size_alloc,World.size_alloc] at this;omega
  have aU:=fun j u=>OpS.start (N:=0) HC.out HW.out nl (HR.out.1.tch (hT j u) (by omega)) ⟨(bl HR.out.2.1.1 (hT j u) (fun q hq e=>by have:=El q hq;omega)).mono (Nat.zero_le _),HR.out.2.1.2⟩ HR.out.2.2
  refine⟨n+1,b,_,v,rfl,by omega,by omega,fun q hq=>by have:=El q hq;omega,⟨?_,aU _ _,by omega,fun hq=>by have:=El _ hq;omega,⟨_,rfl⟩⟩,(ux HC.out HW.out nl).1⟩;refine(Nq.out.set _ _).cast ?_;show _=AY o.k b;unfold AY lr;rw[HK.out];rfl
theorem uD (ho:o.Ok) (hk:o.k=1∨o.k=2∨o.k=3∨o.k=4∨o.k=5∨o.k=6) (w:World) (hl:r.length≤1000000) (hr:Ws w w.heap.size A r) (_hat:at'<9223372036854775808) (eQ:fM o at' op rd r.length≠0):
  Calls Tryz.prog 93 #[.agg (af o),.int .i64 at',.int .i64 op,.int .i64 rd,.slice A r.length cap] w fun e w'=>∃ x,e=.returned (.tuple #[.pointer x,.int .i64 (fM o at' op rd r.length)])∧vc o at' op rd r w x w':=by
 have jU:=bK w (.cells (af o) 26);have hx:=RowB.new (w.alloc (.cells (af o) 26)) #[.int .i64 o.k,.pointer none,.pointer none,.pointer none,.pointer none,.pointer none,.pointer none] 142;have aq:=(Below.refl _ (w.alloc (.cells (af o) 26))).alloc (Nat.le_refl _) (.cells #[.int .i64 o.k,.pointer none,.pointer none,.pointer none,.pointer none,.pointer none,.pointer none] 142);have bF:=jU.trans (aq.mono jU.size);have bV:=hr.below bF bF.size;have ga:=jD hr;rw[World.size_alloc] at hx;have zT:=oF o at' op rd A cap r ho hk _ hl bV;obtain⟨FF,hF⟩:∃ x,Pj o.k=x:=⟨_,rfl⟩;rw[hF] at zT;unfold jR at zT;have GB:=hid zT;have HX:=hid hx;have HB:=hid bF;have HW:=hid ga;have HC:=hid eQ;obtain⟨n,i6⟩:∃ n,w.heap.size=n:=⟨_,rfl⟩;rw[i6] at HX HB;obtain⟨code,dl⟩:∃ x,fM o at' op rd r.length=x:=⟨_,rfl⟩;have Fv:=hid dl;rw[dl] at eQ ⊢;rw[dl] at GB;have d0:(code != 0)=true:=by simpa using eQ
 clear jU hx aq bF bV hr ga ho hl zT eQ dl;unfold af at HX HB GB;unfold af
 rcases hk with q | q | q | q | q | q
 all_goals
  rw[q] at hF;subst hF
  first | have k1:(o.k==1)=true:=by(rw[q];rfl) | have k1:(o.k==1)=false:=by(rw[q];rfl)
  first | have k2:(o.k==2)=true:=by(rw[q];rfl) | have k2:(o.k==2)=false:=by(rw[q];rfl)
  first | have k3:(o.k==3)=true:=by(rw[q];rfl) | have k3:(o.k==3)=false:=by(rw[q];rfl)
  first | have k4:(o.k==4)=true:=by(rw[q];rfl) | have k4:(o.k==4)=false:=by(rw[q];rfl)
  first | have k5:(o.k==5)=true:=by(rw[q];rfl) | have k5:(o.k==5)=false:=by(rw[q];rfl)
  first | have k6:(o.k==6)=true:=by(rw[q];rfl) | have k6:(o.k==6)=false:=by(rw[q];rfl)
  have HK:=hid q;clear q;go_enter Tryz.func93,Tryz.ntmps93;go_wp2_with fail;refine GB.out.mono ?_;rintro e w1 ⟨x,rfl,hb,kx,lM⟩;have ff:=HX.out.kept hb;have c1:w1.cell? ⟨n+1,1,none⟩=some (.pointer none):=(ff.cell 1).trans rfl;have f1:=ff.frozen 1;have c2:w1.cell? ⟨n+1,2,none⟩=some (.pointer none):=(ff.cell 2).trans rfl;have f2:=ff.frozen 2;have c3:w1.cell? ⟨n+1,3,none⟩=some (.pointer none):=(ff.cell 3).trans rfl;have f3:=ff.frozen 3;have c4:w1.cell? ⟨n+1,4,none⟩=some (.pointer none):=(ff.cell 4).trans rfl;have f4:=ff.frozen 4;have c5:w1.cell? ⟨n+1,5,none⟩=some (.pointer none):=(ff.cell 5).trans rfl;have f5:=ff.frozen 5;have c6:w1.cell? ⟨n+1,6,none⟩=some (.pointer none):=(ff.cell 6).trans rfl;have f6:=ff.frozen 6;have F2:=eC HB.out hb;have Nq:=hid ff;have MT:=hid F2;have bT:=hid hb;have Qe:=hid kx;have yH:=hid lM;clear ff F2 hb kx lM;obtain rfl:x=none:=Qe.out (by rw[← Fv.out];exact HC.out);go_wp2_with fail;go_ret2;refine⟨none,rfl,?_,fun _=>rfl,fun h=>absurd h HC.out⟩;rw[i6];exact eG MT.out (n+1) _ (by omega) _
theorem AW (ho:o.Ok) (w:World) (hl:r.length≤1000000) (hr:Ws w w.heap.size A r) (nl:at'<9223372036854775808):
  Calls Tryz.prog 93 #[.agg (af o),.int .i64 at',.int .i64 op,.int .i64 rd,.slice A r.length cap] w fun e w'=>∃ x,e=.returned (.tuple #[.pointer x,.int .i64 (fM o at' op rd r.length)])∧vc o at' op rd r w x w':=by
 by_cases hc:fM o at' op rd r.length=0
 ·exact xK o at' op rd A cap r ho (rf hc).1.kd w hl hr nl hc
 ·by_cases hk:o.k=1∨o.k=2∨o.k=3∨o.k=4∨o.k=5∨o.k=6
  ·exact uD o at' op rd A cap r ho hk w hl hr nl hc
  ·exact sT o at' op rd A cap r ho hk w hl hr nl
end
end Go.Proofs.YtabfcjohdgjkoaaGreatDoor
