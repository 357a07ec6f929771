/- An operation on an object begins. -/
import Derived.Test.YtolmpehgeinlkaaGreatDoorZcOgR
namespace Go.Proofs.YtolmpehgeinlkaaGreatDoor
open Go.RowKit
open Go.Lib (hid)
attribute [local go_sem] Oper.semAt_some
set_option maxHeartbeats 4000000
set_option maxRecDepth 100000
def kW (o:Ob) (at' op rd:Int) (r:List Int):Kc:=Kc.start o.k o.wd.toNat o.nr o.s.toNat o.c.toNat op rd.toNat at'.toNat (av o).toNat r
def cZ (o:Ob) (at' op rd:Int) (n:Nat):Int:=lz o (av o) at' op rd n (oA o.k) (oB o.k)
theorem xI {o:Ob} {sz at' op rd:Int} {n:Nat} {a b:Int} (h:lz o sz at' op rd n a b=0):1≤sz∧0≤at'∧((op=a∧rd=0∧(n:Int)=o.wd)∨(op=b∧0≤rd∧rd<o.nr∧n=0)):=by
 unfold lz at h
 by_cases h1:sz<1∨at'<0
 ·rw[if_pos h1] at h;cases h
 rw[if_neg h1] at h;refine⟨by omega,by omega,?_⟩
 by_cases h3:op=a
 ·rw[if_pos h3] at h
  by_cases h5:rd<0∨1≤rd
  ·rw[if_pos h5] at h;cases h
  rw[if_neg h5] at h
  by_cases h7:(n:Int)=o.wd
  ·exact .inl ⟨h3,by omega,h7⟩
  ·rw[if_pos h7] at h;cases h
 rw[if_neg h3] at h
 by_cases h4:op=b
 ·rw[if_pos h4] at h
  by_cases h5:rd<0∨(o.nr:Int)≤rd
  ·rw[if_pos h5] at h;cases h
  rw[if_neg h5] at h
  by_cases h7:(n:Int)=0
  ·exact .inr ⟨h4,by omega,by omega,by omega⟩
  ·rw[if_pos h7] at h;cases h
 ·rw[if_neg h4] at h;cases h
theorem Bu {a b:Int} (ha:0≤a) (hb:0≤b):(a*b).toNat=a.toNat*b.toNat:=by
 obtain⟨x,rfl⟩:=Int.eq_ofNat_of_zero_le ha;obtain⟨y,rfl⟩:=Int.eq_ofNat_of_zero_le hb;rw[← Int.natCast_mul,Int.toNat_natCast,Int.toNat_natCast,Int.toNat_natCast]
theorem jM {o:Ob} {at' op rd:Int} {r:List Int} (h:cZ o at' op rd r.length=0):Kc.Sta (kW o at' op rd r)∧aT o∧0≤at'∧0≤rd∧((op=oA o.k∧rd=0∧(r.length:Int)=o.wd)∨(op=oB o.k∧rd<o.nr∧r=[])):=by
 obtain⟨h1,h2,h3⟩:=xI h
 have hR:aT o:=by
  by_cases q:aT o
  ·exact q
  ·rw[cH q] at h1;omega
 have gg:0≤rd:=by omega
 have El:(op=oA o.k∧rd=0∧(r.length:Int)=o.wd)∨(op=oB o.k∧rd<o.nr∧r=[]):=by
  rcases h3 with q | ⟨q1,q2,q3,q4⟩
  ·exact .inl q
  ·exact .inr ⟨q1,q3,List.eq_nil_of_length_eq_zero q4⟩
 refine⟨?_,hR,h2,gg,El⟩;obtain⟨⟨b1,b2⟩,⟨b3,b4⟩,_⟩:=gP hR
 have aA:(o.k≠6→op=2∨op=1)∧(o.k=6→op=3∨op=4):=by
  have hk:o.k=1∨o.k=2∨o.k=3∨o.k=4∨o.k=5∨o.k=6:=by
   rcases bQ hR with q | q | q | q | q | q <;> have:=q.1 <;> omega
  have hA:oA o.k=if o.k=6 then 3 else 2:=by
   unfold oA bG
   rcases hk with q | q | q | q | q | q <;> rw[q] <;> rfl
  have hB:oB o.k=if o.k=6 then 4 else 1:=by
   unfold oB bG
   rcases hk with q | q | q | q | q | q <;> rw[q] <;> rfl
  rw[hA,hB] at El
  constructor
  ·intro q;rw[if_neg q,if_neg q] at El
   rcases El with ⟨e,_⟩ | ⟨e,_⟩
   ·exact .inl e
   ·exact .inr e
  ·intro q;rw[if_pos q,if_pos q] at El
   rcases El with ⟨e,_⟩ | ⟨e,_⟩
   ·exact .inl e
   ·exact .inr e
 have hk:∀ j:Int,(kW o at' op rd r).kd=j→o.k=j:=fun j e=>e
 have Cz:(kW o at' op rd r).rd<(kW o at' op rd r).nr:=by
  show rd.toNat<o.nr
  rcases El with q | q <;> omega
 have hs:(kW o at' op rd r).size=(av o).toNat:=rfl;have hw:(kW o at' op rd r).wd=o.wd.toNat:=rfl;have hn:(kW o at' op rd r).nr=o.nr:=rfl;have bH:(kW o at' op rd r).sl=o.s.toNat:=rfl;have fy:(kW o at' op rd r).cap=o.c.toNat:=rfl
 have Ks:o.s≤16∧o.c≤16:=by
  rcases bQ hR with q | q | q | q | q | q
  ·have:=q.2;unfold cG at this;omega
  ·have:=q.2;unfold cF at this;omega
  ·have:=gj q.2;have h:=q.2;unfold dB at h;omega
  ·have:=dc q.2;omega
  ·have:=eM q.2;omega
  ·have:=ea q.2;have h:=q.2;unfold bS at h;omega
 have four:o.k=1→cG o:=fun e=>by rcases bQ hR with q | q | q | q | q | q <;> first | exact q.2 | (have:=q.1;omega)
 have chen:o.k=2→cF o:=fun e=>by rcases bQ hR with q | q | q | q | q | q <;> first | exact q.2 | (have:=q.1;omega)
 have seq:o.k=3→dB o:=fun e=>by rcases bQ hR with q | q | q | q | q | q <;> first | exact q.2 | (have:=q.1;omega)
 have ring:o.k=4→bY o:=fun e=>by rcases bQ hR with q | q | q | q | q | q <;> first | exact q.2 | (have:=q.1;omega)
 have cab:o.k=5→dK o:=fun e=>by rcases bQ hR with q | q | q | q | q | q <;> first | exact q.2 | (have:=q.1;omega)
 have fifo:o.k=6→bS o:=fun e=>by rcases bQ hR with q | q | q | q | q | q <;> first | exact q.2 | (have:=q.1;omega)
 refine⟨?_,by omega,by omega,by omega,by omega,aA.1,aA.2,Cz,fun e=>?_,fun e=>?_,fun e=>?_,fun e=>?_,fun e=>?_,fun e=>?_,fun e=>?_,fun e=>?_,fun e=>?_,by omega,fun e=>?_,by omega⟩
 ·show o.k=1∨o.k=2∨o.k=3∨o.k=4∨o.k=5∨o.k=6
  rcases bQ hR with q | q | q | q | q | q <;> have:=q.1 <;> omega
 ·rw[hs,hw,eR (four e)];omega
 ·rw[hs,hw,hn,eS (chen e)];have:=Bu (a:=(o.nr:Int)+2) (b:=o.wd) (by omega) (by omega);rw[show((o.nr:Int)+2).toNat=o.nr+2 by omega] at this;have h0:0≤((o.nr:Int)+2)*o.wd:=Int.mul_nonneg (by omega) (by omega);omega
 ·rw[hs,hw,fE (seq e)];omega
 ·rw[hs,hw,bH,eU (ring e)];obtain⟨_,_,_,_,_,_,_,_⟩:=dc (ring e);have:=Bu (a:=o.s) (b:=o.wd) (by omega) (by omega);have h0:0≤o.s*o.wd:=Int.mul_nonneg (by omega) (by omega);omega
 ·rw[hs,hw,hn,bH,fG (cab e)];obtain⟨_,_,_,_,_,_,_,_⟩:=eM (cab e);have:=Bu (a:=o.s) (b:=o.wd) (by omega) (by omega);have h0:0≤o.s*o.wd:=Int.mul_nonneg (by omega) (by omega);omega
 ·rw[hs,hw,bH,eP (fifo e)];obtain⟨_,_,_,_,_,_⟩:=ea (fifo e);have:=Bu (a:=o.s) (b:=o.wd) (by omega) (by omega);have h0:0≤o.s*o.wd:=Int.mul_nonneg (by omega) (by omega);omega
 ·obtain⟨_,_,_,_,_,_,_,_⟩:=dc (ring e);omega
 ·obtain⟨_,_,_,_,_,_,_,_⟩:=eM (cab e);omega
 ·obtain⟨_,_,_,_,_,_⟩:=ea (fifo e);omega
 ·rw[fy]
  rcases e with e | e | e
  ·obtain⟨_,_,_,_,_,_⟩:=gj (seq e);omega
  ·obtain⟨_,_,_,_,_,_,_,_⟩:=dc (ring e);omega
  ·obtain⟨_,_,_,_,_,_,_,_⟩:=eM (cab e);omega
theorem t9 {o:Ob} (h:aT o):0≤o.s∧0≤o.c∧0≤o.wd:=by
 rcases bQ h with q | q | q | q | q | q
 ·have h:=q.2;unfold cG aH at h;omega
 ·have h:=q.2;unfold cF aH at h;omega
 ·have h:=q.2;unfold dB aH di at h;omega
 ·have:=dc q.2;omega
 ·have:=eM q.2;omega
 ·have h:=q.2;unfold bS aH at h;omega
theorem pa {o:Ob} {at' op rd:Int} {r:List Int} (h:cZ o at' op rd r.length=0) (hw:W32 r) (Ai:at'<9223372036854775808):Kc.Inv (kW o at' op rd r)∧Fits o (kW o at' op rd r)∧∀ v,bR o op rd at' (av o) v=ug o (kW o at' op rd r) 0 v (.pointer none):=by
 obtain⟨hS,hR,MA,ll,hc⟩:=jM h;obtain⟨p1,p2,p3⟩:=t9 hR;have hz:=gJ o;have hk:o.k=1∨o.k=2∨o.k=3∨o.k=4∨o.k=5∨o.k=6:=hS.kd
 have hA:(oA o.k=2∨oA o.k=3)∧(oB o.k=1∨oB o.k=4):=by
  unfold oA oB bG
  rcases hk with q | q | q | q | q | q <;> rw[q] <;> decide
 have hI:Kc.Inv (kW o at' op rd r):=by
  refine Kc.inv_start hS hw (fun q=>?_) (fun q=>?_)
  ·rcases hc with ⟨e,_,e2⟩ | ⟨e,_,_⟩
   ·omega
   ·rcases hA.2 with q2 | q2 <;> rw[e,q2] at q <;> omega
  ·rcases hc with ⟨e,_,_⟩ | ⟨_,_,e⟩
   ·exact absurd (by rw[e];exact hA.1) q
   ·exact e
 refine⟨hI,⟨rfl,?_,?_,?_,rfl,hS.wd8,hS.nr4,hS.sl16,hS.cap16,?_,?_,?_,Nat.zero_le _,Nat.zero_le _,Nat.zero_le _,Int.le_refl _,by show(0:Int)<_;omega,Int.le_refl _,by show(0:Int)<_;omega⟩,fun v=>?_⟩
 ·show o.wd=((o.wd.toNat:Nat):Int);omega
 ·show o.s=((o.s.toNat:Nat):Int);omega
 ·show o.c=((o.c.toNat:Nat):Int);omega
 ·have h1:=hS.rd;have h2:=hS.nr4;omega
 ·show at'.toNat<_;omega
 ·show(av o).toNat≤1000;omega
 ·unfold bR ug kW Kc.start;have e1:((rd.toNat:Nat):Int)=rd:=by omega
  have e2:((at'.toNat:Nat):Int)=at':=by omega
  have e3:(((av o).toNat:Nat):Int)=av o:=by omega
  dsimp only;rw[e1,e2,e3];rfl
theorem Gy:kE 0 (fun _=>false):=⟨Int.le_refl _,by omega,fun k=>by simp⟩
theorem OpS.start {o:Ob} {at' op rd:Int} {r:List Int} {w:World} {b N:Nat} {ty:TypeId} {v:Value} (h:cZ o at' op rd r.length=0) (hw:W32 r) (Ai:at'<9223372036854775808) (hr:RowB w b (bR o op rd at' (av o) v) ty) (ho:OwnW N w v r) (hb:v.ownBlock≠some b):OpS w b ty o (kW o at' op rd r) v (.pointer none):=by
 obtain⟨_,hf,he⟩:=pa h hw Ai;rw[he] at hr;exact⟨⟨0,Gy,hr⟩,ho.1.mono (Nat.zero_le _),hw,hf,hb⟩
theorem ft {w:World} {B:Nat} {A:Option Addr} {l:List Int} (h:Ws w B A l):W32 l:=fun z hz=>by
 have:=h.2 z hz;simp[Lit.wf,IntKind.min,IntKind.max,IntKind.signed,IntKind.bits] at this;omega
def uF (o:Ob) (at' op rd:Int) (r:List Int) (w:World) (x:Option Addr) (w':World):Prop:=
 Below w.heap.size w w'∧(cZ o at' op rd r.length≠0→x=none)∧(cZ o at' op rd r.length=0→∃ xb sb ty rv,x=some ⟨xb,0,none⟩∧w.heap.size≤xb∧w.heap.size≤sb∧(∀ b,rv.ownBlock=some b→w.heap.size≤b)∧Oj w' xb sb ty o (kW o at' op rd r) rv (.pointer none)∧Kc.Inv (kW o at' op rd r))
section
variable (o:Ob) (at' op rd:Int) (A:Option Addr) (cap:Nat) (r:List Int)
theorem qM (_ho:o.Ok) (hk:¬ (o.k=1∨o.k=2∨o.k=3∨o.k=4∨o.k=5∨o.k=6)) (w:World) (_hl:r.length≤1000000) (hr:Ws w w.heap.size A r) (_hat:at'<9223372036854775808):
  Calls Tryz.prog 91 #[.agg (af o),.int .i64 at',.int .i64 op,.int .i64 rd,.slice A r.length cap] w fun e w'=>∃ x,e=.returned (.tuple #[.pointer x,.int .i64 (cZ o at' op rd r.length)])∧uF o at' op rd r w x w':=by
 have hn:=RowB.new w (af o) 26;have iZ:=bt w (.cells (af o) 26);have hx:=RowB.new (w.alloc (.cells (af o) 26)) #[.int .i64 o.k,.pointer none,.pointer none,.pointer none,.pointer none,.pointer none,.pointer none] 114;have am:=(Below.refl _ (w.alloc (.cells (af o) 26))).alloc (Nat.le_refl _) (.cells #[.int .i64 o.k,.pointer none,.pointer none,.pointer none,.pointer none,.pointer none,.pointer none] 114);have iR:=hn.kept am;have aO:=iZ.trans (am.mono iZ.size);have bi:=hr.below aO aO.size;have iX:=ft hr;rw[World.size_alloc] at hx;have k1:(o.k==1)=false:=by simp;omega
 have k2:(o.k==2)=false:=by simp;omega
 have k3:(o.k==3)=false:=by simp;omega
 have k4:(o.k==4)=false:=by simp;omega
 have k5:(o.k==5)=false:=by simp;omega
 have k6:(o.k==6)=false:=by simp;omega
 have eE:cZ o at' op rd r.length=1:=by
  have L9:¬ aT o:=fun h=>hk (by rcases bQ h with q | q | q | q | q | q <;> have:=q.1 <;> omega)
  unfold cZ lz;rw[cH L9,if_pos (.inl (by omega))]
 rw[eE];have el:=hid eE;have HB:=hid aO;clear hn iZ hx am iR aO bi eE hr iX _ho _hl;unfold af at HB;unfold af;go_enter Tryz.func91,Tryz.ntmps91;go_wp2_with fail;go_ret2;exact⟨none,rfl,HB.out,fun _=>rfl,fun h=>by rw[el.out] at h;cases h⟩
def Ix (k:Int):Nat:=match k.toNat with
 | 1=>132
 | 2=>133
 | 3=>134
 | 4=>135
 | 5=>136
 | _=>137
def Mu (k:Int):TypeId:=match k.toNat with
 | 1=>141
 | 2=>142
 | 3=>143
 | 4=>144
 | 5=>145
 | _=>146
theorem ma (ho:o.Ok) (hk:o.k=1∨o.k=2∨o.k=3∨o.k=4∨o.k=5∨o.k=6) (w:World) (hl:r.length≤1000000) (hr:Ws w w.heap.size A r):i6 o at' op rd A cap r (Ix o.k) (Mu o.k) (av o) (cZ o at' op rd r.length) w:=by
 unfold cZ
 rcases hk with q | q | q | q | q | q
 ·have h:=qY o at' op rd A cap r ho q w hl hr;rw[q];exact h
 ·have h:=qC o at' op rd A cap r ho q w hl hr;rw[q];exact h
 ·have h:=t6 o at' op rd A cap r ho q w hl hr;rw[q];exact h
 ·have h:=qs o at' op rd A cap r ho q w hl hr;rw[q];exact h
 ·have h:=sC o at' op rd A cap r ho q w hl hr;rw[q];exact h
 ·have h:=re o at' op rd A cap r ho (by omega) w hl hr;rw[q];exact h
theorem RowB.cast {w:World} {n:Nat} {a b:Array Value} {t:TypeId} (h:RowB w n a t) (e:a=b):RowB w n b t:=e ▸ h
theorem wK (ho:o.Ok) (hk:o.k=1∨o.k=2∨o.k=3∨o.k=4∨o.k=5∨o.k=6) (w:World) (hl:r.length≤1000000) (hr:Ws w w.heap.size A r) (Ai:at'<9223372036854775808) (eE:cZ o at' op rd r.length=0):
  Calls Tryz.prog 91 #[.agg (af o),.int .i64 at',.int .i64 op,.int .i64 rd,.slice A r.length cap] w fun e w'=>∃ x,e=.returned (.tuple #[.pointer x,.int .i64 (cZ o at' op rd r.length)])∧uF o at' op rd r w x w':=by
 have iZ:=bt w (.cells (af o) 26);have hx:=RowB.new (w.alloc (.cells (af o) 26)) #[.int .i64 o.k,.pointer none,.pointer none,.pointer none,.pointer none,.pointer none,.pointer none] 114;have am:=(Below.refl _ (w.alloc (.cells (af o) 26))).alloc (Nat.le_refl _) (.cells #[.int .i64 o.k,.pointer none,.pointer none,.pointer none,.pointer none,.pointer none,.pointer none] 114);have aO:=iZ.trans (am.mono iZ.size);have bi:=hr.below aO aO.size;have iX:=ft hr;rw[World.size_alloc] at hx;have wU:=ma o at' op rd A cap r ho hk _ hl bi;obtain⟨FF,hF⟩:∃ x,Ix o.k=x:=⟨_,rfl⟩;rw[hF] at wU;unfold i6 at wU;have Ej:=hid wU;have HX:=hid hx;have HB:=hid aO;have HW:=hid iX;have HC:=hid eE;obtain⟨n,ie⟩:∃ n,w.heap.size=n:=⟨_,rfl⟩;rw[ie] at HX HB;obtain⟨code,df⟩:∃ x,cZ o at' op rd r.length=x:=⟨_,rfl⟩;have Ab:=hid df;rw[df] at eE ⊢;rw[df] at Ej;have d0:(code != 0)=false:=by simpa using eE
 clear iZ hx am aO bi hr iX ho hl wU eE df;unfold af at HX HB Ej;unfold af
 rcases hk with q | q | q | q | q | q
 all_goals
  rw[q] at hF;subst hF
  first | have k1:(o.k==1)=true:=by(rw[q];rfl) | have k1:(o.k==1)=false:=by(rw[q];rfl)
  first | have k2:(o.k==2)=true:=by(rw[q];rfl) | have k2:(o.k==2)=false:=by(rw[q];rfl)
  first | have k3:(o.k==3)=true:=by(rw[q];rfl) | have k3:(o.k==3)=false:=by(rw[q];rfl)
  first | have k4:(o.k==4)=true:=by(rw[q];rfl) | have k4:(o.k==4)=false:=by(rw[q];rfl)
  first | have k5:(o.k==5)=true:=by(rw[q];rfl) | have k5:(o.k==5)=false:=by(rw[q];rfl)
  first | have k6:(o.k==6)=true:=by(rw[q];rfl) | have k6:(o.k==6)=false:=by(rw[q];rfl)
  have HK:=hid q;clear q;go_enter Tryz.func91,Tryz.ntmps91;go_wp2_with fail;refine Ej.out.mono ?_;rintro e w1 ⟨x,rfl,hb,iV,jK⟩;have eI:=HX.out.kept hb;have c1:w1.cell? ⟨n+1,1,none⟩=some (.pointer none):=(eI.cell 1).trans rfl;have f1:=eI.frozen 1;have c2:w1.cell? ⟨n+1,2,none⟩=some (.pointer none):=(eI.cell 2).trans rfl;have f2:=eI.frozen 2;have c3:w1.cell? ⟨n+1,3,none⟩=some (.pointer none):=(eI.cell 3).trans rfl;have f3:=eI.frozen 3;have c4:w1.cell? ⟨n+1,4,none⟩=some (.pointer none):=(eI.cell 4).trans rfl;have f4:=eI.frozen 4;have c5:w1.cell? ⟨n+1,5,none⟩=some (.pointer none):=(eI.cell 5).trans rfl;have f5:=eI.frozen 5;have c6:w1.cell? ⟨n+1,6,none⟩=some (.pointer none):=(eI.cell 6).trans rfl;have f6:=eI.frozen 6;have Cw:=bv HB.out hb;have I9:=hid eI;have Bl:=hid Cw;have bT:=hid hb;have Ky:=hid iV;have ut:=hid jK;clear eI Cw hb iV jK;obtain⟨b,v,rfl,Cw,bm,cT,i7⟩:=ut.out (by rw[← Ab.out];exact HC.out);have HR:=hid (And.intro bm (And.intro cT i7));have DU:n+2≤b:=by rw[World.size_alloc,World.size_alloc] at Cw;omega
  clear bm cT i7 Cw;go_wp2_with fail;go_ret2;refine⟨some ⟨n+1,0,none⟩,(by have h1:=Ab.out;have h2:=HC.out;rw[h1] at h2;rw[h2];rfl),?_,fun h=>absurd HC.out h,fun _=>?_⟩
  ·rw[ie];exact ce Bl.out (n+1) _ (by omega) _
  have L3:=I9.out.lt;have hT:∀ j u,Tch (fun q=>q=n+1) w1 (w1.setCell ⟨n+1,j,none⟩ u):=fun j u=>(Tch.refl (fun q=>q=n+1) w1).set (b:=n+1) rfl j u
  have Ff:∀ q,v.ownBlock=some q→n+2≤q:=fun q hq=>by
   have:=(World.ownsRow.lt HR.out.2.1.1 q hq).1;rw[World.size_alloc,World.size_alloc] at this;omega
  have aA:=fun j u=>OpS.start (N:=0) HC.out HW.out Ai (HR.out.1.tch (hT j u) (by omega)) ⟨(aG HR.out.2.1.1 (hT j u) (fun q hq e=>by have:=Ff q hq;omega)).mono (Nat.zero_le _),HR.out.2.1.2⟩ HR.out.2.2
  refine⟨n+1,b,_,v,rfl,by omega,by omega,fun q hq=>by have:=Ff q hq;omega,⟨?_,aA _ _,by omega,fun hq=>by have:=Ff _ hq;omega,⟨_,rfl⟩⟩,(pa HC.out HW.out Ai).1⟩;refine(I9.out.set _ _).cast ?_;show _=xJ o.k b;unfold xJ jL;rw[HK.out];rfl
theorem tF (ho:o.Ok) (hk:o.k=1∨o.k=2∨o.k=3∨o.k=4∨o.k=5∨o.k=6) (w:World) (hl:r.length≤1000000) (hr:Ws w w.heap.size A r) (_hat:at'<9223372036854775808) (eE:cZ o at' op rd r.length≠0):
  Calls Tryz.prog 91 #[.agg (af o),.int .i64 at',.int .i64 op,.int .i64 rd,.slice A r.length cap] w fun e w'=>∃ x,e=.returned (.tuple #[.pointer x,.int .i64 (cZ o at' op rd r.length)])∧uF o at' op rd r w x w':=by
 have iZ:=bt w (.cells (af o) 26);have hx:=RowB.new (w.alloc (.cells (af o) 26)) #[.int .i64 o.k,.pointer none,.pointer none,.pointer none,.pointer none,.pointer none,.pointer none] 114;have am:=(Below.refl _ (w.alloc (.cells (af o) 26))).alloc (Nat.le_refl _) (.cells #[.int .i64 o.k,.pointer none,.pointer none,.pointer none,.pointer none,.pointer none,.pointer none] 114);have aO:=iZ.trans (am.mono iZ.size);have bi:=hr.below aO aO.size;have iX:=ft hr;rw[World.size_alloc] at hx;have wU:=ma o at' op rd A cap r ho hk _ hl bi;obtain⟨FF,hF⟩:∃ x,Ix o.k=x:=⟨_,rfl⟩;rw[hF] at wU;unfold i6 at wU;have Ej:=hid wU;have HX:=hid hx;have HB:=hid aO;have HW:=hid iX;have HC:=hid eE;obtain⟨n,ie⟩:∃ n,w.heap.size=n:=⟨_,rfl⟩;rw[ie] at HX HB;obtain⟨code,df⟩:∃ x,cZ o at' op rd r.length=x:=⟨_,rfl⟩;have Ab:=hid df;rw[df] at eE ⊢;rw[df] at Ej;have d0:(code != 0)=true:=by simpa using eE
 clear iZ hx am aO bi hr iX ho hl wU eE df;unfold af at HX HB Ej;unfold af
 rcases hk with q | q | q | q | q | q
 all_goals
  rw[q] at hF;subst hF
  first | have k1:(o.k==1)=true:=by(rw[q];rfl) | have k1:(o.k==1)=false:=by(rw[q];rfl)
  first | have k2:(o.k==2)=true:=by(rw[q];rfl) | have k2:(o.k==2)=false:=by(rw[q];rfl)
  first | have k3:(o.k==3)=true:=by(rw[q];rfl) | have k3:(o.k==3)=false:=by(rw[q];rfl)
  first | have k4:(o.k==4)=true:=by(rw[q];rfl) | have k4:(o.k==4)=false:=by(rw[q];rfl)
  first | have k5:(o.k==5)=true:=by(rw[q];rfl) | have k5:(o.k==5)=false:=by(rw[q];rfl)
  first | have k6:(o.k==6)=true:=by(rw[q];rfl) | have k6:(o.k==6)=false:=by(rw[q];rfl)
  have HK:=hid q;clear q;go_enter Tryz.func91,Tryz.ntmps91;go_wp2_with fail;refine Ej.out.mono ?_;rintro e w1 ⟨x,rfl,hb,iV,jK⟩;have eI:=HX.out.kept hb;have c1:w1.cell? ⟨n+1,1,none⟩=some (.pointer none):=(eI.cell 1).trans rfl;have f1:=eI.frozen 1;have c2:w1.cell? ⟨n+1,2,none⟩=some (.pointer none):=(eI.cell 2).trans rfl;have f2:=eI.frozen 2;have c3:w1.cell? ⟨n+1,3,none⟩=some (.pointer none):=(eI.cell 3).trans rfl;have f3:=eI.frozen 3;have c4:w1.cell? ⟨n+1,4,none⟩=some (.pointer none):=(eI.cell 4).trans rfl;have f4:=eI.frozen 4;have c5:w1.cell? ⟨n+1,5,none⟩=some (.pointer none):=(eI.cell 5).trans rfl;have f5:=eI.frozen 5;have c6:w1.cell? ⟨n+1,6,none⟩=some (.pointer none):=(eI.cell 6).trans rfl;have f6:=eI.frozen 6;have Cw:=bv HB.out hb;have I9:=hid eI;have Bl:=hid Cw;have bT:=hid hb;have Ky:=hid iV;have ut:=hid jK;clear eI Cw hb iV jK;obtain rfl:x=none:=Ky.out (by rw[← Ab.out];exact HC.out);go_wp2_with fail;go_ret2;refine⟨none,rfl,?_,fun _=>rfl,fun h=>absurd h HC.out⟩;rw[ie];exact ce Bl.out (n+1) _ (by omega) _
theorem zw (ho:o.Ok) (w:World) (hl:r.length≤1000000) (hr:Ws w w.heap.size A r) (Ai:at'<9223372036854775808):
  Calls Tryz.prog 91 #[.agg (af o),.int .i64 at',.int .i64 op,.int .i64 rd,.slice A r.length cap] w fun e w'=>∃ x,e=.returned (.tuple #[.pointer x,.int .i64 (cZ o at' op rd r.length)])∧uF o at' op rd r w x w':=by
 by_cases hc:cZ o at' op rd r.length=0
 ·exact wK o at' op rd A cap r ho (jM hc).1.kd w hl hr Ai hc
 ·by_cases hk:o.k=1∨o.k=2∨o.k=3∨o.k=4∨o.k=5∨o.k=6
  ·exact tF o at' op rd A cap r ho hk w hl hr Ai hc
  ·exact qM o at' op rd A cap r ho hk w hl hr Ai
end
end Go.Proofs.YtolmpehgeinlkaaGreatDoor
