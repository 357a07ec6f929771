/- Calls that rise are sorted: the symmetric merge. -/
import Derived.Test.YtabfcjohdgjkoaaGreatDoorZcWs
namespace Go.Proofs.YtabfcjohdgjkoaaGreatDoor
open Go.RowKit
open Go.Lib (hid)
attribute [local go_sem] Oper.semAt_some
set_option maxHeartbeats 1000000
set_option maxRecDepth 100000
abbrev pP (a0 a1:Nat) (a2:CV) (a3:Nat) (a4:CV) (w':World):Prop:=(w'.cell? ⟨a0,a1*7,none⟩=some (.int .i64 a2.x.p)∧w'.cell? ⟨a0,a1*7+1,none⟩=some (.int .i64 a2.x.o)∧w'.cell? ⟨a0,a1*7+2,none⟩=some (.int .i64 a2.x.q)∧w'.cell? ⟨a0,a1*7+3,none⟩=some (.slice a2.A a2.x.r.length a2.c)∧w'.cell? ⟨a0,a1*7+4,none⟩=some (.int .i64 a2.x.c)∧w'.cell? ⟨a0,a1*7+5,none⟩=some (.int .i64 a2.x.b)∧w'.cell? ⟨a0,a1*7+6,none⟩=some (.int .i64 a2.x.e))∧(w'.cell? ⟨a0,a3*7,none⟩=some (.int .i64 a4.x.p)∧w'.cell? ⟨a0,a3*7+1,none⟩=some (.int .i64 a4.x.o)∧w'.cell? ⟨a0,a3*7+2,none⟩=some (.int .i64 a4.x.q)∧w'.cell? ⟨a0,a3*7+3,none⟩=some (.slice a4.A a4.x.r.length a4.c)∧w'.cell? ⟨a0,a3*7+4,none⟩=some (.int .i64 a4.x.c)∧w'.cell? ⟨a0,a3*7+5,none⟩=some (.int .i64 a4.x.b)∧w'.cell? ⟨a0,a3*7+6,none⟩=some (.int .i64 a4.x.e))
theorem iS {x:Int} (h0:0≤x) (h:x<18446744073709551616):IntKind.u64.wrap x=x:=by
 simp[IntKind.wrap,IntKind.signed,IntKind.bits];omega
def GY (N:Nat) (es:List CV) (sz:Nat):Prop:=∀ (g cap a m b:Nat) (w:World),UpC N w (some ⟨g,0,none⟩) cap es→b - a≤sz→a<m→m<b→b≤es.length→
 Calls Tryz.prog 152 #[.slice (some ⟨g,0,none⟩) es.length cap,.int .i64 (a:Int),.int .i64 (m:Int),.int .i64 (b:Int),.func (.func 55) #[] #[]] w fun e w'=>e=.returned (.tuple #[])∧Below w.heap.size w w'
theorem L8 (N g cap a m b:Nat) (es:List CV) (w:World) (h:UpC N w (some ⟨g,0,none⟩) cap es) (F0:a<m) (qe:m<b) (tK:b≤es.length) (h1:m=a+1):
  Calls Tryz.prog 152 #[.slice (some ⟨g,0,none⟩) es.length cap,.int .i64 (a:Int),.int .i64 (m:Int),.int .i64 (b:Int),.func (.func 55) #[] #[]] w fun e w'=>e=.returned (.tuple #[])∧Below w.heap.size w w':=by
 have la:=h.le;subst h1;have e1:((a+1:Nat):Int) - (a:Int)=1:=by omega
 obtain⟨m,hm⟩:∃ x,a+1=x:=⟨_,rfl⟩;rw[hm] at e1 ⊢;have C3:=hid h;have em:(m:Int) - 1=(a:Int):=by omega
 have jm:IntKind.i64.wrap (a:Int)=(a:Int):=bX (by omega) (by omega);clear h F0;go_enter Tryz.func152,Tryz.ntmps152;go_wp2_with fail
 go_loopw [10,11,12] (fun i j h wr=>∃ j':Nat,i=.int .i64 (m:Int)∧j=.int .i64 (j':Int)∧m≤j'∧j'≤b∧Below w.heap.size w wr) (fun i j _ _=>(intOf j).toNat - (intOf i).toNat)
 case atStart=>exact⟨b,rfl,rfl,by omega,Nat.le_refl _,Below.refl _ _⟩
 case round=>
  obtain⟨j,rfl,rfl,UT,UP,cH⟩:=hrel;have hu:=C3.out.below cH
  by_cases aJ:m<j
  ·obtain⟨lo,kw⟩:∃ x,a=x:=⟨_,rfl⟩;obtain⟨sr,Gj⟩:∃ x,m+j=x:=⟨_,rfl⟩;obtain⟨hi,Ic⟩:∃ x,sr / 2=x:=⟨_,rfl⟩;have esr:(m:Int)+(j:Int)=(sr:Int):=by omega
   have ehi:(sr:Int) / 2=(hi:Int):=by omega
   have jsr:IntKind.i64.wrap (sr:Int)=(sr:Int):=bX (by omega) (by omega);have usr:IntKind.u64.wrap (sr:Int)=(sr:Int):=iS (by omega) (by omega);have jhi:IntKind.i64.wrap (hi:Int)=(hi:Int):=bX (by omega) (by omega);have uhi:IntKind.u64.wrap (hi:Int)=(hi:Int):=iS (by omega) (by omega);have ta:decide ((m:Int)<(j:Int))=true:=decide_eq_true (by omega);have tb:decide (m<j)=true:=decide_eq_true (by omega);obtain⟨x,hx⟩:∃ x,es[hi]?=some x:=⟨_,List.getElem?_eq_getElem (by omega)⟩;obtain⟨y,hy⟩:∃ y,es[lo]?=some y:=⟨_,List.getElem?_eq_getElem (by omega)⟩;have yu:=hid (hu.up lo hi y x (by omega) hy hx);have vj:=hid hx;have vq:=hid hy;have HU:=hid hu;have HB:=hid cH;have k1:(hi:Int)<(es.length:Int):=by omega
   have k2:(0:Int)≤(hi:Int):=by omega
   have k3:(lo:Int)<(es.length:Int):=by omega
   have k4:(0:Int)≤(lo:Int):=by omega
   clear hu hx hy cH;subst kw;go_wp2_with fail;have nc:=hid (HU.out.below (Below.refl _ wr).drew);have iA:=hid (HB.out.trans ((Below.refl _ wr).drew.mono HB.out.size));refine fg (S:=(fun w':World=>(w'.cell? ⟨g,hi*7,none⟩=some (.int .i64 x.x.p)∧w'.cell? ⟨g,hi*7+1,none⟩=some (.int .i64 x.x.o)∧w'.cell? ⟨g,hi*7+2,none⟩=some (.int .i64 x.x.q)∧w'.cell? ⟨g,hi*7+3,none⟩=some (.slice x.A x.x.r.length x.c)∧w'.cell? ⟨g,hi*7+4,none⟩=some (.int .i64 x.x.c)∧w'.cell? ⟨g,hi*7+5,none⟩=some (.int .i64 x.x.b)∧w'.cell? ⟨g,hi*7+6,none⟩=some (.int .i64 x.x.e))∧(w'.cell? ⟨g,a*7,none⟩=some (.int .i64 y.x.p)∧w'.cell? ⟨g,a*7+1,none⟩=some (.int .i64 y.x.o)∧w'.cell? ⟨g,a*7+2,none⟩=some (.int .i64 y.x.q)∧w'.cell? ⟨g,a*7+3,none⟩=some (.slice y.A y.x.r.length y.c)∧w'.cell? ⟨g,a*7+4,none⟩=some (.int .i64 y.x.c)∧w'.cell? ⟨g,a*7+5,none⟩=some (.int .i64 y.x.b)∧w'.cell? ⟨g,a*7+6,none⟩=some (.int .i64 y.x.e)))) ⟨nc.out.get vj.out,nc.out.get vq.out⟩ fun wd bq hHeld=>?_
   rw[bq] at nc iA;clear bq;refine ai 0 1 2 3 ?_;refine ai 4 5 6 7 ?_;refine aX 8 ?_;refine aV 9 (fun K hK=>?_)
   ·go_simp;refine(lz x y wd yu.out).mono ?_;rintro ex wx ⟨rfl,ar⟩;have vu:=hid (nc.out.below ar);have kD:=hid (iA.out.trans (ar.mono iA.out.size));have aw:(fun w':World=>(w'.cell? ⟨g,hi*7,none⟩=some (.int .i64 x.x.p)∧w'.cell? ⟨g,hi*7+1,none⟩=some (.int .i64 x.x.o)∧w'.cell? ⟨g,hi*7+2,none⟩=some (.int .i64 x.x.q)∧w'.cell? ⟨g,hi*7+3,none⟩=some (.slice x.A x.x.r.length x.c)∧w'.cell? ⟨g,hi*7+4,none⟩=some (.int .i64 x.x.c)∧w'.cell? ⟨g,hi*7+5,none⟩=some (.int .i64 x.x.b)∧w'.cell? ⟨g,hi*7+6,none⟩=some (.int .i64 x.x.e))∧(w'.cell? ⟨g,a*7,none⟩=some (.int .i64 y.x.p)∧w'.cell? ⟨g,a*7+1,none⟩=some (.int .i64 y.x.o)∧w'.cell? ⟨g,a*7+2,none⟩=some (.int .i64 y.x.q)∧w'.cell? ⟨g,a*7+3,none⟩=some (.slice y.A y.x.r.length y.c)∧w'.cell? ⟨g,a*7+4,none⟩=some (.int .i64 y.x.c)∧w'.cell? ⟨g,a*7+5,none⟩=some (.int .i64 y.x.b)∧w'.cell? ⟨g,a*7+6,none⟩=some (.int .i64 y.x.e))) wx:=⟨vu.out.get vj.out,vu.out.get vq.out⟩;clear ar;refine kH hK aw fun hHeld=>?_
    clear hK K;refine aX 10 ?_;refine aY ?_;clear hHeld aw;go_wp2_with fail;go_roundw
    case rel=>exact⟨hi,rfl,rfl,by omega,by omega,kD.out⟩
    case measure=>simp[intOf];omega
  ·obtain rfl:j=m:=by omega
   have ta:decide ((j:Int)<(j:Int))=false:=by simp
   have tb:decide (j<j)=false:=by simp
   have sa:decide ((a:Int)<(a:Int))=false:=by simp
   have sb:decide (a<a)=false:=by simp
   have HB:=hid cH;clear cH hu aJ;go_wp2_with fail
   go_loopw [13] (fun k wq=>k=.int .i64 (a:Int)∧Below w.heap.size w wq) (fun _ _=>0)
   case atStart=>exact⟨rfl,HB.out⟩
   case round=>
    clear HB;obtain⟨rfl,cH⟩:=hrel;have HB:=hid cH;clear cH;go_wp2_with fail;refine bodyPost_ret (results_none rfl _ _ _) rfl ?_;exact⟨rfl,HB.out⟩
theorem L9 (N g cap a m b:Nat) (es:List CV) (w:World) (h:UpC N w (some ⟨g,0,none⟩) cap es) (F0:a<m) (qe:m<b) (tK:b≤es.length) (h1:b=m+1) (h2:m≠a+1):
  Calls Tryz.prog 152 #[.slice (some ⟨g,0,none⟩) es.length cap,.int .i64 (a:Int),.int .i64 (m:Int),.int .i64 (b:Int),.func (.func 55) #[] #[]] w fun e w'=>e=.returned (.tuple #[])∧Below w.heap.size w w':=by
 have la:=h.le;subst h1;have e1:((m+1:Nat):Int) - (m:Int)=1:=by omega
 obtain⟨b,hm⟩:∃ x,m+1=x:=⟨_,rfl⟩;rw[hm] at e1 ⊢;obtain⟨d,hd⟩:∃ d,m - a=d:=⟨_,rfl⟩;have e2:(m:Int) - (a:Int)=(d:Int):=by omega
 have jd:IntKind.i64.wrap (d:Int)=(d:Int):=bX (by omega) (by omega);have d3:(d==1)=false:=by simp;omega
 have d4:((d:Int)==1)=false:=by simp;omega
 have C3:=hid h;clear h qe;go_enter Tryz.func152,Tryz.ntmps152;go_wp2_with fail
 go_loopw [14,15,16] (fun i j h wr=>∃ i':Nat,i=.int .i64 (i':Int)∧j=.int .i64 (m:Int)∧a≤i'∧i'≤m∧Below w.heap.size w wr) (fun i j _ _=>(intOf j).toNat - (intOf i).toNat)
 case atStart=>exact⟨a,rfl,rfl,Nat.le_refl _,by omega,Below.refl _ _⟩
 case round=>
  obtain⟨i,rfl,rfl,SP,S8,cH⟩:=hrel;have hu:=C3.out.below cH
  by_cases aJ:i<m
  ·obtain⟨hi,Ic⟩:∃ x,m=x:=⟨_,rfl⟩;obtain⟨sr,Gj⟩:∃ x,i+m=x:=⟨_,rfl⟩;obtain⟨lo,kw⟩:∃ x,sr / 2=x:=⟨_,rfl⟩;have esr:(i:Int)+(m:Int)=(sr:Int):=by omega
   have elo:(sr:Int) / 2=(lo:Int):=by omega
   have jsr:IntKind.i64.wrap (sr:Int)=(sr:Int):=bX (by omega) (by omega);have usr:IntKind.u64.wrap (sr:Int)=(sr:Int):=iS (by omega) (by omega);have jlo:IntKind.i64.wrap (lo:Int)=(lo:Int):=bX (by omega) (by omega);have ulo:IntKind.u64.wrap (lo:Int)=(lo:Int):=iS (by omega) (by omega);have ta:decide ((i:Int)<(m:Int))=true:=decide_eq_true (by omega);have tb:decide (i<m)=true:=decide_eq_true (by omega);obtain⟨x,hx⟩:∃ x,es[hi]?=some x:=⟨_,List.getElem?_eq_getElem (by omega)⟩;obtain⟨y,hy⟩:∃ y,es[lo]?=some y:=⟨_,List.getElem?_eq_getElem (by omega)⟩;have yu:=hid (hu.up lo hi y x (by omega) hy hx);have vj:=hid hx;have vq:=hid hy;have HU:=hid hu;have HB:=hid cH;have k1:(hi:Int)<(es.length:Int):=by omega
   have k2:(0:Int)≤(hi:Int):=by omega
   have k3:(lo:Int)<(es.length:Int):=by omega
   have k4:(0:Int)≤(lo:Int):=by omega
   clear hu hx hy cH;subst Ic;have jl:IntKind.i64.wrap ((lo:Int)+1)=(lo:Int)+1:=bX (by omega) (by omega);go_wp2_with fail;have nc:=hid (HU.out.below (Below.refl _ wr).drew);have iA:=hid (HB.out.trans ((Below.refl _ wr).drew.mono HB.out.size));refine fg (S:=(pP g m x lo y)) ⟨nc.out.get vj.out,nc.out.get vq.out⟩ fun wd bq hHeld=>?_
   rw[bq] at nc iA;clear bq;refine ai 0 1 2 3 ?_;refine ai 4 5 6 7 ?_;refine aX 8 ?_;refine aV 9 (fun K hK=>?_)
   ·go_simp;refine(lz x y wd yu.out).mono ?_;rintro ex wx ⟨rfl,ar⟩;have vu:=hid (nc.out.below ar);have kD:=hid (iA.out.trans (ar.mono iA.out.size));have aw:(pP g m x lo y) wx:=⟨vu.out.get vj.out,vu.out.get vq.out⟩;clear ar;refine kH hK aw fun hHeld=>?_
    clear hK K;refine bv 10 11 ?_;refine aY ?_;clear hHeld aw;go_wp2_with fail;go_roundw
    case rel=>exact⟨lo+1,by go_num,rfl,by omega,by omega,kD.out⟩
    case measure=>simp[intOf];omega
  ·obtain rfl:i=m:=by omega
   have ta:decide ((i:Int)<(i:Int))=false:=by simp
   have tb:decide (i<i)=false:=by simp
   have HB:=hid cH;clear cH hu aJ;go_wp2_with fail
   go_loopw [17] (fun k wq=>k=.int .i64 (i:Int)∧Below w.heap.size w wq) (fun _ _=>0)
   case atStart=>exact⟨rfl,HB.out⟩
   case round=>
    clear HB;obtain⟨rfl,cH⟩:=hrel;have HB:=hid cH;clear cH;go_wp2_with fail;refine bodyPost_ret (results_none rfl _ _ _) rfl ?_;exact⟨rfl,HB.out⟩
section
variable {N:Nat} {es:List CV}
theorem I0 (sz:Nat) (ih:GY N es sz) (g cap a m b:Nat) (w:World) (h:UpC N w (some ⟨g,0,none⟩) cap es) (bY:b - a≤sz+1) (F0:a+1<m) (qe:m+1<b) (tK:b≤es.length) (zZ:(a+b) / 2<m):
  Calls Tryz.prog 152 #[.slice (some ⟨g,0,none⟩) es.length cap,.int .i64 (a:Int),.int .i64 (m:Int),.int .i64 (b:Int),.func (.func 55) #[] #[]] w fun e w'=>e=.returned (.tuple #[])∧Below w.heap.size w w':=by
 have la:=h.le;obtain⟨d,hd⟩:∃ d,m - a=d:=⟨_,rfl⟩;have e2:(m:Int) - (a:Int)=(d:Int):=by omega
 have jd:IntKind.i64.wrap (d:Int)=(d:Int):=bX (by omega) (by omega);have d3:(d==1)=false:=by simp;omega
 have d4:((d:Int)==1)=false:=by simp;omega
 obtain⟨f,hf⟩:∃ f,b - m=f:=⟨_,rfl⟩;have e3:(b:Int) - (m:Int)=(f:Int):=by omega
 have jf:IntKind.i64.wrap (f:Int)=(f:Int):=bX (by omega) (by omega);have f3:(f==1)=false:=by simp;omega
 have f4:((f:Int)==1)=false:=by simp;omega
 obtain⟨ab,pu⟩:∃ x,a+b=x:=⟨_,rfl⟩;obtain⟨mid,JD⟩:∃ x,ab / 2=x:=⟨_,rfl⟩;have eab:(a:Int)+(b:Int)=(ab:Int):=by omega
 have emid:(ab:Int) / 2=(mid:Int):=by omega
 have jab:IntKind.i64.wrap (ab:Int)=(ab:Int):=bX (by omega) (by omega);have uab:IntKind.u64.wrap (ab:Int)=(ab:Int):=iS (by omega) (by omega);have jmid:IntKind.i64.wrap (mid:Int)=(mid:Int):=bX (by omega) (by omega);have umid:IntKind.u64.wrap (mid:Int)=(mid:Int):=iS (by omega) (by omega);obtain⟨n,hn⟩:∃ n,mid+m=n:=⟨_,rfl⟩;have e4:(mid:Int)+(m:Int)=(n:Int):=by omega
 have jn:IntKind.i64.wrap (n:Int)=(n:Int):=bX (by omega) (by omega);obtain⟨p,hp⟩:∃ p,n - 1=p:=⟨_,rfl⟩;have e5:(n:Int) - 1=(p:Int):=by omega
 have jp:IntKind.i64.wrap (p:Int)=(p:Int):=bX (by omega) (by omega);rw[pu,JD] at zZ;have qa:decide ((mid:Int)<(m:Int))=true:=decide_eq_true (by omega);have qb:decide (mid<m)=true:=decide_eq_true (by omega);obtain⟨s0,rR⟩:∃ s,n - b=s:=⟨_,rfl⟩;have e6:(n:Int) - (b:Int)=(s0:Int):=by omega
 have j6:IntKind.i64.wrap (s0:Int)=(s0:Int):=bX (by omega) (by omega);obtain⟨r0,ak⟩:∃ r,mid=r:=⟨_,rfl⟩;have C3:=hid h;have Je:=hid ih;have aA:=hid rR;have yh:=hid ak;have Iw:s0≤r0:=by omega
 clear h ih rR ak;go_enter Tryz.func152,Tryz.ntmps152;go_wp2_with fail
 go_loopw [20,21,23] (fun s r c wr=>∃ s':Nat,s=.int .i64 (s':Int)∧r=.int .i64 (r0:Int)∧s0≤s'∧s'≤r0∧Below w.heap.size w wr) (fun s r _ _=>(intOf r).toNat - (intOf s).toNat)
 case atStart=>exact⟨s0,by first | rfl | (rw[aA.out]),by first | rfl | (rw[yh.out]),Nat.le_refl _,Iw,Below.refl _ _⟩
 case round=>
  obtain⟨s,rfl,rfl,hs,Gj,cH⟩:=hrel;have hu:=C3.out.below cH
  by_cases aJ:s<r0
  ·clear e2 e3 jd d3 d4 jf f3 f4 qa qb;have rR:=aA.out;have ak:=yh.out;obtain⟨sr,Gj⟩:∃ x,s+r0=x:=⟨_,rfl⟩;obtain⟨lo,kw⟩:∃ x,sr / 2=x:=⟨_,rfl⟩;have esr:(s:Int)+(r0:Int)=(sr:Int):=by omega
   have elo:(sr:Int) / 2=(lo:Int):=by omega
   have jsr:IntKind.i64.wrap (sr:Int)=(sr:Int):=bX (by omega) (by omega);have usr:IntKind.u64.wrap (sr:Int)=(sr:Int):=iS (by omega) (by omega);have jlo:IntKind.i64.wrap (lo:Int)=(lo:Int):=bX (by omega) (by omega);have ulo:IntKind.u64.wrap (lo:Int)=(lo:Int):=iS (by omega) (by omega);have ta:decide ((s:Int)<(r0:Int))=true:=decide_eq_true (by omega);have tb:decide (s<r0)=true:=decide_eq_true (by omega);obtain⟨hi,Ic⟩:∃ x,p - lo=x:=⟨_,rfl⟩;have e9:(p:Int) - (lo:Int)=(hi:Int):=by omega
   have j9:IntKind.i64.wrap (hi:Int)=(hi:Int):=bX (by omega) (by omega);have jl:IntKind.i64.wrap ((lo:Int)+1)=(lo:Int)+1:=bX (by omega) (by omega);obtain⟨x,hx⟩:∃ x,es[hi]?=some x:=⟨_,List.getElem?_eq_getElem (by omega)⟩;obtain⟨y,hy⟩:∃ y,es[lo]?=some y:=⟨_,List.getElem?_eq_getElem (by omega)⟩;have yu:=hid (hu.up lo hi y x (by omega) hy hx);have vj:=hid hx;have vq:=hid hy;have HU:=hid hu;have HB:=hid cH;have k1:(hi:Int)<(es.length:Int):=by omega
   have k2:(0:Int)≤(hi:Int):=by omega
   have k3:(lo:Int)<(es.length:Int):=by omega
   have k4:(0:Int)≤(lo:Int):=by omega
   clear hu hx hy cH;clear rR ak;go_wp2_with fail;have nc:=hid (HU.out.below (Below.refl _ wr).drew);have iA:=hid (HB.out.trans ((Below.refl _ wr).drew.mono HB.out.size));refine fg (S:=(pP g hi x lo y)) ⟨nc.out.get vj.out,nc.out.get vq.out⟩ fun wd bq hHeld=>?_
   rw[bq] at nc iA;clear bq;refine ai 0 1 2 3 ?_;refine ai 4 5 6 7 ?_;refine bv 8 9 ?_;refine aX 10 ?_;refine aV 11 (fun K hK=>?_)
   ·go_simp;refine(lz x y wd yu.out).mono ?_;rintro ex wx ⟨rfl,ar⟩;have vu:=hid (nc.out.below ar);have kD:=hid (iA.out.trans (ar.mono iA.out.size));have aw:(pP g hi x lo y) wx:=⟨vu.out.get vj.out,vu.out.get vq.out⟩;clear ar;refine kH hK aw fun hHeld=>?_
    clear hK K;refine bv 12 13 ?_;refine aY ?_;clear hHeld aw;go_wp2_with fail;go_roundw
    case rel=>exact⟨lo+1,by go_num,rfl,by omega,by omega,kD.out⟩
    case measure=>simp[intOf];omega
  ·obtain rfl:s=r0:=by omega
   have ak:=yh.out;clear yh;subst ak;have ta:decide ((mid:Int)<(mid:Int))=false:=by simp
   have tb:decide (mid<mid)=false:=by simp
   have HB:=hid cH;have HU:=hid hu;clear cH hu aJ;have e7:(n:Int) - (mid:Int)=(m:Int):=by omega
   have jm:IntKind.i64.wrap (m:Int)=(m:Int):=bX (by omega) (by omega);have wa:decide ((m:Int)<(m:Int))=false:=by simp
   have wb:decide (m<m)=false:=by simp
   have va:decide ((a:Int)<(mid:Int))=true:=decide_eq_true (by omega);have vb:decide (a<mid)=true:=decide_eq_true (by omega);have xa:decide ((m:Int)<(b:Int))=true:=decide_eq_true (by omega);have xb:decide (m<b)=true:=decide_eq_true (by omega);have HC:=hid (Je.out g cap mid m b wr HU.out (by omega) (by omega) (by omega) tK);go_wp2_with fail;refine HC.out.mono ?_;rintro e w5 ⟨rfl,nm⟩;have HF:=hid (HB.out.trans (nm.mono HB.out.size));go_wp2_with fail;refine bodyPost_end (results_none rfl _ _ _) rfl ?_;exact⟨rfl,HF.out⟩
theorem I1 (sz:Nat) (ih:GY N es sz) (g cap a m b:Nat) (w:World) (h:UpC N w (some ⟨g,0,none⟩) cap es) (bY:b - a≤sz+1) (F0:a+1<m) (qe:m+1<b) (tK:b≤es.length) (zZ:m≤(a+b) / 2):
  Calls Tryz.prog 152 #[.slice (some ⟨g,0,none⟩) es.length cap,.int .i64 (a:Int),.int .i64 (m:Int),.int .i64 (b:Int),.func (.func 55) #[] #[]] w fun e w'=>e=.returned (.tuple #[])∧Below w.heap.size w w':=by
 have la:=h.le;obtain⟨d,hd⟩:∃ d,m - a=d:=⟨_,rfl⟩;have e2:(m:Int) - (a:Int)=(d:Int):=by omega
 have jd:IntKind.i64.wrap (d:Int)=(d:Int):=bX (by omega) (by omega);have d3:(d==1)=false:=by simp;omega
 have d4:((d:Int)==1)=false:=by simp;omega
 obtain⟨f,hf⟩:∃ f,b - m=f:=⟨_,rfl⟩;have e3:(b:Int) - (m:Int)=(f:Int):=by omega
 have jf:IntKind.i64.wrap (f:Int)=(f:Int):=bX (by omega) (by omega);have f3:(f==1)=false:=by simp;omega
 have f4:((f:Int)==1)=false:=by simp;omega
 obtain⟨ab,pu⟩:∃ x,a+b=x:=⟨_,rfl⟩;obtain⟨mid,JD⟩:∃ x,ab / 2=x:=⟨_,rfl⟩;have eab:(a:Int)+(b:Int)=(ab:Int):=by omega
 have emid:(ab:Int) / 2=(mid:Int):=by omega
 have jab:IntKind.i64.wrap (ab:Int)=(ab:Int):=bX (by omega) (by omega);have uab:IntKind.u64.wrap (ab:Int)=(ab:Int):=iS (by omega) (by omega);have jmid:IntKind.i64.wrap (mid:Int)=(mid:Int):=bX (by omega) (by omega);have umid:IntKind.u64.wrap (mid:Int)=(mid:Int):=iS (by omega) (by omega);obtain⟨n,hn⟩:∃ n,mid+m=n:=⟨_,rfl⟩;have e4:(mid:Int)+(m:Int)=(n:Int):=by omega
 have jn:IntKind.i64.wrap (n:Int)=(n:Int):=bX (by omega) (by omega);obtain⟨p,hp⟩:∃ p,n - 1=p:=⟨_,rfl⟩;have e5:(n:Int) - 1=(p:Int):=by omega
 have jp:IntKind.i64.wrap (p:Int)=(p:Int):=bX (by omega) (by omega);rw[pu,JD] at zZ;have qa:decide ((mid:Int)<(m:Int))=false:=decide_eq_false (by omega);have qb:decide (mid<m)=false:=decide_eq_false (by omega);obtain⟨s0,rR⟩:∃ s,a=s:=⟨_,rfl⟩;obtain⟨r0,ak⟩:∃ r,m=r:=⟨_,rfl⟩;have C3:=hid h;have Je:=hid ih;have aA:=hid rR;have yh:=hid ak;have Iw:s0≤r0:=by omega
 clear h ih rR ak;go_enter Tryz.func152,Tryz.ntmps152;go_wp2_with fail
 go_loopw [20,21,23] (fun s r c wr=>∃ s':Nat,s=.int .i64 (s':Int)∧r=.int .i64 (r0:Int)∧s0≤s'∧s'≤r0∧Below w.heap.size w wr) (fun s r _ _=>(intOf r).toNat - (intOf s).toNat)
 case atStart=>exact⟨s0,by first | rfl | (rw[aA.out]),by first | rfl | (rw[yh.out]),Nat.le_refl _,Iw,Below.refl _ _⟩
 case round=>
  obtain⟨s,rfl,rfl,hs,Gj,cH⟩:=hrel;have hu:=C3.out.below cH
  by_cases aJ:s<r0
  ·clear e2 e3 jd d3 d4 jf f3 f4 qa qb;have rR:=aA.out;have ak:=yh.out;obtain⟨sr,Gj⟩:∃ x,s+r0=x:=⟨_,rfl⟩;obtain⟨lo,kw⟩:∃ x,sr / 2=x:=⟨_,rfl⟩;have esr:(s:Int)+(r0:Int)=(sr:Int):=by omega
   have elo:(sr:Int) / 2=(lo:Int):=by omega
   have jsr:IntKind.i64.wrap (sr:Int)=(sr:Int):=bX (by omega) (by omega);have usr:IntKind.u64.wrap (sr:Int)=(sr:Int):=iS (by omega) (by omega);have jlo:IntKind.i64.wrap (lo:Int)=(lo:Int):=bX (by omega) (by omega);have ulo:IntKind.u64.wrap (lo:Int)=(lo:Int):=iS (by omega) (by omega);have ta:decide ((s:Int)<(r0:Int))=true:=decide_eq_true (by omega);have tb:decide (s<r0)=true:=decide_eq_true (by omega);obtain⟨hi,Ic⟩:∃ x,p - lo=x:=⟨_,rfl⟩;have e9:(p:Int) - (lo:Int)=(hi:Int):=by omega
   have j9:IntKind.i64.wrap (hi:Int)=(hi:Int):=bX (by omega) (by omega);have jl:IntKind.i64.wrap ((lo:Int)+1)=(lo:Int)+1:=bX (by omega) (by omega);obtain⟨x,hx⟩:∃ x,es[hi]?=some x:=⟨_,List.getElem?_eq_getElem (by omega)⟩;obtain⟨y,hy⟩:∃ y,es[lo]?=some y:=⟨_,List.getElem?_eq_getElem (by omega)⟩;have yu:=hid (hu.up lo hi y x (by omega) hy hx);have vj:=hid hx;have vq:=hid hy;have HU:=hid hu;have HB:=hid cH;have k1:(hi:Int)<(es.length:Int):=by omega
   have k2:(0:Int)≤(hi:Int):=by omega
   have k3:(lo:Int)<(es.length:Int):=by omega
   have k4:(0:Int)≤(lo:Int):=by omega
   clear hu hx hy cH;clear rR ak;go_wp2_with fail;have nc:=hid (HU.out.below (Below.refl _ wr).drew);have iA:=hid (HB.out.trans ((Below.refl _ wr).drew.mono HB.out.size));refine fg (S:=(pP g hi x lo y)) ⟨nc.out.get vj.out,nc.out.get vq.out⟩ fun wd bq hHeld=>?_
   rw[bq] at nc iA;clear bq;refine ai 0 1 2 3 ?_;refine ai 4 5 6 7 ?_;refine bv 8 9 ?_;refine aX 10 ?_;refine aV 11 (fun K hK=>?_)
   ·go_simp;refine(lz x y wd yu.out).mono ?_;rintro ex wx ⟨rfl,ar⟩;have vu:=hid (nc.out.below ar);have kD:=hid (iA.out.trans (ar.mono iA.out.size));have aw:(pP g hi x lo y) wx:=⟨vu.out.get vj.out,vu.out.get vq.out⟩;clear ar;refine kH hK aw fun hHeld=>?_
    clear hK K;refine bv 12 13 ?_;refine aY ?_;clear hHeld aw;go_wp2_with fail;go_roundw
    case rel=>exact⟨lo+1,by go_num,rfl,by omega,by omega,kD.out⟩
    case measure=>simp[intOf];omega
  ·obtain rfl:s=r0:=by omega
   have ak:=yh.out;clear yh;subst ak;have ta:decide ((m:Int)<(m:Int))=false:=by simp
   have tb:decide (m<m)=false:=by simp
   have HB:=hid cH;have HU:=hid hu;clear cH hu aJ;have e7:(n:Int) - (m:Int)=(mid:Int):=by omega
   have wa:decide ((mid:Int)<(mid:Int))=false:=by simp
   have wb:decide (mid<mid)=false:=by simp
   have va:decide ((a:Int)<(m:Int))=true:=decide_eq_true (by omega);have vb:decide (a<m)=true:=decide_eq_true (by omega)
   by_cases Gi:m<mid
   ·have xa:decide ((m:Int)<(mid:Int))=true:=decide_eq_true (by omega);have xb:decide (m<mid)=true:=decide_eq_true (by omega);have HC:=hid (Je.out g cap a m mid wr HU.out (by omega) (by omega) (by omega) (by omega));go_wp2_with fail;refine HC.out.mono ?_;rintro e w5 ⟨rfl,nm⟩;have HF:=hid (HB.out.trans (nm.mono HB.out.size));go_wp2_with fail;refine bodyPost_end (results_none rfl _ _ _) rfl ?_;exact⟨rfl,HF.out⟩
   ·have xa:decide ((m:Int)<(mid:Int))=false:=decide_eq_false (by omega);have xb:decide (m<mid)=false:=decide_eq_false (by omega);go_wp2_with fail;refine bodyPost_end (results_none rfl _ _ _) rfl ?_;exact⟨rfl,HB.out⟩
theorem uT (N:Nat) (es:List CV):∀ sz,GY N es sz
 | 0=>fun g cap a m b w h bY F0 qe _=>by omega
 | sz+1=>fun g cap a m b w h bY F0 qe tK=>by
  by_cases h1:m=a+1
  ·exact L8 N g cap a m b es w h F0 qe tK h1
  ·by_cases h2:b=m+1
   ·exact L9 N g cap a m b es w h F0 qe tK h2 h1
   ·by_cases h3:(a+b) / 2<m
    ·exact I0 sz (uT N es sz) g cap a m b w h bY (by omega) (by omega) tK h3
    ·exact I1 sz (uT N es sz) g cap a m b w h bY (by omega) (by omega) tK (by omega)
end
end Go.Proofs.YtabfcjohdgjkoaaGreatDoor
