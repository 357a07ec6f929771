/- linfifo: which calls fit; done, may; the finder. -/
import Derived.Test.YtabfcjohdgjkoaaGreatDoorZcLf
import Derived.Test.YtabfcjohdgjkoaaGreatDoorZcLe
namespace Go.Proofs.YtabfcjohdgjkoaaGreatDoor
open Go.RowKit
set_option maxHeartbeats 2000000
set_option maxRecDepth 100000
theorem xz (x:Cl) (A:Option Addr) (c:Nat) (w:World):Calls Tryz.prog 116 #[kh x A c] w fun r w'=>r=.returned (.bool (pe x))∧Below w.heap.size w w':=by
 obtain⟨p,o,q,r,cc,b,e⟩:=x;unfold kh;simp only;have hr:pe ⟨p,o,q,r,cc,b,e⟩=(q==3&&(decide (e<0) || cc==0 || cc==2) || q==4&&(decide (e<0) || cc==0 || cc==3)):=rfl;rw[hr];clear hr;go_enter Tryz.func116,Tryz.ntmps116;go_wp2_with fail
 all_goals
  go_ret;refine⟨az ?_,(Below.refl _ w).alloc (Nat.le_refl _) _⟩
  first
   | (simp[*] <;> omega)
   | (have hq:q=3:=by simpa using ‹(q==3)=true›
      subst hq;simp)
   | (have hq:q=3:=by simpa using ‹(q==3)=true›
      subst hq;simp[*])
open Go.Lib (hid)
set_option maxHeartbeats 1000000
set_option maxRecDepth 100000
theorem wS (x:Cl) (A:Option Addr) (c:Nat) (w:World):Calls Tryz.prog 224 #[kh x A c] w fun e w'=>e=.returned (.bool (decide (0≤x.e)))∧Below w.heap.size w w':=by
 unfold kh;go_enter Tryz.func224,Tryz.ntmps224;go_wp2_with fail;go_ret;exact⟨by first | rfl | exact az (by simp),(Below.refl _ w).alloc (Nat.le_refl _) _⟩
def Ns (l:List Cl) (e:Ending):Prop:=∃ z:Int,e=.returned (.int .i64 z)∧decide (0≤z)=!dd l
theorem A6 {l:List Cl} {k:Nat} {x:Cl} (h:l[k]?=some x) (eS:dd (l.take k)=true) (hx:x.e<0):dd (l.take (k+1))=true:=by
 rw[bp h];unfold dd at *;rw[List.all_append,eS];simp[ez,hx]
theorem IM {l:List Cl} {k:Nat} {x:Cl} (h:l[k]?=some x) (hx:0≤x.e):dd l=false:=by
 unfold dd;rw[List.all_eq_false];exact⟨x,List.mem_of_getElem? h,by simp[ez];omega⟩
theorem En (A:Option Addr) (c:Nat) (l:List Cl) (w:World) (hn:l.length≤1000) (hl:ClSl w w.heap.size A l):
  Calls Tryz.prog 254 #[.slice A l.length c,.func (.func 224) #[] #[]] w fun e w'=>Ns l e∧Below w.heap.size w w':=by
 go_enter Tryz.func254,Tryz.ntmps254;go_wp2_with fail
 go_loopw [5,8] (fun _ j wr=>∃ k:Nat,k≤l.length∧j=.int .i64 k∧dd (l.take k)=true∧Below w.heap.size w wr) (fun _ j _=>l.length - (intOf j).toNat)
 case atStart=>exact⟨0,Nat.zero_le _,rfl,rfl,Below.refl _ _⟩
 case round=>
  obtain⟨k,hk,rfl,eS,hb⟩:=hrel
  by_cases aJ:k<l.length
  ·obtain⟨x,hx⟩:=bu aJ;obtain⟨b,off,Ax,cx,rfl,rN,⟨h0,h1,h2,h3,h4,h5,h6⟩,_,o8,df⟩:=(hl.below hb (Nat.le_refl _)) k x hx;have hd:=wS x Ax cx wr;unfold kh at hd;have DY:=hid hb;have eE:=hb.size
   by_cases he:0≤x.e
   ·have rQ:=hid (IM hx he);rw[decide_eq_true he] at hd;have NY:=hid hd;clear hd hx eS hb;go_wp2_with fail;refine NY.out.mono ?_;rintro e w1 ⟨rfl,aq⟩;go_wp2_with fail;go_ret;exact⟨⟨_,rfl,by rw[rQ.out];simp⟩,DY.out.trans (aq.mono eE)⟩
   ·have Pa:=hid (A6 hx eS (by omega));rw[decide_eq_false he] at hd;have NY:=hid hd;clear hd hx eS hb;go_wp2_with fail;refine NY.out.mono ?_;rintro e w1 ⟨rfl,aq⟩;go_wp2_with fail;go_roundw
    case rel=>exact⟨k+1,by omega,by go_num,Pa.out,DY.out.trans (aq.mono eE)⟩
    case measure=>simp[intOf];omega
  ·have ht:=iu aJ;rw[ht] at eS;have zB:=hid eS;clear eS ht;go_wp2_with fail;go_ret;exact⟨⟨_,rfl,by rw[zB.out];rfl⟩,hb⟩
theorem yX (A:Option Addr) (c:Nat) (l:List Cl) (w:World) (hn:l.length≤1000) (hl:ClSl w w.heap.size A l):
  Calls Tryz.prog 223 #[.slice A l.length c,.func (.func 224) #[] #[]] w fun e w'=>e=.returned (.bool (!dd l))∧Below w.heap.size w w':=by
 have h:=hid (En A c l w hn hl);clear hl;obtain⟨b,hb⟩:∃ b,(!dd l)=b:=⟨_,rfl⟩;have DY:=hid hb;rw[hb];clear hb;go_enter Tryz.func223,Tryz.ntmps223;go_wp2_with fail;refine h.out.mono ?_;rintro e w1 ⟨⟨z,rfl,hz⟩,aq⟩;have aP:=hid hz;clear hz;go_wp2_with fail;go_ret;exact⟨az (by rw[← DY.out,← aP.out]),aq⟩
theorem oV (t e:TypeId) (size:Nat) (P:Program) (ht:P.underlying t=some (.slice e)) (he:P.elem t=e) (hs:∀ W,(sizeOf e).run P W=.ok size W) (A:Option Addr) (M c n:Nat) (h:n≤M) (W:World):
  (Instr.sliceAt t (.slice A M c) (some (.int .i64 (n:Int))) none none).run P W=.ok (.slice (if c=n then A else A.map (·.add (n*size))) (M - n) (c - n)) W:=by
 have JG:P.underlying t=some (.slice (P.elem t)):=by rw[he];exact ht
 rw[run_sliceAt_slice W t _ _ _ _ JG,run_slice_l W t A M c JG .i64 (n:Int) (by omega) (by omega),he,hs];simp[Result.andThen,sliced]
theorem sk (A:Option Addr) (c:Nat) (l:List Cl) (n:Nat) (w:World) (hn:l.length≤1000) (hc:l.length≤c) (JE:n≤l.length) (hl:ClSl w w.heap.size A l):
  Calls Tryz.prog 174 #[.slice A l.length c,.int .i64 (n:Int)] w fun e w'=>e=.returned (.bool (dd (l.drop n)))∧Below w.heap.size w w':=by
 have aj:=fun W=>oV 34 62 7 Tryz.prog Tryz.underlying34 (by kernel_rfl) (fun W=>by kernel_rfl) A l.length c n JE W
 obtain⟨A2,dZ⟩:∃ A2,(if c=n then A else A.map (·.add (n*7)))=A2:=⟨_,rfl⟩
 have F4:ClSl w w.heap.size A2 (l.drop n):=by
  intro k x hk;rw[List.getElem?_drop] at hk;obtain⟨b,off,Ar,cr,hA,aJ,iw,hr⟩:=hl _ x hk;have:=bQ hk;rw[if_neg (by omega),hA] at dZ;have e:∀ j,off+n*7+k*7+j=off+(n+k)*7+j:=fun j=>by omega
  refine⟨b,off+n*7,Ar,cr,by rw[← dZ];simp[Addr.add_lit],aJ,?_,hr⟩;rw[show off+n*7+k*7=off+(n+k)*7 by omega];exact iw
 rw[dZ] at aj;have oh:=yX A2 (c - n) (l.drop n) w (by rw[List.length_drop];omega) F4;rw[List.length_drop] at oh;obtain⟨b,hb⟩:∃ b,dd (l.drop n)=b:=⟨_,rfl⟩;rw[hb] at oh ⊢;have NX:=hid oh;clear F4 oh dZ hb hl;have n0:(0:Int)≤(n:Int):=by omega
 have n1:(n:Int)≤(l.length:Int):=by omega
 go_enter Tryz.func174,Tryz.ntmps174;go_wp2_with fail;refine NX.out.mono ?_;rintro e w1 ⟨rfl,aq⟩;go_wp2_with fail;go_ret;exact⟨az (by simp),aq⟩
attribute [local go_sem] Oper.semAt_some
set_option maxHeartbeats 2000000
set_option maxRecDepth 100000
theorem aG {w w':World} {b o:Nat} {v:Value} (h:w.cell? ⟨b,o,none⟩=some v) (hb:Below w.heap.size w w'):w'.cell? ⟨b,o,none⟩=some v:=(hb.cell (p:=⟨b,o,none⟩) (aM h)).trans h
theorem bB {w w':World} {b off:Nat} {v0 v1 v2 v3 v4 v5 v6:Value} (h:w.cell? ⟨b,off,none⟩=some (v0)∧w.cell? ⟨b,off+1,none⟩=some (v1)∧w.cell? ⟨b,off+2,none⟩=some (v2)∧w.cell? ⟨b,off+3,none⟩=some (v3)∧w.cell? ⟨b,off+4,none⟩=some (v4)∧w.cell? ⟨b,off+5,none⟩=some (v5)∧w.cell? ⟨b,off+6,none⟩=some (v6)) (hb:Below w.heap.size w w'):w'.cell? ⟨b,off,none⟩=some (v0)∧w'.cell? ⟨b,off+1,none⟩=some (v1)∧w'.cell? ⟨b,off+2,none⟩=some (v2)∧w'.cell? ⟨b,off+3,none⟩=some (v3)∧w'.cell? ⟨b,off+4,none⟩=some (v4)∧w'.cell? ⟨b,off+5,none⟩=some (v5)∧w'.cell? ⟨b,off+6,none⟩=some (v6):=
 ⟨aG h.1 hb,aG h.2.1 hb,aG h.2.2.1 hb,aG h.2.2.2.1 hb,aG h.2.2.2.2.1 hb,aG h.2.2.2.2.2.1 hb,aG h.2.2.2.2.2.2 hb⟩
theorem tX {w w':World} {b:Nat} {v0 v1 v2 v3 v4 v5 v6:Value} (h:w.cell? ⟨b,0,none⟩=some (v0)∧w.cell? ⟨b,1,none⟩=some (v1)∧w.cell? ⟨b,2,none⟩=some (v2)∧w.cell? ⟨b,3,none⟩=some (v3)∧w.cell? ⟨b,4,none⟩=some (v4)∧w.cell? ⟨b,5,none⟩=some (v5)∧w.cell? ⟨b,6,none⟩=some (v6)) (hb:Below w.heap.size w w'):w'.cell? ⟨b,0,none⟩=some (v0)∧w'.cell? ⟨b,1,none⟩=some (v1)∧w'.cell? ⟨b,2,none⟩=some (v2)∧w'.cell? ⟨b,3,none⟩=some (v3)∧w'.cell? ⟨b,4,none⟩=some (v4)∧w'.cell? ⟨b,5,none⟩=some (v5)∧w'.cell? ⟨b,6,none⟩=some (v6):=
 ⟨aG h.1 hb,aG h.2.1 hb,aG h.2.2.1 hb,aG h.2.2.2.1 hb,aG h.2.2.2.2.1 hb,aG h.2.2.2.2.2.1 hb,aG h.2.2.2.2.2.2 hb⟩
theorem ey (x:Cl) (A A':Option Addr) (c c':Nat) (l:List Cl) (w:World) (hn:l.length≤1000) (hl:ClSl w w.heap.size A' l):Calls Tryz.prog 225 #[kh x A c,.slice A' l.length c'] w fun r w'=>r=.returned (.bool (jx x l))∧Below w.heap.size w w':=by
 cases l with
 | nil=>
  unfold kh;simp only[List.length_nil];go_enter Tryz.func225,Tryz.ntmps225;go_wp2_with fail
  go_region
  go_wp2_with fail;go_ret;exact⟨rfl,((Below.refl _ w).alloc (Nat.le_refl _) _).drew⟩
 | cons d ds=>
  have bF:=(Below.refl _ w).alloc (Nat.le_refl _) (.cells #[.int .i64 x.p,.int .i64 x.o,.int .i64 x.q,.slice A x.r.length c,.int .i64 x.c,.int .i64 x.b,.int .i64 x.e] 62);obtain⟨b,off,Ax,cx,rfl,rN,MG,_,o8,df⟩:=(hl.below bF bF.size) 0 d rfl;have LQ:=(ClBox.new w x A c).cells;have F1:=fun W=>fG d x Ax A cx c W
  have hr:jx x (d::ds)=!dx d x:=rfl;rw[hr];simp only[Nat.zero_mul,Nat.add_zero] at MG;obtain⟨M,hM⟩:∃ M,(d::ds).length=M:=⟨_,rfl⟩;have rL:0<M:=by rw[← hM];simp
  have UF:(0:Int)<(M:Int):=by omega
  have hg:((M:Int)==0)=false:=by simp;omega
  rw[hM];clear hM hn hl;obtain⟨v,hv⟩:∃ v,dx d x=v:=⟨_,rfl⟩;rw[hv] at F1 ⊢;clear hv;unfold kh at F1 ⊢;have NT:=hid F1;clear F1;obtain⟨nb,jI⟩:∃ n,w.heap.size=n:=⟨_,rfl⟩;rw[jI] at LQ bF ⊢;go_enter Tryz.func225,Tryz.ntmps225;go_wp2_with fail;obtain⟨W1,kG⟩:∃ W1,w.alloc (.cells #[.int .i64 x.p,.int .i64 x.o,.int .i64 x.q,.slice A x.r.length c,.int .i64 x.c,.int .i64 x.b,.int .i64 x.e] 62)=W1:=⟨_,rfl⟩;rw[kG] at LQ bF MG ⊢;clear jI kG;refine fg (S:=(fun w':World=>Below W1.heap.size W1 w'∧(w'.cell? ⟨b,off,none⟩=some (.int .i64 d.p)∧w'.cell? ⟨b,off+1,none⟩=some (.int .i64 d.o)∧w'.cell? ⟨b,off+2,none⟩=some (.int .i64 d.q)∧w'.cell? ⟨b,off+3,none⟩=some (.slice Ax d.r.length cx)∧w'.cell? ⟨b,off+4,none⟩=some (.int .i64 d.c)∧w'.cell? ⟨b,off+5,none⟩=some (.int .i64 d.b)∧w'.cell? ⟨b,off+6,none⟩=some (.int .i64 d.e))∧(w'.cell? ⟨nb,0,none⟩=some (.int .i64 x.p)∧w'.cell? ⟨nb,1,none⟩=some (.int .i64 x.o)∧w'.cell? ⟨nb,2,none⟩=some (.int .i64 x.q)∧w'.cell? ⟨nb,3,none⟩=some (.slice A x.r.length c)∧w'.cell? ⟨nb,4,none⟩=some (.int .i64 x.c)∧w'.cell? ⟨nb,5,none⟩=some (.int .i64 x.b)∧w'.cell? ⟨nb,6,none⟩=some (.int .i64 x.e)))) ⟨(Below.refl _ W1).drew,MG,LQ⟩ fun wd bq hHeld=>?_
  clear bq;refine ai 0 1 2 3 ?_;refine ai 4 5 6 7 ?_;refine dG [8] ?_;refine dp (fun K hK=>?_) AllReadyH.nil;go_simp;refine(NT.out _).mono ?_;rintro e wx ⟨rfl,ar⟩;have aw:(fun w':World=>Below W1.heap.size W1 w'∧(w'.cell? ⟨b,off,none⟩=some (.int .i64 d.p)∧w'.cell? ⟨b,off+1,none⟩=some (.int .i64 d.o)∧w'.cell? ⟨b,off+2,none⟩=some (.int .i64 d.q)∧w'.cell? ⟨b,off+3,none⟩=some (.slice Ax d.r.length cx)∧w'.cell? ⟨b,off+4,none⟩=some (.int .i64 d.c)∧w'.cell? ⟨b,off+5,none⟩=some (.int .i64 d.b)∧w'.cell? ⟨b,off+6,none⟩=some (.int .i64 d.e))∧(w'.cell? ⟨nb,0,none⟩=some (.int .i64 x.p)∧w'.cell? ⟨nb,1,none⟩=some (.int .i64 x.o)∧w'.cell? ⟨nb,2,none⟩=some (.int .i64 x.q)∧w'.cell? ⟨nb,3,none⟩=some (.slice A x.r.length c)∧w'.cell? ⟨nb,4,none⟩=some (.int .i64 x.c)∧w'.cell? ⟨nb,5,none⟩=some (.int .i64 x.b)∧w'.cell? ⟨nb,6,none⟩=some (.int .i64 x.e))) wx:=⟨hHeld.1.trans (ar.mono hHeld.1.size),bB hHeld.2.1 ar,tX hHeld.2.2 ar⟩;refine kH hK aw fun hHeld=>?_
  clear hK K;refine bv 9 10 ?_;refine aX 11 ?_;refine aY ?_;have cD:=hid (bF.trans (hHeld.1.mono (Nat.le_of_lt (aM LQ.1))));clear hHeld aw bF MG LQ;go_wp2_with fail;go_ret;exact⟨rfl,cD.out⟩
open Go.RowKit Go.Maps
set_option maxHeartbeats 4000000
set_option maxRecDepth 100000
abbrev D0:=DataW Unit
def PM (D:D0) (f:Int→Option Int):Prop:=
 ∀ q:Int,Maps.has D (.int .i64 q)=(f q).isSome∧∀ x,f q=some x→D.atKey (.int .i64 q) (.lit (.int .i64 0))=.lit (.int .i64 x)
theorem PM.empty:PM (.map []) fun _=>none:=fun q=>⟨rfl,fun x h=>by cases h⟩
theorem PM.put {D:D0} {f:Int→Option Int} (h:PM D f) (hD:IsMap D) (key x:Int):PM (D.put (.int .i64 key) (.lit (.int .i64 x))) fun q=>if q=key then some x else f q:=by
 intro q
 by_cases e:q=key
 ·subst e;refine⟨by rw[has_put_same hD (show WideAt.IsKeyLit (Lit.int _ _) from True.intro)];simp,fun y hy=>?_⟩;rw[atKey_put_same hD (show WideAt.IsKeyLit (Lit.int _ _) from True.intro)];simp at hy;rw[hy]
 ·have eZ:(Lit.int .i64 q)≠Lit.int .i64 key:=fun h=>e (by injection h)
  rw[has_put_other eZ,atKey_put_other eZ];simp only[if_neg e];exact h q
theorem PM.val {D:D0} {f:Int→Option Int} {q c:Int} (h:PM D f) (nl:D.atKey (.int .i64 q) (.lit (.int .i64 0))=.lit (.int .i64 c)):∀ x,f q=some x→c=x:=fun x hx=>by
 have:=(h q).2 x hx;rw[this] at nl
 injection nl with h
 injection h with _ h
 exact h.symm
structure FitJ (l:List Cl) (k:Nat) (f:Int→Option Int):Prop where
 all:∀ x ∈ l.take k,pe x=true∧f x.q=some x.p
 of:∀ q p,f q=some p→∃ y ∈ l.take k,y.q=q∧y.p=p
theorem FitJ.zero (l:List Cl):FitJ l 0 fun _=>none:=⟨fun x h=>by simp at h,fun q p h=>by cases h⟩
theorem FitJ.succ {l:List Cl} {k:Nat} {f:Int→Option Int} (h:FitJ l k f) {x:Cl} (hx:l[k]?=some x) (ov:pe x=true) (hp:∀ p,f x.q=some p→p=x.p):FitJ l (k+1) fun q=>if q=x.q then some x.p else f q:=by
 have ht:=bp hx;refine⟨fun y hy=>?_,fun q p hq=>?_⟩
 ·rw[ht] at hy
  rcases List.mem_append.1 hy with hy | hy
  ·obtain⟨h1,h2⟩:=h.all y hy;refine⟨h1,?_⟩
   by_cases e:y.q=x.q
   ·simp only[e,if_true];rw[e] at h2;rw[hp _ h2]
   ·simp only[e,if_false];exact h2
  ·rw[List.mem_singleton.1 hy];exact⟨ov,by simp⟩
 ·rw[ht]
  by_cases e:q=x.q
  ·simp only[e,if_true] at hq
   injection hq with hq
   exact⟨x,by simp,e.symm,hq⟩
  ·simp only[e,if_false] at hq;obtain⟨y,hy,h1,h2⟩:=h.of q p hq;exact⟨y,List.mem_append_left _ hy,h1,h2⟩
theorem FitJ.yes {l:List Cl} {f:Int→Option Int} (h:FitJ l l.length f) (hr:eu l=true):dr l=true:=by
 have ha:=h.all;rw[List.take_length] at ha;unfold dr;rw[hr];simp only[Bool.true_and,Bool.and_eq_true,List.all_eq_true,Bool.or_eq_true,Bool.not_eq_true',beq_iff_eq,beq_eq_false_iff_ne,ne_eq];refine⟨fun x hx=>(ha x hx).1,fun x hx y hy=>?_⟩
 by_cases e:x.q=y.q
 ·refine Or.inr ?_;have h1:=(ha x hx).2;rw[e,(ha y hy).2] at h1
  injection h1 with h1
  exact h1.symm
 ·exact Or.inl e
theorem ze {l:List Cl} {k:Nat} {x:Cl} (hx:l[k]?=some x) (h:pe x=false):dr l=false:=by
 cases e:dr l with
 | false=>rfl
 | true=>
  have:=qK e x (List.mem_of_getElem? hx);rw[h] at this;cases this
theorem zf {l:List Cl} {k:Nat} {f:Int→Option Int} (h:FitJ l k f) {x:Cl} (hx:l[k]?=some x) {p:Int} (hf:f x.q=some p) (hp:p≠x.p):dr l=false:=by
 cases e:dr l with
 | false=>rfl
 | true=>
  obtain⟨y,hy,h1,h2⟩:=h.of _ _ hf;have:=pX e y (List.mem_of_mem_take hy) x (List.mem_of_getElem? hx) h1;exact absurd (h2.symm.trans this) hp
theorem zd {l:List Cl} (h:eu l=false):dr l=false:=by
 unfold dr;rw[h];rfl
theorem AE:Keyed Tryz.prog 3:=int_keyed Tryz.underlying3
theorem CC (w:World):(zeroValue 3).run Tryz.prog w=.ok (.int .i64 0) w:=by kernel_rfl
theorem qi (A:Option Addr) (c:Nat) (l:List Cl) (w:World) (hn:l.length≤1000) (hc:l.length≤c) (hl:ClSl w w.heap.size A l):
  Calls Tryz.prog 64 #[.slice A l.length c] w fun e w'=>e=.returned (.bool (dr l))∧Below w.heap.size w w':=by
 have yn:=gS A c l w hn hc hl;cases hr:eu l with
 | false=>
  rw[hr] at yn;rw[zd hr];have Nk:=hid yn;clear yn hr hl;go_enter Tryz.func64,Tryz.ntmps64;go_wp2_with fail;refine Nk.out.mono ?_;rintro e w1 ⟨rfl,aq⟩;go_wp2_with fail;go_ret;exact⟨rfl,aq⟩
 | true=>
  have iw:=(ti hr).1;rw[hr] at yn;have Nk:=hid yn;have HR:=hid hr;have tN:=hid iw;have Ie:=@run_makeMap Tryz.prog;obtain⟨R,hR⟩:∃ R,dr l=R:=⟨_,rfl⟩;have Ni:=hid hR;rw[hR];clear yn hr iw hR;go_enter Tryz.func64,Tryz.ntmps64;go_wp2_with fail;refine Nk.out.mono ?_;rintro e w1 ⟨rfl,aq⟩;have zJ:=bK w1 (.map #[] 0);have bT:=hid (aq.trans (zJ.mono aq.size));have PY:=hid (World.ownsMap_made w1 Tryz.prog 3 (plainElem (H:=Unit) Tryz.prog 3));have OU:=aq.size;clear aq zJ;obtain⟨mb,qe⟩:∃ x,w1.heap.size=x:=⟨_,rfl⟩;rw[qe] at PY OU;go_wp2_with fail;clear Ie
  go_loopw [6,7,14] (fun _ _ j wr=>∃ (k:Nat) (D:D0) (f:Int→Option Int),k≤l.length∧j=.int .i64 k∧wr.ownsMap Tryz.prog 3 (plainElem Tryz.prog 3) mb k D∧PM D f∧FitJ l k f∧Below w.heap.size w wr) (fun _ _ j _=>l.length - (intOf j).toNat)
  case atStart=>exact⟨0,.map [],fun _=>none,Nat.zero_le _,rfl,PY.out,PM.empty,FitJ.zero l,bT.out⟩
  case round=>
   obtain⟨k,D,f,hk,rfl,bU,Ef,hj,hb⟩:=hrel
   by_cases aJ:k<l.length
   ·obtain⟨x,hx⟩:=bu aJ;obtain⟨b',off,Ax,cx,rfl,rN,⟨h0,h1,h2,h3,h4,h5,h6⟩,_,o8,df⟩:=(hl.below hb (Nat.le_refl _)) k x hx;have ol:=tN.out x (List.mem_of_getElem? hx);obtain⟨W1,kG⟩:∃ W1,wr.alloc (.cells #[.int .i64 x.p,.int .i64 x.o,.int .i64 x.q,.slice Ax x.r.length cx,.int .i64 x.c,.int .i64 x.b,.int .i64 x.e] 62)=W1:=⟨_,rfl⟩;have fl:=bK wr (.cells #[.int .i64 x.p,.int .i64 x.o,.int .i64 x.q,.slice Ax x.r.length cx,.int .i64 x.c,.int .i64 x.b,.int .i64 x.e] 62);have ar:=ClBox.new wr x Ax cx;have vV:=bU.alloc (.cells #[.int .i64 x.p,.int .i64 x.o,.int .i64 x.q,.slice Ax x.r.length cx,.int .i64 x.c,.int .i64 x.b,.int .i64 x.e] 62);rw[kG] at fl ar vV;have hB:=hb.trans (fl.mono hb.size);have hf:=xz x Ax cx W1;unfold kh at hf;obtain⟨c0,c1,c2,c3,c4,c5,c6⟩:=ar.cells;have HB:=hid hB;have HX:=hid hx;have HJ:=hid hj;have Ji:=hid Ef;have kD:=hid ar;cases ov:pe x with
    | false=>
     rw[ov] at hf;have HF:=hid hf;have na:=hid (ze hx ov);have eE:=hB.size;clear hf ov hx hj Ef hB fl ar vV bU hb ol;go_wp2_with fail;refine HF.out.mono ?_;rintro e w2 ⟨rfl,aO⟩;go_wp2_with fail;go_ret;exact⟨az (by rw[← Ni.out,na.out]),HB.out.trans (aO.mono eE)⟩
    | true=>
     rw[ov] at hf;have HF:=hid hf;have wH:=hid ov
     have RB:x.q=3∨x.q=4:=by
      unfold pe at ov;simp only[Bool.or_eq_true,Bool.and_eq_true,beq_iff_eq] at ov;omega
     have JJ:(Lit.int .i64 x.q).wf=true:=by rcases RB with e | e <;> rw[e] <;> decide
     have RJ:(Lit.int .i64 x.p).wf=true:=by
      unfold Dg xt at ol;simp only[Bool.and_eq_true,decide_eq_true_eq] at ol;exact WalkArith.wf_i64 (by omega)
     have iE:keyOf Tryz.prog 3 (.int .i64 x.q)=some (.int .i64 x.q):=keyOf_int_mk Tryz.underlying3 JJ;have yx:=hid iE;have Qc:=hid RJ;have GK:=hid vV;have eE:=hB.size;have Le:mb<wr.heap.size:=bU.lt;clear hf ov hx hj Ef hB fl ar vV bU hb ol RB JJ RJ iE;go_wp2_with fail;refine HF.out.mono ?_;rintro e w2 ⟨rfl,aO⟩;have vU:=GK.out.kept (row:=none) ⟨aO.os,aO.tape,aO.output,aO.size,fun i hi _=>aO.block i hi⟩ (by simp);have rW:=hid vU;have KT:=kD.out.kept aO;have cD:=hid (HB.out.trans (aO.mono eE));have SU:=cD.out.size;clear c0 c1 c2 c3 c4 c5 c6;obtain⟨c0,c1,c2,c3,c4,c5,c6⟩:=KT.cells;clear vU aO GK HB kD KT;cases hfq:f x.q with
     | none=>
      have Ea:Maps.has D (.int .i64 x.q)=false:=by rw[(Ji.out x.q).1,hfq];rfl
      have lS:=hid hfq;clear hfq
      go_wp2_with (first
       | (at_lookup;refine wpList_lookup_own_ok_int _ rfl _ _ 151 rfl 3 3 .i64 AE Tryz.underlying151 Tryz.underlying3 (CC _) mb k D rfl rW.out _ _ rfl yx.out ?_;intro cv nl i7;rw[Ea])
       | (at_mapUpdate;refine wpList_mapUpdate_own _ rfl _ _ _ 151 rfl 3 3 AE Tryz.underlying151 _ mb k _ rfl rW.out (by unfold maxLen;omega) _ _ _ rfl rfl yx.out _ [] (plainElem_int Tryz.underlying3 Qc.out) ?_;intro w3 Ae uk)
       | fail)
      go_roundw
      case rel=>exact⟨k+1,_,_,by omega,by go_num,Ae,Ji.out.put rW.out.isMap _ _,HJ.out.succ HX.out wH.out (fun p hp=>by rw[lS.out] at hp;cases hp),cD.out.grown uk (by omega) (fun j hj=>by cases hj;omega)⟩
      case measure=>simp[intOf];omega
     | some p=>
      have Ea:Maps.has D (.int .i64 x.q)=true:=by rw[(Ji.out x.q).1,hfq];rfl
      have lS:=hid hfq;clear hfq
      by_cases hpx:p=x.p
      ·have eZ:(p != x.p)=false:=by simp[hpx]
       have Ms:=hid hpx;clear hpx
       go_wp2_with (first
        | (at_lookup;refine wpList_lookup_own_ok_int _ rfl _ _ 151 rfl 3 3 .i64 AE Tryz.underlying151 Tryz.underlying3 (CC _) mb k D rfl rW.out _ _ rfl yx.out ?_;intro cv nl i7;rw[Ea];obtain rfl:p=cv:=((Ji.out.val nl) p lS.out).symm)
        | (at_mapUpdate;refine wpList_mapUpdate_own _ rfl _ _ _ 151 rfl 3 3 AE Tryz.underlying151 _ mb k _ rfl rW.out (by unfold maxLen;omega) _ _ _ rfl rfl yx.out _ [] (plainElem_int Tryz.underlying3 Qc.out) ?_;intro w3 Ae uk)
        | fail)
       go_roundw
       case rel=>exact⟨k+1,_,_,by omega,by go_num,Ae,Ji.out.put rW.out.isMap _ _,HJ.out.succ HX.out wH.out (fun q hq=>by rw[lS.out] at hq;injection hq with hq;exact hq.symm.trans Ms.out),cD.out.grown uk (by omega) (fun j hj=>by cases hj;omega)⟩
       case measure=>simp[intOf];omega
      ·have eZ:(p != x.p)=true:=by simpa using hpx
       have na:=hid (zf HJ.out HX.out lS.out hpx);clear hpx
       go_wp2_with (first
        | (at_lookup;refine wpList_lookup_own_ok_int _ rfl _ _ 151 rfl 3 3 .i64 AE Tryz.underlying151 Tryz.underlying3 (CC _) mb k D rfl rW.out _ _ rfl yx.out ?_;intro cv nl i7;rw[Ea];obtain rfl:p=cv:=((Ji.out.val nl) p lS.out).symm)
        | fail)
       go_ret;exact⟨az (by rw[← Ni.out,na.out]),cD.out⟩
   ·obtain rfl:k=l.length:=by omega
    have HY:=hid (hj.yes HR.out);clear hj Ef;go_wp2_with fail;go_ret;exact⟨az (by rw[← Ni.out,HY.out]),hb⟩
theorem jJ (W:World) (b j:Nat) (v:Value) (n:Nat) (h:n≠b):(W.setCell ⟨b,j,none⟩ v).heap[n]?=W.heap[n]?:=by
 show(W.heap.modify b _)[n]?=_;rw[Array.getElem?_modify,if_neg (fun e=>h e.symm)]
theorem qk (W:World) (b j:Nat) (v:Value):(W.setCell ⟨b,j,none⟩ v).heap.size=W.heap.size:=by
 show(W.heap.modify b _).size=_;rw[Array.size_modify]
theorem bj (W:World) (B:Nat) (vs:Array Value) (T:TypeId) (j:Nat) (v:Value) (h:W.heap[B]?=some (.cells vs T (0,0))):(W.setCell ⟨B,j,none⟩ v).heap[B]?=some (.cells (vs.setIfInBounds j v) T (0,0)):=by
 rw[setCell_eq_setRow W B j _ _ _ _ h];exact setRow_heap _ B _ _ _ _ h
def gK (s:Sp):Value:=.agg #[.int .i64 (s.a:Int),.int .i64 (s.b:Int),.int .i64 (s.i:Int),.int .i64 (s.o:Int)]
def SpBox (W:World) (B:Nat) (s:Sp):Prop:=W.heap[B]?=some (.cells #[.int .i64 (s.a:Int),.int .i64 (s.b:Int),.int .i64 (s.i:Int),.int .i64 (s.o:Int)] 149 (0,0))
def FBox (W:World) (B:Nat) (n:Int) (AP:Option Addr) (lP cP:Nat) (AT:Option Addr) (lT cT:Nat) (AI:Option Addr) (lI cI bm:Nat) (vE:Value):Prop:=
 W.heap[B]?=some (.cells #[.int .i64 n,.slice AP lP cP,.slice AT lT cT,.slice AI lI cI,.map (some bm),vE] 146 (0,0))
section
variable {W W':World} {B:Nat} {s:Sp} {n:Int} {AP AT AI:Option Addr} {lP cP lT cT lI cI bm:Nat} {vE:Value}
theorem aa {arr:Array Value} {ty:TypeId} (h:W.heap[B]?=some (.cells arr ty (0,0))) (j:Nat):W.cell? ⟨B,j,none⟩=arr[j]?:=by simp[World.cell?,h]
theorem ac {arr:Array Value} {ty:TypeId} (h:W.heap[B]?=some (.cells arr ty (0,0))) (j:Nat):W.frozen? ⟨B,j,none⟩=false:=by simp[World.frozen?,h]
theorem cK {o:Obj} (h:W.heap[B]?=some o):B<W.heap.size:=(Array.getElem?_eq_some_iff.1 h).1
theorem au {o:Obj} (h:W.heap[B]?=some o) (hb:Below W.heap.size W W'):W'.heap[B]?=some o:=(hb.block B (cK h)).trans h
theorem aQ {o:Obj} (h:W.heap[B]?=some o) (b j:Nat) (v:Value) (hn:B≠b):(W.setCell ⟨b,j,none⟩ v).heap[B]?=some o:=(jJ W b j v B hn).trans h
theorem SpBox.cells (h:SpBox W B s):W.cell? ⟨B,0,none⟩=some (.int .i64 (s.a:Int))∧W.cell? ⟨B,1,none⟩=some (.int .i64 (s.b:Int))∧W.cell? ⟨B,2,none⟩=some (.int .i64 (s.i:Int))∧W.cell? ⟨B,3,none⟩=some (.int .i64 (s.o:Int)):=⟨aa h 0,aa h 1,aa h 2,aa h 3⟩
theorem FBox.cells (h:FBox W B n AP lP cP AT lT cT AI lI cI bm vE):W.cell? ⟨B,0,none⟩=some (.int .i64 n)∧W.cell? ⟨B,1,none⟩=some (.slice AP lP cP)∧W.cell? ⟨B,2,none⟩=some (.slice AT lT cT)∧W.cell? ⟨B,3,none⟩=some (.slice AI lI cI)∧W.cell? ⟨B,4,none⟩=some (.map (some bm))∧W.cell? ⟨B,5,none⟩=some vE:=
 ⟨aa h 0,aa h 1,aa h 2,aa h 3,aa h 4,aa h 5⟩
end
def gz (W:World) (B:Nat) (v0 v1 v2 v3:Value):World:=(((W.setCell ⟨B,0,none⟩ v0).setCell ⟨B,1,none⟩ v1).setCell ⟨B,2,none⟩ v2).setCell ⟨B,3,none⟩ v3
theorem cU {W:World} {B:Nat} {a0 a1 a2 a3:Value} {ty:TypeId} (h:W.heap[B]?=some (.cells #[a0,a1,a2,a3] ty (0,0))) (v0 v1 v2 v3:Value):(gz W B v0 v1 v2 v3).heap[B]?=some (.cells #[v0,v1,v2,v3] ty (0,0)):=by
 have h1:=bj W B _ _ 0 v0 h;have h2:=bj _ B _ _ 1 v1 h1;have h3:=bj _ B _ _ 2 v2 h2;have h4:=bj _ B _ _ 3 v3 h3
 simpa [gz] using h4
theorem bW {N:Nat} {W W':World} (h:Below N W W') {B:Nat} (hB:N≤B) (v0 v1 v2 v3:Value):Below N W (gz W' B v0 v1 v2 v3):=
 (((h.setCell (p:=⟨B,0,none⟩) hB v0).setCell (p:=⟨B,1,none⟩) hB v1).setCell (p:=⟨B,2,none⟩) hB v2).setCell (p:=⟨B,3,none⟩) hB v3
def fd (W:World) (B:Nat) (v0 v1 v2 v3 v4 v5 v6:Value):World:=((((((W.setCell ⟨B,0,none⟩ v0).setCell ⟨B,1,none⟩ v1).setCell ⟨B,2,none⟩ v2).setCell ⟨B,3,none⟩ v3).setCell ⟨B,4,none⟩ v4).setCell ⟨B,5,none⟩ v5).setCell ⟨B,6,none⟩ v6
theorem eO {W:World} {B:Nat} {a0 a1 a2 a3 a4 a5 a6:Value} {ty:TypeId} (h:W.heap[B]?=some (.cells #[a0,a1,a2,a3,a4,a5,a6] ty (0,0))) (v0 v1 v2 v3 v4 v5 v6:Value):
  (fd W B v0 v1 v2 v3 v4 v5 v6).heap[B]?=some (.cells #[v0,v1,v2,v3,v4,v5,v6] ty (0,0)):=by
 have h1:=bj W B _ _ 0 v0 h;have h2:=bj _ B _ _ 1 v1 h1;have h3:=bj _ B _ _ 2 v2 h2;have h4:=bj _ B _ _ 3 v3 h3;have h5:=bj _ B _ _ 4 v4 h4;have h6:=bj _ B _ _ 5 v5 h5;have h7:=bj _ B _ _ 6 v6 h6
 simpa [fd] using h7
theorem dD {N:Nat} {W W':World} (h:Below N W W') {B:Nat} (hB:N≤B) (v0 v1 v2 v3 v4 v5 v6:Value):Below N W (fd W' B v0 v1 v2 v3 v4 v5 v6):=
 ((((((h.setCell (p:=⟨B,0,none⟩) hB v0).setCell (p:=⟨B,1,none⟩) hB v1).setCell (p:=⟨B,2,none⟩) hB v2).setCell (p:=⟨B,3,none⟩) hB v3).setCell (p:=⟨B,4,none⟩) hB v4).setCell (p:=⟨B,5,none⟩) hB v5).setCell (p:=⟨B,6,none⟩) hB v6
theorem cW (W:World) (s:Sp) {fb:Nat} {o:Obj} (hF:W.heap[fb]?=some o):∃ W2,(W.alloc (.cells #[.int .i64 (s.a:Int),.int .i64 (s.b:Int),.int .i64 (s.i:Int),.int .i64 (s.o:Int)] 149)).alloc (.cells #[.int .i64 0,.int .i64 0,.int .i64 0,.int .i64 0] 149)=W2∧W2.heap[W.heap.size]?=some (.cells #[.int .i64 (s.a:Int),.int .i64 (s.b:Int),.int .i64 (s.i:Int),.int .i64 (s.o:Int)] 149 (0,0))∧W2.heap[W.heap.size+1]?=some (.cells #[.int .i64 0,.int .i64 0,.int .i64 0,.int .i64 0] 149 (0,0))∧Below W.heap.size W W2∧W2.heap[fb]?=some o∧fb<W.heap.size∧W.heap.size+2≤W2.heap.size:=by
 have aq:=bK W (.cells #[.int .i64 (s.a:Int),.int .i64 (s.b:Int),.int .i64 (s.i:Int),.int .i64 (s.o:Int)] 149);have aO:=aq.alloc aq.size (.cells #[.int .i64 0,.int .i64 0,.int .i64 0,.int .i64 0] 149);have av:=heap_alloc_new (W.alloc (.cells #[.int .i64 (s.a:Int),.int .i64 (s.b:Int),.int .i64 (s.i:Int),.int .i64 (s.o:Int)] 149)) (.cells #[.int .i64 0,.int .i64 0,.int .i64 0,.int .i64 0] 149);rw[World.size_alloc] at av;exact⟨_,rfl,au (heap_alloc_new W _) ((Below.refl _ _).alloc (Nat.le_refl _) _),av,aO,au hF aO,cK hF,by rw[World.size_alloc,World.size_alloc];omega⟩
theorem ClSl.tail {w:World} {B:Nat} {A:Option Addr} {l:List Cl} (hl:ClSl w B A l) {c n:Nat} (hc:l.length≤c) (JE:n≤l.length):ClSl w B (if c=n then A else A.map (·.add (n*7))) (l.drop n):=by
 intro k x hk;rw[List.getElem?_drop] at hk;obtain⟨b,off,Ar,cr,hA,aJ,iw,hr⟩:=hl _ x hk;have:=bQ hk;rw[if_neg (by omega),hA];refine⟨b,off+n*7,Ar,cr,by simp[Addr.add_lit],aJ,?_,hr⟩;rw[show off+n*7+k*7=off+(n+k)*7 by omega];exact iw
theorem cC (A:Option Addr) (M c n:Nat) (h:n≤M) (W:World):
  (Instr.sliceAt 34 (.slice A M c) (some (.int .i64 (n:Int))) none none).run Tryz.prog W=.ok (.slice (if c=n then A else A.map (·.add (n*7))) (M - n) (c - n)) W:=
 oV 34 62 7 Tryz.prog Tryz.underlying34 (by kernel_rfl) (fun W=>by kernel_rfl) A M c n h W
def kN (r:Option Sp) (W:World) (e:Ending) (w':World):Prop:=∃ t ok,e=.returned (.tuple #[gK t,.bool ok])∧r=(if ok=true then some t else none)∧Below W.heap.size W w'
theorem lv (tmps:Array Value) (w:World) {b:Nat} {s:Sp} {ok:Bool} (ha:tmps[4]?.getD undef=.pointer (some ⟨b,0,none⟩)) (hk:tmps[5]?.getD undef=.bool ok) (Hn:SpBox w b s):
  (results Tryz.f175 tmps).run Tryz.prog w=.ok (.tuple #[gK s,.bool ok]) w:=by
 obtain⟨h0,h1,h2,h3⟩:=Hn.cells;simp[results,ha,hk,h0,h1,h2,h3,go_sem,gK]
theorem gr (tmps:Array Value) (w:World) {b:Nat} {s:Sp} {ok:Bool} (ha:tmps[4]?.getD undef=.pointer (some ⟨b,0,none⟩)) (hk:tmps[5]?.getD undef=.bool ok) (Hn:SpBox w b s):
  (results Tryz.f176 tmps).run Tryz.prog w=.ok (.tuple #[gK s,.bool ok]) w:=by
 obtain⟨h0,h1,h2,h3⟩:=Hn.cells;simp[results,ha,hk,h0,h1,h2,h3,go_sem,gK]
end Go.Proofs.YtabfcjohdgjkoaaGreatDoor
