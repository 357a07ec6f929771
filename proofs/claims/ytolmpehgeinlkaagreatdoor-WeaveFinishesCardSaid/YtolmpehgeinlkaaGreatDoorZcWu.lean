/- weave.Run. -/
import Derived.Test.YtolmpehgeinlkaaGreatDoorZcWt
import Derived.Test.YtolmpehgeinlkaaGreatDoorZcWf
namespace Go.Proofs.YtolmpehgeinlkaaGreatDoor
open Go.RowKit
open Go.Lib (hid)
attribute [local go_sem] Oper.semAt_some
set_option maxHeartbeats 4000000
set_option maxRecDepth 100000
theorem vL (A:Option Addr) (cap n:Nat) (es:List CV) (N:Nat) (w:World) (h:UpC N w A cap es) (hn:es.length=n):
  Calls Tryz.prog 73 #[.slice A n cap,.int .i64 (n:Int),.func (.func 37) #[] #[]] w fun e w'=>e=.returned (.tuple #[])∧Below w.heap.size w w':=by
 have n0:=h.le;have HI:=hid fun (a b:Nat) (W:World) (hb:Below w.heap.size w W) (h1:b≤es.length) (h2:a≤100000)=>EJ A cap a b es N W (h.below hb) h1 h2
 have HS:=hid fun (g a m b:Nat) (W:World) (hA:A=some ⟨g,0,none⟩) (hb:Below w.heap.size w W) (h1:a<m) (h2:m<b) (h3:b≤es.length)=>tN N es (b - a) g cap a m b W (by rw[← hA];exact h.below hb) (Nat.le_refl _) h1 h2 h3
 have HR:=hid h.row;rw[hn] at HI HS HR n0;clear h;go_enter Tryz.func73,Tryz.ntmps73;go_wp2_with fail
 go_loopw [7,8] (fun a b wr=>∃ a' b':Nat,a=.int .i64 (a':Int)∧b=.int .i64 (b':Int)∧b'=a'+20∧a'≤n∧Below w.heap.size w wr) (fun a _ _=>n - (intOf a).toNat)
 case atStart=>exact⟨0,20,rfl,rfl,rfl,Nat.zero_le _,Below.refl _ _⟩
 case round=>
  obtain⟨a,b,rfl,rfl,sd,Fj,cz⟩:=hrel;have HB:=hid cz
  by_cases aZ:b≤n
  ·have ta:decide ((b:Int)≤(n:Int))=true:=decide_eq_true (by omega);have tb:decide (b≤n)=true:=decide_eq_true (by omega);have jb:IntKind.i64.wrap ((b:Int)+20)=(b:Int)+20:=cu (by omega) (by omega);have HC:=hid (HI.out a b wr cz aZ (by omega));have lO:=hid sd;clear cz sd;go_wp2_with fail;refine HC.out.mono ?_;rintro e w1 ⟨rfl,am⟩;have bT:=hid (HB.out.trans (am.mono HB.out.size));clear am HC;go_wp2_with fail;go_roundw
   case rel=>exact⟨b,b+20,rfl,by go_num,rfl,aZ,bT.out⟩
   case measure=>have:=lO.out;simp[intOf];omega
  ·have ta:decide ((b:Int)≤(n:Int))=false:=decide_eq_false (by omega);have tb:decide (b≤n)=false:=decide_eq_false (by omega);have HC:=hid (HI.out a n wr cz (Nat.le_refl _) (by omega));clear cz sd;go_wp2_with fail;refine HC.out.mono ?_;rintro e w1 ⟨rfl,am⟩;have bT:=hid (HB.out.trans (am.mono HB.out.size));clear am HC ta tb Fj aZ;go_wp2_with fail
   go_loopw [6] (fun z wr=>∃ s:Nat,z=.int .i64 (s:Int)∧20≤s∧s≤200000∧Below w.heap.size w wr) (fun z _=>n - (intOf z).toNat)
   case atStart=>exact⟨20,rfl,Nat.le_refl _,by omega,bT.out⟩
   case round=>
    clear bT HB;obtain⟨s,rfl,kf,bZ,cz⟩:=hrel;have cw:=hid cz
    by_cases hsn:s<n
    ·have ta:decide ((s:Int)<(n:Int))=true:=decide_eq_true (by omega);have tb:decide (s<n)=true:=decide_eq_true (by omega);have js:IntKind.i64.wrap (2*(s:Int))=2*(s:Int):=cu (by omega) (by omega);have js2:IntKind.i64.wrap ((s:Int)*2)=(s:Int)*2:=cu (by omega) (by omega);clear cz;go_wp2_with fail
     go_loopw [7,8] (fun a b wr=>∃ a' b':Nat,a=.int .i64 (a':Int)∧b=.int .i64 (b':Int)∧b'=a'+2*s∧a'≤n∧Below w.heap.size w wr) (fun a _ _=>n - (intOf a).toNat)
     case atStart=>exact⟨0,2*s,rfl,by go_num,by omega,Nat.zero_le _,cw.out⟩
     case round=>
      clear cw;obtain⟨a,b,rfl,rfl,sd,Fj,cz⟩:=hrel;have HB:=hid cz;obtain⟨m,hm⟩:∃ x,a+s=x:=⟨_,rfl⟩;have em:(a:Int)+(s:Int)=(m:Int):=by omega
      have jm:IntKind.i64.wrap (m:Int)=(m:Int):=cu (by omega) (by omega);obtain⟨g,hA⟩:=HR.out (by omega)
      by_cases aZ:b≤n
      ·have ta:decide ((b:Int)≤(n:Int))=true:=decide_eq_true (by omega);have tb:decide (b≤n)=true:=decide_eq_true (by omega);obtain⟨c,hc⟩:∃ x,b+2*s=x:=⟨_,rfl⟩;have ec:(b:Int)+2*(s:Int)=(c:Int):=by omega
       have jc:IntKind.i64.wrap (c:Int)=(c:Int):=cu (by omega) (by omega);have HC:=hid (HS.out g a m b wr hA cz (by omega) (by omega) aZ);subst hA;have lO:=hid (And.intro sd (And.intro hc hm));clear cz sd hc hm;go_wp2_with fail;refine HC.out.mono ?_;rintro e w1 ⟨rfl,am⟩;have bT:=hid (HB.out.trans (am.mono HB.out.size));clear am HC;go_wp2_with fail;go_roundw
       case rel=>exact⟨b,c,rfl,rfl,lO.out.2.1.symm,aZ,bT.out⟩
       case measure=>have:=lO.out;simp[intOf];omega
      ·have ta:decide ((b:Int)≤(n:Int))=false:=decide_eq_false (by omega);have tb:decide (b≤n)=false:=decide_eq_false (by omega)
       by_cases Hf:m<n
       ·have ra:decide ((m:Int)<(n:Int))=true:=decide_eq_true (by omega);have rb:decide (m<n)=true:=decide_eq_true (by omega);have HC:=hid (HS.out g a m n wr hA cz (by omega) Hf (Nat.le_refl _));subst hA;clear cz sd hm;go_wp2_with fail;refine HC.out.mono ?_;rintro e w1 ⟨rfl,am⟩;have bT:=hid (HB.out.trans (am.mono HB.out.size));clear am HC;go_wp2_with fail;exact⟨⟨s*2,by go_num,by omega,by omega,bT.out⟩,by simp[intOf];omega⟩
       ·have ra:decide ((m:Int)<(n:Int))=false:=decide_eq_false (by omega);have rb:decide (m<n)=false:=decide_eq_false (by omega);clear cz sd hm;go_wp2_with fail;exact⟨⟨s*2,by go_num,by omega,by omega,HB.out⟩,by simp[intOf];omega⟩
    ·have ta:decide ((s:Int)<(n:Int))=false:=decide_eq_false (by omega);have tb:decide (s<n)=false:=decide_eq_false (by omega);clear cz;go_wp2_with fail
     (try simp only[Exit.inBlock,Exit.then])
     refine bodyPost_end (results_none rfl _ _ _) rfl ?_;exact⟨rfl,cw.out⟩
theorem Bz (A:Option Addr) (cap:Nat) (es:List CV) (N:Nat) (w:World) (h:UpC N w A cap es):
  Calls Tryz.prog 36 #[.slice A es.length cap,.func (.func 37) #[] #[]] w fun e w'=>e=.returned (.tuple #[])∧Below w.heap.size w w':=by
 have HS:=hid (vL A cap es.length es N w h rfl);clear h;go_enter Tryz.func36,Tryz.ntmps36;go_wp2_with fail;refine HS.out.mono ?_;rintro e w1 ⟨rfl,hb⟩;go_wp2_with fail;refine bodyPost_end (results_none rfl _ _ _) rfl ?_;exact⟨rfl,hb⟩
set_option maxHeartbeats 4000000
set_option maxRecDepth 100000
theorem yp (tmps:Array Value) (w:World) {b:Nat} {e:CV} (ha:tmps[2]?.getD undef=.pointer (some ⟨b,0,none⟩)) (h:RowB w b #[.int .i64 e.x.p,.int .i64 e.x.o,.int .i64 e.x.q,.slice e.A e.x.r.length e.c,.int .i64 e.x.c,.int .i64 e.x.b,.int .i64 e.x.e] 40):
  (results Tryz.f72 tmps).run Tryz.prog w=.ok (.agg #[.int .i64 e.x.p,.int .i64 e.x.o,.int .i64 e.x.q,.slice e.A e.x.r.length e.c,.int .i64 e.x.c,.int .i64 e.x.b,.int .i64 e.x.e]) w:=by
 have h0:=(h.cell 0).trans rfl;have h1:=(h.cell 1).trans rfl;have h2:=(h.cell 2).trans rfl;have h3:=(h.cell 3).trans rfl;have h4:=(h.cell 4).trans rfl;have h5:=(h.cell 5).trans rfl;have h6:=(h.cell 6).trans rfl;simp[results,ha,h0,h1,h2,h3,h4,h5,h6,go_sem]
theorem DV (e:CV) (w:World) (hn:e.x.r.length≤1000000) (hl:Ws w w.heap.size e.A e.x.r):
  Calls Tryz.prog 72 #[.agg #[.int .i64 e.x.p,.int .i64 e.x.o,.int .i64 e.x.q,.slice e.A e.x.r.length e.c,.int .i64 e.x.c,.int .i64 e.x.b,.int .i64 e.x.e]] w fun z w'=>∃ A' c',z=.returned (.agg #[.int .i64 e.x.p,.int .i64 e.x.o,.int .i64 e.x.q,.slice A' e.x.r.length c',.int .i64 e.x.c,.int .i64 e.x.b,.int .i64 e.x.e])∧Ws w' w'.heap.size A' e.x.r∧(∀ b off,A'=some ⟨b,off,none⟩→w.heap.size≤b∧b<w'.heap.size)∧Below w.heap.size w w':=by
 have iZ:=bt w (.cells #[.int .i64 e.x.p,.int .i64 e.x.o,.int .i64 e.x.q,.slice e.A e.x.r.length e.c,.int .i64 e.x.c,.int .i64 e.x.b,.int .i64 e.x.e] 40);have am:=iZ.alloc iZ.size (.cells #[.int .i64 0,.int .i64 0,.int .i64 0,.slice none 0 0,.int .i64 0,.int .i64 0,.int .i64 0] 40);have iV:=RowB.new w #[.int .i64 e.x.p,.int .i64 e.x.o,.int .i64 e.x.q,.slice e.A e.x.r.length e.c,.int .i64 e.x.c,.int .i64 e.x.b,.int .i64 e.x.e] 40;have jK:=iV.kept ((Below.refl _ (w.alloc (.cells #[.int .i64 e.x.p,.int .i64 e.x.o,.int .i64 e.x.q,.slice e.A e.x.r.length e.c,.int .i64 e.x.c,.int .i64 e.x.b,.int .i64 e.x.e] 40))).alloc (Nat.le_refl _) (.cells #[.int .i64 0,.int .i64 0,.int .i64 0,.slice none 0 0,.int .i64 0,.int .i64 0,.int .i64 0] 40));have dA:=RowB.new (w.alloc (.cells #[.int .i64 e.x.p,.int .i64 e.x.o,.int .i64 e.x.q,.slice e.A e.x.r.length e.c,.int .i64 e.x.c,.int .i64 e.x.b,.int .i64 e.x.e] 40)) #[.int .i64 0,.int .i64 0,.int .i64 0,.slice none 0 0,.int .i64 0,.int .i64 0,.int .i64 0] 40;rw[World.size_alloc] at dA;obtain⟨n,Aj⟩:∃ n,w.heap.size=n:=⟨_,rfl⟩;obtain⟨W1,ys⟩:∃ W1,(w.alloc (.cells #[.int .i64 e.x.p,.int .i64 e.x.o,.int .i64 e.x.q,.slice e.A e.x.r.length e.c,.int .i64 e.x.c,.int .i64 e.x.b,.int .i64 e.x.e] 40)).alloc (.cells #[.int .i64 0,.int .i64 0,.int .i64 0,.slice none 0 0,.int .i64 0,.int .i64 0,.int .i64 0] 40)=W1:=⟨_,rfl⟩;have rS:=iP e.A e.c e.x.r W1 hn (hl.below (by rw[← ys];exact am) (by have:=am.size;rw[ys] at this;exact this));rw[Aj] at jK dA am ⊢;have Af:=hid rS;have HX:=hid jK;have HZ:=hid dA;have HB:=hid am;have d3:=(jK.cell 3).trans rfl;rw[ys] at d3 HX HZ HB;clear rS hl iZ dA iV jK am hn;go_enter Tryz.func72,Tryz.ntmps72;go_wp2_with fail;refine Af.out.mono ?_;rintro z w2 ⟨v,rfl,hv,bu⟩;obtain⟨A',c',rfl,_,gF⟩:=hv.ws;have aZ:=World.ownsRow.lt hv.1;have pY:=HX.out.kept bu;have n8:=HZ.out.kept bu;have MW:=HX.out.lt;have pX:=HZ.out.lt;have bz:=HB.out.trans (bu.mono (by omega));have NV:=pY.frozen 3;have g0:=(pY.cell 0).trans rfl;have g1:=(pY.cell 1).trans rfl;have g2:=(pY.cell 2).trans rfl;have g3:=(pY.cell 3).trans rfl;have g4:=(pY.cell 4).trans rfl;have g5:=(pY.cell 5).trans rfl;have g6:=(pY.cell 6).trans rfl;have df0:=n8.frozen 0;have df1:=n8.frozen 1;have df2:=n8.frozen 2;have df3:=n8.frozen 3;have df4:=n8.frozen 4;have df5:=n8.frozen 5;have df6:=n8.frozen 6;have z0:=(n8.cell 0).trans rfl;have z1:=(n8.cell 1).trans rfl;have z2:=(n8.cell 2).trans rfl;have z3:=(n8.cell 3).trans rfl;have z4:=(n8.cell 4).trans rfl;have z5:=(n8.cell 5).trans rfl;have z6:=(n8.cell 6).trans rfl;have jq:=(n8.other n 3 (.slice A' e.x.r.length c') (by omega)) |>.set 0 (.int .i64 e.x.p) |>.set 1 (.int .i64 e.x.o) |>.set 2 (.int .i64 e.x.q) |>.set 3 (.slice A' e.x.r.length c') |>.set 4 (.int .i64 e.x.c) |>.set 5 (.int .i64 e.x.b) |>.set 6 (.int .i64 e.x.e)
 have ht:Tch (fun b=>b=n∨b=n+1) w2 ((((((((w2.setCell ⟨n,3,none⟩ (.slice A' e.x.r.length c')).setCell ⟨n+1,0,none⟩ (.int .i64 e.x.p)).setCell ⟨n+1,1,none⟩ (.int .i64 e.x.o)).setCell ⟨n+1,2,none⟩ (.int .i64 e.x.q)).setCell ⟨n+1,3,none⟩ (.slice A' e.x.r.length c')).setCell ⟨n+1,4,none⟩ (.int .i64 e.x.c)).setCell ⟨n+1,5,none⟩ (.int .i64 e.x.b)).setCell ⟨n+1,6,none⟩ (.int .i64 e.x.e)):=(Tch.refl _ w2).set (b:=n) (.inl rfl) 3 _ |>.set (b:=n+1) (.inr rfl) 0 _ |>.set (b:=n+1) (.inr rfl) 1 _ |>.set (b:=n+1) (.inr rfl) 2 _ |>.set (b:=n+1) (.inr rfl) 3 _ |>.set (b:=n+1) (.inr rfl) 4 _ |>.set (b:=n+1) (.inr rfl) 5 _ |>.set (b:=n+1) (.inr rfl) 6 _
 have bL:∀ b off,A'=some ⟨b,off,none⟩→W1.heap.size≤b∧b<w2.heap.size:=fun b off q=>aZ b (by rw[q];rfl)
 have HF:=hid (And.intro jq (And.intro (gF.tch ht (fun b off q r=>by have:=bL b off q;omega) ht.size) (And.intro (fun b off q=>(by have h1:=bL b off q;have h2:=ht.size;exact⟨by omega,Nat.lt_of_lt_of_le h1.2 h2⟩:n≤b∧b<(((((((((w2.setCell ⟨n,3,none⟩ (.slice A' e.x.r.length c')).setCell ⟨n+1,0,none⟩ (.int .i64 e.x.p)).setCell ⟨n+1,1,none⟩ (.int .i64 e.x.o)).setCell ⟨n+1,2,none⟩ (.int .i64 e.x.q)).setCell ⟨n+1,3,none⟩ (.slice A' e.x.r.length c')).setCell ⟨n+1,4,none⟩ (.int .i64 e.x.c)).setCell ⟨n+1,5,none⟩ (.int .i64 e.x.b)).setCell ⟨n+1,6,none⟩ (.int .i64 e.x.e))).heap.size)) (bz.trans (ht.below (by have:=bz.size;omega) (fun i _ q=>by omega))))));clear hv bu gF aZ pY n8 MW pX bz jq ht bL;go_wp2_with fail;refine bodyPost_ret (yp (e:=⟨e.x,A',c'⟩) _ _ rfl HF.out.1) rfl ?_;exact⟨A',c',rfl,HF.out.2.1,HF.out.2.2.1,HF.out.2.2.2⟩
theorem Er (e:CV) (w:World):Calls Tryz.prog 35 #[.agg #[.int .i64 e.x.p,.int .i64 e.x.o,.int .i64 e.x.q,.slice e.A e.x.r.length e.c,.int .i64 e.x.c,.int .i64 e.x.b,.int .i64 e.x.e]] w fun z w'=>z=.returned (.bool true)∧Below w.heap.size w w':=by
 go_enter Tryz.func35,Tryz.ntmps35;go_wp2_with fail;go_ret;exact⟨rfl,(Below.refl _ w).alloc (Nat.le_refl _) _⟩
structure PickS (N:Nat) (w:World) (v:Value) (es:List CV):Prop where
 own:Own cvE 40 N w v es
 recs:∀ e ∈ es,Ws w w.heap.size e.A e.x.r∧∀ b off,e.A=some ⟨b,off,none⟩→v.ownBlock≠some b
section
variable {N:Nat} {w w9:World} {v v':Value} {es:List CV} {e:CV}
theorem PickS.below (h:PickS N w v es) (hb:Below w.heap.size w w9):PickS N w9 v es:=
 ⟨aG h.own (Tch.of_below (fun _=>False) hb) (fun _ _ q=>q),fun e he=>⟨(h.recs e he).1.below hb hb.size,(h.recs e he).2⟩⟩
theorem PickS.snoc (h:PickS N w v es) (cT:Own cvE 40 N w9 v' (es++[e])) (ht:Tch (fun b=>v.ownBlock=some b) w w9) (jI:v'.ownBlock=v.ownBlock∨v'.ownBlock=some w.heap.size) (hr:Ws w w.heap.size e.A e.x.r∧∀ b off,e.A=some ⟨b,off,none⟩→v.ownBlock≠some b∧b<w.heap.size) (hl:∀ x ∈ es,∀ b off,x.A=some ⟨b,off,none⟩→b<w.heap.size):PickS N w9 v' (es++[e]):=by
 have i7:∀ b,v.ownBlock≠some b→b<w.heap.size→v'.ownBlock≠some b:=fun b h1 h2 q=>by
  rcases jI with r | r
  ·exact h1 (r.symm.trans q)
  ·have:=Option.some.inj (r.symm.trans q);omega
 refine⟨cT,fun x hx=>?_⟩
 rcases List.mem_append.1 hx with hx | hx
 ·have q:=h.recs x hx;exact⟨q.1.tch ht (fun b off r t=>q.2 b off r t) ht.size,fun b off r=>i7 b (q.2 b off r) (hl x hx b off r)⟩
 ·rw[List.mem_singleton.1 hx];exact⟨hr.1.tch ht (fun b off r t=>(hr.2 b off r).1 t) ht.size,fun b off r=>i7 b (hr.2 b off r).1 (hr.2 b off r).2⟩
end
def FN (es0:List CV) (w:World) (z:Ending) (w':World):Prop:=∃ v es,z=.returned v∧PickS w.heap.size w' v es∧es.map (·.x)=es0.map (·.x)∧Below w.heap.size w w'
theorem BD (A:Option Addr) (c:Nat) (es0:List CV) (w:World) (hn:es0.length≤100000) (hr:∀ e ∈ es0,e.x.r.length≤1000000) (bH:SlOf cvE w w.heap.size A es0) (hw:∀ e ∈ es0,Ws w w.heap.size e.A e.x.r):
  Calls Tryz.prog 34 #[.slice A es0.length c,.func (.func 35) #[] #[]] w (FN es0 w):=by
 have HR:=hid (And.intro hr hw);have aS:=hid bH;clear hr hw bH;go_enter Tryz.func34,Tryz.ntmps34;go_wp2_with fail
 go_loopw [5,10] (fun v j wr=>∃ (k:Nat) (es:List CV),k≤es0.length∧j=.int .i64 (k:Int)∧es.length=k∧PickS w.heap.size wr v es∧(∀ e ∈ es,∀ b off,e.A=some ⟨b,off,none⟩→b<wr.heap.size)∧es.map (·.x)=(es0.take k).map (·.x)∧Below w.heap.size w wr) (fun _ j _=>es0.length - (intOf j).toNat)
 case atStart=>exact⟨0,[],Nat.zero_le _,rfl,rfl,⟨⟨rfl,.inl ⟨rfl,rfl⟩⟩,fun e he=>(by cases he)⟩,fun e he=>(by cases he),rfl,Below.refl _ _⟩
 case round=>
  obtain⟨k,es,hk,rfl,xi,hp,jU,hm,hb⟩:=hrel;obtain⟨Av,Mv,Cv,rfl⟩:=aR hp.own
  by_cases aZ:k<es0.length
  ·have hd:decide ((k:Int)<(es0.length:Int))=true:=decide_eq_true (by omega);have k0:(0:Int)≤(k:Int):=by omega
   have k1:(k:Int)<(es0.length:Int):=by omega
   have jk:IntKind.i64.wrap ((k:Int)+1)=(k:Int)+1:=cu (by omega) (by omega);obtain⟨e,he⟩:∃ e,es0[k]?=some e:=⟨_,List.getElem?_eq_getElem aZ⟩;have tE:=List.mem_of_getElem? he;obtain⟨b',off,hA,CO,hc⟩:=(aS.out.below hb (Nat.le_refl _)) k e he;have c0:wr.cell? ⟨b',off+k*7,none⟩=some (.int .i64 e.x.p):=by simpa [cvE] using hc 0 _ rfl
   have c1:wr.cell? ⟨b',off+k*7+1,none⟩=some (.int .i64 e.x.o):=by simpa [cvE,Nat.add_assoc] using hc 1 _ rfl
   have c2:wr.cell? ⟨b',off+k*7+2,none⟩=some (.int .i64 e.x.q):=by simpa [cvE,Nat.add_assoc] using hc 2 _ rfl
   have c3:wr.cell? ⟨b',off+k*7+3,none⟩=some (.slice e.A e.x.r.length e.c):=by simpa [cvE,Nat.add_assoc] using hc 3 _ rfl
   have c4:wr.cell? ⟨b',off+k*7+4,none⟩=some (.int .i64 e.x.c):=by simpa [cvE,Nat.add_assoc] using hc 4 _ rfl
   have c5:wr.cell? ⟨b',off+k*7+5,none⟩=some (.int .i64 e.x.b):=by simpa [cvE,Nat.add_assoc] using hc 5 _ rfl
   have c6:wr.cell? ⟨b',off+k*7+6,none⟩=some (.int .i64 e.x.e):=by simpa [cvE,Nat.add_assoc] using hc 6 _ rfl
   have br:=RowB.new wr #[.int .i64 e.x.p,.int .i64 e.x.o,.int .i64 e.x.q,.slice e.A e.x.r.length e.c,.int .i64 e.x.c,.int .i64 e.x.b,.int .i64 e.x.e] 40;have pL:=bt wr (.cells #[.int .i64 e.x.p,.int .i64 e.x.o,.int .i64 e.x.q,.slice e.A e.x.r.length e.c,.int .i64 e.x.c,.int .i64 e.x.b,.int .i64 e.x.e] 40);obtain⟨W1,ys⟩:∃ W1,wr.alloc (.cells #[.int .i64 e.x.p,.int .i64 e.x.o,.int .i64 e.x.q,.slice e.A e.x.r.length e.c,.int .i64 e.x.c,.int .i64 e.x.b,.int .i64 e.x.e] 40)=W1:=⟨_,rfl⟩;obtain⟨n,Aj⟩:∃ n,wr.heap.size=n:=⟨_,rfl⟩;rw[ys,Aj] at br pL;have gF:=((HR.out.2 e tE).below hb hb.size);have DU:=hb.size;have G8:=hid (Er e W1);have GC:=hid (hp.below (by rw[Aj];exact pL));have Gf:=hid (gF.below (by rw[Aj];exact pL) pL.size);have lH:=hid br;have bT:=hid (hb.trans (pL.mono (by omega)));have BO:=hid (fun x hx b off q=>Nat.lt_of_lt_of_le (jU x hx b off q) pL.size:∀ x ∈ es,∀ b off,x.A=some ⟨b,off,none⟩→b<W1.heap.size);have HE:=hid (And.intro he (And.intro xi (And.intro hm (And.intro aZ (HR.out.1 e tE)))));subst hA;have Is:=br;have g0:=(br.cell 0).trans rfl;have g1:=(br.cell 1).trans rfl;have g2:=(br.cell 2).trans rfl;have g3:=(br.cell 3).trans rfl;have g4:=(br.cell 4).trans rfl;have g5:=(br.cell 5).trans rfl;have g6:=(br.cell 6).trans rfl;clear hp jU hm hb hc tE he CO xi pL gF br Is DU;go_wp2_with fail;refine G8.out.mono ?_;rintro z w2 ⟨rfl,bu⟩;clear c0 c1 c2 c3 c4 c5 c6 g0 g1 g2 g3 g4 g5 g6;have It:=bu.mono (Nat.le_of_lt lH.out.lt);have pY:=lH.out.kept bu;have g0:=(pY.cell 0).trans rfl;have g1:=(pY.cell 1).trans rfl;have g2:=(pY.cell 2).trans rfl;have g3:=(pY.cell 3).trans rfl;have g4:=(pY.cell 4).trans rfl;have g5:=(pY.cell 5).trans rfl;have g6:=(pY.cell 6).trans rfl;have xj:=hid (GC.out.below bu);have cw:=hid (bT.out.trans (bu.mono bT.out.size));have JU:=hid (DV e w2 HE.out.2.2.2.2 (Gf.out.below bu bu.size));have F3:=hid (fun x hx b off q=>Nat.lt_of_lt_of_le (BO.out x hx b off q) bu.size:∀ x ∈ es,∀ b off,x.A=some ⟨b,off,none⟩→b<w2.heap.size);clear bu pY It G8 GC bT Gf BO lH;go_wp2_with fail;refine JU.out.mono ?_;rintro z w3 ⟨A',c',rfl,gn,Kr,cW⟩;have Ir:=hid (xj.out.below cW);have ic:=hid (cw.out.trans (cW.mono cw.out.size));have EM:=hid (fun b q=>(World.ownsRow.lt xj.out.own b q).2:∀ b,(Value.slice Av Mv Cv).ownBlock=some b→b<w2.heap.size);have By:=hid (And.intro gn Kr);have Gw:=hid (fun x hx b off q=>Nat.lt_of_lt_of_le (F3.out x hx b off q) cW.size:∀ x ∈ es,∀ b off,x.A=some ⟨b,off,none⟩→b<w3.heap.size);clear g0 g1 g2 g3 g4 g5 g6 gn Kr cW xj cw JU F3;have Iq:=hid (Ir.out.below ((Below.refl _ w3).alloc (Nat.le_refl _) (.cells #[.int .i64 e.x.p,.int .i64 e.x.o,.int .i64 e.x.q,.slice A' e.x.r.length c',.int .i64 e.x.c,.int .i64 e.x.b,.int .i64 e.x.e] 40)));have Fp:=hid (And.intro (By.out.1.below ((Below.refl _ w3).alloc (Nat.le_refl _) (.cells #[.int .i64 e.x.p,.int .i64 e.x.o,.int .i64 e.x.q,.slice A' e.x.r.length c',.int .i64 e.x.c,.int .i64 e.x.b,.int .i64 e.x.e] 40)) (Nat.le_of_lt (by rw[World.size_alloc];omega:w3.heap.size<(w3.alloc (.cells #[.int .i64 e.x.p,.int .i64 e.x.o,.int .i64 e.x.q,.slice A' e.x.r.length c',.int .i64 e.x.c,.int .i64 e.x.b,.int .i64 e.x.e] 40)).heap.size))) By.out.2);obtain⟨ht,i0,z,dD,hz,dt,rY,pX,bK⟩:=qm;have HN:=hid (And.intro ic.out.size hn);clear hn;go_wp2_with (at_builtin;refine wpList_append_own_at _ rfl _ _ 32 rfl w.heap.size 40 i0 z 7 72 ht dD hz dt rY pX bK _ es.length _ rfl Iq.out.own ⟨w3.heap.size,0,none⟩ 1 1 (CV.cells ⟨e.x,A',c'⟩) rfl rfl (bD w3 (CV.cells ⟨e.x,A',c'⟩) _ _ rfl) (fun u hu=>by simp only[CV.cells,List.mem_cons,List.not_mem_nil,or_false] at hu;rcases hu with rfl | rfl | rfl | rfl | rfl | rfl | rfl <;> rfl) (by have h1:=HE.out;have h2:=HN.out;unfold maxLen;omega) (by have h1:=HE.out;have h2:=HN.out;omega) (by have h1:=HN.out.1;rw[World.size_alloc];omega) ?_;intro v9 w9 bk lB _ cN);go_roundw
   case rel=>
    obtain⟨he,xi,hm,aZ,_⟩:=HE.out;have da:=fJ lB (T:=fun b=>(Value.slice Av Mv Cv).ownBlock=some b) (fun _ h=>h);have LT:=da.size;rw[World.size_alloc] at LT;refine⟨k+1,es++[⟨e.x,A',c'⟩],by omega,by go_num,by rw[List.length_append,xi];rfl,Iq.out.snoc (Own.app bk rfl) da cN ⟨Fp.out.1,fun b off q=>⟨fun r=>?_,?_⟩⟩ (fun x hx b off q=>?_),fun x hx b off q=>?_,?_,(ic.out.alloc ic.out.size _).trans (da.below (by have:=ic.out.size;rw[World.size_alloc];omega) (fun b _ r=>(World.ownsRow.lt Iq.out.own b r).1))⟩
    ·have h1:=(Fp.out.2 b off q).1;have h2:=EM.out b r;omega
    ·have h1:=(Fp.out.2 b off q).2;rw[World.size_alloc];omega
    ·have h1:=Gw.out x hx b off q;rw[World.size_alloc];omega
    ·rcases List.mem_append.1 hx with hx | hx
     ·have h1:=Gw.out x hx b off q;omega
     ·rw[List.mem_singleton.1 hx] at q;have h1:=(Fp.out.2 b off q).2;omega
    ·rw[List.map_append,hm,List.take_add_one,he,List.map_append];rfl
   case measure=>simp[intOf];omega
  ·have hd:decide ((k:Int)<(es0.length:Int))=false:=decide_eq_false (by omega);have fZ:decide (k<es0.length)=false:=decide_eq_false (by omega);have hf:es.map (·.x)=es0.map (·.x):=by rw[hm,List.take_of_length_le (by omega)]
   have HF:=hid (And.intro hp (And.intro hf hb));clear hp jU hm hb aZ xi hf;go_wp2_with fail;go_ret;exact⟨_,es,rfl,HF.out.1,HF.out.2.1,HF.out.2.2⟩
theorem UpC.of {N:Nat} {w:World} {v:Value} {es:List CV} {l:List Cl} (h:Own cvE 40 N w v es) (hl:es.map (·.x)=l) (hu:l.Pairwise fun x y=>x.b<y.b) (hn:es.length≤100000):∃ A c,v=.slice A es.length c∧UpC N w A c es:=by
 obtain⟨A,c,rfl,_⟩:=h.sl;refine⟨A,c,rfl,h,fun i j x y Mi hx hy=>?_,hn⟩;subst hl;have:=(List.pairwise_map.1 hu);rw[List.pairwise_iff_getElem] at this;obtain⟨hi,rfl⟩:=List.getElem?_eq_some_iff.1 hx;obtain⟨hj,rfl⟩:=List.getElem?_eq_some_iff.1 hy;exact this i j hi hj Mi
def FL (l:List Cl) (w:World) (z:Ending) (w':World):Prop:=∃ A c es,z=.returned (.slice A es.length c)∧es.map (·.x)=l∧SlOf cvE w' w'.heap.size A es∧(∀ e ∈ es,Ws w' w'.heap.size e.A e.x.r)∧Below w.heap.size w w'
theorem uN (A:Option Addr) (c:Nat) (es0:List CV) (w:World) (hn:es0.length≤100000) (hr:∀ e ∈ es0,e.x.r.length≤1000000) (bH:SlOf cvE w w.heap.size A es0) (hw:∀ e ∈ es0,Ws w w.heap.size e.A e.x.r) (hu:(es0.map (·.x)).Pairwise fun x y=>x.b<y.b):
  Calls Tryz.prog 19 #[.slice A es0.length c] w (FL (es0.map (·.x)) w):=by
 have HP:=hid (BD A c es0 w hn hr bH hw);have MV:=hid hu;have HN:=hid hn;clear hn hr bH hw hu;go_enter Tryz.func19,Tryz.ntmps19;go_wp2_with fail;refine HP.out.mono ?_;rintro z w1 ⟨v,es,rfl,hp,hm,hb⟩;obtain⟨A1,c1,rfl,FY⟩:=UpC.of hp.own hm MV.out (by have h1:=congrArg List.length hm;rw[List.length_map,List.length_map] at h1;have:=HN.out;omega);have HS:=hid (Bz A1 c1 es _ w1 FY);have HX:=hid (And.intro hp (And.intro hm hb));clear hp hm hb FY HP;go_wp2_with fail;refine HS.out.mono ?_;rintro z w2 ⟨rfl,bu⟩;obtain⟨hp,hm,hb⟩:=HX.out;have zL:=hp.below bu;obtain⟨_,_,e1,_,_,bH⟩:=zL.own.sl;cases e1;have HF:=hid (And.intro hm (And.intro bH (And.intro (fun e he=>(zL.recs e he).1) (hb.trans (bu.mono hb.size)))));clear hp hm hb zL bH bu;go_wp2_with fail;go_ret;exact⟨A1,c1,es,rfl,HF.out.1,HF.out.2.1,HF.out.2.2.1,HF.out.2.2.2⟩
def CL (o:Ob) (gs:List PG) (m ks:List Int) (w:World) (z:Ending) (w':World):Prop:=
 ∃ A c es,z=.returned (.tuple #[.slice A es.length c,.int .i64 0])∧Lm.GoodTo o (gH (cg gs) m) ks ks.length∧es.map (·.x)=(Lm.run (cK o) Kc.step (gH (cg gs) m) ks).calls∧SlOf cvE w' w'.heap.size A es∧(∀ e ∈ es,Ws w' w'.heap.size e.A e.x.r)∧Below w.heap.size w w'
theorem Dq (o:Ob) (ho:o.Ok) (A B:Option Addr) (cap kc:Nat) (gs:List PG) (l ks:List Int) (w:World) (hin:ProcsIn w w.heap.size A gs) (bA:gs.length≤1000) (dq:∀ g ∈ gs,g.ts.length≤1000) (hO:∀ g ∈ gs,∀ t ∈ g.ts,t.r.length≤1000) (hf:cy o (cg gs)=0)
  (hl:o.ni=l.length) (hI:Ws w w.heap.size o.I l) (hK:SlOf (bB .i64) w w.heap.size B ks) (wE:ks.length≤1000) (hT:Tab64 w) (hG:(0:Nat)<w.heap.size):
  Calls Tryz.prog 8 #[.agg (af o),.slice A gs.length cap,.slice B ks.length kc] w (CL o gs (bW o l) ks w):=by
 have hn:=RowB.new w (af o) 26;have hB:=bt w (.cells (af o) 26);unfold af at hn hB;have HB:=hid hB;have hr:=xQ o ho A B cap kc gs l ks _ (hin.below hB hB.size) bA dq hO hf hl (hI.below hB hB.size) (hK.below hB hB.size) wE (fun j hj=>(hB.cell (p:=⟨_,j,none⟩) hG).trans (hT j hj)) (Nat.lt_of_lt_of_le hG hB.size);unfold af at hr;have HR:=hid hr;have Fi:=hid wE;clear hn hB hr hf hin bA dq hO ho hl hI hK wE hT hG;unfold af;go_enter Tryz.func8,Tryz.ntmps8;go_wp2_with fail;refine HR.out.mono ?_;rintro e w1 ⟨lb,pb,mb,ml,pc,cv,tg,gs',es,rfl,EF,hL⟩;obtain⟨A1,c1,rfl,_,_,bH⟩:=hL.calls.sl;have c10:=hL.row.at 10 (.slice A1 es.length c1);have hg:=(EF ks.length (Nat.le_refl _)).1;rw[List.take_length] at hg;have xt:=hL.cx
 have FU:es.length≤1000:=by
  have h1:=congrArg List.length xt;rw[List.length_map] at h1;have h2:=hg.cn;have h3:=Fi.out;omega
 have sk:=uN A1 c1 es w1 (by omega) (fun e he=>Nat.le_trans (hg.rl e.x (by rw[← xt];exact List.mem_map_of_mem he)) (by omega)) bH (fun e he=>(hL.recs e he).1) (by rw[xt];exact hg.up.up);rw[xt] at sk;have HS:=hid sk;have HF:=hid (And.intro EF (HB.out.trans (hL.bel.mono HB.out.size)));clear EF hL bH hg xt FU sk;go_wp2_with fail;refine HS.out.mono ?_;rintro z w2 ⟨A2,c2,es2,rfl,hm,bH,jr,bu⟩;have HX:=hid (And.intro hm (And.intro bH (And.intro jr (HF.out.2.trans (bu.mono HF.out.2.size)))));clear hm bH jr bu;go_wp2_with fail;go_ret2;exact⟨A2,c2,es2,rfl,HF.out.1,HX.out.1,HX.out.2.1,HX.out.2.2.1,HX.out.2.2.2⟩
end Go.Proofs.YtolmpehgeinlkaaGreatDoor
