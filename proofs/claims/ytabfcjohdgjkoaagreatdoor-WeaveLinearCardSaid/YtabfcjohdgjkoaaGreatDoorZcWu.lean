/- weave.Run. -/
import Derived.Test.YtabfcjohdgjkoaaGreatDoorZcWt
import Derived.Test.YtabfcjohdgjkoaaGreatDoorZcWf
namespace Go.Proofs.YtabfcjohdgjkoaaGreatDoor
open Go.RowKit
open Go.Lib (hid)
attribute [local go_sem] Oper.semAt_some
set_option maxHeartbeats 4000000
set_option maxRecDepth 100000
theorem xY (A:Option Addr) (cap n:Nat) (es:List CV) (N:Nat) (w:World) (h:UpC N w A cap es) (hn:es.length=n):
  Calls Tryz.prog 91 #[.slice A n cap,.int .i64 (n:Int),.func (.func 55) #[] #[]] w fun e w'=>e=.returned (.tuple #[])∧Below w.heap.size w w':=by
 have la:=h.le;have HI:=hid fun (a b:Nat) (W:World) (hb:Below w.heap.size w W) (h1:b≤es.length) (h2:a≤100000)=>IC A cap a b es N W (h.below hb) h1 h2
 have HS:=hid fun (g a m b:Nat) (W:World) (hA:A=some ⟨g,0,none⟩) (hb:Below w.heap.size w W) (h1:a<m) (h2:m<b) (h3:b≤es.length)=>uT N es (b - a) g cap a m b W (by rw[← hA];exact h.below hb) (Nat.le_refl _) h1 h2 h3
 have HR:=hid h.row;rw[hn] at HI HS HR la;clear h;go_enter Tryz.func91,Tryz.ntmps91;go_wp2_with fail
 go_loopw [7,8] (fun a b wr=>∃ a' b':Nat,a=.int .i64 (a':Int)∧b=.int .i64 (b':Int)∧b'=a'+20∧a'≤n∧Below w.heap.size w wr) (fun a _ _=>n - (intOf a).toNat)
 case atStart=>exact⟨0,20,rfl,rfl,rfl,Nat.zero_le _,Below.refl _ _⟩
 case round=>
  obtain⟨a,b,rfl,rfl,pu,Jv,cH⟩:=hrel;have HB:=hid cH
  by_cases aJ:b≤n
  ·have ta:decide ((b:Int)≤(n:Int))=true:=decide_eq_true (by omega);have tb:decide (b≤n)=true:=decide_eq_true (by omega);have jb:IntKind.i64.wrap ((b:Int)+20)=(b:Int)+20:=bX (by omega) (by omega);have HC:=hid (HI.out a b wr cH aJ (by omega));have Me:=hid pu;clear cH pu;go_wp2_with fail;refine HC.out.mono ?_;rintro e w1 ⟨rfl,aq⟩;have bT:=hid (HB.out.trans (aq.mono HB.out.size));clear aq HC;go_wp2_with fail;go_roundw
   case rel=>exact⟨b,b+20,rfl,by go_num,rfl,aJ,bT.out⟩
   case measure=>have:=Me.out;simp[intOf];omega
  ·have ta:decide ((b:Int)≤(n:Int))=false:=decide_eq_false (by omega);have tb:decide (b≤n)=false:=decide_eq_false (by omega);have HC:=hid (HI.out a n wr cH (Nat.le_refl _) (by omega));clear cH pu;go_wp2_with fail;refine HC.out.mono ?_;rintro e w1 ⟨rfl,aq⟩;have bT:=hid (HB.out.trans (aq.mono HB.out.size));clear aq HC ta tb Jv aJ;go_wp2_with fail
   go_loopw [6] (fun z wr=>∃ s:Nat,z=.int .i64 (s:Int)∧20≤s∧s≤200000∧Below w.heap.size w wr) (fun z _=>n - (intOf z).toNat)
   case atStart=>exact⟨20,rfl,Nat.le_refl _,by omega,bT.out⟩
   case round=>
    clear bT HB;obtain⟨s,rfl,rR,bN,cH⟩:=hrel;have cD:=hid cH
    by_cases qg:s<n
    ·have ta:decide ((s:Int)<(n:Int))=true:=decide_eq_true (by omega);have tb:decide (s<n)=true:=decide_eq_true (by omega);have js:IntKind.i64.wrap (2*(s:Int))=2*(s:Int):=bX (by omega) (by omega);have js2:IntKind.i64.wrap ((s:Int)*2)=(s:Int)*2:=bX (by omega) (by omega);clear cH;go_wp2_with fail
     go_loopw [7,8] (fun a b wr=>∃ a' b':Nat,a=.int .i64 (a':Int)∧b=.int .i64 (b':Int)∧b'=a'+2*s∧a'≤n∧Below w.heap.size w wr) (fun a _ _=>n - (intOf a).toNat)
     case atStart=>exact⟨0,2*s,rfl,by go_num,by omega,Nat.zero_le _,cD.out⟩
     case round=>
      clear cD;obtain⟨a,b,rfl,rfl,pu,Jv,cH⟩:=hrel;have HB:=hid cH;obtain⟨m,hm⟩:∃ x,a+s=x:=⟨_,rfl⟩;have em:(a:Int)+(s:Int)=(m:Int):=by omega
      have jm:IntKind.i64.wrap (m:Int)=(m:Int):=bX (by omega) (by omega);obtain⟨g,hA⟩:=HR.out (by omega)
      by_cases aJ:b≤n
      ·have ta:decide ((b:Int)≤(n:Int))=true:=decide_eq_true (by omega);have tb:decide (b≤n)=true:=decide_eq_true (by omega);obtain⟨c,hc⟩:∃ x,b+2*s=x:=⟨_,rfl⟩;have ec:(b:Int)+2*(s:Int)=(c:Int):=by omega
       have jc:IntKind.i64.wrap (c:Int)=(c:Int):=bX (by omega) (by omega);have HC:=hid (HS.out g a m b wr hA cH (by omega) (by omega) aJ);subst hA;have Me:=hid (And.intro pu (And.intro hc hm));clear cH pu hc hm;go_wp2_with fail;refine HC.out.mono ?_;rintro e w1 ⟨rfl,aq⟩;have bT:=hid (HB.out.trans (aq.mono HB.out.size));clear aq HC;go_wp2_with fail;go_roundw
       case rel=>exact⟨b,c,rfl,rfl,Me.out.2.1.symm,aJ,bT.out⟩
       case measure=>have:=Me.out;simp[intOf];omega
      ·have ta:decide ((b:Int)≤(n:Int))=false:=decide_eq_false (by omega);have tb:decide (b≤n)=false:=decide_eq_false (by omega)
       by_cases hmn:m<n
       ·have ra:decide ((m:Int)<(n:Int))=true:=decide_eq_true (by omega);have rb:decide (m<n)=true:=decide_eq_true (by omega);have HC:=hid (HS.out g a m n wr hA cH (by omega) hmn (Nat.le_refl _));subst hA;clear cH pu hm;go_wp2_with fail;refine HC.out.mono ?_;rintro e w1 ⟨rfl,aq⟩;have bT:=hid (HB.out.trans (aq.mono HB.out.size));clear aq HC;go_wp2_with fail;exact⟨⟨s*2,by go_num,by omega,by omega,bT.out⟩,by simp[intOf];omega⟩
       ·have ra:decide ((m:Int)<(n:Int))=false:=decide_eq_false (by omega);have rb:decide (m<n)=false:=decide_eq_false (by omega);clear cH pu hm;go_wp2_with fail;exact⟨⟨s*2,by go_num,by omega,by omega,HB.out⟩,by simp[intOf];omega⟩
    ·have ta:decide ((s:Int)<(n:Int))=false:=decide_eq_false (by omega);have tb:decide (s<n)=false:=decide_eq_false (by omega);clear cH;go_wp2_with fail
     (try simp only[Exit.inBlock,Exit.then])
     refine bodyPost_end (results_none rfl _ _ _) rfl ?_;exact⟨rfl,cD.out⟩
theorem EZ (A:Option Addr) (cap:Nat) (es:List CV) (N:Nat) (w:World) (h:UpC N w A cap es):
  Calls Tryz.prog 54 #[.slice A es.length cap,.func (.func 55) #[] #[]] w fun e w'=>e=.returned (.tuple #[])∧Below w.heap.size w w':=by
 have HS:=hid (xY A cap es.length es N w h rfl);clear h;go_enter Tryz.func54,Tryz.ntmps54;go_wp2_with fail;refine HS.out.mono ?_;rintro e w1 ⟨rfl,hb⟩;go_wp2_with fail;refine bodyPost_end (results_none rfl _ _ _) rfl ?_;exact⟨rfl,hb⟩
set_option maxHeartbeats 4000000
set_option maxRecDepth 100000
theorem Bq (tmps:Array Value) (w:World) {b:Nat} {e:CV} (ha:tmps[2]?.getD undef=.pointer (some ⟨b,0,none⟩)) (h:RowB w b #[.int .i64 e.x.p,.int .i64 e.x.o,.int .i64 e.x.q,.slice e.A e.x.r.length e.c,.int .i64 e.x.c,.int .i64 e.x.b,.int .i64 e.x.e] 62):
  (results Tryz.f90 tmps).run Tryz.prog w=.ok (.agg #[.int .i64 e.x.p,.int .i64 e.x.o,.int .i64 e.x.q,.slice e.A e.x.r.length e.c,.int .i64 e.x.c,.int .i64 e.x.b,.int .i64 e.x.e]) w:=by
 have h0:=(h.cell 0).trans rfl;have h1:=(h.cell 1).trans rfl;have h2:=(h.cell 2).trans rfl;have h3:=(h.cell 3).trans rfl;have h4:=(h.cell 4).trans rfl;have h5:=(h.cell 5).trans rfl;have h6:=(h.cell 6).trans rfl;simp[results,ha,h0,h1,h2,h3,h4,h5,h6,go_sem]
theorem Il (e:CV) (w:World) (hn:e.x.r.length≤1000000) (hl:Ws w w.heap.size e.A e.x.r):
  Calls Tryz.prog 90 #[.agg #[.int .i64 e.x.p,.int .i64 e.x.o,.int .i64 e.x.q,.slice e.A e.x.r.length e.c,.int .i64 e.x.c,.int .i64 e.x.b,.int .i64 e.x.e]] w fun z w'=>∃ A' c',z=.returned (.agg #[.int .i64 e.x.p,.int .i64 e.x.o,.int .i64 e.x.q,.slice A' e.x.r.length c',.int .i64 e.x.c,.int .i64 e.x.b,.int .i64 e.x.e])∧Ws w' w'.heap.size A' e.x.r∧(∀ b off,A'=some ⟨b,off,none⟩→w.heap.size≤b∧b<w'.heap.size)∧Below w.heap.size w w':=by
 have jU:=bK w (.cells #[.int .i64 e.x.p,.int .i64 e.x.o,.int .i64 e.x.q,.slice e.A e.x.r.length e.c,.int .i64 e.x.c,.int .i64 e.x.b,.int .i64 e.x.e] 62);have aq:=jU.alloc jU.size (.cells #[.int .i64 0,.int .i64 0,.int .i64 0,.slice none 0 0,.int .i64 0,.int .i64 0,.int .i64 0] 62);have kx:=RowB.new w #[.int .i64 e.x.p,.int .i64 e.x.o,.int .i64 e.x.q,.slice e.A e.x.r.length e.c,.int .i64 e.x.c,.int .i64 e.x.b,.int .i64 e.x.e] 62;have lM:=kx.kept ((Below.refl _ (w.alloc (.cells #[.int .i64 e.x.p,.int .i64 e.x.o,.int .i64 e.x.q,.slice e.A e.x.r.length e.c,.int .i64 e.x.c,.int .i64 e.x.b,.int .i64 e.x.e] 62))).alloc (Nat.le_refl _) (.cells #[.int .i64 0,.int .i64 0,.int .i64 0,.slice none 0 0,.int .i64 0,.int .i64 0,.int .i64 0] 62));have d8:=RowB.new (w.alloc (.cells #[.int .i64 e.x.p,.int .i64 e.x.o,.int .i64 e.x.q,.slice e.A e.x.r.length e.c,.int .i64 e.x.c,.int .i64 e.x.b,.int .i64 e.x.e] 62)) #[.int .i64 0,.int .i64 0,.int .i64 0,.slice none 0 0,.int .i64 0,.int .i64 0,.int .i64 0] 62;rw[World.size_alloc] at d8;obtain⟨n,Aa⟩:∃ n,w.heap.size=n:=⟨_,rfl⟩;obtain⟨W1,kG⟩:∃ W1,(w.alloc (.cells #[.int .i64 e.x.p,.int .i64 e.x.o,.int .i64 e.x.q,.slice e.A e.x.r.length e.c,.int .i64 e.x.c,.int .i64 e.x.b,.int .i64 e.x.e] 62)).alloc (.cells #[.int .i64 0,.int .i64 0,.int .i64 0,.slice none 0 0,.int .i64 0,.int .i64 0,.int .i64 0] 62)=W1:=⟨_,rfl⟩;have iw:=jG e.A e.c e.x.r W1 hn (hl.below (by rw[← kG];exact aq) (by have:=aq.size;rw[kG] at this;exact this));rw[Aa] at lM d8 aq ⊢;have tN:=hid iw;have HX:=hid lM;have HZ:=hid d8;have HB:=hid aq;have d3:=(lM.cell 3).trans rfl;rw[kG] at d3 HX HZ HB;clear iw hl jU d8 kx lM aq hn;go_enter Tryz.func90,Tryz.ntmps90;go_wp2_with fail;refine tN.out.mono ?_;rintro z w2 ⟨v,rfl,hv,aO⟩;obtain⟨A',c',rfl,_,dV⟩:=hv.ws;have aJ:=World.ownsRow.lt hv.1;have pd:=HX.out.kept aO;have lN:=HZ.out.kept aO;have TK:=HX.out.lt;have AB:=HZ.out.lt;have dO:=HB.out.trans (aO.mono (by omega));have CK:=pd.frozen 3;have g0:=(pd.cell 0).trans rfl;have g1:=(pd.cell 1).trans rfl;have g2:=(pd.cell 2).trans rfl;have g3:=(pd.cell 3).trans rfl;have g4:=(pd.cell 4).trans rfl;have g5:=(pd.cell 5).trans rfl;have g6:=(pd.cell 6).trans rfl;have df0:=lN.frozen 0;have df1:=lN.frozen 1;have df2:=lN.frozen 2;have df3:=lN.frozen 3;have df4:=lN.frozen 4;have df5:=lN.frozen 5;have df6:=lN.frozen 6;have z0:=(lN.cell 0).trans rfl;have z1:=(lN.cell 1).trans rfl;have z2:=(lN.cell 2).trans rfl;have z3:=(lN.cell 3).trans rfl;have z4:=(lN.cell 4).trans rfl;have z5:=(lN.cell 5).trans rfl;have z6:=(lN.cell 6).trans rfl;have dN:=(lN.other n 3 (.slice A' e.x.r.length c') (by omega)) |>.set 0 (.int .i64 e.x.p) |>.set 1 (.int .i64 e.x.o) |>.set 2 (.int .i64 e.x.q) |>.set 3 (.slice A' e.x.r.length c') |>.set 4 (.int .i64 e.x.c) |>.set 5 (.int .i64 e.x.b) |>.set 6 (.int .i64 e.x.e)
 have ht:Tch (fun b=>b=n∨b=n+1) w2 ((((((((w2.setCell ⟨n,3,none⟩ (.slice A' e.x.r.length c')).setCell ⟨n+1,0,none⟩ (.int .i64 e.x.p)).setCell ⟨n+1,1,none⟩ (.int .i64 e.x.o)).setCell ⟨n+1,2,none⟩ (.int .i64 e.x.q)).setCell ⟨n+1,3,none⟩ (.slice A' e.x.r.length c')).setCell ⟨n+1,4,none⟩ (.int .i64 e.x.c)).setCell ⟨n+1,5,none⟩ (.int .i64 e.x.b)).setCell ⟨n+1,6,none⟩ (.int .i64 e.x.e)):=(Tch.refl _ w2).set (b:=n) (.inl rfl) 3 _ |>.set (b:=n+1) (.inr rfl) 0 _ |>.set (b:=n+1) (.inr rfl) 1 _ |>.set (b:=n+1) (.inr rfl) 2 _ |>.set (b:=n+1) (.inr rfl) 3 _ |>.set (b:=n+1) (.inr rfl) 4 _ |>.set (b:=n+1) (.inr rfl) 5 _ |>.set (b:=n+1) (.inr rfl) 6 _
 have ah:∀ b off,A'=some ⟨b,off,none⟩→W1.heap.size≤b∧b<w2.heap.size:=fun b off q=>aJ b (by rw[q];rfl)
 have HF:=hid (And.intro dN (And.intro (dV.tch ht (fun b off q r=>by have:=ah b off q;omega) ht.size) (And.intro (fun b off q=>(by have h1:=ah b off q;have h2:=ht.size;exact⟨by omega,Nat.lt_of_lt_of_le h1.2 h2⟩:n≤b∧b<(((((((((w2.setCell ⟨n,3,none⟩ (.slice A' e.x.r.length c')).setCell ⟨n+1,0,none⟩ (.int .i64 e.x.p)).setCell ⟨n+1,1,none⟩ (.int .i64 e.x.o)).setCell ⟨n+1,2,none⟩ (.int .i64 e.x.q)).setCell ⟨n+1,3,none⟩ (.slice A' e.x.r.length c')).setCell ⟨n+1,4,none⟩ (.int .i64 e.x.c)).setCell ⟨n+1,5,none⟩ (.int .i64 e.x.b)).setCell ⟨n+1,6,none⟩ (.int .i64 e.x.e))).heap.size)) (dO.trans (ht.below (by have:=dO.size;omega) (fun i _ q=>by omega))))));clear hv aO dV aJ pd lN TK AB dO dN ht ah;go_wp2_with fail;refine bodyPost_ret (Bq (e:=⟨e.x,A',c'⟩) _ _ rfl HF.out.1) rfl ?_;exact⟨A',c',rfl,HF.out.2.1,HF.out.2.2.1,HF.out.2.2.2⟩
theorem Hk (e:CV) (w:World):Calls Tryz.prog 53 #[.agg #[.int .i64 e.x.p,.int .i64 e.x.o,.int .i64 e.x.q,.slice e.A e.x.r.length e.c,.int .i64 e.x.c,.int .i64 e.x.b,.int .i64 e.x.e]] w fun z w'=>z=.returned (.bool true)∧Below w.heap.size w w':=by
 go_enter Tryz.func53,Tryz.ntmps53;go_wp2_with fail;go_ret;exact⟨rfl,(Below.refl _ w).alloc (Nat.le_refl _) _⟩
structure PickS (N:Nat) (w:World) (v:Value) (es:List CV):Prop where
 own:Own cvE 62 N w v es
 recs:∀ e ∈ es,Ws w w.heap.size e.A e.x.r∧∀ b off,e.A=some ⟨b,off,none⟩→v.ownBlock≠some b
section
variable {N:Nat} {w w9:World} {v v':Value} {es:List CV} {e:CV}
theorem PickS.below (h:PickS N w v es) (hb:Below w.heap.size w w9):PickS N w9 v es:=
 ⟨bl h.own (Tch.of_below (fun _=>False) hb) (fun _ _ q=>q),fun e he=>⟨(h.recs e he).1.below hb hb.size,(h.recs e he).2⟩⟩
theorem PickS.snoc (h:PickS N w v es) (bU:Own cvE 62 N w9 v' (es++[e])) (ht:Tch (fun b=>v.ownBlock=some b) w w9) (sG:v'.ownBlock=v.ownBlock∨v'.ownBlock=some w.heap.size) (hr:Ws w w.heap.size e.A e.x.r∧∀ b off,e.A=some ⟨b,off,none⟩→v.ownBlock≠some b∧b<w.heap.size) (hl:∀ x ∈ es,∀ b off,x.A=some ⟨b,off,none⟩→b<w.heap.size):PickS N w9 v' (es++[e]):=by
 have eZ:∀ b,v.ownBlock≠some b→b<w.heap.size→v'.ownBlock≠some b:=fun b h1 h2 q=>by
  rcases sG with r | r
  ·exact h1 (r.symm.trans q)
  ·have:=Option.some.inj (r.symm.trans q);omega
 refine⟨bU,fun x hx=>?_⟩
 rcases List.mem_append.1 hx with hx | hx
 ·have q:=h.recs x hx;exact⟨q.1.tch ht (fun b off r t=>q.2 b off r t) ht.size,fun b off r=>eZ b (q.2 b off r) (hl x hx b off r)⟩
 ·rw[List.mem_singleton.1 hx];exact⟨hr.1.tch ht (fun b off r t=>(hr.2 b off r).1 t) ht.size,fun b off r=>eZ b (hr.2 b off r).1 (hr.2 b off r).2⟩
end
def Ks (es0:List CV) (w:World) (z:Ending) (w':World):Prop:=∃ v es,z=.returned v∧PickS w.heap.size w' v es∧es.map (·.x)=es0.map (·.x)∧Below w.heap.size w w'
theorem Ee (A:Option Addr) (c:Nat) (es0:List CV) (w:World) (hn:es0.length≤100000) (hr:∀ e ∈ es0,e.x.r.length≤1000000) (aj:SlOf cvE w w.heap.size A es0) (hw:∀ e ∈ es0,Ws w w.heap.size e.A e.x.r):
  Calls Tryz.prog 52 #[.slice A es0.length c,.func (.func 53) #[] #[]] w (Ks es0 w):=by
 have HR:=hid (And.intro hr hw);have ct:=hid aj;clear hr hw aj;go_enter Tryz.func52,Tryz.ntmps52;go_wp2_with fail
 go_loopw [5,10] (fun v j wr=>∃ (k:Nat) (es:List CV),k≤es0.length∧j=.int .i64 (k:Int)∧es.length=k∧PickS w.heap.size wr v es∧(∀ e ∈ es,∀ b off,e.A=some ⟨b,off,none⟩→b<wr.heap.size)∧es.map (·.x)=(es0.take k).map (·.x)∧Below w.heap.size w wr) (fun _ j _=>es0.length - (intOf j).toNat)
 case atStart=>exact⟨0,[],Nat.zero_le _,rfl,rfl,⟨⟨rfl,.inl ⟨rfl,rfl⟩⟩,fun e he=>(by cases he)⟩,fun e he=>(by cases he),rfl,Below.refl _ _⟩
 case round=>
  obtain⟨k,es,hk,rfl,Ht,hp,tK,hm,hb⟩:=hrel;obtain⟨Av,Mv,Cv,rfl⟩:=cz hp.own
  by_cases aJ:k<es0.length
  ·have hd:decide ((k:Int)<(es0.length:Int))=true:=decide_eq_true (by omega);have k0:(0:Int)≤(k:Int):=by omega
   have k1:(k:Int)<(es0.length:Int):=by omega
   have jk:IntKind.i64.wrap ((k:Int)+1)=(k:Int)+1:=bX (by omega) (by omega);obtain⟨e,he⟩:∃ e,es0[k]?=some e:=⟨_,List.getElem?_eq_getElem aJ⟩;have N3:=List.mem_of_getElem? he;obtain⟨b',off,hA,rN,hc⟩:=(ct.out.below hb (Nat.le_refl _)) k e he;have c0:wr.cell? ⟨b',off+k*7,none⟩=some (.int .i64 e.x.p):=by simpa [cvE] using hc 0 _ rfl
   have c1:wr.cell? ⟨b',off+k*7+1,none⟩=some (.int .i64 e.x.o):=by simpa [cvE,Nat.add_assoc] using hc 1 _ rfl
   have c2:wr.cell? ⟨b',off+k*7+2,none⟩=some (.int .i64 e.x.q):=by simpa [cvE,Nat.add_assoc] using hc 2 _ rfl
   have c3:wr.cell? ⟨b',off+k*7+3,none⟩=some (.slice e.A e.x.r.length e.c):=by simpa [cvE,Nat.add_assoc] using hc 3 _ rfl
   have c4:wr.cell? ⟨b',off+k*7+4,none⟩=some (.int .i64 e.x.c):=by simpa [cvE,Nat.add_assoc] using hc 4 _ rfl
   have c5:wr.cell? ⟨b',off+k*7+5,none⟩=some (.int .i64 e.x.b):=by simpa [cvE,Nat.add_assoc] using hc 5 _ rfl
   have c6:wr.cell? ⟨b',off+k*7+6,none⟩=some (.int .i64 e.x.e):=by simpa [cvE,Nat.add_assoc] using hc 6 _ rfl
   have ar:=RowB.new wr #[.int .i64 e.x.p,.int .i64 e.x.o,.int .i64 e.x.q,.slice e.A e.x.r.length e.c,.int .i64 e.x.c,.int .i64 e.x.b,.int .i64 e.x.e] 62;have fl:=bK wr (.cells #[.int .i64 e.x.p,.int .i64 e.x.o,.int .i64 e.x.q,.slice e.A e.x.r.length e.c,.int .i64 e.x.c,.int .i64 e.x.b,.int .i64 e.x.e] 62);obtain⟨W1,kG⟩:∃ W1,wr.alloc (.cells #[.int .i64 e.x.p,.int .i64 e.x.o,.int .i64 e.x.q,.slice e.A e.x.r.length e.c,.int .i64 e.x.c,.int .i64 e.x.b,.int .i64 e.x.e] 62)=W1:=⟨_,rfl⟩;obtain⟨n,Aa⟩:∃ n,wr.heap.size=n:=⟨_,rfl⟩;rw[kG,Aa] at ar fl;have dV:=((HR.out.2 e N3).below hb hb.size);have eE:=hb.size;have JP:=hid (Hk e W1);have Kd:=hid (hp.below (by rw[Aa];exact fl));have GS:=hid (dV.below (by rw[Aa];exact fl) fl.size);have kD:=hid ar;have bT:=hid (hb.trans (fl.mono (by omega)));have Mg:=hid (fun x hx b off q=>Nat.lt_of_lt_of_le (tK x hx b off q) fl.size:∀ x ∈ es,∀ b off,x.A=some ⟨b,off,none⟩→b<W1.heap.size);have HE:=hid (And.intro he (And.intro Ht (And.intro hm (And.intro aJ (HR.out.1 e N3)))));subst hA;have NU:=ar;have g0:=(ar.cell 0).trans rfl;have g1:=(ar.cell 1).trans rfl;have g2:=(ar.cell 2).trans rfl;have g3:=(ar.cell 3).trans rfl;have g4:=(ar.cell 4).trans rfl;have g5:=(ar.cell 5).trans rfl;have g6:=(ar.cell 6).trans rfl;clear hp tK hm hb hc N3 he rN Ht fl dV ar NU eE;go_wp2_with fail;refine JP.out.mono ?_;rintro z w2 ⟨rfl,aO⟩;clear c0 c1 c2 c3 c4 c5 c6 g0 g1 g2 g3 g4 g5 g6;have zF:=aO.mono (Nat.le_of_lt kD.out.lt);have pd:=kD.out.kept aO;have g0:=(pd.cell 0).trans rfl;have g1:=(pd.cell 1).trans rfl;have g2:=(pd.cell 2).trans rfl;have g3:=(pd.cell 3).trans rfl;have g4:=(pd.cell 4).trans rfl;have g5:=(pd.cell 5).trans rfl;have g6:=(pd.cell 6).trans rfl;have Ke:=hid (Kd.out.below aO);have cD:=hid (bT.out.trans (aO.mono bT.out.size));have GK:=hid (Il e w2 HE.out.2.2.2.2 (GS.out.below aO aO.size));have JR:=hid (fun x hx b off q=>Nat.lt_of_lt_of_le (Mg.out x hx b off q) aO.size:∀ x ∈ es,∀ b off,x.A=some ⟨b,off,none⟩→b<w2.heap.size);clear aO pd zF JP Kd bT GS Mg kD;go_wp2_with fail;refine GK.out.mono ?_;rintro z w3 ⟨A',c',rfl,RH,Rp,gR⟩;have Ng:=hid (Ke.out.below gR);have jE:=hid (cD.out.trans (gR.mono cD.out.size));have GR:=hid (fun b q=>(World.ownsRow.lt Ke.out.own b q).2:∀ b,(Value.slice Av Mv Cv).ownBlock=some b→b<w2.heap.size);have Jm:=hid (And.intro RH Rp);have JS:=hid (fun x hx b off q=>Nat.lt_of_lt_of_le (JR.out x hx b off q) gR.size:∀ x ∈ es,∀ b off,x.A=some ⟨b,off,none⟩→b<w3.heap.size);clear g0 g1 g2 g3 g4 g5 g6 RH Rp gR Ke cD GK JR;have Nh:=hid (Ng.out.below ((Below.refl _ w3).alloc (Nat.le_refl _) (.cells #[.int .i64 e.x.p,.int .i64 e.x.o,.int .i64 e.x.q,.slice A' e.x.r.length c',.int .i64 e.x.c,.int .i64 e.x.b,.int .i64 e.x.e] 62)));have Mx:=hid (And.intro (Jm.out.1.below ((Below.refl _ w3).alloc (Nat.le_refl _) (.cells #[.int .i64 e.x.p,.int .i64 e.x.o,.int .i64 e.x.q,.slice A' e.x.r.length c',.int .i64 e.x.c,.int .i64 e.x.b,.int .i64 e.x.e] 62)) (Nat.le_of_lt (by rw[World.size_alloc];omega:w3.heap.size<(w3.alloc (.cells #[.int .i64 e.x.p,.int .i64 e.x.o,.int .i64 e.x.q,.slice A' e.x.r.length c',.int .i64 e.x.c,.int .i64 e.x.b,.int .i64 e.x.e] 62)).heap.size))) Jm.out.2);obtain⟨ht,i0,z,fy,hz,fI,yj,AB,bY⟩:=Dj;have HN:=hid (And.intro jE.out.size hn);clear hn;go_wp2_with (at_builtin;refine wpList_append_own_at _ rfl _ _ 34 rfl w.heap.size 62 i0 z 7 72 ht fy hz fI yj AB bY _ es.length _ rfl Nh.out.own ⟨w3.heap.size,0,none⟩ 1 1 (CV.cells ⟨e.x,A',c'⟩) rfl rfl (cE w3 (CV.cells ⟨e.x,A',c'⟩) _ _ rfl) (fun u hu=>by simp only[CV.cells,List.mem_cons,List.not_mem_nil,or_false] at hu;rcases hu with rfl | rfl | rfl | rfl | rfl | rfl | rfl <;> rfl) (by have h1:=HE.out;have h2:=HN.out;unfold maxLen;omega) (by have h1:=HE.out;have h2:=HN.out;omega) (by have h1:=HN.out.1;rw[World.size_alloc];omega) ?_;intro v9 w9 ck Ib _ gU);go_roundw
   case rel=>
    obtain⟨he,Ht,hm,aJ,_⟩:=HE.out;have iH:=l9 Ib (T:=fun b=>(Value.slice Av Mv Cv).ownBlock=some b) (fun _ h=>h);have Ei:=iH.size;rw[World.size_alloc] at Ei;refine⟨k+1,es++[⟨e.x,A',c'⟩],by omega,by go_num,by rw[List.length_append,Ht];rfl,Nh.out.snoc (Own.app ck rfl) iH gU ⟨Mx.out.1,fun b off q=>⟨fun r=>?_,?_⟩⟩ (fun x hx b off q=>?_),fun x hx b off q=>?_,?_,(jE.out.alloc jE.out.size _).trans (iH.below (by have:=jE.out.size;rw[World.size_alloc];omega) (fun b _ r=>(World.ownsRow.lt Nh.out.own b r).1))⟩
    ·have h1:=(Mx.out.2 b off q).1;have h2:=GR.out b r;omega
    ·have h1:=(Mx.out.2 b off q).2;rw[World.size_alloc];omega
    ·have h1:=JS.out x hx b off q;rw[World.size_alloc];omega
    ·rcases List.mem_append.1 hx with hx | hx
     ·have h1:=JS.out x hx b off q;omega
     ·rw[List.mem_singleton.1 hx] at q;have h1:=(Mx.out.2 b off q).2;omega
    ·rw[List.map_append,hm,List.take_add_one,he,List.map_append];rfl
   case measure=>simp[intOf];omega
  ·have hd:decide ((k:Int)<(es0.length:Int))=false:=decide_eq_false (by omega);have qU:decide (k<es0.length)=false:=decide_eq_false (by omega);have hf:es.map (·.x)=es0.map (·.x):=by rw[hm,List.take_of_length_le (by omega)]
   have HF:=hid (And.intro hp (And.intro hf hb));clear hp tK hm hb aJ Ht hf;go_wp2_with fail;go_ret;exact⟨_,es,rfl,HF.out.1,HF.out.2.1,HF.out.2.2⟩
theorem UpC.of {N:Nat} {w:World} {v:Value} {es:List CV} {l:List Cl} (h:Own cvE 62 N w v es) (hl:es.map (·.x)=l) (hu:l.Pairwise fun x y=>x.b<y.b) (hn:es.length≤100000):∃ A c,v=.slice A es.length c∧UpC N w A c es:=by
 obtain⟨A,c,rfl,_⟩:=h.sl;refine⟨A,c,rfl,h,fun i j x y Eb hx hy=>?_,hn⟩;subst hl;have:=(List.pairwise_map.1 hu);rw[List.pairwise_iff_getElem] at this;obtain⟨hi,rfl⟩:=List.getElem?_eq_some_iff.1 hx;obtain⟨hj,rfl⟩:=List.getElem?_eq_some_iff.1 hy;exact this i j hi hj Eb
def Ku (l:List Cl) (w:World) (z:Ending) (w':World):Prop:=∃ A c es,z=.returned (.slice A es.length c)∧es.length≤c∧es.map (·.x)=l∧SlOf cvE w' w'.heap.size A es∧(∀ e ∈ es,Ws w' w'.heap.size e.A e.x.r)∧Below w.heap.size w w'
theorem re (A:Option Addr) (c:Nat) (es0:List CV) (w:World) (hn:es0.length≤100000) (hr:∀ e ∈ es0,e.x.r.length≤1000000) (aj:SlOf cvE w w.heap.size A es0) (hw:∀ e ∈ es0,Ws w w.heap.size e.A e.x.r) (hu:(es0.map (·.x)).Pairwise fun x y=>x.b<y.b):
  Calls Tryz.prog 31 #[.slice A es0.length c] w (Ku (es0.map (·.x)) w):=by
 have HP:=hid (Ee A c es0 w hn hr aj hw);have Sl:=hid hu;have HN:=hid hn;clear hn hr aj hw hu;go_enter Tryz.func31,Tryz.ntmps31;go_wp2_with fail;refine HP.out.mono ?_;rintro z w1 ⟨v,es,rfl,hp,hm,hb⟩;obtain⟨A1,c1,rfl,o9⟩:=UpC.of hp.own hm Sl.out (by have h1:=congrArg List.length hm;rw[List.length_map,List.length_map] at h1;have:=HN.out;omega);have HS:=hid (EZ A1 c1 es _ w1 o9);have HX:=hid (And.intro hp (And.intro hm hb));clear hp hm hb o9 HP;go_wp2_with fail;refine HS.out.mono ?_;rintro z w2 ⟨rfl,aO⟩;obtain⟨hp,hm,hb⟩:=HX.out;have ge:=hp.below aO;obtain⟨_,_,e1,⟨ic,_⟩,_,aj⟩:=ge.own.sl;cases e1;have dn:=hid ic;have HF:=hid (And.intro hm (And.intro aj (And.intro (fun e he=>(ge.recs e he).1) (hb.trans (aO.mono hb.size)))));clear hp hm hb ge aj aO ic;go_wp2_with fail;go_ret;exact⟨A1,c1,es,rfl,dn.out,HF.out.1,HF.out.2.1,HF.out.2.2.1,HF.out.2.2.2⟩
def FQ (o:Ob) (gs:List PG) (m ks:List Int) (w:World) (z:Ending) (w':World):Prop:=
 ∃ A c es,z=.returned (.tuple #[.slice A es.length c,.int .i64 0])∧es.length≤c∧Lm.GoodTo o (gC (cV gs) m) ks ks.length∧es.map (·.x)=(Lm.run (eg o) Kc.step (gC (cV gs) m) ks).calls∧SlOf cvE w' w'.heap.size A es∧(∀ e ∈ es,Ws w' w'.heap.size e.A e.x.r)∧Below w.heap.size w w'
theorem Cm (o:Ob) (ho:o.Ok) (A B:Option Addr) (cap kc:Nat) (gs:List PG) (l ks:List Int) (w:World) (hin:ProcsIn w w.heap.size A gs) (bf:gs.length≤1000) (iy:∀ g ∈ gs,g.ts.length≤1000) (gB:∀ g ∈ gs,∀ t ∈ g.ts,t.r.length≤1000) (hf:dE o (cV gs)=0)
  (hl:o.ni=l.length) (hI:Ws w w.heap.size o.I l) (hK:SlOf (bn .i64) w w.heap.size B ks) (ym:ks.length≤1000) (hT:Tab64 w) (hG:(0:Nat)<w.heap.size):
  Calls Tryz.prog 10 #[.agg (af o),.slice A gs.length cap,.slice B ks.length kc] w (FQ o gs (aW o l) ks w):=by
 have hn:=RowB.new w (af o) 26;have hB:=bK w (.cells (af o) 26);unfold af at hn hB;have HB:=hid hB;have hr:=Cz o ho A B cap kc gs l ks _ (hin.below hB hB.size) bf iy gB hf hl (hI.below hB hB.size) (hK.below hB hB.size) ym (fun j hj=>(hB.cell (p:=⟨_,j,none⟩) hG).trans (hT j hj)) (Nat.lt_of_lt_of_le hG hB.size);unfold af at hr;have HR:=hid hr;have Mo:=hid ym;clear hn hB hr hf hin bf iy gB ho hl hI hK ym hT hG;unfold af;go_enter Tryz.func10,Tryz.ntmps10;go_wp2_with fail;refine HR.out.mono ?_;rintro e w1 ⟨lb,pb,mb,ml,pc,cv,tg,gs',es,rfl,F6,hL⟩;obtain⟨A1,c1,rfl,_,_,aj⟩:=hL.calls.sl;have c10:=hL.row.at 10 (.slice A1 es.length c1);have hg:=(F6 ks.length (Nat.le_refl _)).1;rw[List.take_length] at hg;have ol:=hL.cx
 have F9:es.length≤1000:=by
  have h1:=congrArg List.length ol;rw[List.length_map] at h1;have h2:=hg.cn;have h3:=Mo.out;omega
 have uv:=re A1 c1 es w1 (by omega) (fun e he=>Nat.le_trans (hg.rl e.x (by rw[← ol];exact List.mem_map_of_mem he)) (by omega)) aj (fun e he=>(hL.recs e he).1) (by rw[ol];exact hg.up.up);rw[ol] at uv;have HS:=hid uv;have HF:=hid (And.intro F6 (HB.out.trans (hL.bel.mono HB.out.size)));clear F6 hL aj hg ol F9 uv;go_wp2_with fail;refine HS.out.mono ?_;rintro z w2 ⟨A2,c2,es2,rfl,vO,hm,aj,fZ,aO⟩;have dn:=hid vO;have HX:=hid (And.intro hm (And.intro aj (And.intro fZ (HF.out.2.trans (aO.mono HF.out.2.size)))));clear hm aj fZ aO vO;go_wp2_with fail;go_ret2;exact⟨A2,c2,es2,rfl,dn.out,HF.out.1,HX.out.1,HX.out.2.1,HX.out.2.2.1,HX.out.2.2.2⟩
end Go.Proofs.YtabfcjohdgjkoaaGreatDoor
