/- weave.Run. -/
import Derived.Test.YtolmpehgeinlkaaGreatDoorZcWt
import Derived.Test.YtolmpehgeinlkaaGreatDoorZcWf
import Derived.Test.YtolmpehgeinlkaaGreatDoorZcOgP
namespace Go.Proofs.YtolmpehgeinlkaaGreatDoor
open Go.RowKit
open Go.Lib (hid)
attribute [local go_sem] Oper.semAt_some
set_option maxHeartbeats 4000000
set_option maxRecDepth 100000
theorem stable_up (A:Option Addr) (cap n:Nat) (es:List CV) (N:Nat) (w:World) (h:UpC N w A cap es) (hn:es.length=n):
  Calls Tryz.prog 73 #[.slice A n cap,.int .i64 (n:Int),.func (.func 37) #[] #[]] w fun e w'=>e=.returned (.tuple #[])∧Below w.heap.size w w':=by
 have hle:=h.le;have HI:=hid fun (a b:Nat) (W:World) (hb:Below w.heap.size w W) (h1:b≤es.length) (h2:a≤100000)=>ins_up A cap a b es N W (h.below hb) h1 h2
 have HS:=hid fun (g a m b:Nat) (W:World) (hA:A=some ⟨g,0,none⟩) (hb:Below w.heap.size w W) (h1:a<m) (h2:m<b) (h3:b≤es.length)=>sym_up N es (b - a) g cap a m b W (by rw[← hA];exact h.below hb) (Nat.le_refl _) h1 h2 h3
 have HR:=hid h.row;rw[hn] at HI HS HR hle;clear h;go_enter Tryz.func73,Tryz.ntmps73;go_wp2_with fail
 go_loopw [7,8] (fun a b wr=>∃ a' b':Nat,a=.int .i64 (a':Int)∧b=.int .i64 (b':Int)∧b'=a'+20∧a'≤n∧Below w.heap.size w wr) (fun a _ _=>n - (intOf a).toNat)
 case atStart=>exact⟨0,20,rfl,rfl,rfl,Nat.zero_le _,Below.refl _ _⟩
 case round=>
  obtain⟨a,b,rfl,rfl,hab,han,hbb⟩:=hrel;have HB:=hid hbb
  by_cases hlt:b≤n
  ·have ta:decide ((b:Int)≤(n:Int))=true:=decide_eq_true (by omega);have tb:decide (b≤n)=true:=decide_eq_true (by omega);have jb:IntKind.i64.wrap ((b:Int)+20)=(b:Int)+20:=wrapN (by omega) (by omega);have HC:=hid (HI.out a b wr hbb hlt (by omega));have HAB:=hid hab;clear hbb hab;go_wp2_with fail;refine HC.out.mono ?_;rintro e w1 ⟨rfl,hb1⟩;have HB1:=hid (HB.out.trans (hb1.mono HB.out.size));clear hb1 HC;go_wp2_with fail;go_roundw
   case rel=>exact⟨b,b+20,rfl,by go_num,rfl,hlt,HB1.out⟩
   case measure=>have:=HAB.out;simp[intOf];omega
  ·have ta:decide ((b:Int)≤(n:Int))=false:=decide_eq_false (by omega);have tb:decide (b≤n)=false:=decide_eq_false (by omega);have HC:=hid (HI.out a n wr hbb (Nat.le_refl _) (by omega));clear hbb hab;go_wp2_with fail;refine HC.out.mono ?_;rintro e w1 ⟨rfl,hb1⟩;have HB1:=hid (HB.out.trans (hb1.mono HB.out.size));clear hb1 HC ta tb han hlt;go_wp2_with fail
   go_loopw [6] (fun z wr=>∃ s:Nat,z=.int .i64 (s:Int)∧20≤s∧s≤200000∧Below w.heap.size w wr) (fun z _=>n - (intOf z).toNat)
   case atStart=>exact⟨20,rfl,Nat.le_refl _,by omega,HB1.out⟩
   case round=>
    clear HB1 HB;obtain⟨s,rfl,hs0,hs1,hbb⟩:=hrel;have HB2:=hid hbb
    by_cases hsn:s<n
    ·have ta:decide ((s:Int)<(n:Int))=true:=decide_eq_true (by omega);have tb:decide (s<n)=true:=decide_eq_true (by omega);have js:IntKind.i64.wrap (2*(s:Int))=2*(s:Int):=wrapN (by omega) (by omega);have js2:IntKind.i64.wrap ((s:Int)*2)=(s:Int)*2:=wrapN (by omega) (by omega);clear hbb;go_wp2_with fail
     go_loopw [7,8] (fun a b wr=>∃ a' b':Nat,a=.int .i64 (a':Int)∧b=.int .i64 (b':Int)∧b'=a'+2*s∧a'≤n∧Below w.heap.size w wr) (fun a _ _=>n - (intOf a).toNat)
     case atStart=>exact⟨0,2*s,rfl,by go_num,by omega,Nat.zero_le _,HB2.out⟩
     case round=>
      clear HB2;obtain⟨a,b,rfl,rfl,hab,han,hbb⟩:=hrel;have HB:=hid hbb;obtain⟨m,hm⟩:∃ x,a+s=x:=⟨_,rfl⟩;have em:(a:Int)+(s:Int)=(m:Int):=by omega
      have jm:IntKind.i64.wrap (m:Int)=(m:Int):=wrapN (by omega) (by omega);obtain⟨g,hA⟩:=HR.out (by omega)
      by_cases hlt:b≤n
      ·have ta:decide ((b:Int)≤(n:Int))=true:=decide_eq_true (by omega);have tb:decide (b≤n)=true:=decide_eq_true (by omega);obtain⟨c,hc⟩:∃ x,b+2*s=x:=⟨_,rfl⟩;have ec:(b:Int)+2*(s:Int)=(c:Int):=by omega
       have jc:IntKind.i64.wrap (c:Int)=(c:Int):=wrapN (by omega) (by omega);have HC:=hid (HS.out g a m b wr hA hbb (by omega) (by omega) hlt);subst hA;have HAB:=hid (And.intro hab (And.intro hc hm));clear hbb hab hc hm;go_wp2_with fail;refine HC.out.mono ?_;rintro e w1 ⟨rfl,hb1⟩;have HB1:=hid (HB.out.trans (hb1.mono HB.out.size));clear hb1 HC;go_wp2_with fail;go_roundw
       case rel=>exact⟨b,c,rfl,rfl,HAB.out.2.1.symm,hlt,HB1.out⟩
       case measure=>have:=HAB.out;simp[intOf];omega
      ·have ta:decide ((b:Int)≤(n:Int))=false:=decide_eq_false (by omega);have tb:decide (b≤n)=false:=decide_eq_false (by omega)
       by_cases hmn:m<n
       ·have ra:decide ((m:Int)<(n:Int))=true:=decide_eq_true (by omega);have rb:decide (m<n)=true:=decide_eq_true (by omega);have HC:=hid (HS.out g a m n wr hA hbb (by omega) hmn (Nat.le_refl _));subst hA;clear hbb hab hm;go_wp2_with fail;refine HC.out.mono ?_;rintro e w1 ⟨rfl,hb1⟩;have HB1:=hid (HB.out.trans (hb1.mono HB.out.size));clear hb1 HC;go_wp2_with fail;exact⟨⟨s*2,by go_num,by omega,by omega,HB1.out⟩,by simp[intOf];omega⟩
       ·have ra:decide ((m:Int)<(n:Int))=false:=decide_eq_false (by omega);have rb:decide (m<n)=false:=decide_eq_false (by omega);clear hbb hab hm;go_wp2_with fail;exact⟨⟨s*2,by go_num,by omega,by omega,HB.out⟩,by simp[intOf];omega⟩
    ·have ta:decide ((s:Int)<(n:Int))=false:=decide_eq_false (by omega);have tb:decide (s<n)=false:=decide_eq_false (by omega);clear hbb;go_wp2_with fail
     (try simp only[Exit.inBlock,Exit.then])
     refine bodyPost_end (results_none rfl _ _ _) rfl ?_;exact⟨rfl,HB2.out⟩
theorem sort_up (A:Option Addr) (cap:Nat) (es:List CV) (N:Nat) (w:World) (h:UpC N w A cap es):
  Calls Tryz.prog 36 #[.slice A es.length cap,.func (.func 37) #[] #[]] w fun e w'=>e=.returned (.tuple #[])∧Below w.heap.size w w':=by
 have HS:=hid (stable_up A cap es.length es N w h rfl);clear h;go_enter Tryz.func36,Tryz.ntmps36;go_wp2_with fail;refine HS.out.mono ?_;rintro e w1 ⟨rfl,hb⟩;go_wp2_with fail;refine bodyPost_end (results_none rfl _ _ _) rfl ?_;exact⟨rfl,hb⟩
end Go.Proofs.YtolmpehgeinlkaaGreatDoor

namespace Go.Proofs.YtolmpehgeinlkaaGreatDoor
open Go.RowKit
open Go.Lib (hid)
attribute [local go_sem] Oper.semAt_some
set_option maxHeartbeats 4000000
set_option maxRecDepth 100000
theorem res_call (tmps:Array Value) (w:World) {b:Nat} {e:CV} (ha:tmps[2]?.getD undef=.pointer (some ⟨b,0,none⟩)) (h:RowB w b #[.int .i64 e.x.p,.int .i64 e.x.o,.int .i64 e.x.q,.slice e.A e.x.r.length e.c,.int .i64 e.x.c,.int .i64 e.x.b,.int .i64 e.x.e] 40):
  (results Tryz.f72 tmps).run Tryz.prog w=.ok (.agg #[.int .i64 e.x.p,.int .i64 e.x.o,.int .i64 e.x.q,.slice e.A e.x.r.length e.c,.int .i64 e.x.c,.int .i64 e.x.b,.int .i64 e.x.e]) w:=by
 have h0:=(h.cell 0).trans rfl;have h1:=(h.cell 1).trans rfl;have h2:=(h.cell 2).trans rfl;have h3:=(h.cell 3).trans rfl;have h4:=(h.cell 4).trans rfl;have h5:=(h.cell 5).trans rfl;have h6:=(h.cell 6).trans rfl;simp[results,ha,h0,h1,h2,h3,h4,h5,h6,go_sem]
theorem hown_o (e:CV) (w:World) (hn:e.x.r.length≤1000000) (hl:Ws w w.heap.size e.A e.x.r):
  Calls Tryz.prog 72 #[.agg #[.int .i64 e.x.p,.int .i64 e.x.o,.int .i64 e.x.q,.slice e.A e.x.r.length e.c,.int .i64 e.x.c,.int .i64 e.x.b,.int .i64 e.x.e]] w fun z w'=>∃ A' c',z=.returned (.agg #[.int .i64 e.x.p,.int .i64 e.x.o,.int .i64 e.x.q,.slice A' e.x.r.length c',.int .i64 e.x.c,.int .i64 e.x.b,.int .i64 e.x.e])∧Ws w' w'.heap.size A' e.x.r∧(∀ b off,A'=some ⟨b,off,none⟩→w.heap.size≤b∧b<w'.heap.size)∧Below w.heap.size w w':=by
 have hb0:=(Below.refl w.heap.size w).alloc (Nat.le_refl _) (.cells #[.int .i64 e.x.p,.int .i64 e.x.o,.int .i64 e.x.q,.slice e.A e.x.r.length e.c,.int .i64 e.x.c,.int .i64 e.x.b,.int .i64 e.x.e] 40);have hb1:=hb0.alloc hb0.size (.cells #[.int .i64 0,.int .i64 0,.int .i64 0,.slice none 0 0,.int .i64 0,.int .i64 0,.int .i64 0] 40);have hx0:=RowB.new w #[.int .i64 e.x.p,.int .i64 e.x.o,.int .i64 e.x.q,.slice e.A e.x.r.length e.c,.int .i64 e.x.c,.int .i64 e.x.b,.int .i64 e.x.e] 40;have hx1:=hx0.kept ((Below.refl _ (w.alloc (.cells #[.int .i64 e.x.p,.int .i64 e.x.o,.int .i64 e.x.q,.slice e.A e.x.r.length e.c,.int .i64 e.x.c,.int .i64 e.x.b,.int .i64 e.x.e] 40))).alloc (Nat.le_refl _) (.cells #[.int .i64 0,.int .i64 0,.int .i64 0,.slice none 0 0,.int .i64 0,.int .i64 0,.int .i64 0] 40));have hz1:=RowB.new (w.alloc (.cells #[.int .i64 e.x.p,.int .i64 e.x.o,.int .i64 e.x.q,.slice e.A e.x.r.length e.c,.int .i64 e.x.c,.int .i64 e.x.b,.int .i64 e.x.e] 40)) #[.int .i64 0,.int .i64 0,.int .i64 0,.slice none 0 0,.int .i64 0,.int .i64 0,.int .i64 0] 40;rw[World.size_alloc] at hz1;obtain⟨n,hnn⟩:∃ n,w.heap.size=n:=⟨_,rfl⟩;obtain⟨W1,hW1⟩:∃ W1,(w.alloc (.cells #[.int .i64 e.x.p,.int .i64 e.x.o,.int .i64 e.x.q,.slice e.A e.x.r.length e.c,.int .i64 e.x.c,.int .i64 e.x.b,.int .i64 e.x.e] 40)).alloc (.cells #[.int .i64 0,.int .i64 0,.int .i64 0,.slice none 0 0,.int .i64 0,.int .i64 0,.int .i64 0] 40)=W1:=⟨_,rfl⟩;have hcl:=clone_w e.A e.c e.x.r W1 hn (hl.below (by rw[← hW1];exact hb1) (by have:=hb1.size;rw[hW1] at this;exact this));rw[hnn] at hx1 hz1 hb1 ⊢;have HCL:=hid hcl;have HX:=hid hx1;have HZ:=hid hz1;have HB:=hid hb1;have d3:=(hx1.cell 3).trans rfl;rw[hW1] at d3 HX HZ HB;clear hcl hl hb0 hz1 hx0 hx1 hb1 hn;go_enter Tryz.func72,Tryz.ntmps72;go_wp2_with fail;refine HCL.out.mono ?_;rintro z w2 ⟨v,rfl,hv,hb2⟩;obtain⟨A',c',rfl,_,hws⟩:=hv.ws;have hlt:=World.ownsRow.lt hv.1;have hx2:=HX.out.kept hb2;have hz2:=HZ.out.kept hb2;have hxs:=HX.out.lt;have hzs:=HZ.out.lt;have hB2:=HB.out.trans (hb2.mono (by omega));have hf3:=hx2.frozen 3;have g0:=(hx2.cell 0).trans rfl;have g1:=(hx2.cell 1).trans rfl;have g2:=(hx2.cell 2).trans rfl;have g3:=(hx2.cell 3).trans rfl;have g4:=(hx2.cell 4).trans rfl;have g5:=(hx2.cell 5).trans rfl;have g6:=(hx2.cell 6).trans rfl;have df0:=hz2.frozen 0;have df1:=hz2.frozen 1;have df2:=hz2.frozen 2;have df3:=hz2.frozen 3;have df4:=hz2.frozen 4;have df5:=hz2.frozen 5;have df6:=hz2.frozen 6;have z0:=(hz2.cell 0).trans rfl;have z1:=(hz2.cell 1).trans rfl;have z2:=(hz2.cell 2).trans rfl;have z3:=(hz2.cell 3).trans rfl;have z4:=(hz2.cell 4).trans rfl;have z5:=(hz2.cell 5).trans rfl;have z6:=(hz2.cell 6).trans rfl;have hfin:=(hz2.other n 3 (.slice A' e.x.r.length c') (by omega)) |>.set 0 (.int .i64 e.x.p) |>.set 1 (.int .i64 e.x.o) |>.set 2 (.int .i64 e.x.q) |>.set 3 (.slice A' e.x.r.length c') |>.set 4 (.int .i64 e.x.c) |>.set 5 (.int .i64 e.x.b) |>.set 6 (.int .i64 e.x.e)
 have ht:Tch (fun b=>b=n∨b=n+1) w2 ((((((((w2.setCell ⟨n,3,none⟩ (.slice A' e.x.r.length c')).setCell ⟨n+1,0,none⟩ (.int .i64 e.x.p)).setCell ⟨n+1,1,none⟩ (.int .i64 e.x.o)).setCell ⟨n+1,2,none⟩ (.int .i64 e.x.q)).setCell ⟨n+1,3,none⟩ (.slice A' e.x.r.length c')).setCell ⟨n+1,4,none⟩ (.int .i64 e.x.c)).setCell ⟨n+1,5,none⟩ (.int .i64 e.x.b)).setCell ⟨n+1,6,none⟩ (.int .i64 e.x.e)):=(Tch.refl _ w2).set (b:=n) (.inl rfl) 3 _ |>.set (b:=n+1) (.inr rfl) 0 _ |>.set (b:=n+1) (.inr rfl) 1 _ |>.set (b:=n+1) (.inr rfl) 2 _ |>.set (b:=n+1) (.inr rfl) 3 _ |>.set (b:=n+1) (.inr rfl) 4 _ |>.set (b:=n+1) (.inr rfl) 5 _ |>.set (b:=n+1) (.inr rfl) 6 _
 have hnew:∀ b off,A'=some ⟨b,off,none⟩→W1.heap.size≤b∧b<w2.heap.size:=fun b off q=>hlt b (by rw[q];rfl)
 have HF:=hid (And.intro hfin (And.intro (hws.tch ht (fun b off q r=>by have:=hnew b off q;omega) ht.size) (And.intro (fun b off q=>(by have h1:=hnew b off q;have h2:=ht.size;exact⟨by omega,Nat.lt_of_lt_of_le h1.2 h2⟩:n≤b∧b<(((((((((w2.setCell ⟨n,3,none⟩ (.slice A' e.x.r.length c')).setCell ⟨n+1,0,none⟩ (.int .i64 e.x.p)).setCell ⟨n+1,1,none⟩ (.int .i64 e.x.o)).setCell ⟨n+1,2,none⟩ (.int .i64 e.x.q)).setCell ⟨n+1,3,none⟩ (.slice A' e.x.r.length c')).setCell ⟨n+1,4,none⟩ (.int .i64 e.x.c)).setCell ⟨n+1,5,none⟩ (.int .i64 e.x.b)).setCell ⟨n+1,6,none⟩ (.int .i64 e.x.e))).heap.size)) (hB2.trans (ht.below (by have:=hB2.size;omega) (fun i _ q=>by omega))))));clear hv hb2 hws hlt hx2 hz2 hxs hzs hB2 hfin ht hnew;go_wp2_with fail;refine bodyPost_ret (res_call (e:=⟨e.x,A',c'⟩) _ _ rfl HF.out.1) rfl ?_;exact⟨A',c',rfl,HF.out.2.1,HF.out.2.2.1,HF.out.2.2.2⟩
theorem hall_o (e:CV) (w:World):Calls Tryz.prog 35 #[.agg #[.int .i64 e.x.p,.int .i64 e.x.o,.int .i64 e.x.q,.slice e.A e.x.r.length e.c,.int .i64 e.x.c,.int .i64 e.x.b,.int .i64 e.x.e]] w fun z w'=>z=.returned (.bool true)∧Below w.heap.size w w':=by
 go_enter Tryz.func35,Tryz.ntmps35;go_wp2_with fail;go_ret;exact⟨rfl,(Below.refl _ w).alloc (Nat.le_refl _) _⟩
structure PickS (N:Nat) (w:World) (v:Value) (es:List CV):Prop where
 own:Own cvE 40 N w v es
 recs:∀ e ∈ es,Ws w w.heap.size e.A e.x.r∧∀ b off,e.A=some ⟨b,off,none⟩→v.ownBlock≠some b
section
variable {N:Nat} {w w9:World} {v v':Value} {es:List CV} {e:CV}
theorem PickS.below (h:PickS N w v es) (hb:Below w.heap.size w w9):PickS N w9 v es:=
 ⟨own_tch h.own (Tch.of_below (fun _=>False) hb) (fun _ _ q=>q),fun e he=>⟨(h.recs e he).1.below hb hb.size,(h.recs e he).2⟩⟩
theorem PickS.snoc (h:PickS N w v es) (hown:Own cvE 40 N w9 v' (es++[e])) (ht:Tch (fun b=>v.ownBlock=some b) w w9) (hob:v'.ownBlock=v.ownBlock∨v'.ownBlock=some w.heap.size) (hr:Ws w w.heap.size e.A e.x.r∧∀ b off,e.A=some ⟨b,off,none⟩→v.ownBlock≠some b∧b<w.heap.size) (hl:∀ x ∈ es,∀ b off,x.A=some ⟨b,off,none⟩→b<w.heap.size):PickS N w9 v' (es++[e]):=by
 have hne:∀ b,v.ownBlock≠some b→b<w.heap.size→v'.ownBlock≠some b:=fun b h1 h2 q=>by
  rcases hob with r | r
  ·exact h1 (r.symm.trans q)
  ·have:=Option.some.inj (r.symm.trans q);omega
 refine⟨hown,fun x hx=>?_⟩
 rcases List.mem_append.1 hx with hx | hx
 ·have q:=h.recs x hx;exact⟨q.1.tch ht (fun b off r t=>q.2 b off r t) ht.size,fun b off r=>hne b (q.2 b off r) (hl x hx b off r)⟩
 ·rw[List.mem_singleton.1 hx];exact⟨hr.1.tch ht (fun b off r t=>(hr.2 b off r).1 t) ht.size,fun b off r=>hne b (hr.2 b off r).1 (hr.2 b off r).2⟩
end
def PickR (es0:List CV) (w:World) (z:Ending) (w':World):Prop:=∃ v es,z=.returned v∧PickS w.heap.size w' v es∧es.map (·.x)=es0.map (·.x)∧Below w.heap.size w w'
theorem hpick_o (A:Option Addr) (c:Nat) (es0:List CV) (w:World) (hn:es0.length≤100000) (hr:∀ e ∈ es0,e.x.r.length≤1000000) (hsl:SlOf cvE w w.heap.size A es0) (hw:∀ e ∈ es0,Ws w w.heap.size e.A e.x.r):
  Calls Tryz.prog 34 #[.slice A es0.length c,.func (.func 35) #[] #[]] w (PickR es0 w):=by
 have HR:=hid (And.intro hr hw);have HSL:=hid hsl;clear hr hw hsl;go_enter Tryz.func34,Tryz.ntmps34;go_wp2_with fail
 go_loopw [5,10] (fun v j wr=>∃ (k:Nat) (es:List CV),k≤es0.length∧j=.int .i64 (k:Int)∧es.length=k∧PickS w.heap.size wr v es∧(∀ e ∈ es,∀ b off,e.A=some ⟨b,off,none⟩→b<wr.heap.size)∧es.map (·.x)=(es0.take k).map (·.x)∧Below w.heap.size w wr) (fun _ j _=>es0.length - (intOf j).toNat)
 case atStart=>exact⟨0,[],Nat.zero_le _,rfl,rfl,⟨⟨rfl,.inl ⟨rfl,rfl⟩⟩,fun e he=>(by cases he)⟩,fun e he=>(by cases he),rfl,Below.refl _ _⟩
 case round=>
  obtain⟨k,es,hk,rfl,hel,hp,hbl,hm,hb⟩:=hrel;obtain⟨Av,Mv,Cv,rfl⟩:=own_slice hp.own
  by_cases hlt:k<es0.length
  ·have hd:decide ((k:Int)<(es0.length:Int))=true:=decide_eq_true (by omega);have k0:(0:Int)≤(k:Int):=by omega
   have k1:(k:Int)<(es0.length:Int):=by omega
   have jk:IntKind.i64.wrap ((k:Int)+1)=(k:Int)+1:=wrapN (by omega) (by omega);obtain⟨e,he⟩:∃ e,es0[k]?=some e:=⟨_,List.getElem?_eq_getElem hlt⟩;have hem:=List.mem_of_getElem? he;obtain⟨b',off,hA,hlb,hc⟩:=(HSL.out.below hb (Nat.le_refl _)) k e he;have c0:wr.cell? ⟨b',off+k*7,none⟩=some (.int .i64 e.x.p):=by simpa [cvE] using hc 0 _ rfl
   have c1:wr.cell? ⟨b',off+k*7+1,none⟩=some (.int .i64 e.x.o):=by simpa [cvE,Nat.add_assoc] using hc 1 _ rfl
   have c2:wr.cell? ⟨b',off+k*7+2,none⟩=some (.int .i64 e.x.q):=by simpa [cvE,Nat.add_assoc] using hc 2 _ rfl
   have c3:wr.cell? ⟨b',off+k*7+3,none⟩=some (.slice e.A e.x.r.length e.c):=by simpa [cvE,Nat.add_assoc] using hc 3 _ rfl
   have c4:wr.cell? ⟨b',off+k*7+4,none⟩=some (.int .i64 e.x.c):=by simpa [cvE,Nat.add_assoc] using hc 4 _ rfl
   have c5:wr.cell? ⟨b',off+k*7+5,none⟩=some (.int .i64 e.x.b):=by simpa [cvE,Nat.add_assoc] using hc 5 _ rfl
   have c6:wr.cell? ⟨b',off+k*7+6,none⟩=some (.int .i64 e.x.e):=by simpa [cvE,Nat.add_assoc] using hc 6 _ rfl
   have hbx:=RowB.new wr #[.int .i64 e.x.p,.int .i64 e.x.o,.int .i64 e.x.q,.slice e.A e.x.r.length e.c,.int .i64 e.x.c,.int .i64 e.x.b,.int .i64 e.x.e] 40;have hbw:=(Below.refl wr.heap.size wr).alloc (Nat.le_refl _) (.cells #[.int .i64 e.x.p,.int .i64 e.x.o,.int .i64 e.x.q,.slice e.A e.x.r.length e.c,.int .i64 e.x.c,.int .i64 e.x.b,.int .i64 e.x.e] 40);obtain⟨W1,hW1⟩:∃ W1,wr.alloc (.cells #[.int .i64 e.x.p,.int .i64 e.x.o,.int .i64 e.x.q,.slice e.A e.x.r.length e.c,.int .i64 e.x.c,.int .i64 e.x.b,.int .i64 e.x.e] 40)=W1:=⟨_,rfl⟩;obtain⟨n,hnn⟩:∃ n,wr.heap.size=n:=⟨_,rfl⟩;rw[hW1,hnn] at hbx hbw;have hws:=((HR.out.2 e hem).below hb hb.size);have hbs:=hb.size;have HALL:=hid (hall_o e W1);have HP1:=hid (hp.below (by rw[hnn];exact hbw));have HW1:=hid (hws.below (by rw[hnn];exact hbw) hbw.size);have HBX:=hid hbx;have HB1:=hid (hb.trans (hbw.mono (by omega)));have HBL:=hid (fun x hx b off q=>Nat.lt_of_lt_of_le (hbl x hx b off q) hbw.size:∀ x ∈ es,∀ b off,x.A=some ⟨b,off,none⟩→b<W1.heap.size);have HE:=hid (And.intro he (And.intro hel (And.intro hm (And.intro hlt (HR.out.1 e hem)))));subst hA;have hbx0:=hbx;have g0:=(hbx.cell 0).trans rfl;have g1:=(hbx.cell 1).trans rfl;have g2:=(hbx.cell 2).trans rfl;have g3:=(hbx.cell 3).trans rfl;have g4:=(hbx.cell 4).trans rfl;have g5:=(hbx.cell 5).trans rfl;have g6:=(hbx.cell 6).trans rfl;clear hp hbl hm hb hc hem he hlb hel hbw hws hbx hbx0 hbs;go_wp2_with fail;refine HALL.out.mono ?_;rintro z w2 ⟨rfl,hb2⟩;clear c0 c1 c2 c3 c4 c5 c6 g0 g1 g2 g3 g4 g5 g6;have hb2':=hb2.mono (Nat.le_of_lt HBX.out.lt);have hx2:=HBX.out.kept hb2;have g0:=(hx2.cell 0).trans rfl;have g1:=(hx2.cell 1).trans rfl;have g2:=(hx2.cell 2).trans rfl;have g3:=(hx2.cell 3).trans rfl;have g4:=(hx2.cell 4).trans rfl;have g5:=(hx2.cell 5).trans rfl;have g6:=(hx2.cell 6).trans rfl;have HP2:=hid (HP1.out.below hb2);have HB2:=hid (HB1.out.trans (hb2.mono HB1.out.size));have HOW:=hid (hown_o e w2 HE.out.2.2.2.2 (HW1.out.below hb2 hb2.size));have HBL2:=hid (fun x hx b off q=>Nat.lt_of_lt_of_le (HBL.out x hx b off q) hb2.size:∀ x ∈ es,∀ b off,x.A=some ⟨b,off,none⟩→b<w2.heap.size);clear hb2 hx2 hb2' HALL HP1 HB1 HW1 HBL HBX;go_wp2_with fail;refine HOW.out.mono ?_;rintro z w3 ⟨A',c',rfl,hw3,hn3,hb3⟩;have HP3:=hid (HP2.out.below hb3);have HB3:=hid (HB2.out.trans (hb3.mono HB2.out.size));have HV3:=hid (fun b q=>(World.ownsRow.lt HP2.out.own b q).2:∀ b,(Value.slice Av Mv Cv).ownBlock=some b→b<w2.heap.size);have HW3:=hid (And.intro hw3 hn3);have HBL3:=hid (fun x hx b off q=>Nat.lt_of_lt_of_le (HBL2.out x hx b off q) hb3.size:∀ x ∈ es,∀ b off,x.A=some ⟨b,off,none⟩→b<w3.heap.size);clear g0 g1 g2 g3 g4 g5 g6 hw3 hn3 hb3 HP2 HB2 HOW HBL2;have HPA:=hid (HP3.out.below ((Below.refl _ w3).alloc (Nat.le_refl _) (.cells #[.int .i64 e.x.p,.int .i64 e.x.o,.int .i64 e.x.q,.slice A' e.x.r.length c',.int .i64 e.x.c,.int .i64 e.x.b,.int .i64 e.x.e] 40)));have HWA:=hid (And.intro (HW3.out.1.below ((Below.refl _ w3).alloc (Nat.le_refl _) (.cells #[.int .i64 e.x.p,.int .i64 e.x.o,.int .i64 e.x.q,.slice A' e.x.r.length c',.int .i64 e.x.c,.int .i64 e.x.b,.int .i64 e.x.e] 40)) (Nat.le_of_lt (by rw[World.size_alloc];omega:w3.heap.size<(w3.alloc (.cells #[.int .i64 e.x.p,.int .i64 e.x.o,.int .i64 e.x.q,.slice A' e.x.r.length c',.int .i64 e.x.c,.int .i64 e.x.b,.int .i64 e.x.e] 40)).heap.size))) HW3.out.2);obtain⟨ht,i0,z,hi2,hz,hsize,hby,hzs,hsz⟩:=cvTy;have HN:=hid (And.intro HB3.out.size hn);clear hn;go_wp2_with (at_builtin;refine wpList_append_own_at _ rfl _ _ 32 rfl w.heap.size 40 i0 z 7 72 ht hi2 hz hsize hby hzs hsz _ es.length _ rfl HPA.out.own ⟨w3.heap.size,0,none⟩ 1 1 (CV.cells ⟨e.x,A',c'⟩) rfl rfl (cells_new' w3 (CV.cells ⟨e.x,A',c'⟩) _ _ rfl) (fun u hu=>by simp only[CV.cells,List.mem_cons,List.not_mem_nil,or_false] at hu;rcases hu with rfl | rfl | rfl | rfl | rfl | rfl | rfl <;> rfl) (by have h1:=HE.out;have h2:=HN.out;unfold maxLen;omega) (by have h1:=HE.out;have h2:=HN.out;omega) (by have h1:=HN.out.1;rw[World.size_alloc];omega) ?_;intro v9 w9 hown9 hgr9 _ hob9);go_roundw
   case rel=>
    obtain⟨he,hel,hm,hlt,_⟩:=HE.out;have ht9:=grown_tch hgr9 (T:=fun b=>(Value.slice Av Mv Cv).ownBlock=some b) (fun _ h=>h);have hs9:=ht9.size;rw[World.size_alloc] at hs9;refine⟨k+1,es++[⟨e.x,A',c'⟩],by omega,by go_num,by rw[List.length_append,hel];rfl,HPA.out.snoc (Own.app hown9 rfl) ht9 hob9 ⟨HWA.out.1,fun b off q=>⟨fun r=>?_,?_⟩⟩ (fun x hx b off q=>?_),fun x hx b off q=>?_,?_,(HB3.out.alloc HB3.out.size _).trans (ht9.below (by have:=HB3.out.size;rw[World.size_alloc];omega) (fun b _ r=>(World.ownsRow.lt HPA.out.own b r).1))⟩
    ·have h1:=(HWA.out.2 b off q).1;have h2:=HV3.out b r;omega
    ·have h1:=(HWA.out.2 b off q).2;rw[World.size_alloc];omega
    ·have h1:=HBL3.out x hx b off q;rw[World.size_alloc];omega
    ·rcases List.mem_append.1 hx with hx | hx
     ·have h1:=HBL3.out x hx b off q;omega
     ·rw[List.mem_singleton.1 hx] at q;have h1:=(HWA.out.2 b off q).2;omega
    ·rw[List.map_append,hm,List.take_add_one,he,List.map_append];rfl
   case measure=>simp[intOf];omega
  ·have hd:decide ((k:Int)<(es0.length:Int))=false:=decide_eq_false (by omega);have hd2:decide (k<es0.length)=false:=decide_eq_false (by omega);have hf:es.map (·.x)=es0.map (·.x):=by rw[hm,List.take_of_length_le (by omega)]
   have HF:=hid (And.intro hp (And.intro hf hb));clear hp hbl hm hb hlt hel hf;go_wp2_with fail;go_ret;exact⟨_,es,rfl,HF.out.1,HF.out.2.1,HF.out.2.2⟩
theorem UpC.of {N:Nat} {w:World} {v:Value} {es:List CV} {l:List Cl} (h:Own cvE 40 N w v es) (hl:es.map (·.x)=l) (hu:l.Pairwise fun x y=>x.b<y.b) (hn:es.length≤100000):∃ A c,v=.slice A es.length c∧UpC N w A c es:=by
 obtain⟨A,c,rfl,_⟩:=h.sl;refine⟨A,c,rfl,h,fun i j x y hij hx hy=>?_,hn⟩;subst hl;have:=(List.pairwise_map.1 hu);rw[List.pairwise_iff_getElem] at this;obtain⟨hi,rfl⟩:=List.getElem?_eq_some_iff.1 hx;obtain⟨hj,rfl⟩:=List.getElem?_eq_some_iff.1 hy;exact this i j hi hj hij
def SortR (l:List Cl) (w:World) (z:Ending) (w':World):Prop:=∃ A c es,z=.returned (.slice A es.length c)∧es.map (·.x)=l∧SlOf cvE w' w'.heap.size A es∧(∀ e ∈ es,Ws w' w'.heap.size e.A e.x.r)∧Below w.heap.size w w'
theorem hsort_o (A:Option Addr) (c:Nat) (es0:List CV) (w:World) (hn:es0.length≤100000) (hr:∀ e ∈ es0,e.x.r.length≤1000000) (hsl:SlOf cvE w w.heap.size A es0) (hw:∀ e ∈ es0,Ws w w.heap.size e.A e.x.r) (hu:(es0.map (·.x)).Pairwise fun x y=>x.b<y.b):
  Calls Tryz.prog 19 #[.slice A es0.length c] w (SortR (es0.map (·.x)) w):=by
 have HP:=hid (hpick_o A c es0 w hn hr hsl hw);have HUP:=hid hu;have HN:=hid hn;clear hn hr hsl hw hu;go_enter Tryz.func19,Tryz.ntmps19;go_wp2_with fail;refine HP.out.mono ?_;rintro z w1 ⟨v,es,rfl,hp,hm,hb⟩;obtain⟨A1,c1,rfl,hup⟩:=UpC.of hp.own hm HUP.out (by have h1:=congrArg List.length hm;rw[List.length_map,List.length_map] at h1;have:=HN.out;omega);have HS:=hid (sort_up A1 c1 es _ w1 hup);have HX:=hid (And.intro hp (And.intro hm hb));clear hp hm hb hup HP;go_wp2_with fail;refine HS.out.mono ?_;rintro z w2 ⟨rfl,hb2⟩;obtain⟨hp,hm,hb⟩:=HX.out;have hp2:=hp.below hb2;obtain⟨_,_,e1,_,_,hsl⟩:=hp2.own.sl;cases e1;have HF:=hid (And.intro hm (And.intro hsl (And.intro (fun e he=>(hp2.recs e he).1) (hb.trans (hb2.mono hb.size)))));clear hp hm hb hp2 hsl hb2;go_wp2_with fail;go_ret;exact⟨A1,c1,es,rfl,HF.out.1,HF.out.2.1,HF.out.2.2.1,HF.out.2.2.2⟩
def WRunR (o:Ob) (gs:List PG) (m ks:List Int) (w:World) (z:Ending) (w':World):Prop:=
 ∃ A c es,z=.returned (.tuple #[.slice A es.length c,.int .i64 0])∧Lm.GoodTo o (lm0 (tds gs) m) ks ks.length∧es.map (·.x)=(Lm.run (bgO o) Kc.step (lm0 (tds gs) m) ks).calls∧SlOf cvE w' w'.heap.size A es∧(∀ e ∈ es,Ws w' w'.heap.size e.A e.x.r)∧Below w.heap.size w w'
theorem wRun_1 (o:Ob) (ho:o.Ok) (A B:Option Addr) (cap kn kc:Nat) (gs:List PG) (w:World) (hin:ProcsIn w w.heap.size A gs) (hlen:gs.length≤1000) (hts:∀ g ∈ gs,g.ts.length≤1000) (hrs:∀ g ∈ gs,∀ t ∈ g.ts,t.r.length≤1000) (hf:faultP o (tds gs)≠0):
  Calls Tryz.prog 8 #[.agg (obA o),.slice A gs.length cap,.slice B kn kc] w fun e w'=>e=.returned (.tuple #[.slice none 0 0,.int .i64 (faultP o (tds gs))])∧Below w.heap.size w w':=by
 have hn:=RowB.new w (obA o) 26;have hB:=(Below.refl w.heap.size w).alloc (Nat.le_refl _) (.cells (obA o) 26);unfold obA at hn hB;have HB:=hid hB;have hr:=wrun_1 o ho A B cap kn kc gs _ (hin.below hB hB.size) hlen hts hrs hf;unfold obA at hr;obtain⟨fv,hfv⟩:∃ x,faultP o (tds gs)=x:=⟨_,rfl⟩;rw[hfv] at hr hf ⊢;have HR:=hid hr;have d0:(fv != 0)=true:=by simpa using hf
 clear hn hB hr hf hfv hin hlen hts hrs ho;unfold obA;go_enter Tryz.func8,Tryz.ntmps8;go_wp2_with fail;refine HR.out.mono ?_;rintro e w1 ⟨rfl,hb⟩;have HB1:=hid (HB.out.trans (hb.mono HB.out.size));clear hb;go_wp2_with fail;go_ret2;exact⟨rfl,HB1.out⟩
theorem wRun_2 (o:Ob) (ho:o.Ok) (A B:Option Addr) (cap kc:Nat) (gs:List PG) (l ks:List Int) (w:World) (hin:ProcsIn w w.heap.size A gs) (hlen:gs.length≤1000) (hts:∀ g ∈ gs,g.ts.length≤1000) (hrs:∀ g ∈ gs,∀ t ∈ g.ts,t.r.length≤1000) (hf:faultP o (tds gs)=0)
  (hl:o.ni=l.length) (hI:Ws w w.heap.size o.I l) (hK:SlOf (ints .i64) w w.heap.size B ks) (hkn:ks.length≤1000) (hT:Tab64 w) (hG:(0:Nat)<w.heap.size):
  Calls Tryz.prog 8 #[.agg (obA o),.slice A gs.length cap,.slice B ks.length kc] w (WRunR o gs (layZ o l) ks w):=by
 have hn:=RowB.new w (obA o) 26;have hB:=(Below.refl w.heap.size w).alloc (Nat.le_refl _) (.cells (obA o) 26);unfold obA at hn hB;have HB:=hid hB;have hr:=wrun_2 o ho A B cap kc gs l ks _ (hin.below hB hB.size) hlen hts hrs hf hl (hI.below hB hB.size) (hK.below hB hB.size) hkn (fun j hj=>(hB.cell (p:=⟨_,j,none⟩) hG).trans (hT j hj)) (Nat.lt_of_lt_of_le hG hB.size);unfold obA at hr;have HR:=hid hr;have HKN:=hid hkn;clear hn hB hr hf hin hlen hts hrs ho hl hI hK hkn hT hG;unfold obA;go_enter Tryz.func8,Tryz.ntmps8;go_wp2_with fail;refine HR.out.mono ?_;rintro e w1 ⟨lb,pb,mb,ml,pc,cv,tg,gs',es,rfl,hgt,hL⟩;obtain⟨A1,c1,rfl,_,_,hsl⟩:=hL.calls.sl;have c10:=hL.row.at 10 (.slice A1 es.length c1);have hg:=(hgt ks.length (Nat.le_refl _)).1;rw[List.take_length] at hg;have hcx:=hL.cx
 have hlc:es.length≤1000:=by
  have h1:=congrArg List.length hcx;rw[List.length_map] at h1;have h2:=hg.cn;have h3:=HKN.out;omega
 have hsrt:=hsort_o A1 c1 es w1 (by omega) (fun e he=>Nat.le_trans (hg.rl e.x (by rw[← hcx];exact List.mem_map_of_mem he)) (by omega)) hsl (fun e he=>(hL.recs e he).1) (by rw[hcx];exact hg.up.up);rw[hcx] at hsrt;have HS:=hid hsrt;have HF:=hid (And.intro hgt (HB.out.trans (hL.bel.mono HB.out.size)));clear hgt hL hsl hg hcx hlc hsrt;go_wp2_with fail;refine HS.out.mono ?_;rintro z w2 ⟨A2,c2,es2,rfl,hm,hsl,hrc,hb2⟩;have HX:=hid (And.intro hm (And.intro hsl (And.intro hrc (HF.out.2.trans (hb2.mono HF.out.2.size)))));clear hm hsl hrc hb2;go_wp2_with fail;go_ret2;exact⟨A2,c2,es2,rfl,HF.out.1,HX.out.1,HX.out.2.1,HX.out.2.2.1,HX.out.2.2.2⟩
end Go.Proofs.YtolmpehgeinlkaaGreatDoor
