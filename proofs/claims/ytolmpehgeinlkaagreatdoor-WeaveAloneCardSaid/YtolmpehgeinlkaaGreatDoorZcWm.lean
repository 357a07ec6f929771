/- awake: the chapter's example. -/
import Derived.Test.YtolmpehgeinlkaaGreatDoorZcWa
import Derived.Test.YtolmpehgeinlkaaGreatDoorZcA
import Derived.Deep.QuietTactic
import Derived.BigQuiet
import Derived.Test.YtolmpehgeinlkaaGreatDoorZcWd
import Derived.Test.YtolmpehgeinlkaaGreatDoorZcOgT
import Derived.Test.YtolmpehgeinlkaaGreatDoorZcWu
import Derived.KernelRfl
namespace Go.Proofs.YtolmpehgeinlkaaGreatDoor
open Go.RowKit
open Go.Lib (hid)
attribute [local go_sem] Oper.semAt_some
set_option maxHeartbeats 1000000
set_option maxRecDepth 100000
abbrev QWvM0 (a0 a1 a2:Nat) (a3:CV) (a4 a5:Nat) (a6:CV) (w':World):Prop:=w'.cell? ⟨a0,a1+a2*7,none⟩=some (.int .i64 a3.x.p)∧w'.cell? ⟨a0,a1+a2*7+1,none⟩=some (.int .i64 a3.x.o)∧w'.cell? ⟨a0,a1+a2*7+2,none⟩=some (.int .i64 a3.x.q)∧w'.cell? ⟨a0,a1+a2*7+3,none⟩=some (.slice a3.A a3.x.r.length a3.c)∧w'.cell? ⟨a0,a1+a2*7+4,none⟩=some (.int .i64 a3.x.c)∧w'.cell? ⟨a0,a1+a2*7+5,none⟩=some (.int .i64 a3.x.b)∧w'.cell? ⟨a0,a1+a2*7+6,none⟩=some (.int .i64 a3.x.e)∧w'.cell? ⟨a4,a5+a2*7,none⟩=some (.int .i64 a6.x.p)∧w'.cell? ⟨a4,a5+a2*7+1,none⟩=some (.int .i64 a6.x.o)∧w'.cell? ⟨a4,a5+a2*7+2,none⟩=some (.int .i64 a6.x.q)∧w'.cell? ⟨a4,a5+a2*7+3,none⟩=some (.slice a6.A a6.x.r.length a6.c)∧w'.cell? ⟨a4,a5+a2*7+4,none⟩=some (.int .i64 a6.x.c)∧w'.cell? ⟨a4,a5+a2*7+5,none⟩=some (.int .i64 a6.x.b)∧w'.cell? ⟨a4,a5+a2*7+6,none⟩=some (.int .i64 a6.x.e)
theorem drawn_below {B:Nat} {a w:World} (h:Below B a w):∀ n:Nat,Below B a (w.drewN n)
 | _=>⟨h.os,h.tape,h.output,h.size,h.block⟩
theorem words_eq (A A':Option Addr) (c c':Nat) (l:List Int) (w:World) (hn:l.length≤9223372036854775807) (hl:Ws w w.heap.size A l) (hm':Ws w w.heap.size A' l):
  Calls Tryz.prog 29 #[.slice A l.length c,.slice A' l.length c'] w fun e w'=>e=.returned (.bool true)∧Below w.heap.size w w':=by
 go_enter Tryz.func29,Tryz.ntmps29;go_wp2
 go_loopw [5,13] (fun i j wr=>∃ k:Nat,k≤l.length∧j=.int .i64 k∧Below w.heap.size w wr) (fun _ j _=>l.length - (intOf j).toNat)
 case atStart=>exact⟨0,Nat.zero_le _,rfl,Below.refl _ _⟩
 case round=>
  obtain⟨k,hk,rfl,hb⟩:=hrel
  by_cases hlt:k<l.length
  ·obtain⟨x,hx⟩:=get_some hlt;obtain⟨⟨_,_,_⟩,b,off,rfl,hlb,h0⟩:=(hl.below hb (Nat.le_refl _)).get hx;obtain⟨⟨_,_,_⟩,b2,off2,rfl,hlb2,h1⟩:=(hm'.below hb (Nat.le_refl _)).get hx;have hx':=hid hx;clear hx;go_wp2
   go_quiet (fail)
   go_wp2;go_roundw
   case rel=>exact⟨k+1,by omega,by go_num,drawn_below hb _⟩
   case measure=>simp[intOf];omega
  ·obtain rfl:k=l.length:=by omega
   go_wp2;go_ret;exact⟨rfl,hb⟩
theorem pcall_eq (x:Cl) (A A':Option Addr) (c c':Nat) (w:World) (lx:x.r.length≤9223372036854775807) (hx:Ws w w.heap.size A x.r) (hy:Ws w w.heap.size A' x.r):
  Calls Tryz.prog 17 #[.agg #[.int .i64 x.p,.int .i64 x.o,.int .i64 x.q,.slice A x.r.length c,.int .i64 x.c,.int .i64 x.b,.int .i64 x.e],.agg #[.int .i64 x.p,.int .i64 x.o,.int .i64 x.q,.slice A' x.r.length c',.int .i64 x.c,.int .i64 x.b,.int .i64 x.e]] w fun r w'=>r=.returned (.bool true)∧Below w.heap.size w w':=by
 obtain⟨p,o,q,r,cc,b,e⟩:=x;dsimp only at lx hx hy ⊢;have hB:=((Below.refl w.heap.size w).alloc (Nat.le_refl _) (.cells #[.int .i64 p,.int .i64 o,.int .i64 q,.slice A r.length c,.int .i64 cc,.int .i64 b,.int .i64 e] 40)).alloc (by simp) (.cells #[.int .i64 p,.int .i64 o,.int .i64 q,.slice A' r.length c',.int .i64 cc,.int .i64 b,.int .i64 e] 40);have HW:=hid (words_eq A A' c c' r _ lx (hx.below hB hB.size) (hy.below hB hB.size));have HX:=hid ((RowB.new w #[.int .i64 p,.int .i64 o,.int .i64 q,.slice A r.length c,.int .i64 cc,.int .i64 b,.int .i64 e] 40).kept ((Below.refl _ _).alloc (Nat.le_refl _) (.cells #[.int .i64 p,.int .i64 o,.int .i64 q,.slice A' r.length c',.int .i64 cc,.int .i64 b,.int .i64 e] 40)));have HY:=hid (RowB.new (w.alloc (.cells #[.int .i64 p,.int .i64 o,.int .i64 q,.slice A r.length c,.int .i64 cc,.int .i64 b,.int .i64 e] 40)) #[.int .i64 p,.int .i64 o,.int .i64 q,.slice A' r.length c',.int .i64 cc,.int .i64 b,.int .i64 e] 40);rw[World.size_alloc] at HY;have HB:=hid hB;clear hB hx hy lx;go_enter Tryz.func17,Tryz.ntmps17;go_wp2_with (go_at_call 29;refine HW.out.mono ?_;rintro e w1 ⟨rfl,hb1⟩;have hx4:=((HX.out.kept hb1).cell 4).trans rfl;have hx5:=((HX.out.kept hb1).cell 5).trans rfl;have hx6:=((HX.out.kept hb1).cell 6).trans rfl;have hy4:=((HY.out.kept hb1).cell 4).trans rfl;have hy5:=((HY.out.kept hb1).cell 5).trans rfl;have hy6:=((HY.out.kept hb1).cell 6).trans rfl);go_ret;exact⟨rfl,HB.out.trans (hb1.mono HB.out.size)⟩
theorem pcalls_eq (A A':Option Addr) (c c':Nat) (es fs:List CV) (w:World) (hx:es.map (·.x)=fs.map (·.x)) (hn:es.length≤1000000) (hr:∀ e ∈ es,e.x.r.length≤1000000) (hl:SlOf cvE w w.heap.size A es) (hm:SlOf cvE w w.heap.size A' fs) (hl2:∀ e ∈ es,Ws w w.heap.size e.A e.x.r) (hm2:∀ e ∈ fs,Ws w w.heap.size e.A e.x.r):
  Calls Tryz.prog 11 #[.slice A es.length c,.slice A' fs.length c'] w fun r w'=>r=.returned (.bool true)∧Below w.heap.size w w':=by
 have hlen:es.length=fs.length:=by have:=congrArg List.length hx;simpa using this
 rw[← hlen];have HL:=hid (And.intro hl (And.intro hm (And.intro hl2 hm2)));have HN:=hid (And.intro hn (And.intro hr (And.intro hx hlen)));clear hl hm hl2 hm2 hr hx hlen hn;go_enter Tryz.func11,Tryz.ntmps11;go_wp2
 go_loopw [5,13] (fun i j wr=>∃ k:Nat,k≤es.length∧j=.int .i64 k∧Below w.heap.size w wr) (fun _ j _=>es.length - (intOf j).toNat)
 case atStart=>exact⟨0,Nat.zero_le _,rfl,Below.refl _ _⟩
 case round=>
  obtain⟨k,hk,rfl,hb⟩:=hrel
  by_cases hlt:k<es.length
  ·obtain⟨e,he⟩:∃ e,es[k]?=some e:=⟨_,List.getElem?_eq_getElem hlt⟩;obtain⟨f,hf⟩:∃ f,fs[k]?=some f:=⟨_,List.getElem?_eq_getElem (by have:=HN.out.2.2.2;omega)⟩
   have hef:e.x=f.x:=by
    have h1:=congrArg (fun l=>l[k]?) HN.out.2.2.1;simp only[List.getElem?_map,he,hf,Option.map_some] at h1;exact Option.some.inj h1
   obtain⟨b1,o1,hA,_,h1⟩:=HL.out.1 k e he;obtain⟨b2,o2,hA',_,h2⟩:=HL.out.2.1 k f hf;subst hA hA';have HE:=hid (And.intro (List.mem_of_getElem? he) (List.mem_of_getElem? hf))
   have HS:∀ W,Below w.heap.size w W→W.cell? ⟨b1,o1+k*7,none⟩=some (.int .i64 e.x.p)∧W.cell? ⟨b1,o1+k*7+1,none⟩=some (.int .i64 e.x.o)∧W.cell? ⟨b1,o1+k*7+2,none⟩=some (.int .i64 e.x.q)∧W.cell? ⟨b1,o1+k*7+3,none⟩=some (.slice e.A e.x.r.length e.c)∧W.cell? ⟨b1,o1+k*7+4,none⟩=some (.int .i64 e.x.c)∧W.cell? ⟨b1,o1+k*7+5,none⟩=some (.int .i64 e.x.b)∧W.cell? ⟨b1,o1+k*7+6,none⟩=some (.int .i64 e.x.e)∧W.cell? ⟨b2,o2+k*7,none⟩=some (.int .i64 f.x.p)∧W.cell? ⟨b2,o2+k*7+1,none⟩=some (.int .i64 f.x.o)∧W.cell? ⟨b2,o2+k*7+2,none⟩=some (.int .i64 f.x.q)∧W.cell? ⟨b2,o2+k*7+3,none⟩=some (.slice f.A f.x.r.length f.c)∧W.cell? ⟨b2,o2+k*7+4,none⟩=some (.int .i64 f.x.c)∧W.cell? ⟨b2,o2+k*7+5,none⟩=some (.int .i64 f.x.b)∧W.cell? ⟨b2,o2+k*7+6,none⟩=some (.int .i64 f.x.e):=fun W hW=>by
    have q1:=(HL.out.1.below hW hW.size) k e he;have q2:=(HL.out.2.1.below hW hW.size) k f hf;obtain⟨b3,o3,e3,_,q1⟩:=q1;obtain⟨b4,o4,e4,_,q2⟩:=q2;cases e3;cases e4;exact⟨by simpa [cvE,CV.cells,Nat.add_assoc] using q1 0 _ rfl,by simpa [cvE,CV.cells,Nat.add_assoc] using q1 1 _ rfl,by simpa [cvE,CV.cells,Nat.add_assoc] using q1 2 _ rfl,by simpa [cvE,CV.cells,Nat.add_assoc] using q1 3 _ rfl,by simpa [cvE,CV.cells,Nat.add_assoc] using q1 4 _ rfl,by simpa [cvE,CV.cells,Nat.add_assoc] using q1 5 _ rfl,by simpa [cvE,CV.cells,Nat.add_assoc] using q1 6 _ rfl,by simpa [cvE,CV.cells,Nat.add_assoc] using q2 0 _ rfl,by simpa [cvE,CV.cells,Nat.add_assoc] using q2 1 _ rfl,by simpa [cvE,CV.cells,Nat.add_assoc] using q2 2 _ rfl,by simpa [cvE,CV.cells,Nat.add_assoc] using q2 3 _ rfl,by simpa [cvE,CV.cells,Nat.add_assoc] using q2 4 _ rfl,by simpa [cvE,CV.cells,Nat.add_assoc] using q2 5 _ rfl,by simpa [cvE,CV.cells,Nat.add_assoc] using q2 6 _ rfl⟩
   have HSS:=hid HS;have HEF:=hid hef;have HB:=hid hb;have HI:=hid hlt;have k0:(0:Int)≤(k:Int):=by omega
   have k1:(k:Int)<(es.length:Int):=by omega
   have hwk:IntKind.i64.wrap ((k:Int)+1)=(k:Int)+1:=sh_wrap (by omega) (by have:=HN.out.1;omega);clear HS hef hb hlt he hf h1 h2 hk;go_wp2_with fail;have HBD:=hid HB.out.drew;refine rgn (S:=(QWvM0 b1 o1 k e b2 o2 f)) (HSS.out _ HBD.out) fun w2 hw9 hHeld=>?_
   rw[hw9] at HBD;clear hw9;refine tk4 0 1 2 3 ?_;refine tk4 4 5 6 7 ?_;refine clH 8 (fun K hK=>?_)
   ·go_simp;have hpc:=pcall_eq e.x e.A f.A e.c f.c w2 (by have:=HN.out.2.1 e HE.out.1;omega) ((HL.out.2.2.1 e HE.out.1).below HBD.out HBD.out.size) (by rw[HEF.out];exact(HL.out.2.2.2 f HE.out.2).below HBD.out HBD.out.size);rw[HEF.out] at hpc;have hpc2:Calls Tryz.prog 17 #[.agg #[.int .i64 e.x.p,.int .i64 e.x.o,.int .i64 e.x.q,.slice e.A e.x.r.length e.c,.int .i64 e.x.c,.int .i64 e.x.b,.int .i64 e.x.e],.agg #[.int .i64 f.x.p,.int .i64 f.x.o,.int .i64 f.x.q,.slice f.A f.x.r.length f.c,.int .i64 f.x.c,.int .i64 f.x.b,.int .i64 f.x.e]] w2 (fun r w9=>r=.returned (.bool true)∧Below w2.heap.size w2 w9):=by rw[HEF.out];exact hpc
    refine hpc2.mono ?_;rintro ex w3 ⟨rfl,hb3⟩;have HB3:=hid (HBD.out.trans (hb3.mono HBD.out.size));have hSx:(QWvM0 b1 o1 k e b2 o2 f) w3:=HSS.out _ HB3.out;clear hpc hpc2 hb3;refine kH hK hSx fun hHeld=>?_
    clear hK K;refine tkH 9 ?_;refine dnH ?_;clear hHeld hSx;go_wp2_with fail;go_roundw
    case rel=>exact⟨k+1,by have:=HI.out;omega,by go_num,HB3.out⟩
    case measure=>have:=HI.out;simp[intOf];omega
  ·obtain rfl:k=es.length:=by omega
   go_wp2;go_ret;exact⟨rfl,hb⟩
end Go.Proofs.YtolmpehgeinlkaaGreatDoor

namespace Go.Proofs.YtolmpehgeinlkaaGreatDoor
open Go.RowKit
open Go.Lib (hid)
attribute [local go_sem] Oper.semAt_some
set_option maxHeartbeats 1000000
set_option maxRecDepth 100000
def okG (g:PG):Prop:=g.ts.length≤20∧∀ t ∈ g.ts,t.r.length≤100
instance (g:PG):Decidable (okG g):=by unfold okG;infer_instance
def lightW (o:Ob) (gs:List PG) (kn:Nat):Prop:=smallB o∧gs.length≤20∧kn≤400∧∀ g ∈ gs,okG g
instance (o:Ob) (gs:List PG) (kn:Nat):Decidable (lightW o gs kn):=by unfold lightW;infer_instance
def cwA (o:Ob) (A:Option Addr) (cap:Nat) (gs:List PG) (B:Option Addr) (kn kc:Nat):Array Value:=#[.int .i64 o.k,.int .i64 o.wd,.int .i64 o.s,.int .i64 o.c,.int .u32 o.st,.slice o.I o.ni o.ci,.int .i64 o.wr,.slice o.R o.nr o.cr,.slice A gs.length cap,.slice B kn kc]
theorem wlight_1 (o:Ob) (A B:Option Addr) (cap kn kc:Nat) (gs:List PG) (w:World) (h1:decide (smallB o)=false):Calls Tryz.prog 6 #[.agg (cwA o A cap gs B kn kc)] w fun e w'=>e=.returned (.bool false)∧Below w.heap.size w w':=by
 have HD:=hid h1;clear h1;have hn:=RowB.new w (cwA o A cap gs B kn kc) 29;have hB:=(Below.refl w.heap.size w).alloc (Nat.le_refl _) (.cells (cwA o A cap gs B kn kc) 29);obtain⟨n,hn0⟩:∃ n,w.heap.size=n:=⟨_,rfl⟩;rw[hn0] at hn hB;have HN:=hid hn;have HB:=hid hB;have HN0:=hid hn0;have HS:=hid fun W=>small_g o W
 unfold cwA at HN HB;unfold obA at HS;clear hn hB;unfold cwA;rw[hn0];go_enter Tryz.func6,Tryz.ntmps6;go_wp2_with fail;generalize (w.alloc (.cells #[.int .i64 o.k,.int .i64 o.wd,.int .i64 o.s,.int .i64 o.c,.int .u32 o.st,.slice o.I o.ni o.ci,.int .i64 o.wr,.slice o.R o.nr o.cr,.slice A gs.length cap,.slice B kn kc] 29))=w1 at HN HB ⊢;clear hn0;have hc:w1.cell? ⟨n,0,none⟩=some (.int .i64 o.k)∧w1.cell? ⟨n,1,none⟩=some (.int .i64 o.wd)∧w1.cell? ⟨n,2,none⟩=some (.int .i64 o.s)∧w1.cell? ⟨n,3,none⟩=some (.int .i64 o.c)∧w1.cell? ⟨n,4,none⟩=some (.int .u32 o.st)∧w1.cell? ⟨n,5,none⟩=some (.slice o.I o.ni o.ci)∧w1.cell? ⟨n,6,none⟩=some (.int .i64 o.wr)∧w1.cell? ⟨n,7,none⟩=some (.slice o.R o.nr o.cr)∧w1.cell? ⟨n,8,none⟩=some (.slice A gs.length cap)∧w1.cell? ⟨n,9,none⟩=some (.slice B kn kc):=(by and_intros <;> exact HN.out.c rfl);obtain⟨c0,c1,c2,c3,c4,c5,c6,c7,c8,c9⟩:=hc;go_wp2_with fail;refine(HS.out _).mono ?_;rintro e w2 ⟨rfl,hb⟩;have HN2:=hid (HN.out.kept hb);have HB2:=hid (HB.out.trans (hb.mono (by have:=HN.out.lt;omega)));clear hb c0 c1 c2 c3 c4 c5 c6 c7 c8 c9;have c8:=HN2.out.at 8 (.slice A gs.length cap);have c9:=HN2.out.at 9 (.slice B kn kc);rw[HD.out];go_wp2_with fail;go_ret;exact⟨rfl,HB2.out⟩
theorem wlight_2 (o:Ob) (A B:Option Addr) (cap kn kc:Nat) (gs:List PG) (w:World) (h1:decide (smallB o)=true) (h2:decide (20<gs.length)=true):Calls Tryz.prog 6 #[.agg (cwA o A cap gs B kn kc)] w fun e w'=>e=.returned (.bool false)∧Below w.heap.size w w':=by
 have HD:=hid h1;clear h1;have d2:decide ((20:Int)<(gs.length:Int))=true:=decide_eq_true (by have:=of_decide_eq_true h2;omega);have hn:=RowB.new w (cwA o A cap gs B kn kc) 29;have hB:=(Below.refl w.heap.size w).alloc (Nat.le_refl _) (.cells (cwA o A cap gs B kn kc) 29);obtain⟨n,hn0⟩:∃ n,w.heap.size=n:=⟨_,rfl⟩;rw[hn0] at hn hB;have HN:=hid hn;have HB:=hid hB;have HN0:=hid hn0;have HS:=hid fun W=>small_g o W
 unfold cwA at HN HB;unfold obA at HS;clear hn hB;unfold cwA;rw[hn0];go_enter Tryz.func6,Tryz.ntmps6;go_wp2_with fail;generalize (w.alloc (.cells #[.int .i64 o.k,.int .i64 o.wd,.int .i64 o.s,.int .i64 o.c,.int .u32 o.st,.slice o.I o.ni o.ci,.int .i64 o.wr,.slice o.R o.nr o.cr,.slice A gs.length cap,.slice B kn kc] 29))=w1 at HN HB ⊢;clear hn0;have hc:w1.cell? ⟨n,0,none⟩=some (.int .i64 o.k)∧w1.cell? ⟨n,1,none⟩=some (.int .i64 o.wd)∧w1.cell? ⟨n,2,none⟩=some (.int .i64 o.s)∧w1.cell? ⟨n,3,none⟩=some (.int .i64 o.c)∧w1.cell? ⟨n,4,none⟩=some (.int .u32 o.st)∧w1.cell? ⟨n,5,none⟩=some (.slice o.I o.ni o.ci)∧w1.cell? ⟨n,6,none⟩=some (.int .i64 o.wr)∧w1.cell? ⟨n,7,none⟩=some (.slice o.R o.nr o.cr)∧w1.cell? ⟨n,8,none⟩=some (.slice A gs.length cap)∧w1.cell? ⟨n,9,none⟩=some (.slice B kn kc):=(by and_intros <;> exact HN.out.c rfl);obtain⟨c0,c1,c2,c3,c4,c5,c6,c7,c8,c9⟩:=hc;go_wp2_with fail;refine(HS.out _).mono ?_;rintro e w2 ⟨rfl,hb⟩;have HN2:=hid (HN.out.kept hb);have HB2:=hid (HB.out.trans (hb.mono (by have:=HN.out.lt;omega)));clear hb c0 c1 c2 c3 c4 c5 c6 c7 c8 c9;have c8:=HN2.out.at 8 (.slice A gs.length cap);have c9:=HN2.out.at 9 (.slice B kn kc);rw[HD.out];go_wp2_with fail;go_ret;exact⟨rfl,HB2.out⟩
theorem wlight_3 (o:Ob) (A B:Option Addr) (cap kn kc:Nat) (gs:List PG) (w:World) (h1:decide (smallB o)=true) (h2:decide (20<gs.length)=false) (h3:decide (400<kn)=true):Calls Tryz.prog 6 #[.agg (cwA o A cap gs B kn kc)] w fun e w'=>e=.returned (.bool false)∧Below w.heap.size w w':=by
 have HD:=hid h1;clear h1;have d2:decide ((20:Int)<(gs.length:Int))=false:=decide_eq_false (by have:=of_decide_eq_false h2;omega);have d3:decide ((400:Int)<(kn:Int))=true:=decide_eq_true (by have:=of_decide_eq_true h3;omega);have hn:=RowB.new w (cwA o A cap gs B kn kc) 29;have hB:=(Below.refl w.heap.size w).alloc (Nat.le_refl _) (.cells (cwA o A cap gs B kn kc) 29);obtain⟨n,hn0⟩:∃ n,w.heap.size=n:=⟨_,rfl⟩;rw[hn0] at hn hB;have HN:=hid hn;have HB:=hid hB;have HN0:=hid hn0;have HS:=hid fun W=>small_g o W
 unfold cwA at HN HB;unfold obA at HS;clear hn hB;unfold cwA;rw[hn0];go_enter Tryz.func6,Tryz.ntmps6;go_wp2_with fail;generalize (w.alloc (.cells #[.int .i64 o.k,.int .i64 o.wd,.int .i64 o.s,.int .i64 o.c,.int .u32 o.st,.slice o.I o.ni o.ci,.int .i64 o.wr,.slice o.R o.nr o.cr,.slice A gs.length cap,.slice B kn kc] 29))=w1 at HN HB ⊢;clear hn0;have hc:w1.cell? ⟨n,0,none⟩=some (.int .i64 o.k)∧w1.cell? ⟨n,1,none⟩=some (.int .i64 o.wd)∧w1.cell? ⟨n,2,none⟩=some (.int .i64 o.s)∧w1.cell? ⟨n,3,none⟩=some (.int .i64 o.c)∧w1.cell? ⟨n,4,none⟩=some (.int .u32 o.st)∧w1.cell? ⟨n,5,none⟩=some (.slice o.I o.ni o.ci)∧w1.cell? ⟨n,6,none⟩=some (.int .i64 o.wr)∧w1.cell? ⟨n,7,none⟩=some (.slice o.R o.nr o.cr)∧w1.cell? ⟨n,8,none⟩=some (.slice A gs.length cap)∧w1.cell? ⟨n,9,none⟩=some (.slice B kn kc):=(by and_intros <;> exact HN.out.c rfl);obtain⟨c0,c1,c2,c3,c4,c5,c6,c7,c8,c9⟩:=hc;go_wp2_with fail;refine(HS.out _).mono ?_;rintro e w2 ⟨rfl,hb⟩;have HN2:=hid (HN.out.kept hb);have HB2:=hid (HB.out.trans (hb.mono (by have:=HN.out.lt;omega)));clear hb c0 c1 c2 c3 c4 c5 c6 c7 c8 c9;have c8:=HN2.out.at 8 (.slice A gs.length cap);have c9:=HN2.out.at 9 (.slice B kn kc);rw[HD.out];go_wp2_with fail;go_ret;exact⟨rfl,HB2.out⟩
theorem wlight_4 (o:Ob) (A B:Option Addr) (cap kn kc:Nat) (gs:List PG) (w:World) (hin:ProcsIn w w.heap.size A gs) (h1:decide (smallB o)=true) (h2:decide (20<gs.length)=false) (h3:decide (400<kn)=false):Calls Tryz.prog 6 #[.agg (cwA o A cap gs B kn kc)] w fun e w'=>e=.returned (.bool (decide (∀ g ∈ gs,okG g)))∧Below w.heap.size w w':=by
 have HD:=hid h1;have HIN:=hid hin;have HLN:=hid (show gs.length≤20 by have:=of_decide_eq_false h2;omega);have d2:decide ((20:Int)<(gs.length:Int))=false:=decide_eq_false (by have:=of_decide_eq_false h2;omega);have d3:decide ((400:Int)<(kn:Int))=false:=decide_eq_false (by have:=of_decide_eq_false h3;omega);clear h1 hin;have hn:=RowB.new w (cwA o A cap gs B kn kc) 29;have hB:=(Below.refl w.heap.size w).alloc (Nat.le_refl _) (.cells (cwA o A cap gs B kn kc) 29);obtain⟨n,hn0⟩:∃ n,w.heap.size=n:=⟨_,rfl⟩;rw[hn0] at hn hB;have HN:=hid hn;have HB:=hid hB;have HN0:=hid hn0;have HS:=hid fun W=>small_g o W
 unfold cwA at HN HB;unfold obA at HS;clear hn hB;unfold cwA;rw[hn0];go_enter Tryz.func6,Tryz.ntmps6;go_wp2_with fail;generalize (w.alloc (.cells #[.int .i64 o.k,.int .i64 o.wd,.int .i64 o.s,.int .i64 o.c,.int .u32 o.st,.slice o.I o.ni o.ci,.int .i64 o.wr,.slice o.R o.nr o.cr,.slice A gs.length cap,.slice B kn kc] 29))=w1 at HN HB ⊢;clear hn0;have hc:w1.cell? ⟨n,0,none⟩=some (.int .i64 o.k)∧w1.cell? ⟨n,1,none⟩=some (.int .i64 o.wd)∧w1.cell? ⟨n,2,none⟩=some (.int .i64 o.s)∧w1.cell? ⟨n,3,none⟩=some (.int .i64 o.c)∧w1.cell? ⟨n,4,none⟩=some (.int .u32 o.st)∧w1.cell? ⟨n,5,none⟩=some (.slice o.I o.ni o.ci)∧w1.cell? ⟨n,6,none⟩=some (.int .i64 o.wr)∧w1.cell? ⟨n,7,none⟩=some (.slice o.R o.nr o.cr)∧w1.cell? ⟨n,8,none⟩=some (.slice A gs.length cap)∧w1.cell? ⟨n,9,none⟩=some (.slice B kn kc):=(by and_intros <;> exact HN.out.c rfl);obtain⟨c0,c1,c2,c3,c4,c5,c6,c7,c8,c9⟩:=hc;go_wp2_with fail;refine(HS.out _).mono ?_;rintro e w2 ⟨rfl,hb⟩;have HN2:=hid (HN.out.kept hb);have HB2:=hid (HB.out.trans (hb.mono (by have:=HN.out.lt;omega)));clear hb c0 c1 c2 c3 c4 c5 c6 c7 c8 c9;have c8:=HN2.out.at 8 (.slice A gs.length cap);have c9:=HN2.out.at 9 (.slice B kn kc);rw[HD.out];go_wp2_with fail;clear c8 c9 h2 h3 d2 d3
 go_loopw [26] (fun jv wr=>∃ i:Nat,i≤gs.length∧jv=.int .i64 (i:Int)∧(∀ j g,j<i→gs[j]?=some g→okG g)∧Below n w wr) (fun jv _=>gs.length - (intOf jv).toNat)
 case atStart=>exact⟨0,Nat.zero_le _,rfl,fun j g h _=>absurd h (by omega),HB2.out⟩
 case round=>
  obtain⟨i,hi,rfl,hok,hb⟩:=hrel
  by_cases hlt:i<gs.length
  ·have hd:decide ((i:Int)<(gs.length:Int))=true:=decide_eq_true (by omega);obtain⟨g,hg⟩:∃ g,gs[i]?=some g:=⟨_,List.getElem?_eq_getElem hlt⟩;have hin2:=HIN.out.below (by rw[HN0.out];exact hb) (Nat.le_refl _);obtain⟨pb,po,hA,hpb,hcell⟩:=hin2.hd i g hg;have hx:wr.cell? ⟨pb,po+i,none⟩=some (.slice g.A g.ts.length g.c):=by simpa [hdE] using hcell 0 _ rfl
   have i0:(0:Int)≤(i:Int):=by omega
   have i1:(i:Int)<(gs.length:Int):=by omega
   have hwi:IntKind.i64.wrap ((i:Int)+1)=(i:Int)+1:=sh_wrap (by omega) (by have:=HLN.out;omega);have HOK:=hid hok;have HBR:=hid hb;have HG:=hid hg;have HI:=hid hlt;subst hA;clear hok hb hg hlt hi hin2 hcell hpb
   by_cases hgl:20<g.ts.length
   ·have e1:decide (20<g.ts.length)=true:=decide_eq_true hgl;have e1i:decide ((20:Int)<(g.ts.length:Int))=true:=decide_eq_true (by omega);have HR:=hid (show decide (∀ g ∈ gs,okG g)=false from decide_eq_false (fun h=>by have:=(h g (List.mem_of_getElem? HG.out)).1;omega));clear hgl;go_wp2_with fail;go_ret;exact⟨by rw[HR.out];rfl,HBR.out⟩
   ·have e1:decide (20<g.ts.length)=false:=decide_eq_false hgl;have e1i:decide ((20:Int)<(g.ts.length:Int))=false:=decide_eq_false (by omega);have HGL:=hid (show g.ts.length≤20 by omega);clear hgl;go_wp2_with fail
    go_loopw [35] (fun jv wq=>∃ q:Nat,q≤g.ts.length∧jv=.int .i64 (q:Int)∧(∀ j t,j<q→g.ts[j]?=some t→t.r.length≤100)∧Below n w wq) (fun jv _=>g.ts.length - (intOf jv).toNat)
    case atStart=>exact⟨0,Nat.zero_le _,rfl,fun j g h _=>absurd h (by omega),HBR.out⟩
    case round=>
     clear hx e1 e1i i0 i1;obtain⟨q,hq,rfl,hok,hb⟩:=hrel
     by_cases hlt:q<g.ts.length
     ·have hd:decide ((q:Int)<(g.ts.length:Int))=true:=decide_eq_true (by omega);obtain⟨t,ht⟩:∃ t,g.ts[q]?=some t:=⟨_,List.getElem?_eq_getElem hlt⟩;have hin2:=HIN.out.below (by rw[HN0.out];exact hb) (Nat.le_refl _);obtain⟨tb,tf,hA,htb,hcell⟩:=hin2.sl g (List.mem_of_getElem? HG.out) q t ht;have hx0:wr.cell? ⟨tb,tf+q*2,none⟩=some (.int .i64 t.op):=by simpa [tvE,TV.cells,Nat.add_assoc] using hcell 0 _ rfl
      have hx1:wr.cell? ⟨tb,tf+q*2+1,none⟩=some (.slice t.A t.r.length t.c):=by simpa [tvE,TV.cells,Nat.add_assoc] using hcell 1 _ rfl
      have q0:(0:Int)≤(q:Int):=by omega
      have q1:(q:Int)<(g.ts.length:Int):=by omega
      have hwq:IntKind.i64.wrap ((q:Int)+1)=(q:Int)+1:=sh_wrap (by omega) (by have:=HGL.out;omega);have hba:=hb.alloc (by rw[← HN0.out];exact hb.size) (.cells #[.int .i64 t.op,.slice t.A t.r.length t.c] 45);have HOQ:=hid hok;have HBQ:=hid hba;have HT:=hid ht;have HQ:=hid hlt;rw[hA];clear hok hb hba ht hlt hq hin2 hcell htb hA
      by_cases htl:100<t.r.length
      ·have e2:decide (100<t.r.length)=true:=decide_eq_true htl;have e2i:decide ((100:Int)<(t.r.length:Int))=true:=decide_eq_true (by omega);have HR:=hid (show decide (∀ g ∈ gs,okG g)=false from decide_eq_false (fun h=>by have:=(h g (List.mem_of_getElem? HG.out)).2 t (List.mem_of_getElem? HT.out);omega));clear htl;go_wp2_with fail;go_ret;exact⟨by rw[HR.out];rfl,HBQ.out⟩
      ·have e2:decide (100<t.r.length)=false:=decide_eq_false htl;have e2i:decide ((100:Int)<(t.r.length:Int))=false:=decide_eq_false (by omega);have HTL:=hid (show t.r.length≤100 by omega);clear htl;go_wp2_with fail;go_roundw
       case rel=>exact⟨q+1,by have:=HQ.out;omega,by go_num,fun j u hj hu=>by
        rcases Nat.lt_or_ge j q with h | h
        ·exact HOQ.out j u h hu
        ·obtain rfl:j=q:=by omega
         rw[HT.out] at hu;cases hu;exact HTL.out,HBQ.out⟩
       case measure=>have:=HQ.out;simp[intOf];omega
     ·have hd:decide ((q:Int)<(g.ts.length:Int))=false:=decide_eq_false (by omega);obtain rfl:q=g.ts.length:=by omega
      have HF:=hid (And.intro hok hb);clear hok hb hlt hq;go_wp2_with fail;go_roundw
      case rel=>exact⟨i+1,by have:=HI.out;omega,by go_num,fun j u hj hu=>by
       rcases Nat.lt_or_ge j i with h | h
       ·exact HOK.out j u h hu
       ·obtain rfl:j=i:=by omega
        rw[HG.out] at hu;cases hu
        exact⟨HGL.out,fun t ht=>by
         obtain⟨m,hm⟩:=List.getElem?_of_mem ht;exact HF.out.1 m t (List.getElem?_eq_some_iff.1 hm).1 hm⟩,HF.out.2⟩
      case measure=>have:=HI.out;simp[intOf];omega
  ·have hd:decide ((i:Int)<(gs.length:Int))=false:=decide_eq_false (by omega);obtain rfl:i=gs.length:=by omega
   have HR:=hid (show decide (∀ g ∈ gs,okG g)=true from decide_eq_true (fun g hg=>by
    obtain⟨m,hm⟩:=List.getElem?_of_mem hg;exact hok m g (List.getElem?_eq_some_iff.1 hm).1 hm))
   have HBR:=hid hb;clear hok hb hlt hi;go_wp2_with fail;go_ret;exact⟨by rw[HR.out];rfl,HBR.out⟩
theorem wlight_g (o:Ob) (A B:Option Addr) (cap kn kc:Nat) (gs:List PG) (w:World) (hin:ProcsIn w w.heap.size A gs):Calls Tryz.prog 6 #[.agg (cwA o A cap gs B kn kc)] w fun e w'=>e=.returned (.bool (decide (lightW o gs kn)))∧Below w.heap.size w w':=by
 by_cases h1:smallB o
 ·by_cases h2:gs.length≤20
  ·by_cases h3:kn≤400
   ·rw[show decide (lightW o gs kn)=decide (∀ g ∈ gs,okG g) from decide_eq_decide.2 ⟨fun h=>h.2.2.2,fun h=>⟨h1,h2,h3,h⟩⟩];exact wlight_4 o A B cap kn kc gs w hin (decide_eq_true h1) (decide_eq_false (by omega)) (decide_eq_false (by omega))
   ·rw[show decide (lightW o gs kn)=false from decide_eq_false (fun h=>h3 h.2.2.1)];exact wlight_3 o A B cap kn kc gs w (decide_eq_true h1) (decide_eq_false (by omega)) (decide_eq_true (by omega))
  ·rw[show decide (lightW o gs kn)=false from decide_eq_false (fun h=>h2 h.2.1)];exact wlight_2 o A B cap kn kc gs w (decide_eq_true h1) (decide_eq_true (by omega))
 ·rw[show decide (lightW o gs kn)=false from decide_eq_false (fun h=>h1 h.1)];exact wlight_1 o A B cap kn kc gs w (decide_eq_false h1)
end Go.Proofs.YtolmpehgeinlkaaGreatDoor

namespace Go.Proofs.YtolmpehgeinlkaaGreatDoor
open Go.RowKit
open Go.Lib (hid)
attribute [local go_sem] Oper.semAt_some
set_option maxHeartbeats 1000000
set_option maxRecDepth 100000
def oE (b:Nat):Ob:=⟨6,1,1,0,0,none,0,0,0,some ⟨b,0,none⟩,1,1⟩
theorem oE_ok (b:Nat):(oE b).Ok:=⟨by simp[oE],by simp[oE],by simp[oE],by simp[oE]⟩
def lsE:List (List Td):=[[⟨3,[7]⟩],[⟨4,[]⟩]]
def ksE8:List Int:=[0,0,0,0,1,1,1,1]
theorem exE_fault (b:Nat):faultP (oE b) lsE=0:=by kernel_rfl
theorem exE_calls (b:Nat):(Lm.run (bgO (oE b)) Kc.step (lm0 lsE (layZ (oE b) [])) ksE8).calls=[⟨0,0,3,[7],0,0,3⟩,⟨1,0,4,[7],0,4,7⟩]:=by kernel_rfl
def gsE (n:Nat):List PG:=[⟨some ⟨n+3,0,none⟩,1,[⟨3,some ⟨n+2,0,none⟩,1,[7]⟩],none,0⟩,⟨some ⟨n+4,0,none⟩,1,[⟨4,none,0,[]⟩],none,0⟩]
theorem gsE_tds (n:Nat):tds (gsE n)=lsE:=rfl
structure Ex (n:Nat) (w W:World):Prop where
 bel:Below n w W
 size:W.heap.size=n+7
 b0:RowB W n #[.int .i64 1] 3
 b1:RowB W (n+1) (obA (oE n)) 26
 b2:RowB W (n+2) #[.int .u32 7] 22
 b3:RowB W (n+3) #[.int .i64 3,.slice (some ⟨n+2,0,none⟩) 1 1] 45
 b4:RowB W (n+4) #[.int .i64 4,.slice none 0 0] 45
 b5:RowB W (n+5) #[.slice (some ⟨n+3,0,none⟩) 1 1,.slice (some ⟨n+4,0,none⟩) 1 1] 43
 b6:RowB W (n+6) #[.int .i64 0,.int .i64 0,.int .i64 0,.int .i64 0,.int .i64 1,.int .i64 1,.int .i64 1,.int .i64 1] 3
theorem ex_of (w:World) (n:Nat) (hn:w.heap.size=n):Ex n w (((((((w.alloc (.cells #[.int .i64 1] 3)).alloc (.cells (obA (oE n)) 26)).alloc (.cells #[.int .u32 7] 22)).alloc (.cells #[.int .i64 3,.slice (some ⟨n+2,0,none⟩) 1 1] 45)).alloc (.cells #[.int .i64 4,.slice none 0 0] 45)).alloc (.cells #[.slice (some ⟨n+3,0,none⟩) 1 1,.slice (some ⟨n+4,0,none⟩) 1 1] 43)).alloc (.cells #[.int .i64 0,.int .i64 0,.int .i64 0,.int .i64 0,.int .i64 1,.int .i64 1,.int .i64 1,.int .i64 1] 3)):=by
 subst hn;have hb0:=Below.refl w.heap.size w;have hb1:=hb0.alloc hb0.size (.cells #[.int .i64 1] 3);have hb2:=hb1.alloc hb1.size (.cells (obA (oE w.heap.size)) 26);have hb3:=hb2.alloc hb2.size (.cells #[.int .u32 7] 22);have hb4:=hb3.alloc hb3.size (.cells #[.int .i64 3,.slice (some ⟨w.heap.size+2,0,none⟩) 1 1] 45);have hb5:=hb4.alloc hb4.size (.cells #[.int .i64 4,.slice none 0 0] 45);have hb6:=hb5.alloc hb5.size (.cells #[.slice (some ⟨w.heap.size+3,0,none⟩) 1 1,.slice (some ⟨w.heap.size+4,0,none⟩) 1 1] 43);have hb7:=hb6.alloc hb6.size (.cells #[.int .i64 0,.int .i64 0,.int .i64 0,.int .i64 0,.int .i64 1,.int .i64 1,.int .i64 1,.int .i64 1] 3);have r0:=RowB.new w #[.int .i64 1] 3;have r1:=RowB.new (w.alloc (.cells #[.int .i64 1] 3)) (obA (oE w.heap.size)) 26;simp only[World.size_alloc] at r1;have r2:=RowB.new ((w.alloc (.cells #[.int .i64 1] 3)).alloc (.cells (obA (oE w.heap.size)) 26)) #[.int .u32 7] 22;simp only[World.size_alloc] at r2;have r3:=RowB.new (((w.alloc (.cells #[.int .i64 1] 3)).alloc (.cells (obA (oE w.heap.size)) 26)).alloc (.cells #[.int .u32 7] 22)) #[.int .i64 3,.slice (some ⟨w.heap.size+2,0,none⟩) 1 1] 45;simp only[World.size_alloc] at r3;have r4:=RowB.new ((((w.alloc (.cells #[.int .i64 1] 3)).alloc (.cells (obA (oE w.heap.size)) 26)).alloc (.cells #[.int .u32 7] 22)).alloc (.cells #[.int .i64 3,.slice (some ⟨w.heap.size+2,0,none⟩) 1 1] 45)) #[.int .i64 4,.slice none 0 0] 45;simp only[World.size_alloc] at r4;have r5:=RowB.new (((((w.alloc (.cells #[.int .i64 1] 3)).alloc (.cells (obA (oE w.heap.size)) 26)).alloc (.cells #[.int .u32 7] 22)).alloc (.cells #[.int .i64 3,.slice (some ⟨w.heap.size+2,0,none⟩) 1 1] 45)).alloc (.cells #[.int .i64 4,.slice none 0 0] 45)) #[.slice (some ⟨w.heap.size+3,0,none⟩) 1 1,.slice (some ⟨w.heap.size+4,0,none⟩) 1 1] 43;simp only[World.size_alloc] at r5;have r6:=RowB.new ((((((w.alloc (.cells #[.int .i64 1] 3)).alloc (.cells (obA (oE w.heap.size)) 26)).alloc (.cells #[.int .u32 7] 22)).alloc (.cells #[.int .i64 3,.slice (some ⟨w.heap.size+2,0,none⟩) 1 1] 45)).alloc (.cells #[.int .i64 4,.slice none 0 0] 45)).alloc (.cells #[.slice (some ⟨w.heap.size+3,0,none⟩) 1 1,.slice (some ⟨w.heap.size+4,0,none⟩) 1 1] 43)) #[.int .i64 0,.int .i64 0,.int .i64 0,.int .i64 0,.int .i64 1,.int .i64 1,.int .i64 1,.int .i64 1] 3;simp only[World.size_alloc] at r6;refine⟨hb7,by simp only[World.size_alloc],?_,?_,?_,?_,?_,?_,?_⟩
 ·exact((((((r0.kept ((Below.refl _ (w.alloc (.cells #[.int .i64 1] 3))).alloc (Nat.le_refl _) (.cells (obA (oE w.heap.size)) 26))).kept ((Below.refl _ ((w.alloc (.cells #[.int .i64 1] 3)).alloc (.cells (obA (oE w.heap.size)) 26))).alloc (Nat.le_refl _) (.cells #[.int .u32 7] 22))).kept ((Below.refl _ (((w.alloc (.cells #[.int .i64 1] 3)).alloc (.cells (obA (oE w.heap.size)) 26)).alloc (.cells #[.int .u32 7] 22))).alloc (Nat.le_refl _) (.cells #[.int .i64 3,.slice (some ⟨w.heap.size+2,0,none⟩) 1 1] 45))).kept ((Below.refl _ ((((w.alloc (.cells #[.int .i64 1] 3)).alloc (.cells (obA (oE w.heap.size)) 26)).alloc (.cells #[.int .u32 7] 22)).alloc (.cells #[.int .i64 3,.slice (some ⟨w.heap.size+2,0,none⟩) 1 1] 45))).alloc (Nat.le_refl _) (.cells #[.int .i64 4,.slice none 0 0] 45))).kept ((Below.refl _ (((((w.alloc (.cells #[.int .i64 1] 3)).alloc (.cells (obA (oE w.heap.size)) 26)).alloc (.cells #[.int .u32 7] 22)).alloc (.cells #[.int .i64 3,.slice (some ⟨w.heap.size+2,0,none⟩) 1 1] 45)).alloc (.cells #[.int .i64 4,.slice none 0 0] 45))).alloc (Nat.le_refl _) (.cells #[.slice (some ⟨w.heap.size+3,0,none⟩) 1 1,.slice (some ⟨w.heap.size+4,0,none⟩) 1 1] 43))).kept ((Below.refl _ ((((((w.alloc (.cells #[.int .i64 1] 3)).alloc (.cells (obA (oE w.heap.size)) 26)).alloc (.cells #[.int .u32 7] 22)).alloc (.cells #[.int .i64 3,.slice (some ⟨w.heap.size+2,0,none⟩) 1 1] 45)).alloc (.cells #[.int .i64 4,.slice none 0 0] 45)).alloc (.cells #[.slice (some ⟨w.heap.size+3,0,none⟩) 1 1,.slice (some ⟨w.heap.size+4,0,none⟩) 1 1] 43))).alloc (Nat.le_refl _) (.cells #[.int .i64 0,.int .i64 0,.int .i64 0,.int .i64 0,.int .i64 1,.int .i64 1,.int .i64 1,.int .i64 1] 3)))
 ·exact(((((r1.kept ((Below.refl _ ((w.alloc (.cells #[.int .i64 1] 3)).alloc (.cells (obA (oE w.heap.size)) 26))).alloc (Nat.le_refl _) (.cells #[.int .u32 7] 22))).kept ((Below.refl _ (((w.alloc (.cells #[.int .i64 1] 3)).alloc (.cells (obA (oE w.heap.size)) 26)).alloc (.cells #[.int .u32 7] 22))).alloc (Nat.le_refl _) (.cells #[.int .i64 3,.slice (some ⟨w.heap.size+2,0,none⟩) 1 1] 45))).kept ((Below.refl _ ((((w.alloc (.cells #[.int .i64 1] 3)).alloc (.cells (obA (oE w.heap.size)) 26)).alloc (.cells #[.int .u32 7] 22)).alloc (.cells #[.int .i64 3,.slice (some ⟨w.heap.size+2,0,none⟩) 1 1] 45))).alloc (Nat.le_refl _) (.cells #[.int .i64 4,.slice none 0 0] 45))).kept ((Below.refl _ (((((w.alloc (.cells #[.int .i64 1] 3)).alloc (.cells (obA (oE w.heap.size)) 26)).alloc (.cells #[.int .u32 7] 22)).alloc (.cells #[.int .i64 3,.slice (some ⟨w.heap.size+2,0,none⟩) 1 1] 45)).alloc (.cells #[.int .i64 4,.slice none 0 0] 45))).alloc (Nat.le_refl _) (.cells #[.slice (some ⟨w.heap.size+3,0,none⟩) 1 1,.slice (some ⟨w.heap.size+4,0,none⟩) 1 1] 43))).kept ((Below.refl _ ((((((w.alloc (.cells #[.int .i64 1] 3)).alloc (.cells (obA (oE w.heap.size)) 26)).alloc (.cells #[.int .u32 7] 22)).alloc (.cells #[.int .i64 3,.slice (some ⟨w.heap.size+2,0,none⟩) 1 1] 45)).alloc (.cells #[.int .i64 4,.slice none 0 0] 45)).alloc (.cells #[.slice (some ⟨w.heap.size+3,0,none⟩) 1 1,.slice (some ⟨w.heap.size+4,0,none⟩) 1 1] 43))).alloc (Nat.le_refl _) (.cells #[.int .i64 0,.int .i64 0,.int .i64 0,.int .i64 0,.int .i64 1,.int .i64 1,.int .i64 1,.int .i64 1] 3)))
 ·exact((((r2.kept ((Below.refl _ (((w.alloc (.cells #[.int .i64 1] 3)).alloc (.cells (obA (oE w.heap.size)) 26)).alloc (.cells #[.int .u32 7] 22))).alloc (Nat.le_refl _) (.cells #[.int .i64 3,.slice (some ⟨w.heap.size+2,0,none⟩) 1 1] 45))).kept ((Below.refl _ ((((w.alloc (.cells #[.int .i64 1] 3)).alloc (.cells (obA (oE w.heap.size)) 26)).alloc (.cells #[.int .u32 7] 22)).alloc (.cells #[.int .i64 3,.slice (some ⟨w.heap.size+2,0,none⟩) 1 1] 45))).alloc (Nat.le_refl _) (.cells #[.int .i64 4,.slice none 0 0] 45))).kept ((Below.refl _ (((((w.alloc (.cells #[.int .i64 1] 3)).alloc (.cells (obA (oE w.heap.size)) 26)).alloc (.cells #[.int .u32 7] 22)).alloc (.cells #[.int .i64 3,.slice (some ⟨w.heap.size+2,0,none⟩) 1 1] 45)).alloc (.cells #[.int .i64 4,.slice none 0 0] 45))).alloc (Nat.le_refl _) (.cells #[.slice (some ⟨w.heap.size+3,0,none⟩) 1 1,.slice (some ⟨w.heap.size+4,0,none⟩) 1 1] 43))).kept ((Below.refl _ ((((((w.alloc (.cells #[.int .i64 1] 3)).alloc (.cells (obA (oE w.heap.size)) 26)).alloc (.cells #[.int .u32 7] 22)).alloc (.cells #[.int .i64 3,.slice (some ⟨w.heap.size+2,0,none⟩) 1 1] 45)).alloc (.cells #[.int .i64 4,.slice none 0 0] 45)).alloc (.cells #[.slice (some ⟨w.heap.size+3,0,none⟩) 1 1,.slice (some ⟨w.heap.size+4,0,none⟩) 1 1] 43))).alloc (Nat.le_refl _) (.cells #[.int .i64 0,.int .i64 0,.int .i64 0,.int .i64 0,.int .i64 1,.int .i64 1,.int .i64 1,.int .i64 1] 3)))
 ·exact(((r3.kept ((Below.refl _ ((((w.alloc (.cells #[.int .i64 1] 3)).alloc (.cells (obA (oE w.heap.size)) 26)).alloc (.cells #[.int .u32 7] 22)).alloc (.cells #[.int .i64 3,.slice (some ⟨w.heap.size+2,0,none⟩) 1 1] 45))).alloc (Nat.le_refl _) (.cells #[.int .i64 4,.slice none 0 0] 45))).kept ((Below.refl _ (((((w.alloc (.cells #[.int .i64 1] 3)).alloc (.cells (obA (oE w.heap.size)) 26)).alloc (.cells #[.int .u32 7] 22)).alloc (.cells #[.int .i64 3,.slice (some ⟨w.heap.size+2,0,none⟩) 1 1] 45)).alloc (.cells #[.int .i64 4,.slice none 0 0] 45))).alloc (Nat.le_refl _) (.cells #[.slice (some ⟨w.heap.size+3,0,none⟩) 1 1,.slice (some ⟨w.heap.size+4,0,none⟩) 1 1] 43))).kept ((Below.refl _ ((((((w.alloc (.cells #[.int .i64 1] 3)).alloc (.cells (obA (oE w.heap.size)) 26)).alloc (.cells #[.int .u32 7] 22)).alloc (.cells #[.int .i64 3,.slice (some ⟨w.heap.size+2,0,none⟩) 1 1] 45)).alloc (.cells #[.int .i64 4,.slice none 0 0] 45)).alloc (.cells #[.slice (some ⟨w.heap.size+3,0,none⟩) 1 1,.slice (some ⟨w.heap.size+4,0,none⟩) 1 1] 43))).alloc (Nat.le_refl _) (.cells #[.int .i64 0,.int .i64 0,.int .i64 0,.int .i64 0,.int .i64 1,.int .i64 1,.int .i64 1,.int .i64 1] 3)))
 ·exact((r4.kept ((Below.refl _ (((((w.alloc (.cells #[.int .i64 1] 3)).alloc (.cells (obA (oE w.heap.size)) 26)).alloc (.cells #[.int .u32 7] 22)).alloc (.cells #[.int .i64 3,.slice (some ⟨w.heap.size+2,0,none⟩) 1 1] 45)).alloc (.cells #[.int .i64 4,.slice none 0 0] 45))).alloc (Nat.le_refl _) (.cells #[.slice (some ⟨w.heap.size+3,0,none⟩) 1 1,.slice (some ⟨w.heap.size+4,0,none⟩) 1 1] 43))).kept ((Below.refl _ ((((((w.alloc (.cells #[.int .i64 1] 3)).alloc (.cells (obA (oE w.heap.size)) 26)).alloc (.cells #[.int .u32 7] 22)).alloc (.cells #[.int .i64 3,.slice (some ⟨w.heap.size+2,0,none⟩) 1 1] 45)).alloc (.cells #[.int .i64 4,.slice none 0 0] 45)).alloc (.cells #[.slice (some ⟨w.heap.size+3,0,none⟩) 1 1,.slice (some ⟨w.heap.size+4,0,none⟩) 1 1] 43))).alloc (Nat.le_refl _) (.cells #[.int .i64 0,.int .i64 0,.int .i64 0,.int .i64 0,.int .i64 1,.int .i64 1,.int .i64 1,.int .i64 1] 3)))
 ·exact(r5.kept ((Below.refl _ ((((((w.alloc (.cells #[.int .i64 1] 3)).alloc (.cells (obA (oE w.heap.size)) 26)).alloc (.cells #[.int .u32 7] 22)).alloc (.cells #[.int .i64 3,.slice (some ⟨w.heap.size+2,0,none⟩) 1 1] 45)).alloc (.cells #[.int .i64 4,.slice none 0 0] 45)).alloc (.cells #[.slice (some ⟨w.heap.size+3,0,none⟩) 1 1,.slice (some ⟨w.heap.size+4,0,none⟩) 1 1] 43))).alloc (Nat.le_refl _) (.cells #[.int .i64 0,.int .i64 0,.int .i64 0,.int .i64 0,.int .i64 1,.int .i64 1,.int .i64 1,.int .i64 1] 3)))
 ·exact r6
theorem own_rowB {α:Type} {E:Enc α} {t:TypeId} {w:World} {g:Nat} {arr:Array Value} {l:List α} (h:RowB w g arr t) (ha:arr.toList=E.all l) (hl:l.length≤1000) (_hs:E.size≤1000):Own E t 0 w (.slice (some ⟨g,0,none⟩) l.length l.length) l:=by
 have h1:=E.all_len l;have hm:l.length≤maxLen:=by unfold maxLen;omega
 unfold Own;refine⟨h1,.inr ⟨g,l.length,arr,rfl,Nat.zero_le _,h,Nat.le_refl _,hm,?_,?_⟩⟩
 ·rw[← h1,← ha];simp
 ·rw[ha];exact List.take_of_length_le (by rw[h1];exact Nat.le_refl _)
theorem ex_in {n:Nat} {w W:World} (h:Ex n w W):ProcsIn W W.heap.size (some ⟨n+5,0,none⟩) (gsE n):=by
 have h5:=own_rowB (E:=hdE) (l:=gsE n) h.b5 rfl (by show 2≤1000;omega) (by show 1≤1000;omega);have h3:=own_rowB (E:=tvE) (l:=[⟨3,some ⟨n+2,0,none⟩,1,[7]⟩]) h.b3 rfl (by show 1≤1000;omega) (by show 2≤1000;omega);have h4:=own_rowB (E:=tvE) (l:=[⟨4,none,0,[]⟩]) h.b4 rfl (by show 1≤1000;omega) (by show 2≤1000;omega);have h2:=own_rowB (E:=ints .u32) (l:=[7]) h.b2 rfl (by show 1≤1000;omega) (by show 1≤1000;omega);obtain⟨_,_,e5,_,_,s5⟩:=h5.sl;obtain⟨_,_,e3,_,_,s3⟩:=h3.sl;obtain⟨_,_,e4,_,_,s4⟩:=h4.sl;obtain⟨_,_,e2,_,_,s2⟩:=h2.sl;cases e5;cases e3;cases e4;cases e2;refine⟨s5,fun g hg=>?_,fun g hg=>?_,fun g hg t ht=>?_⟩
 ·simp only[gsE,List.mem_cons,List.not_mem_nil,or_false] at hg
  rcases hg with rfl | rfl
  ·exact s3
  ·exact s4
 ·simp only[gsE,List.mem_cons,List.not_mem_nil,or_false] at hg
  rcases hg with rfl | rfl <;> exact Nat.le_refl _
 ·simp only[gsE,List.mem_cons,List.not_mem_nil,or_false] at hg
  rcases hg with rfl | rfl
  ·obtain rfl:=List.mem_singleton.1 ht;exact⟨s2,fun z hz=>by obtain rfl:=List.mem_singleton.1 hz;rfl⟩
  ·obtain rfl:=List.mem_singleton.1 ht;exact⟨fun k x hk=>(by cases hk),fun z hz=>(by cases hz)⟩
theorem map_two {es:List CV} {a b:Cl} (h:es.map (·.x)=[a,b]):∃ x y,es=[x,y]∧x.x=a∧y.x=b:=by
 match es,h with
 | [x,y],h=>
  simp only[List.map_cons,List.map_nil,List.cons.injEq,and_true] at h;exact⟨x,y,rfl,h.1,h.2⟩
theorem wawake (w:World) (hT:Tab64 w) (hG:(0:Nat)<w.heap.size):Calls Tryz.prog 7 #[] w fun e w'=>e=.returned (.bool true)∧Below w.heap.size w w':=by
 obtain⟨n,hn⟩:∃ n,w.heap.size=n:=⟨_,rfl⟩
 have hr:∀ W,Ex n w W→Calls Tryz.prog 8 #[.agg (obA (oE n)),.slice (some ⟨n+5,0,none⟩) 2 2,.slice (some ⟨n+6,0,none⟩) 8 8] W (WRunR (oE n) (gsE n) (layZ (oE n) []) ksE8 W):=fun W hE=>by
  have h6:=own_rowB (E:=ints .i64) (l:=ksE8) hE.b6 rfl (by show 8≤1000;omega) (by show 1≤1000;omega);obtain⟨_,_,e6,_,_,s6⟩:=h6.sl;cases e6;refine wRun_2 (oE n) (oE_ok n) (some ⟨n+5,0,none⟩) (some ⟨n+6,0,none⟩) 2 8 (gsE n) [] ksE8 W (ex_in hE) (by show 2≤1000;omega) (fun g hg=>?_) (fun g hg t ht=>?_) (exE_fault n) rfl ⟨fun k x hk=>(by cases hk),fun z hz=>(by cases hz)⟩ s6 (by show 8≤1000;omega) (fun j hj=>(hE.bel.cell (p:=⟨_,j,none⟩) (by rw[← hn];exact hG)).trans (hT j hj)) (by have h1:=hE.size;omega)
  ·simp only[gsE,List.mem_cons,List.not_mem_nil,or_false] at hg
   rcases hg with rfl | rfl <;> (show 1≤1000;omega)
  ·simp only[gsE,List.mem_cons,List.not_mem_nil,or_false] at hg
   rcases hg with rfl | rfl
   ·obtain rfl:=List.mem_singleton.1 ht;show 1≤1000;omega
   ·obtain rfl:=List.mem_singleton.1 ht;show 0≤1000;omega
 have HE:=hid (ex_of w n hn);unfold oE obA at HE hr;dsimp only at HE hr;have HR:=hid hr;have HN:=hid hn;clear hr hT hG;rw[hn];go_enter Tryz.func7,Tryz.ntmps7;go_wp2_with fail;refine(HR.out _ HE.out).mono ?_;rintro e w1 ⟨A,c,es,rfl,_,hx,hsl,hws,hb⟩;rw[gsE_tds,show(⟨6,1,1,0,0,none,0,0,0,some ⟨n,0,none⟩,1,1⟩:Ob)=oE n from rfl,exE_calls] at hx;obtain⟨e0,e1,rfl,h0,h1⟩:=map_two hx;obtain⟨b,off,hA,_,g0⟩:=hsl 0 e0 rfl;obtain⟨b2,off2,hA2,_,g1⟩:=hsl 1 e1 rfl;rw[hA] at hA2;cases hA2;subst hA;have z0:w1.cell? ⟨b,off+6,none⟩=some (.int .i64 3):=by have:=g0 6 _ rfl;rw[h0] at this;simpa [cvE] using this
 have y0:w1.cell? ⟨b,off+7,none⟩=some (.int .i64 1):=by have:=g1 0 _ rfl;rw[h1] at this;simpa [cvE] using this
 have y1:w1.cell? ⟨b,off+8,none⟩=some (.int .i64 0):=by have:=g1 1 _ rfl;rw[h1] at this;simpa [cvE] using this
 have y2:w1.cell? ⟨b,off+9,none⟩=some (.int .i64 4):=by have:=g1 2 _ rfl;rw[h1] at this;simpa [cvE] using this
 have y3:w1.cell? ⟨b,off+10,none⟩=some (.slice e1.A 1 e1.c):=by have:=g1 3 _ rfl;rw[h1] at this;simpa [cvE] using this
 have y4:w1.cell? ⟨b,off+11,none⟩=some (.int .i64 0):=by have:=g1 4 _ rfl;rw[h1] at this;simpa [cvE] using this
 have y5:w1.cell? ⟨b,off+12,none⟩=some (.int .i64 4):=by have:=g1 5 _ rfl;rw[h1] at this;simpa [cvE] using this
 have y6:w1.cell? ⟨b,off+13,none⟩=some (.int .i64 7):=by have:=g1 6 _ rfl;rw[h1] at this;simpa [cvE] using this
 have hwe:=hws e1 (List.mem_cons_of_mem _ List.mem_cons_self);rw[h1] at hwe;have hba:=(Below.refl w1.heap.size w1).alloc (Nat.le_refl _) (.cells #[.int .u32 7] 22);have hn7:=own_rowB (E:=ints .u32) (l:=[7]) (RowB.new w1 #[.int .u32 7] 22) rfl (by show 1≤1000;omega) (by show 1≤1000;omega);obtain⟨_,_,e7,_,_,s7⟩:=hn7.sl;cases e7;have HP:=hid (pcall_eq ⟨1,0,4,[7],0,4,7⟩ e1.A (some ⟨w1.heap.size,0,none⟩) e1.c 1 (w1.alloc (.cells #[.int .u32 7] 22)) (by show 1≤_;omega) (hwe.below hba hba.size) ⟨s7,fun z hz=>by obtain rfl:=List.mem_singleton.1 hz;rfl⟩);have HB:=hid ((HE.out.bel.trans (hb.mono (by have:=HE.out.size;omega))).trans (hba.mono (by have h1:=HE.out.size;have h2:=hb.size;omega)));clear hx g0 g1 hsl hws hb hwe hba hn7 s7 h0 h1 HR;go_wp2_with (go_at_call 17;refine HP.out.mono ?_;rintro e w2 ⟨rfl,hb2⟩);go_ret;exact⟨rfl,HB.out.trans (hb2.mono (by rw[← HN.out];exact HB.out.size))⟩
end Go.Proofs.YtolmpehgeinlkaaGreatDoor
