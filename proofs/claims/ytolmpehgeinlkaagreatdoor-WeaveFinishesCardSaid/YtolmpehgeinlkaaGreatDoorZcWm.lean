/- awake: the chapter's example. -/
import Derived.Test.YtolmpehgeinlkaaGreatDoorZcWu
namespace Go.Proofs.YtolmpehgeinlkaaGreatDoor
open Go.RowKit
open Go.Lib (hid)
attribute [local go_sem] Oper.semAt_some
set_option maxHeartbeats 1000000
set_option maxRecDepth 100000
abbrev CF (a0 a1 a2:Nat) (a3:CV) (a4 a5:Nat) (a6:CV) (w':World):Prop:=w'.cell? ⟨a0,a1+a2*7,none⟩=some (.int .i64 a3.x.p)∧w'.cell? ⟨a0,a1+a2*7+1,none⟩=some (.int .i64 a3.x.o)∧w'.cell? ⟨a0,a1+a2*7+2,none⟩=some (.int .i64 a3.x.q)∧w'.cell? ⟨a0,a1+a2*7+3,none⟩=some (.slice a3.A a3.x.r.length a3.c)∧w'.cell? ⟨a0,a1+a2*7+4,none⟩=some (.int .i64 a3.x.c)∧w'.cell? ⟨a0,a1+a2*7+5,none⟩=some (.int .i64 a3.x.b)∧w'.cell? ⟨a0,a1+a2*7+6,none⟩=some (.int .i64 a3.x.e)∧w'.cell? ⟨a4,a5+a2*7,none⟩=some (.int .i64 a6.x.p)∧w'.cell? ⟨a4,a5+a2*7+1,none⟩=some (.int .i64 a6.x.o)∧w'.cell? ⟨a4,a5+a2*7+2,none⟩=some (.int .i64 a6.x.q)∧w'.cell? ⟨a4,a5+a2*7+3,none⟩=some (.slice a6.A a6.x.r.length a6.c)∧w'.cell? ⟨a4,a5+a2*7+4,none⟩=some (.int .i64 a6.x.c)∧w'.cell? ⟨a4,a5+a2*7+5,none⟩=some (.int .i64 a6.x.b)∧w'.cell? ⟨a4,a5+a2*7+6,none⟩=some (.int .i64 a6.x.e)
theorem rD {B:Nat} {a w:World} (h:Below B a w):∀ n:Nat,Below B a (w.drewN n)
 | _=>⟨h.os,h.tape,h.output,h.size,h.block⟩
theorem zI (A A':Option Addr) (c c':Nat) (l:List Int) (w:World) (hn:l.length≤9223372036854775807) (hl:Ws w w.heap.size A l) (LH:Ws w w.heap.size A' l):
  Calls Tryz.prog 29 #[.slice A l.length c,.slice A' l.length c'] w fun e w'=>e=.returned (.bool true)∧Below w.heap.size w w':=by
 go_enter Tryz.func29,Tryz.ntmps29;go_wp2
 go_loopw [5,13] (fun i j wr=>∃ k:Nat,k≤l.length∧j=.int .i64 k∧Below w.heap.size w wr) (fun _ j _=>l.length - (intOf j).toNat)
 case atStart=>exact⟨0,Nat.zero_le _,rfl,Below.refl _ _⟩
 case round=>
  obtain⟨k,hk,rfl,hb⟩:=hrel
  by_cases aZ:k<l.length
  ·obtain⟨x,hx⟩:=eF aZ;obtain⟨⟨_,_,_⟩,b,off,rfl,CO,h0⟩:=(hl.below hb (Nat.le_refl _)).get hx;obtain⟨⟨_,_,_⟩,b2,off2,rfl,Md,h1⟩:=(LH.below hb (Nat.le_refl _)).get hx;have N5:=hid hx;clear hx;go_wp2
   go_quiet (fail)
   go_wp2;go_roundw
   case rel=>exact⟨k+1,by omega,by go_num,rD hb _⟩
   case measure=>simp[intOf];omega
  ·obtain rfl:k=l.length:=by omega
   go_wp2;go_ret;exact⟨rfl,hb⟩
theorem qz (x:Cl) (A A':Option Addr) (c c':Nat) (w:World) (lx:x.r.length≤9223372036854775807) (hx:Ws w w.heap.size A x.r) (hy:Ws w w.heap.size A' x.r):
  Calls Tryz.prog 17 #[.agg #[.int .i64 x.p,.int .i64 x.o,.int .i64 x.q,.slice A x.r.length c,.int .i64 x.c,.int .i64 x.b,.int .i64 x.e],.agg #[.int .i64 x.p,.int .i64 x.o,.int .i64 x.q,.slice A' x.r.length c',.int .i64 x.c,.int .i64 x.b,.int .i64 x.e]] w fun r w'=>r=.returned (.bool true)∧Below w.heap.size w w':=by
 obtain⟨p,o,q,r,cc,b,e⟩:=x;dsimp only at lx hx hy ⊢;have hB:=(bt w (.cells #[.int .i64 p,.int .i64 o,.int .i64 q,.slice A r.length c,.int .i64 cc,.int .i64 b,.int .i64 e] 40)).alloc (by simp) (.cells #[.int .i64 p,.int .i64 o,.int .i64 q,.slice A' r.length c',.int .i64 cc,.int .i64 b,.int .i64 e] 40);have HW:=hid (zI A A' c c' r _ lx (hx.below hB hB.size) (hy.below hB hB.size));have HX:=hid ((RowB.new w #[.int .i64 p,.int .i64 o,.int .i64 q,.slice A r.length c,.int .i64 cc,.int .i64 b,.int .i64 e] 40).kept ((Below.refl _ _).alloc (Nat.le_refl _) (.cells #[.int .i64 p,.int .i64 o,.int .i64 q,.slice A' r.length c',.int .i64 cc,.int .i64 b,.int .i64 e] 40)));have HY:=hid (RowB.new (w.alloc (.cells #[.int .i64 p,.int .i64 o,.int .i64 q,.slice A r.length c,.int .i64 cc,.int .i64 b,.int .i64 e] 40)) #[.int .i64 p,.int .i64 o,.int .i64 q,.slice A' r.length c',.int .i64 cc,.int .i64 b,.int .i64 e] 40);rw[World.size_alloc] at HY;have HB:=hid hB;clear hB hx hy lx;go_enter Tryz.func17,Tryz.ntmps17;go_wp2_with (go_at_call 29;refine HW.out.mono ?_;rintro e w1 ⟨rfl,am⟩;have Fl:=((HX.out.kept am).cell 4).trans rfl;have Nf:=((HX.out.kept am).cell 5).trans rfl;have NE:=((HX.out.kept am).cell 6).trans rfl;have NC:=((HY.out.kept am).cell 4).trans rfl;have NM:=((HY.out.kept am).cell 5).trans rfl;have N4:=((HY.out.kept am).cell 6).trans rfl);go_ret;exact⟨rfl,HB.out.trans (am.mono HB.out.size)⟩
theorem vR (A A':Option Addr) (c c':Nat) (es fs:List CV) (w:World) (hx:es.map (·.x)=fs.map (·.x)) (hn:es.length≤1000000) (hr:∀ e ∈ es,e.x.r.length≤1000000) (hl:SlOf cvE w w.heap.size A es) (hm:SlOf cvE w w.heap.size A' fs) (xr:∀ e ∈ es,Ws w w.heap.size e.A e.x.r) (oW:∀ e ∈ fs,Ws w w.heap.size e.A e.x.r):
  Calls Tryz.prog 11 #[.slice A es.length c,.slice A' fs.length c'] w fun r w'=>r=.returned (.bool true)∧Below w.heap.size w w':=by
 have bA:es.length=fs.length:=by have:=congrArg List.length hx;simpa using this
 rw[← bA];have HL:=hid (And.intro hl (And.intro hm (And.intro xr oW)));have HN:=hid (And.intro hn (And.intro hr (And.intro hx bA)));clear hl hm xr oW hr hx bA hn;go_enter Tryz.func11,Tryz.ntmps11;go_wp2
 go_loopw [5,13] (fun i j wr=>∃ k:Nat,k≤es.length∧j=.int .i64 k∧Below w.heap.size w wr) (fun _ j _=>es.length - (intOf j).toNat)
 case atStart=>exact⟨0,Nat.zero_le _,rfl,Below.refl _ _⟩
 case round=>
  obtain⟨k,hk,rfl,hb⟩:=hrel
  by_cases aZ:k<es.length
  ·obtain⟨e,he⟩:∃ e,es[k]?=some e:=⟨_,List.getElem?_eq_getElem aZ⟩;obtain⟨f,hf⟩:∃ f,fs[k]?=some f:=⟨_,List.getElem?_eq_getElem (by have:=HN.out.2.2.2;omega)⟩
   have Lh:e.x=f.x:=by
    have h1:=congrArg (fun l=>l[k]?) HN.out.2.2.1;simp only[List.getElem?_map,he,hf,Option.map_some] at h1;exact Option.some.inj h1
   obtain⟨b1,o1,hA,_,h1⟩:=HL.out.1 k e he;obtain⟨b2,o2,nk,_,h2⟩:=HL.out.2.1 k f hf;subst hA nk;have HE:=hid (And.intro (List.mem_of_getElem? he) (List.mem_of_getElem? hf))
   have HS:∀ W,Below w.heap.size w W→W.cell? ⟨b1,o1+k*7,none⟩=some (.int .i64 e.x.p)∧W.cell? ⟨b1,o1+k*7+1,none⟩=some (.int .i64 e.x.o)∧W.cell? ⟨b1,o1+k*7+2,none⟩=some (.int .i64 e.x.q)∧W.cell? ⟨b1,o1+k*7+3,none⟩=some (.slice e.A e.x.r.length e.c)∧W.cell? ⟨b1,o1+k*7+4,none⟩=some (.int .i64 e.x.c)∧W.cell? ⟨b1,o1+k*7+5,none⟩=some (.int .i64 e.x.b)∧W.cell? ⟨b1,o1+k*7+6,none⟩=some (.int .i64 e.x.e)∧W.cell? ⟨b2,o2+k*7,none⟩=some (.int .i64 f.x.p)∧W.cell? ⟨b2,o2+k*7+1,none⟩=some (.int .i64 f.x.o)∧W.cell? ⟨b2,o2+k*7+2,none⟩=some (.int .i64 f.x.q)∧W.cell? ⟨b2,o2+k*7+3,none⟩=some (.slice f.A f.x.r.length f.c)∧W.cell? ⟨b2,o2+k*7+4,none⟩=some (.int .i64 f.x.c)∧W.cell? ⟨b2,o2+k*7+5,none⟩=some (.int .i64 f.x.b)∧W.cell? ⟨b2,o2+k*7+6,none⟩=some (.int .i64 f.x.e):=fun W hW=>by
    have q1:=(HL.out.1.below hW hW.size) k e he;have q2:=(HL.out.2.1.below hW hW.size) k f hf;obtain⟨b3,o3,e3,_,q1⟩:=q1;obtain⟨b4,o4,e4,_,q2⟩:=q2;cases e3;cases e4;exact⟨by simpa [cvE,CV.cells,Nat.add_assoc] using q1 0 _ rfl,by simpa [cvE,CV.cells,Nat.add_assoc] using q1 1 _ rfl,by simpa [cvE,CV.cells,Nat.add_assoc] using q1 2 _ rfl,by simpa [cvE,CV.cells,Nat.add_assoc] using q1 3 _ rfl,by simpa [cvE,CV.cells,Nat.add_assoc] using q1 4 _ rfl,by simpa [cvE,CV.cells,Nat.add_assoc] using q1 5 _ rfl,by simpa [cvE,CV.cells,Nat.add_assoc] using q1 6 _ rfl,by simpa [cvE,CV.cells,Nat.add_assoc] using q2 0 _ rfl,by simpa [cvE,CV.cells,Nat.add_assoc] using q2 1 _ rfl,by simpa [cvE,CV.cells,Nat.add_assoc] using q2 2 _ rfl,by simpa [cvE,CV.cells,Nat.add_assoc] using q2 3 _ rfl,by simpa [cvE,CV.cells,Nat.add_assoc] using q2 4 _ rfl,by simpa [cvE,CV.cells,Nat.add_assoc] using q2 5 _ rfl,by simpa [cvE,CV.cells,Nat.add_assoc] using q2 6 _ rfl⟩
   have JR:=hid HS;have Jw:=hid Lh;have HB:=hid hb;have HI:=hid aZ;have k0:(0:Int)≤(k:Int):=by omega
   have k1:(k:Int)<(es.length:Int):=by omega
   have Lf:IntKind.i64.wrap ((k:Int)+1)=(k:Int)+1:=ac (by omega) (by have:=HN.out.1;omega);clear HS Lh hb aZ he hf h1 h2 hk;go_wp2_with fail;have eJ:=hid HB.out.drew;refine dR (S:=(CF b1 o1 k e b2 o2 f)) (JR.out _ eJ.out) fun w2 aW hHeld=>?_
   rw[aW] at eJ;clear aW;refine ap 0 1 2 3 ?_;refine ap 4 5 6 7 ?_;refine aJ 8 (fun K hK=>?_)
   ·go_simp;have Jl:=qz e.x e.A f.A e.c f.c w2 (by have:=HN.out.2.1 e HE.out.1;omega) ((HL.out.2.2.1 e HE.out.1).below eJ.out eJ.out.size) (by rw[Jw.out];exact(HL.out.2.2.2 f HE.out.2).below eJ.out eJ.out.size);rw[Jw.out] at Jl;have FC:Calls Tryz.prog 17 #[.agg #[.int .i64 e.x.p,.int .i64 e.x.o,.int .i64 e.x.q,.slice e.A e.x.r.length e.c,.int .i64 e.x.c,.int .i64 e.x.b,.int .i64 e.x.e],.agg #[.int .i64 f.x.p,.int .i64 f.x.o,.int .i64 f.x.q,.slice f.A f.x.r.length f.c,.int .i64 f.x.c,.int .i64 f.x.b,.int .i64 f.x.e]] w2 (fun r w9=>r=.returned (.bool true)∧Below w2.heap.size w2 w9):=by rw[Jw.out];exact Jl
    refine FC.mono ?_;rintro ex w3 ⟨rfl,cW⟩;have ic:=hid (eJ.out.trans (cW.mono eJ.out.size));have aN:(CF b1 o1 k e b2 o2 f) w3:=JR.out _ ic.out;clear Jl FC cW;refine kH hK aN fun hHeld=>?_
    clear hK K;refine aF 9 ?_;refine bh ?_;clear hHeld aN;go_wp2_with fail;go_roundw
    case rel=>exact⟨k+1,by have:=HI.out;omega,by go_num,ic.out⟩
    case measure=>have:=HI.out;simp[intOf];omega
  ·obtain rfl:k=es.length:=by omega
   go_wp2;go_ret;exact⟨rfl,hb⟩
set_option maxHeartbeats 1000000
set_option maxRecDepth 100000
def BX (g:PG):Prop:=g.ts.length≤20∧∀ t ∈ g.ts,t.r.length≤100
instance (g:PG):Decidable (BX g):=by unfold BX;infer_instance
def lightW (o:Ob) (gs:List PG) (kn:Nat):Prop:=fl o∧gs.length≤20∧kn≤400∧∀ g ∈ gs,BX g
instance (o:Ob) (gs:List PG) (kn:Nat):Decidable (lightW o gs kn):=by unfold lightW;infer_instance
def gY (o:Ob) (A:Option Addr) (cap:Nat) (gs:List PG) (B:Option Addr) (kn kc:Nat):Array Value:=#[.int .i64 o.k,.int .i64 o.wd,.int .i64 o.s,.int .i64 o.c,.int .u32 o.st,.slice o.I o.ni o.ci,.int .i64 o.wr,.slice o.R o.nr o.cr,.slice A gs.length cap,.slice B kn kc]
theorem yy (o:Ob) (A B:Option Addr) (cap kn kc:Nat) (gs:List PG) (w:World) (h1:decide (fl o)=false):Calls Tryz.prog 6 #[.agg (gY o A cap gs B kn kc)] w fun e w'=>e=.returned (.bool false)∧Below w.heap.size w w':=by
 have HD:=hid h1;clear h1;have hn:=RowB.new w (gY o A cap gs B kn kc) 29;have hB:=bt w (.cells (gY o A cap gs B kn kc) 29);obtain⟨n,aq⟩:∃ n,w.heap.size=n:=⟨_,rfl⟩;rw[aq] at hn hB;have HN:=hid hn;have HB:=hid hB;have ij:=hid aq;have HS:=hid fun W=>lP o W
 unfold gY at HN HB;unfold af at HS;clear hn hB;unfold gY;rw[aq];go_enter Tryz.func6,Tryz.ntmps6;go_wp2_with fail;generalize (w.alloc (.cells #[.int .i64 o.k,.int .i64 o.wd,.int .i64 o.s,.int .i64 o.c,.int .u32 o.st,.slice o.I o.ni o.ci,.int .i64 o.wr,.slice o.R o.nr o.cr,.slice A gs.length cap,.slice B kn kc] 29))=w1 at HN HB ⊢;clear aq;have hc:=HN.out.c10;obtain⟨c0,c1,c2,c3,c4,c5,c6,c7,c8,c9⟩:=hc;go_wp2_with fail;refine(HS.out _).mono ?_;rintro e w2 ⟨rfl,hb⟩;have eg:=hid (HN.out.kept hb);have cw:=hid (HB.out.trans (hb.mono (by have:=HN.out.lt;omega)));clear hb c0 c1 c2 c3 c4 c5 c6 c7 c8 c9;have c8:=eg.out.at 8 (.slice A gs.length cap);have c9:=eg.out.at 9 (.slice B kn kc);rw[HD.out];go_wp2_with fail;go_ret;exact⟨rfl,cw.out⟩
theorem yN (o:Ob) (A B:Option Addr) (cap kn kc:Nat) (gs:List PG) (w:World) (h1:decide (fl o)=true) (h2:decide (20<gs.length)=true):Calls Tryz.prog 6 #[.agg (gY o A cap gs B kn kc)] w fun e w'=>e=.returned (.bool false)∧Below w.heap.size w w':=by
 have HD:=hid h1;clear h1;have d2:decide ((20:Int)<(gs.length:Int))=true:=decide_eq_true (by have:=of_decide_eq_true h2;omega);have hn:=RowB.new w (gY o A cap gs B kn kc) 29;have hB:=bt w (.cells (gY o A cap gs B kn kc) 29);obtain⟨n,aq⟩:∃ n,w.heap.size=n:=⟨_,rfl⟩;rw[aq] at hn hB;have HN:=hid hn;have HB:=hid hB;have ij:=hid aq;have HS:=hid fun W=>lP o W
 unfold gY at HN HB;unfold af at HS;clear hn hB;unfold gY;rw[aq];go_enter Tryz.func6,Tryz.ntmps6;go_wp2_with fail;generalize (w.alloc (.cells #[.int .i64 o.k,.int .i64 o.wd,.int .i64 o.s,.int .i64 o.c,.int .u32 o.st,.slice o.I o.ni o.ci,.int .i64 o.wr,.slice o.R o.nr o.cr,.slice A gs.length cap,.slice B kn kc] 29))=w1 at HN HB ⊢;clear aq;have hc:=HN.out.c10;obtain⟨c0,c1,c2,c3,c4,c5,c6,c7,c8,c9⟩:=hc;go_wp2_with fail;refine(HS.out _).mono ?_;rintro e w2 ⟨rfl,hb⟩;have eg:=hid (HN.out.kept hb);have cw:=hid (HB.out.trans (hb.mono (by have:=HN.out.lt;omega)));clear hb c0 c1 c2 c3 c4 c5 c6 c7 c8 c9;have c8:=eg.out.at 8 (.slice A gs.length cap);have c9:=eg.out.at 9 (.slice B kn kc);rw[HD.out];go_wp2_with fail;go_ret;exact⟨rfl,cw.out⟩
theorem zT (o:Ob) (A B:Option Addr) (cap kn kc:Nat) (gs:List PG) (w:World) (h1:decide (fl o)=true) (h2:decide (20<gs.length)=false) (h3:decide (400<kn)=true):Calls Tryz.prog 6 #[.agg (gY o A cap gs B kn kc)] w fun e w'=>e=.returned (.bool false)∧Below w.heap.size w w':=by
 have HD:=hid h1;clear h1;have d2:decide ((20:Int)<(gs.length:Int))=false:=decide_eq_false (by have:=of_decide_eq_false h2;omega);have d3:decide ((400:Int)<(kn:Int))=true:=decide_eq_true (by have:=of_decide_eq_true h3;omega);have hn:=RowB.new w (gY o A cap gs B kn kc) 29;have hB:=bt w (.cells (gY o A cap gs B kn kc) 29);obtain⟨n,aq⟩:∃ n,w.heap.size=n:=⟨_,rfl⟩;rw[aq] at hn hB;have HN:=hid hn;have HB:=hid hB;have ij:=hid aq;have HS:=hid fun W=>lP o W
 unfold gY at HN HB;unfold af at HS;clear hn hB;unfold gY;rw[aq];go_enter Tryz.func6,Tryz.ntmps6;go_wp2_with fail;generalize (w.alloc (.cells #[.int .i64 o.k,.int .i64 o.wd,.int .i64 o.s,.int .i64 o.c,.int .u32 o.st,.slice o.I o.ni o.ci,.int .i64 o.wr,.slice o.R o.nr o.cr,.slice A gs.length cap,.slice B kn kc] 29))=w1 at HN HB ⊢;clear aq;have hc:=HN.out.c10;obtain⟨c0,c1,c2,c3,c4,c5,c6,c7,c8,c9⟩:=hc;go_wp2_with fail;refine(HS.out _).mono ?_;rintro e w2 ⟨rfl,hb⟩;have eg:=hid (HN.out.kept hb);have cw:=hid (HB.out.trans (hb.mono (by have:=HN.out.lt;omega)));clear hb c0 c1 c2 c3 c4 c5 c6 c7 c8 c9;have c8:=eg.out.at 8 (.slice A gs.length cap);have c9:=eg.out.at 9 (.slice B kn kc);rw[HD.out];go_wp2_with fail;go_ret;exact⟨rfl,cw.out⟩
theorem zC (o:Ob) (A B:Option Addr) (cap kn kc:Nat) (gs:List PG) (w:World) (hin:ProcsIn w w.heap.size A gs) (h1:decide (fl o)=true) (h2:decide (20<gs.length)=false) (h3:decide (400<kn)=false):Calls Tryz.prog 6 #[.agg (gY o A cap gs B kn kc)] w fun e w'=>e=.returned (.bool (decide (∀ g ∈ gs,BX g)))∧Below w.heap.size w w':=by
 have HD:=hid h1;have tX:=hid hin;have wS:=hid (show gs.length≤20 by have:=of_decide_eq_false h2;omega);have d2:decide ((20:Int)<(gs.length:Int))=false:=decide_eq_false (by have:=of_decide_eq_false h2;omega);have d3:decide ((400:Int)<(kn:Int))=false:=decide_eq_false (by have:=of_decide_eq_false h3;omega);clear h1 hin;have hn:=RowB.new w (gY o A cap gs B kn kc) 29;have hB:=bt w (.cells (gY o A cap gs B kn kc) 29);obtain⟨n,aq⟩:∃ n,w.heap.size=n:=⟨_,rfl⟩;rw[aq] at hn hB;have HN:=hid hn;have HB:=hid hB;have ij:=hid aq;have HS:=hid fun W=>lP o W
 unfold gY at HN HB;unfold af at HS;clear hn hB;unfold gY;rw[aq];go_enter Tryz.func6,Tryz.ntmps6;go_wp2_with fail;generalize (w.alloc (.cells #[.int .i64 o.k,.int .i64 o.wd,.int .i64 o.s,.int .i64 o.c,.int .u32 o.st,.slice o.I o.ni o.ci,.int .i64 o.wr,.slice o.R o.nr o.cr,.slice A gs.length cap,.slice B kn kc] 29))=w1 at HN HB ⊢;clear aq;have hc:=HN.out.c10;obtain⟨c0,c1,c2,c3,c4,c5,c6,c7,c8,c9⟩:=hc;go_wp2_with fail;refine(HS.out _).mono ?_;rintro e w2 ⟨rfl,hb⟩;have eg:=hid (HN.out.kept hb);have cw:=hid (HB.out.trans (hb.mono (by have:=HN.out.lt;omega)));clear hb c0 c1 c2 c3 c4 c5 c6 c7 c8 c9;have c8:=eg.out.at 8 (.slice A gs.length cap);have c9:=eg.out.at 9 (.slice B kn kc);rw[HD.out];go_wp2_with fail;clear c8 c9 h2 h3 d2 d3
 go_loopw [26] (fun jv wr=>∃ i:Nat,i≤gs.length∧jv=.int .i64 (i:Int)∧(∀ j g,j<i→gs[j]?=some g→BX g)∧Below n w wr) (fun jv _=>gs.length - (intOf jv).toNat)
 case atStart=>exact⟨0,Nat.zero_le _,rfl,fun j g h _=>absurd h (by omega),cw.out⟩
 case round=>
  obtain⟨i,hi,rfl,kQ,hb⟩:=hrel
  by_cases aZ:i<gs.length
  ·have hd:decide ((i:Int)<(gs.length:Int))=true:=decide_eq_true (by omega);obtain⟨g,hg⟩:∃ g,gs[i]?=some g:=⟨_,List.getElem?_eq_getElem aZ⟩;have iH:=tX.out.below (by rw[ij.out];exact hb) (Nat.le_refl _);obtain⟨pb,po,hA,wv,ba⟩:=iH.hd i g hg;have hx:wr.cell? ⟨pb,po+i,none⟩=some (.slice g.A g.ts.length g.c):=by simpa [tP] using ba 0 _ rfl
   have i0:(0:Int)≤(i:Int):=by omega
   have i1:(i:Int)<(gs.length:Int):=by omega
   have ub:IntKind.i64.wrap ((i:Int)+1)=(i:Int)+1:=ac (by omega) (by have:=wS.out;omega);have C1:=hid kQ;have CZ:=hid hb;have HG:=hid hg;have HI:=hid aZ;subst hA;clear kQ hb hg aZ hi iH ba wv
   by_cases rV:20<g.ts.length
   ·have e1:decide (20<g.ts.length)=true:=decide_eq_true rV;have e1i:decide ((20:Int)<(g.ts.length:Int))=true:=decide_eq_true (by omega);have HR:=hid (show decide (∀ g ∈ gs,BX g)=false from decide_eq_false (fun h=>by have:=(h g (List.mem_of_getElem? HG.out)).1;omega));clear rV;go_wp2_with fail;go_ret;exact⟨by rw[HR.out];rfl,CZ.out⟩
   ·have e1:decide (20<g.ts.length)=false:=decide_eq_false rV;have e1i:decide ((20:Int)<(g.ts.length:Int))=false:=decide_eq_false (by omega);have Au:=hid (show g.ts.length≤20 by omega);clear rV;go_wp2_with fail
    go_loopw [35] (fun jv wq=>∃ q:Nat,q≤g.ts.length∧jv=.int .i64 (q:Int)∧(∀ j t,j<q→g.ts[j]?=some t→t.r.length≤100)∧Below n w wq) (fun jv _=>g.ts.length - (intOf jv).toNat)
    case atStart=>exact⟨0,Nat.zero_le _,rfl,fun j g h _=>absurd h (by omega),CZ.out⟩
    case round=>
     clear hx e1 e1i i0 i1;obtain⟨q,hq,rfl,kQ,hb⟩:=hrel
     by_cases aZ:q<g.ts.length
     ·have hd:decide ((q:Int)<(g.ts.length:Int))=true:=decide_eq_true (by omega);obtain⟨t,ht⟩:∃ t,g.ts[q]?=some t:=⟨_,List.getElem?_eq_getElem aZ⟩;have iH:=tX.out.below (by rw[ij.out];exact hb) (Nat.le_refl _);obtain⟨tb,tf,hA,rW,ba⟩:=iH.sl g (List.mem_of_getElem? HG.out) q t ht;have iV:wr.cell? ⟨tb,tf+q*2,none⟩=some (.int .i64 t.op):=by simpa [tvE,TV.cells,Nat.add_assoc] using ba 0 _ rfl
      have jK:wr.cell? ⟨tb,tf+q*2+1,none⟩=some (.slice t.A t.r.length t.c):=by simpa [tvE,TV.cells,Nat.add_assoc] using ba 1 _ rfl
      have q0:(0:Int)≤(q:Int):=by omega
      have q1:(q:Int)<(g.ts.length:Int):=by omega
      have db:IntKind.i64.wrap ((q:Int)+1)=(q:Int)+1:=ac (by omega) (by have:=Au.out;omega);have ck:=hb.alloc (by rw[← ij.out];exact hb.size) (.cells #[.int .i64 t.op,.slice t.A t.r.length t.c] 45);have Lx:=hid kQ;have BL:=hid ck;have HT:=hid ht;have HQ:=hid aZ;rw[hA];clear kQ hb ck ht aZ hq iH ba rW hA
      by_cases Fe:100<t.r.length
      ·have e2:decide (100<t.r.length)=true:=decide_eq_true Fe;have e2i:decide ((100:Int)<(t.r.length:Int))=true:=decide_eq_true (by omega);have HR:=hid (show decide (∀ g ∈ gs,BX g)=false from decide_eq_false (fun h=>by have:=(h g (List.mem_of_getElem? HG.out)).2 t (List.mem_of_getElem? HT.out);omega));clear Fe;go_wp2_with fail;go_ret;exact⟨by rw[HR.out];rfl,BL.out⟩
      ·have e2:decide (100<t.r.length)=false:=decide_eq_false Fe;have e2i:decide ((100:Int)<(t.r.length:Int))=false:=decide_eq_false (by omega);have LI:=hid (show t.r.length≤100 by omega);clear Fe;go_wp2_with fail;go_roundw
       case rel=>exact⟨q+1,by have:=HQ.out;omega,by go_num,fun j u hj hu=>by
        rcases Nat.lt_or_ge j q with h | h
        ·exact Lx.out j u h hu
        ·obtain rfl:j=q:=by omega
         rw[HT.out] at hu;cases hu;exact LI.out,BL.out⟩
       case measure=>have:=HQ.out;simp[intOf];omega
     ·have hd:decide ((q:Int)<(g.ts.length:Int))=false:=decide_eq_false (by omega);obtain rfl:q=g.ts.length:=by omega
      have HF:=hid (And.intro kQ hb);clear kQ hb aZ hq;go_wp2_with fail;go_roundw
      case rel=>exact⟨i+1,by have:=HI.out;omega,by go_num,fun j u hj hu=>by
       rcases Nat.lt_or_ge j i with h | h
       ·exact C1.out j u h hu
       ·obtain rfl:j=i:=by omega
        rw[HG.out] at hu;cases hu
        exact⟨Au.out,fun t ht=>by
         obtain⟨m,hm⟩:=List.getElem?_of_mem ht;exact HF.out.1 m t (List.getElem?_eq_some_iff.1 hm).1 hm⟩,HF.out.2⟩
      case measure=>have:=HI.out;simp[intOf];omega
  ·have hd:decide ((i:Int)<(gs.length:Int))=false:=decide_eq_false (by omega);obtain rfl:i=gs.length:=by omega
   have HR:=hid (show decide (∀ g ∈ gs,BX g)=true from decide_eq_true (fun g hg=>by
    obtain⟨m,hm⟩:=List.getElem?_of_mem hg;exact kQ m g (List.getElem?_eq_some_iff.1 hm).1 hm))
   have CZ:=hid hb;clear kQ hb aZ hi;go_wp2_with fail;go_ret;exact⟨by rw[HR.out];rfl,CZ.out⟩
theorem l8 (o:Ob) (A B:Option Addr) (cap kn kc:Nat) (gs:List PG) (w:World) (hin:ProcsIn w w.heap.size A gs):Calls Tryz.prog 6 #[.agg (gY o A cap gs B kn kc)] w fun e w'=>e=.returned (.bool (decide (lightW o gs kn)))∧Below w.heap.size w w':=by
 by_cases h1:fl o
 ·by_cases h2:gs.length≤20
  ·by_cases h3:kn≤400
   ·rw[show decide (lightW o gs kn)=decide (∀ g ∈ gs,BX g) from decide_eq_decide.2 ⟨fun h=>h.2.2.2,fun h=>⟨h1,h2,h3,h⟩⟩];exact zC o A B cap kn kc gs w hin (decide_eq_true h1) (decide_eq_false (by omega)) (decide_eq_false (by omega))
   ·rw[show decide (lightW o gs kn)=false from decide_eq_false (fun h=>h3 h.2.2.1)];exact zT o A B cap kn kc gs w (decide_eq_true h1) (decide_eq_false (by omega)) (decide_eq_true (by omega))
  ·rw[show decide (lightW o gs kn)=false from decide_eq_false (fun h=>h2 h.2.1)];exact yN o A B cap kn kc gs w (decide_eq_true h1) (decide_eq_true (by omega))
 ·rw[show decide (lightW o gs kn)=false from decide_eq_false (fun h=>h1 h.1)];exact yy o A B cap kn kc gs w (decide_eq_false h1)
set_option maxHeartbeats 1000000
set_option maxRecDepth 100000
def oE (b:Nat):Ob:=⟨6,1,1,0,0,none,0,0,0,some ⟨b,0,none⟩,1,1⟩
theorem FW (b:Nat):(oE b).Ok:=⟨by simp[oE],by simp[oE],by simp[oE],by simp[oE]⟩
def JA:List (List Td):=[[⟨3,[7]⟩],[⟨4,[]⟩]]
def B9:List Int:=[0,0,0,0,1,1,1,1]
theorem wL (b:Nat):cy (oE b) JA=0:=by kernel_rfl
theorem vI (b:Nat):(Lm.run (cK (oE b)) Kc.step (gH JA (bW (oE b) [])) B9).calls=[⟨0,0,3,[7],0,0,3⟩,⟨1,0,4,[7],0,4,7⟩]:=by kernel_rfl
def zY (n:Nat):List PG:=[⟨some ⟨n+3,0,none⟩,1,[⟨3,some ⟨n+2,0,none⟩,1,[7]⟩],none,0⟩,⟨some ⟨n+4,0,none⟩,1,[⟨4,none,0,[]⟩],none,0⟩]
theorem BF (n:Nat):cg (zY n)=JA:=rfl
structure Ex (n:Nat) (w W:World):Prop where
 bel:Below n w W
 size:W.heap.size=n+7
 b0:RowB W n #[.int .i64 1] 3
 b1:RowB W (n+1) (af (oE n)) 26
 b2:RowB W (n+2) #[.int .u32 7] 22
 b3:RowB W (n+3) #[.int .i64 3,.slice (some ⟨n+2,0,none⟩) 1 1] 45
 b4:RowB W (n+4) #[.int .i64 4,.slice none 0 0] 45
 b5:RowB W (n+5) #[.slice (some ⟨n+3,0,none⟩) 1 1,.slice (some ⟨n+4,0,none⟩) 1 1] 43
 b6:RowB W (n+6) #[.int .i64 0,.int .i64 0,.int .i64 0,.int .i64 0,.int .i64 1,.int .i64 1,.int .i64 1,.int .i64 1] 3
theorem Ga (w:World) (n:Nat) (hn:w.heap.size=n):Ex n w (((((((w.alloc (.cells #[.int .i64 1] 3)).alloc (.cells (af (oE n)) 26)).alloc (.cells #[.int .u32 7] 22)).alloc (.cells #[.int .i64 3,.slice (some ⟨n+2,0,none⟩) 1 1] 45)).alloc (.cells #[.int .i64 4,.slice none 0 0] 45)).alloc (.cells #[.slice (some ⟨n+3,0,none⟩) 1 1,.slice (some ⟨n+4,0,none⟩) 1 1] 43)).alloc (.cells #[.int .i64 0,.int .i64 0,.int .i64 0,.int .i64 0,.int .i64 1,.int .i64 1,.int .i64 1,.int .i64 1] 3)):=by
 subst hn;have iZ:=Below.refl w.heap.size w;have am:=iZ.alloc iZ.size (.cells #[.int .i64 1] 3);have bu:=am.alloc am.size (.cells (af (oE w.heap.size)) 26);have cW:=bu.alloc bu.size (.cells #[.int .u32 7] 22);have gK:=cW.alloc cW.size (.cells #[.int .i64 3,.slice (some ⟨w.heap.size+2,0,none⟩) 1 1] 45);have sy:=gK.alloc gK.size (.cells #[.int .i64 4,.slice none 0 0] 45);have GZ:=sy.alloc sy.size (.cells #[.slice (some ⟨w.heap.size+3,0,none⟩) 1 1,.slice (some ⟨w.heap.size+4,0,none⟩) 1 1] 43);have CW:=GZ.alloc GZ.size (.cells #[.int .i64 0,.int .i64 0,.int .i64 0,.int .i64 0,.int .i64 1,.int .i64 1,.int .i64 1,.int .i64 1] 3);have r0:=RowB.new w #[.int .i64 1] 3;have r1:=RowB.new (w.alloc (.cells #[.int .i64 1] 3)) (af (oE w.heap.size)) 26;simp only[World.size_alloc] at r1;have r2:=RowB.new ((w.alloc (.cells #[.int .i64 1] 3)).alloc (.cells (af (oE w.heap.size)) 26)) #[.int .u32 7] 22;simp only[World.size_alloc] at r2;have r3:=RowB.new (((w.alloc (.cells #[.int .i64 1] 3)).alloc (.cells (af (oE w.heap.size)) 26)).alloc (.cells #[.int .u32 7] 22)) #[.int .i64 3,.slice (some ⟨w.heap.size+2,0,none⟩) 1 1] 45;simp only[World.size_alloc] at r3;have r4:=RowB.new ((((w.alloc (.cells #[.int .i64 1] 3)).alloc (.cells (af (oE w.heap.size)) 26)).alloc (.cells #[.int .u32 7] 22)).alloc (.cells #[.int .i64 3,.slice (some ⟨w.heap.size+2,0,none⟩) 1 1] 45)) #[.int .i64 4,.slice none 0 0] 45;simp only[World.size_alloc] at r4;have r5:=RowB.new (((((w.alloc (.cells #[.int .i64 1] 3)).alloc (.cells (af (oE w.heap.size)) 26)).alloc (.cells #[.int .u32 7] 22)).alloc (.cells #[.int .i64 3,.slice (some ⟨w.heap.size+2,0,none⟩) 1 1] 45)).alloc (.cells #[.int .i64 4,.slice none 0 0] 45)) #[.slice (some ⟨w.heap.size+3,0,none⟩) 1 1,.slice (some ⟨w.heap.size+4,0,none⟩) 1 1] 43;simp only[World.size_alloc] at r5;have r6:=RowB.new ((((((w.alloc (.cells #[.int .i64 1] 3)).alloc (.cells (af (oE w.heap.size)) 26)).alloc (.cells #[.int .u32 7] 22)).alloc (.cells #[.int .i64 3,.slice (some ⟨w.heap.size+2,0,none⟩) 1 1] 45)).alloc (.cells #[.int .i64 4,.slice none 0 0] 45)).alloc (.cells #[.slice (some ⟨w.heap.size+3,0,none⟩) 1 1,.slice (some ⟨w.heap.size+4,0,none⟩) 1 1] 43)) #[.int .i64 0,.int .i64 0,.int .i64 0,.int .i64 0,.int .i64 1,.int .i64 1,.int .i64 1,.int .i64 1] 3;simp only[World.size_alloc] at r6;refine⟨CW,by simp only[World.size_alloc],?_,?_,?_,?_,?_,?_,?_⟩
 ·exact((((((r0.kept ((Below.refl _ (w.alloc (.cells #[.int .i64 1] 3))).alloc (Nat.le_refl _) (.cells (af (oE w.heap.size)) 26))).kept ((Below.refl _ ((w.alloc (.cells #[.int .i64 1] 3)).alloc (.cells (af (oE w.heap.size)) 26))).alloc (Nat.le_refl _) (.cells #[.int .u32 7] 22))).kept ((Below.refl _ (((w.alloc (.cells #[.int .i64 1] 3)).alloc (.cells (af (oE w.heap.size)) 26)).alloc (.cells #[.int .u32 7] 22))).alloc (Nat.le_refl _) (.cells #[.int .i64 3,.slice (some ⟨w.heap.size+2,0,none⟩) 1 1] 45))).kept ((Below.refl _ ((((w.alloc (.cells #[.int .i64 1] 3)).alloc (.cells (af (oE w.heap.size)) 26)).alloc (.cells #[.int .u32 7] 22)).alloc (.cells #[.int .i64 3,.slice (some ⟨w.heap.size+2,0,none⟩) 1 1] 45))).alloc (Nat.le_refl _) (.cells #[.int .i64 4,.slice none 0 0] 45))).kept ((Below.refl _ (((((w.alloc (.cells #[.int .i64 1] 3)).alloc (.cells (af (oE w.heap.size)) 26)).alloc (.cells #[.int .u32 7] 22)).alloc (.cells #[.int .i64 3,.slice (some ⟨w.heap.size+2,0,none⟩) 1 1] 45)).alloc (.cells #[.int .i64 4,.slice none 0 0] 45))).alloc (Nat.le_refl _) (.cells #[.slice (some ⟨w.heap.size+3,0,none⟩) 1 1,.slice (some ⟨w.heap.size+4,0,none⟩) 1 1] 43))).kept ((Below.refl _ ((((((w.alloc (.cells #[.int .i64 1] 3)).alloc (.cells (af (oE w.heap.size)) 26)).alloc (.cells #[.int .u32 7] 22)).alloc (.cells #[.int .i64 3,.slice (some ⟨w.heap.size+2,0,none⟩) 1 1] 45)).alloc (.cells #[.int .i64 4,.slice none 0 0] 45)).alloc (.cells #[.slice (some ⟨w.heap.size+3,0,none⟩) 1 1,.slice (some ⟨w.heap.size+4,0,none⟩) 1 1] 43))).alloc (Nat.le_refl _) (.cells #[.int .i64 0,.int .i64 0,.int .i64 0,.int .i64 0,.int .i64 1,.int .i64 1,.int .i64 1,.int .i64 1] 3)))
 ·exact(((((r1.kept ((Below.refl _ ((w.alloc (.cells #[.int .i64 1] 3)).alloc (.cells (af (oE w.heap.size)) 26))).alloc (Nat.le_refl _) (.cells #[.int .u32 7] 22))).kept ((Below.refl _ (((w.alloc (.cells #[.int .i64 1] 3)).alloc (.cells (af (oE w.heap.size)) 26)).alloc (.cells #[.int .u32 7] 22))).alloc (Nat.le_refl _) (.cells #[.int .i64 3,.slice (some ⟨w.heap.size+2,0,none⟩) 1 1] 45))).kept ((Below.refl _ ((((w.alloc (.cells #[.int .i64 1] 3)).alloc (.cells (af (oE w.heap.size)) 26)).alloc (.cells #[.int .u32 7] 22)).alloc (.cells #[.int .i64 3,.slice (some ⟨w.heap.size+2,0,none⟩) 1 1] 45))).alloc (Nat.le_refl _) (.cells #[.int .i64 4,.slice none 0 0] 45))).kept ((Below.refl _ (((((w.alloc (.cells #[.int .i64 1] 3)).alloc (.cells (af (oE w.heap.size)) 26)).alloc (.cells #[.int .u32 7] 22)).alloc (.cells #[.int .i64 3,.slice (some ⟨w.heap.size+2,0,none⟩) 1 1] 45)).alloc (.cells #[.int .i64 4,.slice none 0 0] 45))).alloc (Nat.le_refl _) (.cells #[.slice (some ⟨w.heap.size+3,0,none⟩) 1 1,.slice (some ⟨w.heap.size+4,0,none⟩) 1 1] 43))).kept ((Below.refl _ ((((((w.alloc (.cells #[.int .i64 1] 3)).alloc (.cells (af (oE w.heap.size)) 26)).alloc (.cells #[.int .u32 7] 22)).alloc (.cells #[.int .i64 3,.slice (some ⟨w.heap.size+2,0,none⟩) 1 1] 45)).alloc (.cells #[.int .i64 4,.slice none 0 0] 45)).alloc (.cells #[.slice (some ⟨w.heap.size+3,0,none⟩) 1 1,.slice (some ⟨w.heap.size+4,0,none⟩) 1 1] 43))).alloc (Nat.le_refl _) (.cells #[.int .i64 0,.int .i64 0,.int .i64 0,.int .i64 0,.int .i64 1,.int .i64 1,.int .i64 1,.int .i64 1] 3)))
 ·exact((((r2.kept ((Below.refl _ (((w.alloc (.cells #[.int .i64 1] 3)).alloc (.cells (af (oE w.heap.size)) 26)).alloc (.cells #[.int .u32 7] 22))).alloc (Nat.le_refl _) (.cells #[.int .i64 3,.slice (some ⟨w.heap.size+2,0,none⟩) 1 1] 45))).kept ((Below.refl _ ((((w.alloc (.cells #[.int .i64 1] 3)).alloc (.cells (af (oE w.heap.size)) 26)).alloc (.cells #[.int .u32 7] 22)).alloc (.cells #[.int .i64 3,.slice (some ⟨w.heap.size+2,0,none⟩) 1 1] 45))).alloc (Nat.le_refl _) (.cells #[.int .i64 4,.slice none 0 0] 45))).kept ((Below.refl _ (((((w.alloc (.cells #[.int .i64 1] 3)).alloc (.cells (af (oE w.heap.size)) 26)).alloc (.cells #[.int .u32 7] 22)).alloc (.cells #[.int .i64 3,.slice (some ⟨w.heap.size+2,0,none⟩) 1 1] 45)).alloc (.cells #[.int .i64 4,.slice none 0 0] 45))).alloc (Nat.le_refl _) (.cells #[.slice (some ⟨w.heap.size+3,0,none⟩) 1 1,.slice (some ⟨w.heap.size+4,0,none⟩) 1 1] 43))).kept ((Below.refl _ ((((((w.alloc (.cells #[.int .i64 1] 3)).alloc (.cells (af (oE w.heap.size)) 26)).alloc (.cells #[.int .u32 7] 22)).alloc (.cells #[.int .i64 3,.slice (some ⟨w.heap.size+2,0,none⟩) 1 1] 45)).alloc (.cells #[.int .i64 4,.slice none 0 0] 45)).alloc (.cells #[.slice (some ⟨w.heap.size+3,0,none⟩) 1 1,.slice (some ⟨w.heap.size+4,0,none⟩) 1 1] 43))).alloc (Nat.le_refl _) (.cells #[.int .i64 0,.int .i64 0,.int .i64 0,.int .i64 0,.int .i64 1,.int .i64 1,.int .i64 1,.int .i64 1] 3)))
 ·exact(((r3.kept ((Below.refl _ ((((w.alloc (.cells #[.int .i64 1] 3)).alloc (.cells (af (oE w.heap.size)) 26)).alloc (.cells #[.int .u32 7] 22)).alloc (.cells #[.int .i64 3,.slice (some ⟨w.heap.size+2,0,none⟩) 1 1] 45))).alloc (Nat.le_refl _) (.cells #[.int .i64 4,.slice none 0 0] 45))).kept ((Below.refl _ (((((w.alloc (.cells #[.int .i64 1] 3)).alloc (.cells (af (oE w.heap.size)) 26)).alloc (.cells #[.int .u32 7] 22)).alloc (.cells #[.int .i64 3,.slice (some ⟨w.heap.size+2,0,none⟩) 1 1] 45)).alloc (.cells #[.int .i64 4,.slice none 0 0] 45))).alloc (Nat.le_refl _) (.cells #[.slice (some ⟨w.heap.size+3,0,none⟩) 1 1,.slice (some ⟨w.heap.size+4,0,none⟩) 1 1] 43))).kept ((Below.refl _ ((((((w.alloc (.cells #[.int .i64 1] 3)).alloc (.cells (af (oE w.heap.size)) 26)).alloc (.cells #[.int .u32 7] 22)).alloc (.cells #[.int .i64 3,.slice (some ⟨w.heap.size+2,0,none⟩) 1 1] 45)).alloc (.cells #[.int .i64 4,.slice none 0 0] 45)).alloc (.cells #[.slice (some ⟨w.heap.size+3,0,none⟩) 1 1,.slice (some ⟨w.heap.size+4,0,none⟩) 1 1] 43))).alloc (Nat.le_refl _) (.cells #[.int .i64 0,.int .i64 0,.int .i64 0,.int .i64 0,.int .i64 1,.int .i64 1,.int .i64 1,.int .i64 1] 3)))
 ·exact((r4.kept ((Below.refl _ (((((w.alloc (.cells #[.int .i64 1] 3)).alloc (.cells (af (oE w.heap.size)) 26)).alloc (.cells #[.int .u32 7] 22)).alloc (.cells #[.int .i64 3,.slice (some ⟨w.heap.size+2,0,none⟩) 1 1] 45)).alloc (.cells #[.int .i64 4,.slice none 0 0] 45))).alloc (Nat.le_refl _) (.cells #[.slice (some ⟨w.heap.size+3,0,none⟩) 1 1,.slice (some ⟨w.heap.size+4,0,none⟩) 1 1] 43))).kept ((Below.refl _ ((((((w.alloc (.cells #[.int .i64 1] 3)).alloc (.cells (af (oE w.heap.size)) 26)).alloc (.cells #[.int .u32 7] 22)).alloc (.cells #[.int .i64 3,.slice (some ⟨w.heap.size+2,0,none⟩) 1 1] 45)).alloc (.cells #[.int .i64 4,.slice none 0 0] 45)).alloc (.cells #[.slice (some ⟨w.heap.size+3,0,none⟩) 1 1,.slice (some ⟨w.heap.size+4,0,none⟩) 1 1] 43))).alloc (Nat.le_refl _) (.cells #[.int .i64 0,.int .i64 0,.int .i64 0,.int .i64 0,.int .i64 1,.int .i64 1,.int .i64 1,.int .i64 1] 3)))
 ·exact(r5.kept ((Below.refl _ ((((((w.alloc (.cells #[.int .i64 1] 3)).alloc (.cells (af (oE w.heap.size)) 26)).alloc (.cells #[.int .u32 7] 22)).alloc (.cells #[.int .i64 3,.slice (some ⟨w.heap.size+2,0,none⟩) 1 1] 45)).alloc (.cells #[.int .i64 4,.slice none 0 0] 45)).alloc (.cells #[.slice (some ⟨w.heap.size+3,0,none⟩) 1 1,.slice (some ⟨w.heap.size+4,0,none⟩) 1 1] 43))).alloc (Nat.le_refl _) (.cells #[.int .i64 0,.int .i64 0,.int .i64 0,.int .i64 0,.int .i64 1,.int .i64 1,.int .i64 1,.int .i64 1] 3)))
 ·exact r6
theorem gr {α:Type} {E:Enc α} {t:TypeId} {w:World} {g:Nat} {arr:Array Value} {l:List α} (h:RowB w g arr t) (ha:arr.toList=E.all l) (hl:l.length≤1000) (_hs:E.size≤1000):Own E t 0 w (.slice (some ⟨g,0,none⟩) l.length l.length) l:=by
 have h1:=E.all_len l;have hm:l.length≤maxLen:=by unfold maxLen;omega
 unfold Own;refine⟨h1,.inr ⟨g,l.length,arr,rfl,Nat.zero_le _,h,Nat.le_refl _,hm,?_,?_⟩⟩
 ·rw[← h1,← ha];simp
 ·rw[ha];exact List.take_of_length_le (by rw[h1];exact Nat.le_refl _)
theorem GF {n:Nat} {w W:World} (h:Ex n w W):ProcsIn W W.heap.size (some ⟨n+5,0,none⟩) (zY n):=by
 have h5:=gr (E:=tP) (l:=zY n) h.b5 rfl (by show 2≤1000;omega) (by show 1≤1000;omega);have h3:=gr (E:=tvE) (l:=[⟨3,some ⟨n+2,0,none⟩,1,[7]⟩]) h.b3 rfl (by show 1≤1000;omega) (by show 2≤1000;omega);have h4:=gr (E:=tvE) (l:=[⟨4,none,0,[]⟩]) h.b4 rfl (by show 1≤1000;omega) (by show 2≤1000;omega);have h2:=gr (E:=bB .u32) (l:=[7]) h.b2 rfl (by show 1≤1000;omega) (by show 1≤1000;omega);obtain⟨_,_,e5,_,_,s5⟩:=h5.sl;obtain⟨_,_,e3,_,_,s3⟩:=h3.sl;obtain⟨_,_,e4,_,_,s4⟩:=h4.sl;obtain⟨_,_,e2,_,_,s2⟩:=h2.sl;cases e5;cases e3;cases e4;cases e2;refine⟨s5,fun g hg=>?_,fun g hg=>?_,fun g hg t ht=>?_⟩
 ·simp only[zY,List.mem_cons,List.not_mem_nil,or_false] at hg
  rcases hg with rfl | rfl
  ·exact s3
  ·exact s4
 ·simp only[zY,List.mem_cons,List.not_mem_nil,or_false] at hg
  rcases hg with rfl | rfl <;> exact Nat.le_refl _
 ·simp only[zY,List.mem_cons,List.not_mem_nil,or_false] at hg
  rcases hg with rfl | rfl
  ·obtain rfl:=List.mem_singleton.1 ht;exact⟨s2,fun z hz=>by obtain rfl:=List.mem_singleton.1 hz;rfl⟩
  ·obtain rfl:=List.mem_singleton.1 ht;exact⟨fun k x hk=>(by cases hk),fun z hz=>(by cases hz)⟩
theorem AE {es:List CV} {a b:Cl} (h:es.map (·.x)=[a,b]):∃ x y,es=[x,y]∧x.x=a∧y.x=b:=by
 match es,h with
 | [x,y],h=>
  simp only[List.map_cons,List.map_nil,List.cons.injEq,and_true] at h;exact⟨x,y,rfl,h.1,h.2⟩
theorem tI (w:World) (hT:Tab64 w) (hG:(0:Nat)<w.heap.size):Calls Tryz.prog 7 #[] w fun e w'=>e=.returned (.bool true)∧Below w.heap.size w w':=by
 obtain⟨n,hn⟩:∃ n,w.heap.size=n:=⟨_,rfl⟩
 have hr:∀ W,Ex n w W→Calls Tryz.prog 8 #[.agg (af (oE n)),.slice (some ⟨n+5,0,none⟩) 2 2,.slice (some ⟨n+6,0,none⟩) 8 8] W (CL (oE n) (zY n) (bW (oE n) []) B9 W):=fun W hE=>by
  have h6:=gr (E:=bB .i64) (l:=B9) hE.b6 rfl (by show 8≤1000;omega) (by show 1≤1000;omega);obtain⟨_,_,e6,_,_,s6⟩:=h6.sl;cases e6;refine Dq (oE n) (FW n) (some ⟨n+5,0,none⟩) (some ⟨n+6,0,none⟩) 2 8 (zY n) [] B9 W (GF hE) (by show 2≤1000;omega) (fun g hg=>?_) (fun g hg t ht=>?_) (wL n) rfl ⟨fun k x hk=>(by cases hk),fun z hz=>(by cases hz)⟩ s6 (by show 8≤1000;omega) (fun j hj=>(hE.bel.cell (p:=⟨_,j,none⟩) (by rw[← hn];exact hG)).trans (hT j hj)) (by have h1:=hE.size;omega)
  ·simp only[zY,List.mem_cons,List.not_mem_nil,or_false] at hg
   rcases hg with rfl | rfl <;> (show 1≤1000;omega)
  ·simp only[zY,List.mem_cons,List.not_mem_nil,or_false] at hg
   rcases hg with rfl | rfl
   ·obtain rfl:=List.mem_singleton.1 ht;show 1≤1000;omega
   ·obtain rfl:=List.mem_singleton.1 ht;show 0≤1000;omega
 have HE:=hid (Ga w n hn);unfold oE af at HE hr;dsimp only at HE hr;have HR:=hid hr;have HN:=hid hn;clear hr hT hG;rw[hn];go_enter Tryz.func7,Tryz.ntmps7;go_wp2_with fail;refine(HR.out _ HE.out).mono ?_;rintro e w1 ⟨A,c,es,rfl,_,hx,bH,gF,hb⟩;rw[BF,show(⟨6,1,1,0,0,none,0,0,0,some ⟨n,0,none⟩,1,1⟩:Ob)=oE n from rfl,vI] at hx;obtain⟨e0,e1,rfl,h0,h1⟩:=AE hx;obtain⟨b,off,hA,_,g0⟩:=bH 0 e0 rfl;obtain⟨b2,off2,nj,_,g1⟩:=bH 1 e1 rfl;rw[hA] at nj;cases nj;subst hA;have z0:w1.cell? ⟨b,off+6,none⟩=some (.int .i64 3):=by have:=g0 6 _ rfl;rw[h0] at this;simpa [cvE] using this
 have y0:w1.cell? ⟨b,off+7,none⟩=some (.int .i64 1):=by have:=g1 0 _ rfl;rw[h1] at this;simpa [cvE] using this
 have y1:w1.cell? ⟨b,off+8,none⟩=some (.int .i64 0):=by have:=g1 1 _ rfl;rw[h1] at this;simpa [cvE] using this
 have y2:w1.cell? ⟨b,off+9,none⟩=some (.int .i64 4):=by have:=g1 2 _ rfl;rw[h1] at this;simpa [cvE] using this
 have y3:w1.cell? ⟨b,off+10,none⟩=some (.slice e1.A 1 e1.c):=by have:=g1 3 _ rfl;rw[h1] at this;simpa [cvE] using this
 have y4:w1.cell? ⟨b,off+11,none⟩=some (.int .i64 0):=by have:=g1 4 _ rfl;rw[h1] at this;simpa [cvE] using this
 have y5:w1.cell? ⟨b,off+12,none⟩=some (.int .i64 4):=by have:=g1 5 _ rfl;rw[h1] at this;simpa [cvE] using this
 have y6:w1.cell? ⟨b,off+13,none⟩=some (.int .i64 7):=by have:=g1 6 _ rfl;rw[h1] at this;simpa [cvE] using this
 have Ip:=gF e1 (List.mem_cons_of_mem _ List.mem_cons_self);rw[h1] at Ip;have ck:=bt w1 (.cells #[.int .u32 7] 22);have J0:=gr (E:=bB .u32) (l:=[7]) (RowB.new w1 #[.int .u32 7] 22) rfl (by show 1≤1000;omega) (by show 1≤1000;omega);obtain⟨_,_,e7,_,_,s7⟩:=J0.sl;cases e7;have HP:=hid (qz ⟨1,0,4,[7],0,4,7⟩ e1.A (some ⟨w1.heap.size,0,none⟩) e1.c 1 (w1.alloc (.cells #[.int .u32 7] 22)) (by show 1≤_;omega) (Ip.below ck ck.size) ⟨s7,fun z hz=>by obtain rfl:=List.mem_singleton.1 hz;rfl⟩);have HB:=hid ((HE.out.bel.trans (hb.mono (by have:=HE.out.size;omega))).trans (ck.mono (by have h1:=HE.out.size;have h2:=hb.size;omega)));clear hx g0 g1 bH gF hb Ip ck J0 s7 h0 h1 HR;go_wp2_with (go_at_call 17;refine HP.out.mono ?_;rintro e w2 ⟨rfl,bu⟩);go_ret;exact⟨rfl,HB.out.trans (bu.mono (by rw[← HN.out];exact HB.out.size))⟩
end Go.Proofs.YtolmpehgeinlkaaGreatDoor
