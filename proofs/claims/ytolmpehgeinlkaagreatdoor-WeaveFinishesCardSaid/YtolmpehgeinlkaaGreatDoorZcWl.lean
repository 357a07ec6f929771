/- The document's loom: a run that is finished. -/
import Derived.Test.YtolmpehgeinlkaaGreatDoorZcWk
import Derived.Test.YtolmpehgeinlkaaGreatDoorZcXa
namespace Go.Proofs.YtolmpehgeinlkaaGreatDoor
open Go.RowKit
attribute [local go_sem] Oper.semAt_some
theorem Lm.Rel.turn {o:Ob} {j:Nat} {L M:Lm} (hR:aT o) (hg:L.Good o j) (hr:Lm.Rel L M) (k:Int):Lm.Rel (Lm.turn (cK o) Kc.step L k) (Lm.turn (cK o) Kc.stepR M k)∧(Lm.turn? (cK o) Kc.stepR M k).isSome=(Lm.turn? (cK o) Kc.step L k).isSome:=by
 unfold Lm.turn Lm.turn?
 by_cases hk:k<0
 ·rw[if_pos hk,if_pos hk];exact⟨hr,rfl⟩
 ·rw[if_neg hk,if_neg hk];cases hp:L.ps[k.toNat]? with
  | none=>
   have hq:M.ps[k.toNat]?=none:=by rw[List.getElem?_eq_none_iff] at hp ⊢;rw[hr.len];exact hp
   rw[hq];exact⟨hr,rfl⟩
  | some p=>
   obtain⟨q,hq⟩:∃ q,M.ps[k.toNat]?=some q:=⟨_,List.getElem?_eq_getElem (by rw[hr.len];exact(List.getElem?_eq_some_iff.1 hp).1)⟩;rw[hq]
   rcases Lm.Rel.one (uo hR) hr (hr.ps _ p q hp hq) (fun c hc=>sQ (hg.inv.op _ p c hp hc).1.sta) (fun t ht=>sQ (hg.inv.left _ p t hp ht).1.sta) with ⟨h1,h2⟩ | ⟨L1,M1,h1,h2,h3⟩
   ·dsimp only;rw[h1,h2];exact⟨hr,rfl⟩
   ·dsimp only;rw[h1,h2];exact⟨h3,rfl⟩
theorem Lm.Rel.run {o:Ob} {L0 M0:Lm} {ks:List Int} {j:Nat} {k:Int} (hR:aT o) (hg:Lm.GoodTo o L0 ks j) (hr:Lm.Rel (Lm.run (cK o) Kc.step L0 (ks.take j)) (Lm.run (cK o) Kc.stepR M0 (ks.take j))) (hk:ks[j]?=some k):Lm.Rel (Lm.run (cK o) Kc.step L0 (ks.take (j+1))) (Lm.run (cK o) Kc.stepR M0 (ks.take (j+1))):=by
 rw[Lm.run_snoc hk,Lm.run_snoc hk];exact(hr.turn hR (hg j (Nat.le_refl _)).1 k).1
theorem Lm.Rel.same {ls:List (List Td)} {m:List Int}:Lm.Rel (gH ls m) (gH ls m):=by
 refine⟨rfl,fun k p q h1 h2=>?_,rfl,rfl,rfl⟩;rw[h1] at h2;cases h2;refine⟨rfl,rfl,.inl ?_⟩;unfold gH at h1;dsimp only at h1;rw[List.getElem?_map] at h1;cases hl:ls[k]? with
 | none=>rw[hl] at h1;cases h1
 | some l=>rw[hl] at h1;cases h1;exact⟨rfl,rfl⟩
section
variable {N:Nat} {W:World} {o:Ob} {lb ml capm:Nat} {pV oV bV aV cV:Value} {tg:Nat→Nat} {M:Lm} {gs:List PG} {xl:List (Option RV)} {bl al:List Nat} {es:List CV} {w:World}
def RSt (N:Nat) (W:World) (o:Ob) (lb ml capm n:Nat) (pV oV bV aV:Value) (gs:List PG) (L M:Lm) (j:Nat) (w:World):Prop:=
 ∃ cV tg xl bl al es,L.Good o j∧Lm.Rel L M∧M.mem.length=n∧oU gs.length M xl bl al∧RL N W o lb pV (.slice (some ⟨ml,0,none⟩) n capm) oV bV aV cV tg M gs xl bl al es w
def NW (N:Nat) (W:World) (o:Ob) (lb ml capm n:Nat) (pV oV bV aV:Value) (gs:List PG) (L M:Lm) (j:Nat) (k:Int) (e:Ending) (w':World):Prop:=
 e=.returned (.bool (Lm.turn? (cK o) Kc.step L k).isSome)∧RSt N W o lb ml capm n pV oV bV aV gs (Lm.turn (cK o) Kc.step L k) (Lm.turn (cK o) Kc.stepR M k) (j+1) w'
theorem RSt.bel {L:Lm} {n j:Nat} {w0 w:World} (h:RSt W.heap.size W o lb ml capm n pV oV bV aV gs L M j w) (hb:Below w0.heap.size w0 W):Below w0.heap.size w0 w:=by
 obtain⟨_,_,_,_,_,_,_,_,_,_,h⟩:=h;exact hb.trans (h.bel.mono hb.size)
end
def KX (o:Ob) (gs:List PG) (m ks:List Int) (w:World) (e:Ending) (w':World):Prop:=
 ∃ A c es,e=.returned (.slice A es.length c)∧es.map (·.x)=(Lm.run (cK o) Kc.stepR (gH (cg gs) m) ks).calls∧SlOf cvE w' w'.heap.size A es∧(∀ e ∈ es,Ws w' w'.heap.size e.A e.x.r)∧Below w.heap.size w w'
open Go.Lib (hid)
set_option maxHeartbeats 4000000
set_option maxRecDepth 100000
section
variable {N:Nat} {W:World} {o:Ob} {lb ml capm:Nat} {pV oV bV aV cV:Value} {tg:Nat→Nat} {M:Lm} {gs:List PG} {xl:List (Option RV)} {bl al:List Nat} {es:List CV} {w:World}
def RFt (N:Nat) (W:World) (o:Ob) (lb ml capm m:Nat) (pV oV bV aV:Value) (gs:List PG) (T n:Nat) (L M:Lm) (w:World):Prop:=
 ∃ cV tg xl bl al es,L.Fin o T n∧Lm.Rel L M∧M.mem.length=m∧oU gs.length M xl bl al∧RL N W o lb pV (.slice (some ⟨ml,0,none⟩) m capm) oV bV aV cV tg M gs xl bl al es w
theorem RFt.bel {L:Lm} {T n m:Nat} {w0 w:World} (h:RFt W.heap.size W o lb ml capm m pV oV bV aV gs T n L M w) (hb:Below w0.heap.size w0 W):Below w0.heap.size w0 w:=by
 obtain⟨_,_,_,_,_,_,_,_,_,_,h⟩:=h;exact hb.trans (h.bel.mono hb.size)
theorem RFt.w32 {L:Lm} {T n m:Nat} (h:RFt N W o lb ml capm m pV oV bV aV gs T n L M w):L.Fin o T n∧W32 L.mem:=by
 obtain⟨_,_,_,_,_,_,h1,h2,_,_,h⟩:=h;exact⟨h1,by rw[← h2.mem];exact h.w32⟩
def MO (N:Nat) (W:World) (o:Ob) (lb ml capm m:Nat) (pV oV bV aV:Value) (gs:List PG) (T n:Nat) (L M:Lm) (k:Int) (e:Ending) (w':World):Prop:=
 e=.returned (.bool (Lm.turn? (cK o) Kc.step L k).isSome)∧RFt N W o lb ml capm m pV oV bV aV gs T n (Lm.turn (cK o) Kc.step L k) (Lm.turn (cK o) Kc.stepR M k) w'
theorem rQ {L:Lm} {T n m:Nat} (h:RFt N W o lb ml capm m pV oV bV aV gs T n L M w) (fy:m≤capm) (ho:o.Ok) (hR:aT o) (AD:av o=(m:Int)) (xn:T≤1000) (iR:n≤1000000) (rV:gs.length≤1000) (dq:∀ g ∈ gs,g.ts.length≤1000) (k:Int):
  Calls Tryz.prog 26 #[.pointer (some ⟨lb,0,none⟩),.int .i64 k] w (MO N W o lb ml capm m pV oV bV aV gs T n L M k):=by
 obtain⟨cV,tg,xl,bl,al,es,hF,hr,rfl,hl,h⟩:=h;obtain⟨j,hg⟩:=hF.good
 have hc:Calls Tryz.prog 26 #[.pointer (some ⟨lb,0,none⟩),.int .i64 k] w (RTurnR N W o lb ml capm pV oV bV aV M gs k):=by
  by_cases hk:k<0∨(gs.length:Int)≤k
  ·exact wt h hl k hk
  ·obtain⟨i,rfl⟩:∃ i:Nat,k=i:=⟨k.toNat,by omega⟩;exact xV h hl fy ho hR AD (by omega) (by omega) hg hr (by rw[hr.now];have:=hF.now;omega) (by rw[hr.calls];have:=hF.cl;omega) rV dq
 refine hc.mono fun e w' q=>?_
 obtain⟨cV',tg',xl',bl',al',es',he,Hv,h'⟩:=q;obtain⟨Kz,hs⟩:=hr.turn hR hg k;have hw:W32 L.mem:=by rw[← hr.mem];exact h.w32
 obtain⟨Hr,hm⟩:=hg.turn hw k;exact⟨by rw[he,hs],cV',tg',xl',bl',al',es',hF.any hw k,Kz,by rw[Kz.mem,hm,hr.mem],Hv,h'⟩
end
def CN (o:Ob) (gs:List PG) (m ks:List Int) (w:World) (e:Ending) (w':World):Prop:=
 ∃ A c es,e=.returned (.slice A es.length c)∧es.map (·.x)=(ss o gs m ks).calls∧SlOf cvE w' w'.heap.size A es∧(∀ e ∈ es,Ws w' w'.heap.size e.A e.x.r)∧Below w.heap.size w w'
theorem EV (o:Ob) (ho:o.Ok) (A B:Option Addr) (cap kc:Nat) (gs:List PG) (l ks:List Int) (w:World) (hin:ProcsIn w w.heap.size A gs) (bA:gs.length≤1000) (dq:∀ g ∈ gs,g.ts.length≤1000) (hO:∀ g ∈ gs,∀ t ∈ g.ts,t.r.length≤1000) (hf:cy o (cg gs)=0)
  (hl:o.ni=l.length) (hI:Ws w w.heap.size o.I l) (hK:SlOf (bB .i64) w w.heap.size B ks) (wE:ks.length≤1000) (xn:gQ (cg gs)≤1000) (iR:dW o (cg gs)≤1000000):
  Calls Tryz.prog 12 #[.agg (af o),.slice A gs.length cap,.slice B ks.length kc,.bool true] w (CN o gs (bW o l) ks w):=by
 obtain⟨hR,rV,_⟩:=eQ hf;have hZ:=nf hR hl
 have mu:Lm.Good o 0 (gH (cg gs) (bW o l)):=Lm.Good.start hf hZ (fun x hx t ht=>by
  unfold cg at hx;obtain⟨g,hg,rfl⟩:=List.mem_map.1 hx;obtain⟨u,hu,rfl⟩:=List.mem_map.1 ht;exact⟨hO g hg u hu,ft (hin.ws g hg u hu)⟩)
 have zM:=hid mu;have la:=hid fun W (hb:Below w.heap.size w W)=>Ey o ho hR A cap gs l W (hin.below hb hb.size) bA hl (hI.below hb hb.size)
 have HC:=hid (And.intro ho (And.intro hR (And.intro (show av o=((bW o l).length:Int) from hZ.symm) (And.intro bA (And.intro dq (And.intro xn iR))))));have hn:=RowB.new w (af o) 26;have hB:=bt w (.cells (af o) 26);obtain⟨n,aq⟩:∃ n,w.heap.size=n:=⟨_,rfl⟩;rw[aq] at hn;have cD:=hid hK;have Fi:=hid wE;have HN:=hid hn;have HB:=hid hB;have ij:=hid aq;obtain⟨LZ,Gu⟩:∃ x,bW o l=x:=⟨_,rfl⟩;rw[Gu] at la zM HC ⊢;unfold af at la HN HB;clear hn hB hin bA dq hO hf hl hI hK wE hR rV hZ mu ho Gu xn iR;unfold af;go_enter Tryz.func12,Tryz.ntmps12;go_wp2_with fail;clear aq;generalize (w.alloc (.cells #[.int .i64 o.k,.int .i64 o.wd,.int .i64 o.s,.int .i64 o.c,.int .u32 o.st,.slice o.I o.ni o.ci,.int .i64 o.wr,.slice o.R o.nr o.cr] 26))=w1 at HN HB ⊢;have hc:=HN.out.c8;obtain⟨c0,c1,c2,c3,c4,c5,c6,c7⟩:=hc;go_wp2_with fail;clear c0 c1 c2 c3 c4 c5 c6 c7;refine(la.out w1 HB.out).mono ?_;rintro e w2 ⟨lb,ml,mc,oV,bV,aV,tg,xl,bl,al,rfl,Gg,cJ,h1,h2,h3⟩;have kf:RFt w1.heap.size w1 o lb ml mc LZ.length (.slice A gs.length cap) oV bV aV gs (gQ (cg gs)) (dW o (cg gs)) (gH (cg gs) LZ) (gH (cg gs) LZ) w2:=⟨_,tg,xl,bl,al,[],Lm.Fin.start zM.out,Lm.Rel.same,rfl,⟨h1,h2,h3,by show((cg gs).map _).length=_;unfold cg;rw[List.length_map,List.length_map]⟩,cJ⟩;have aj:=hid kf;have KC:=hid Gg;clear kf cJ h1 h2 h3 Gg;go_wp2_with fail
 go_loopw [18] (fun jv wq=>∃ j:Nat,j≤ks.length∧jv=.int .i64 (j:Int)∧RFt w1.heap.size w1 o lb ml mc LZ.length (.slice A gs.length cap) oV bV aV gs (gQ (cg gs)) (dW o (cg gs)) (Lm.run (cK o) Kc.step (gH (cg gs) LZ) (ks.take j)) (Lm.run (cK o) Kc.stepR (gH (cg gs) LZ) (ks.take j)) wq) (fun jv _=>ks.length - (intOf jv).toNat)
 case atStart=>exact⟨0,Nat.zero_le _,rfl,aj.out⟩
 case round=>
  clear aj;obtain⟨j,hj,rfl,hL⟩:=hrel
  by_cases aZ:j<ks.length
  ·have hd:decide ((j:Int)<(ks.length:Int))=true:=decide_eq_true (by omega);obtain⟨k,hk⟩:∃ k,ks[j]?=some k:=⟨_,List.getElem?_eq_getElem aZ⟩;obtain⟨kb,ko,hA,wU,ba⟩:=(cD.out.below (hL.bel HB.out) (Nat.le_refl _)) j k hk;have hx:wr.cell? ⟨kb,ko+j,none⟩=some (.int .i64 k):=by simpa [bB,Enc.of1] using ba 0 _ rfl
   have rU:(0:Int)≤(j:Int):=by omega
   have zV:(j:Int)<(ks.length:Int):=by omega
   have K2:IntKind.i64.wrap ((j:Int)+1)=(j:Int)+1:=ac (by omega) (by have:=Fi.out;omega);have HT:=hid (rQ hL KC.out HC.out.1 HC.out.2.1 HC.out.2.2.1 HC.out.2.2.2.2.2.1 HC.out.2.2.2.2.2.2 HC.out.2.2.2.1 HC.out.2.2.2.2.1 k);have HK:=hid hk;have HJ:=hid aZ;subst hA;clear hL ba wU hj hk aZ;go_wp2_with fail;refine HT.out.mono ?_;rintro e w7 ⟨rfl,hL⟩;have gI:=hid hL;clear hL;go_wp2_with fail;go_roundw
   case rel=>exact⟨j+1,by have:=HJ.out;omega,by go_num,by rw[Lm.run_snoc HK.out,Lm.run_snoc HK.out];exact gI.out⟩
   case measure=>simp[intOf];omega
  ·have hd:decide ((j:Int)<(ks.length:Int))=false:=decide_eq_false (by omega);obtain rfl:j=ks.length:=by omega
   rw[List.take_length] at hL;have HF:=hid hL;clear hL hj aZ;go_wp2_with fail;obtain⟨LK,DF⟩:∃ x,Lm.run (cK o) Kc.step (gH (cg gs) LZ) ks=x:=⟨_,rfl⟩;have I4:=hid DF;rw[DF] at HF;clear DF
   go_loopw [28] (fun jv wq=>∃ i:Nat,i≤gs.length∧jv=.int .i64 (i:Int)∧∃ M,RFt w1.heap.size w1 o lb ml mc LZ.length (.slice A gs.length cap) oV bV aV gs (gQ (cg gs)) (dW o (cg gs)) (fO o (dW o (cg gs)) i LK) M wq) (fun jv _=>gs.length - (intOf jv).toNat)
   case atStart=>exact⟨0,Nat.zero_le _,rfl,_,HF.out⟩
   case round=>
    clear HF;obtain⟨i,hi,rfl,M,hL⟩:=hrel
    by_cases aZ:i<gs.length
    ·have hd:decide ((i:Int)<(gs.length:Int))=true:=decide_eq_true (by omega);have fZ:decide (i<gs.length)=true:=decide_eq_true aZ;have K2:IntKind.i64.wrap ((i:Int)+1)=(i:Int)+1:=ac (by omega) (by have:=HC.out.2.2.2.1;omega);have HI:=hid aZ;have HL:=hid hL;clear hL hi aZ;go_wp2_with fail
     go_loopg [] (dW o (cg gs)) (fun gk wq=>∃ L M,RFt w1.heap.size w1 o lb ml mc LZ.length (.slice A gs.length cap) oV bV aV gs (gQ (cg gs)) (dW o (cg gs)) L M wq∧gc o L≤gk∧iv o (i:Int) gk L=fO o (dW o (cg gs)) (i+1) LK)
     case atStart=>exact⟨_,M,HL.out,by have:=HL.out.w32.1.now;omega,rfl⟩
     case round=>
      clear HL M;obtain⟨L,M,hL,sU,xH⟩:=hrel;have HT:=hid (rQ hL KC.out HC.out.1 HC.out.2.1 HC.out.2.2.1 HC.out.2.2.2.2.2.1 HC.out.2.2.2.2.2.2 HC.out.2.2.2.1 HC.out.2.2.2.2.1 (i:Int));obtain⟨hF,iX⟩:=hL.w32;cases ht:Lm.turn? (cK o) Kc.step L (i:Int) with
      | none=>
       have HX:=hid ((m8 ht).symm.trans xH);have zk:=hid ht;clear hL hF sU xH iX ht;go_wp2_with fail;refine HT.out.mono ?_;rintro e w9 ⟨rfl,ii⟩;have e1:Lm.turn (cK o) Kc.step L (i:Int)=L:=by unfold Lm.turn;rw[zk.out];rfl
       rw[e1] at ii;rw[zk.out];have B3:=hid ii;clear ii e1;go_wp2_with fail;go_roundw
       case rel=>exact⟨i+1,by have:=HI.out;omega,by go_num,_,HX.out ▸ B3.out⟩
       case measure=>have:=HI.out;simp[intOf];omega
      | some L'=>
       obtain⟨g',AX,Hc⟩:∃ g',gk=g'+1∧(gc o L'≤g'∧iv o (i:Int) g' L'=fO o (dW o (cg gs)) (i+1) LK):=by
        have h2:=(hF.turn iX ht).2;obtain⟨g,rfl⟩:∃ g,gk=g+1:=⟨gk - 1,by omega⟩;rw[m7 ht] at xH;exact⟨g,rfl,by omega,xH⟩
       have HG:=hid (And.intro AX Hc);have zk:=hid ht;clear hL hF sU xH iX ht AX Hc;go_wp2_with fail;refine HT.out.mono ?_;rintro e w9 ⟨rfl,ii⟩;rw[Lm.turn_is zk.out] at ii;rw[zk.out];have B3:=hid ii;clear ii;go_wp2_with fail
       go_roundg g'
       case measure=>have:=HG.out.1;omega
       case rel=>exact⟨L',_,B3.out,HG.out.2.1,HG.out.2.2⟩
    ·have hd:decide ((i:Int)<(gs.length:Int))=false:=decide_eq_false (by omega);obtain rfl:i=gs.length:=by omega
     obtain⟨cV9,tg9,xl9,bl9,al9,es9,Lu,ev,G3,sg,h9⟩:=hL;obtain⟨A9,c9,Mr,_,_,Gt⟩:=h9.calls.sl;subst Mr;have c13:=h9.row.at 13 (.slice A9 es9.length c9);have HR:=hid (show CN o gs LZ ks w (.returned (.slice A9 es9.length c9)) wr from⟨A9,c9,es9,rfl,by unfold ss;rw[I4.out,h9.cx,ev.calls],Gt,fun e he=>(h9.recs e he).1,HB.out.trans (h9.bel.mono HB.out.size)⟩);clear hi aZ Lu ev G3 sg h9 Gt;go_wp2_with fail;go_ret;exact HR.out
end Go.Proofs.YtolmpehgeinlkaaGreatDoor
