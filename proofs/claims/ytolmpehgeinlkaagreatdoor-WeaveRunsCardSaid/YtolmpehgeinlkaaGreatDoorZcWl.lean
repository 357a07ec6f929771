/- The document's loom: a run. -/
import Derived.Test.YtolmpehgeinlkaaGreatDoorZcWk
import Derived.Test.YtolmpehgeinlkaaGreatDoorZcWh
namespace Go.Proofs.YtolmpehgeinlkaaGreatDoor
open Go.RowKit
open Go.Lib (hid)
attribute [local go_sem] Oper.semAt_some
set_option maxHeartbeats 4000000
set_option maxRecDepth 100000
theorem Lm.Rel.turn {o:Ob} {j:Nat} {L M:Lm} (hR:anyR o) (hg:L.Good o j) (hr:Lm.Rel L M) (k:Int):Lm.Rel (Lm.turn (bgO o) Kc.step L k) (Lm.turn (bgO o) Kc.stepR M k)∧(Lm.turn? (bgO o) Kc.stepR M k).isSome=(Lm.turn? (bgO o) Kc.step L k).isSome:=by
 unfold Lm.turn Lm.turn?
 by_cases hk:k<0
 ·rw[if_pos hk,if_pos hk];exact⟨hr,rfl⟩
 ·rw[if_neg hk,if_neg hk];cases hp:L.ps[k.toNat]? with
  | none=>
   have hq:M.ps[k.toNat]?=none:=by rw[List.getElem?_eq_none_iff] at hp ⊢;rw[hr.len];exact hp
   rw[hq];exact⟨hr,rfl⟩
  | some p=>
   obtain⟨q,hq⟩:∃ q,M.ps[k.toNat]?=some q:=⟨_,List.getElem?_eq_getElem (by rw[hr.len];exact(List.getElem?_eq_some_iff.1 hp).1)⟩;rw[hq]
   rcases Lm.Rel.one (bgO_rel hR) hr (hr.ps _ p q hp hq) (fun c hc=>fit_of (hg.inv.op _ p c hp hc).1.sta) (fun t ht=>fit_of (hg.inv.left _ p t hp ht).1.sta) with ⟨h1,h2⟩ | ⟨L1,M1,h1,h2,h3⟩
   ·dsimp only;rw[h1,h2];exact⟨hr,rfl⟩
   ·dsimp only;rw[h1,h2];exact⟨h3,rfl⟩
theorem Lm.Rel.run {o:Ob} {L0 M0:Lm} {ks:List Int} {j:Nat} {k:Int} (hR:anyR o) (hg:Lm.GoodTo o L0 ks j) (hr:Lm.Rel (Lm.run (bgO o) Kc.step L0 (ks.take j)) (Lm.run (bgO o) Kc.stepR M0 (ks.take j))) (hk:ks[j]?=some k):Lm.Rel (Lm.run (bgO o) Kc.step L0 (ks.take (j+1))) (Lm.run (bgO o) Kc.stepR M0 (ks.take (j+1))):=by
 rw[Lm.run_snoc hk,Lm.run_snoc hk];exact(hr.turn hR (hg j (Nat.le_refl _)).1 k).1
theorem Lm.Rel.same {ls:List (List Td)} {m:List Int}:Lm.Rel (lm0 ls m) (lm0 ls m):=by
 refine⟨rfl,fun k p q h1 h2=>?_,rfl,rfl,rfl⟩;rw[h1] at h2;cases h2;refine⟨rfl,rfl,.inl ?_⟩;unfold lm0 at h1;dsimp only at h1;rw[List.getElem?_map] at h1;cases hl:ls[k]? with
 | none=>rw[hl] at h1;cases h1
 | some l=>rw[hl] at h1;cases h1;exact⟨rfl,rfl⟩
section
variable {N:Nat} {W:World} {o:Ob} {lb ml capm:Nat} {pV oV bV aV cV:Value} {tg:Nat→Nat} {M:Lm} {gs:List PG} {xl:List (Option RV)} {bl al:List Nat} {es:List CV} {w:World}
theorem rturn_any (h:RL N W o lb pV (.slice (some ⟨ml,0,none⟩) M.mem.length capm) oV bV aV cV tg M gs xl bl al es w) (hl:Lens gs.length M xl bl al) (hcp:M.mem.length≤capm) (ho:o.Ok) (hR:anyR o) (hzz:sizeZ o=(M.mem.length:Int)) {L:Lm} {j:Nat} (hg:L.Good o j) (hr:Lm.Rel L M) (hj:j≤1000) (hgl:gs.length≤1000) (hts:∀ g ∈ gs,g.ts.length≤1000) (k:Int):
  Calls Tryz.prog 26 #[.pointer (some ⟨lb,0,none⟩),.int .i64 k] w (RTurnR N W o lb ml capm pV oV bV aV M gs k):=by
 by_cases hk:k<0∨(gs.length:Int)≤k
 ·exact rturn_out h hl k hk
 ·obtain⟨i,rfl⟩:∃ i:Nat,k=i:=⟨k.toNat,by omega⟩;exact rturn_in h hl hcp ho hR hzz (by omega) (by omega) hg hr (by rw[hr.now];exact Nat.le_trans hg.now (by omega)) (by rw[hr.calls];exact Nat.le_trans hg.cn hj) hgl hts
def RSt (N:Nat) (W:World) (o:Ob) (lb ml capm n:Nat) (pV oV bV aV:Value) (gs:List PG) (L M:Lm) (j:Nat) (w:World):Prop:=
 ∃ cV tg xl bl al es,L.Good o j∧Lm.Rel L M∧M.mem.length=n∧Lens gs.length M xl bl al∧RL N W o lb pV (.slice (some ⟨ml,0,none⟩) n capm) oV bV aV cV tg M gs xl bl al es w
def RTo (N:Nat) (W:World) (o:Ob) (lb ml capm n:Nat) (pV oV bV aV:Value) (gs:List PG) (L M:Lm) (j:Nat) (k:Int) (e:Ending) (w':World):Prop:=
 e=.returned (.bool (Lm.turn? (bgO o) Kc.step L k).isSome)∧RSt N W o lb ml capm n pV oV bV aV gs (Lm.turn (bgO o) Kc.step L k) (Lm.turn (bgO o) Kc.stepR M k) (j+1) w'
theorem RSt.bel {L:Lm} {n j:Nat} {w0 w:World} (h:RSt W.heap.size W o lb ml capm n pV oV bV aV gs L M j w) (hb:Below w0.heap.size w0 W):Below w0.heap.size w0 w:=by
 obtain⟨_,_,_,_,_,_,_,_,_,_,h⟩:=h;exact hb.trans (h.bel.mono hb.size)
theorem rturn_st {L:Lm} {n j:Nat} (h:RSt N W o lb ml capm n pV oV bV aV gs L M j w) (hcp:n≤capm) (ho:o.Ok) (hR:anyR o) (hzz:sizeZ o=(n:Int)) (hj:j≤1000) (hgl:gs.length≤1000) (hts:∀ g ∈ gs,g.ts.length≤1000) (k:Int):
  Calls Tryz.prog 26 #[.pointer (some ⟨lb,0,none⟩),.int .i64 k] w (RTo N W o lb ml capm n pV oV bV aV gs L M j k):=by
 obtain⟨cV,tg,xl,bl,al,es,hg,hr,rfl,hl,h⟩:=h;refine(rturn_any h hl hcp ho hR hzz hg hr hj hgl hts k).mono fun e w' q=>?_
 obtain⟨cV',tg',xl',bl',al',es',he,hl',h'⟩:=q;obtain⟨hr',hs⟩:=hr.turn hR hg k;obtain⟨hg',hm⟩:=hg.turn (by rw[← hr.mem];exact h.w32) k;exact⟨by rw[he,hs],cV',tg',xl',bl',al',es',hg',hr',by rw[hr'.mem,hm,hr.mem],hl',h'⟩
end
def RRunR (o:Ob) (gs:List PG) (m ks:List Int) (w:World) (e:Ending) (w':World):Prop:=
 ∃ A c es,e=.returned (.slice A es.length c)∧es.map (·.x)=(Lm.run (bgO o) Kc.stepR (lm0 (tds gs) m) ks).calls∧SlOf cvE w' w'.heap.size A es∧(∀ e ∈ es,Ws w' w'.heap.size e.A e.x.r)∧Below w.heap.size w w'
theorem rrun_o (o:Ob) (ho:o.Ok) (A B:Option Addr) (cap kc:Nat) (gs:List PG) (l ks:List Int) (w:World) (hin:ProcsIn w w.heap.size A gs) (hlen:gs.length≤1000) (hts:∀ g ∈ gs,g.ts.length≤1000) (hrs:∀ g ∈ gs,∀ t ∈ g.ts,t.r.length≤1000) (hf:faultP o (tds gs)=0)
  (hl:o.ni=l.length) (hI:Ws w w.heap.size o.I l) (hK:SlOf (ints .i64) w w.heap.size B ks) (hkn:ks.length≤1000):
  Calls Tryz.prog 12 #[.agg (obA o),.slice A gs.length cap,.slice B ks.length kc,.bool false] w (RRunR o gs (layZ o l) ks w):=by
 obtain⟨hR,hgl,_⟩:=fault_zero hf;have hZ:=layZ_len hR hl
 have hgd:Lm.Good o 0 (lm0 (tds gs) (layZ o l)):=Lm.Good.start hf hZ (fun x hx t ht=>by
  unfold tds at hx;obtain⟨g,hg,rfl⟩:=List.mem_map.1 hx;obtain⟨u,hu,rfl⟩:=List.mem_map.1 ht;exact⟨hrs g hg u hu,ws_w32 (hin.ws g hg u hu)⟩)
 have HGD:=hid hgd;have HNW:=hid fun W (hb:Below w.heap.size w W)=>rnew_o o ho hR A cap gs l W (hin.below hb hb.size) hlen hl (hI.below hb hb.size)
 have HC:=hid (And.intro ho (And.intro hR (And.intro (show sizeZ o=((layZ o l).length:Int) from hZ.symm) (And.intro hlen hts))));have hn:=RowB.new w (obA o) 26;have hB:=(Below.refl w.heap.size w).alloc (Nat.le_refl _) (.cells (obA o) 26);obtain⟨n,hn0⟩:∃ n,w.heap.size=n:=⟨_,rfl⟩;rw[hn0] at hn;have HKK:=hid hK;have HKN:=hid hkn;have HN:=hid hn;have HB:=hid hB;have HN0:=hid hn0;obtain⟨LZ,hLZ⟩:∃ x,layZ o l=x:=⟨_,rfl⟩;rw[hLZ] at HNW HGD HC ⊢;unfold obA at HNW HN HB;clear hn hB hin hlen hts hrs hf hl hI hK hkn hR hgl hZ hgd ho hLZ;unfold obA;go_enter Tryz.func12,Tryz.ntmps12;go_wp2_with fail;clear hn0;generalize (w.alloc (.cells #[.int .i64 o.k,.int .i64 o.wd,.int .i64 o.s,.int .i64 o.c,.int .u32 o.st,.slice o.I o.ni o.ci,.int .i64 o.wr,.slice o.R o.nr o.cr] 26))=w1 at HN HB ⊢;have hc:w1.cell? ⟨n,0,none⟩=some (.int .i64 o.k)∧w1.cell? ⟨n,1,none⟩=some (.int .i64 o.wd)∧w1.cell? ⟨n,2,none⟩=some (.int .i64 o.s)∧w1.cell? ⟨n,3,none⟩=some (.int .i64 o.c)∧w1.cell? ⟨n,4,none⟩=some (.int .u32 o.st)∧w1.cell? ⟨n,5,none⟩=some (.slice o.I o.ni o.ci)∧w1.cell? ⟨n,6,none⟩=some (.int .i64 o.wr)∧w1.cell? ⟨n,7,none⟩=some (.slice o.R o.nr o.cr):=(by and_intros <;> exact HN.out.c rfl);obtain⟨c0,c1,c2,c3,c4,c5,c6,c7⟩:=hc;go_wp2_with fail;clear c0 c1 c2 c3 c4 c5 c6 c7;refine(HNW.out w1 HB.out).mono ?_;rintro e w2 ⟨lb,ml,mc,oV,bV,aV,tg,xl,bl,al,rfl,hmc,hrl,h1,h2,h3⟩;have hs0:RSt w1.heap.size w1 o lb ml mc LZ.length (.slice A gs.length cap) oV bV aV gs (lm0 (tds gs) LZ) (lm0 (tds gs) LZ) 0 w2:=⟨_,tg,xl,bl,al,[],HGD.out,Lm.Rel.same,rfl,⟨h1,h2,h3,by show((tds gs).map _).length=_;unfold tds;rw[List.length_map,List.length_map]⟩,hrl⟩;have HS0:=hid hs0;have HMC:=hid hmc;clear hs0 hrl h1 h2 h3 hmc;go_wp2_with fail
 go_loopw [18] (fun jv wq=>∃ j:Nat,j≤ks.length∧jv=.int .i64 (j:Int)∧RSt w1.heap.size w1 o lb ml mc LZ.length (.slice A gs.length cap) oV bV aV gs (Lm.run (bgO o) Kc.step (lm0 (tds gs) LZ) (ks.take j)) (Lm.run (bgO o) Kc.stepR (lm0 (tds gs) LZ) (ks.take j)) j wq) (fun jv _=>ks.length - (intOf jv).toNat)
 case atStart=>exact⟨0,Nat.zero_le _,rfl,HS0.out⟩
 case round=>
  clear HS0;obtain⟨j,hj,rfl,hL⟩:=hrel
  by_cases hlt:j<ks.length
  ·have hd:decide ((j:Int)<(ks.length:Int))=true:=decide_eq_true (by omega);obtain⟨k,hk⟩:∃ k,ks[j]?=some k:=⟨_,List.getElem?_eq_getElem hlt⟩;obtain⟨kb,ko,hA,hkb,hcell⟩:=(HKK.out.below (hL.bel HB.out) (Nat.le_refl _)) j k hk;have hx:wr.cell? ⟨kb,ko+j,none⟩=some (.int .i64 k):=by simpa [ints,Enc.of1] using hcell 0 _ rfl
   have hj0:(0:Int)≤(j:Int):=by omega
   have hj1:(j:Int)<(ks.length:Int):=by omega
   have hwj:IntKind.i64.wrap ((j:Int)+1)=(j:Int)+1:=sh_wrap (by omega) (by have:=HKN.out;omega);have HT:=hid (rturn_st hL HMC.out HC.out.1 HC.out.2.1 HC.out.2.2.1 (by have:=HKN.out;omega) HC.out.2.2.2.1 HC.out.2.2.2.2 k);have HK:=hid hk;have HJ:=hid hlt;subst hA;clear hL hcell hkb hj hk hlt;go_wp2_with fail;refine HT.out.mono ?_;rintro e w7 ⟨rfl,hL⟩;have HL7:=hid hL;clear hL;go_wp2_with fail;go_roundw
   case rel=>exact⟨j+1,by have:=HJ.out;omega,by go_num,by rw[Lm.run_snoc HK.out,Lm.run_snoc HK.out];exact HL7.out⟩
   case measure=>simp[intOf];omega
  ·have hd:decide ((j:Int)<(ks.length:Int))=false:=decide_eq_false (by omega);obtain rfl:j=ks.length:=by omega
   rw[List.take_length] at hL;have HF:=hid hL;clear hL hj hlt;go_wp2_with fail
   go_loopw [28] (fun jv wq=>∃ i:Nat,i≤gs.length∧jv=.int .i64 (i:Int)∧RSt w1.heap.size w1 o lb ml mc LZ.length (.slice A gs.length cap) oV bV aV gs (Lm.run (bgO o) Kc.step (lm0 (tds gs) LZ) ks) (Lm.run (bgO o) Kc.stepR (lm0 (tds gs) LZ) ks) ks.length wq) (fun jv _=>gs.length - (intOf jv).toNat)
   case atStart=>exact⟨0,Nat.zero_le _,rfl,HF.out⟩
   case round=>
    clear HF;obtain⟨i,hi,rfl,hL⟩:=hrel
    by_cases hlt:i<gs.length
    ·have hd:decide ((i:Int)<(gs.length:Int))=true:=decide_eq_true (by omega);have hwj:IntKind.i64.wrap ((i:Int)+1)=(i:Int)+1:=sh_wrap (by omega) (by have:=HC.out.2.2.2.1;omega);have HI:=hid hlt;have HL:=hid hL;clear hL hi hlt;go_wp2_with fail
     go_loopw [] (fun wq=>RSt w1.heap.size w1 o lb ml mc LZ.length (.slice A gs.length cap) oV bV aV gs (Lm.run (bgO o) Kc.step (lm0 (tds gs) LZ) ks) (Lm.run (bgO o) Kc.stepR (lm0 (tds gs) LZ) ks) ks.length wq) (fun _=>0)
     case atStart=>exact HL.out
     case round=>
      clear HL;have HL:=hid hrel;clear hrel;go_wp2_with fail;go_roundw
      case rel=>exact⟨i+1,by have:=HI.out;omega,by go_num,HL.out⟩
      case measure=>have:=HI.out;simp[intOf];omega
    ·have hd:decide ((i:Int)<(gs.length:Int))=false:=decide_eq_false (by omega);obtain rfl:i=gs.length:=by omega
     obtain⟨cV9,tg9,xl9,bl9,al9,es9,hg9,hr9,hm9,hl9,h9⟩:=hL;obtain⟨A9,c9,hv9,_,_,hsl9⟩:=h9.calls.sl;subst hv9;have c13:=h9.row.at 13 (.slice A9 es9.length c9);have HR:=hid (show RRunR o gs LZ ks w (.returned (.slice A9 es9.length c9)) wr from⟨A9,c9,es9,rfl,h9.cx,hsl9,fun e he=>(h9.recs e he).1,HB.out.trans (h9.bel.mono HB.out.size)⟩);clear hi hlt hg9 hr9 hm9 hl9 h9 hsl9;go_wp2_with fail;go_ret;exact HR.out
end Go.Proofs.YtolmpehgeinlkaaGreatDoor
