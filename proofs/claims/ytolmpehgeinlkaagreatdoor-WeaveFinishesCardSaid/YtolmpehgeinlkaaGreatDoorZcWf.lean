/- The program's loom: weave.run. -/
import Derived.Test.YtolmpehgeinlkaaGreatDoorZcWe
import Derived.Test.YtolmpehgeinlkaaGreatDoorZcOgT
namespace Go.Proofs.YtolmpehgeinlkaaGreatDoor
open Go.RowKit
open Go.Lib (hid)
attribute [local go_sem] Oper.semAt_some
set_option maxHeartbeats 2000000
set_option maxRecDepth 100000
abbrev yt (a0 a1 a2:Nat) (a3:Ob) (w':World):Prop:=w'.cell? ⟨a0,8,none⟩=some (.pointer (some ⟨a1+1,0,none⟩))∧w'.cell? ⟨a2,0,none⟩=some (.int .i64 a3.k)∧w'.cell? ⟨a2,1,none⟩=some (.int .i64 a3.wd)∧w'.cell? ⟨a2,2,none⟩=some (.int .i64 a3.s)∧w'.cell? ⟨a2,3,none⟩=some (.int .i64 a3.c)∧w'.cell? ⟨a2,4,none⟩=some (.int .u32 a3.st)∧w'.cell? ⟨a2,5,none⟩=some (.slice a3.I a3.ni a3.ci)∧w'.cell? ⟨a2,6,none⟩=some (.int .i64 a3.wr)∧w'.cell? ⟨a2,7,none⟩=some (.slice a3.R a3.nr a3.cr)
theorem JE:ElemTy Tryz.prog 54 74 3 40:=ElemTy.of (z:=.agg #[.slice none 0 0,.pointer none,.int .i64 0]) Tryz.underlying54 (by kernel_rfl) rfl (by omega)
def NO:=bB .i64
def Cf (g:PG):PG:=⟨g.A,g.c,g.ts,none,0⟩
section
variable {N:Nat} {W:World} {o:Ob} {lb mb ml:Nat} {pv:Value} {m:List Int} {gs:List PG} {w w9:World}
structure NewS (N:Nat) (W:World) (o:Ob) (lb mb ml:Nat) (pv:Value) (m:List Int) (gs:List PG) (w:World):Prop where
 row:RowB w lb (KM o mb pv (.slice none 0 0) 0) 56
 procs:Own pgE 74 N w pv gs
 mem:MemG w mb ml m
 ne:lb≠mb∧lb≠ml∧mb≠ml
 po:∀ b,pv.ownBlock=some b→b≠lb∧b≠mb∧b≠ml
 low:N≤lb∧N≤mb∧N≤ml
 bel:Below N W w
 hN:N≤W.heap.size
theorem MemG.lts {w:World} {mb ml:Nat} {m:List Int} (h:MemG w mb ml m):mb<w.heap.size∧ml<w.heap.size:=by
 obtain⟨_,_,q,o',_⟩:=h;obtain⟨cur,q2⟩:=jP o';exact⟨q.lt,q2.lt⟩
theorem NewS.below {w':World} (h:NewS N W o lb mb ml pv m gs w) (hb:Below w.heap.size w w'):NewS N W o lb mb ml pv m gs w':=by
 have ht:=Tch.of_below (fun _=>False) hb;exact⟨h.row.tch ht (fun q=>q),aG h.procs ht (fun _ _ q=>q),h.mem.tch ht (fun q=>q) (fun q=>q),h.ne,h.po,h.low,h.bel.trans (hb.mono (Nat.le_trans h.hN h.bel.size)),h.hN⟩
theorem NewS.filled {m':List Int} {w':World} (h:NewS N W o lb mb ml pv m gs w) (hm:MemG w' mb ml m') (ht:Tch (fun b=>b=ml) w w'):NewS N W o lb mb ml pv m' gs w':=
 ⟨h.row.tch ht h.ne.2.1,aG h.procs ht (fun b q=>(h.po b q).2.2),hm,h.ne,h.po,h.low,h.bel.trans (ht.below (Nat.le_trans h.hN h.bel.size) (fun i _ q=>by rw[q];exact h.low.2.2)),h.hN⟩
theorem NewS.push {pv':Value} {g:PG} (h:NewS N W o lb mb ml pv m gs w) (cT:Own pgE 74 N w9 pv' (gs++[g])) (ht:Tch (fun b=>pv.ownBlock=some b) w w9) (jI:pv'.ownBlock=pv.ownBlock∨pv'.ownBlock=some w.heap.size):
  NewS N W o lb mb ml pv' m (gs++[g]) (w9.setCell ⟨lb,9,none⟩ pv'):=by
 have ge:N≤w.heap.size:=Nat.le_trans h.hN h.bel.size;have aZ:=h.row.lt;have oQ:=h.mem.lts
 have hn:∀ b,b=lb∨b=mb∨b=ml→pv.ownBlock≠some b:=fun b q e=>by
  have:=h.po b e
  rcases q with q | q | q <;> omega
 have Fk:∀ b,pv'.ownBlock=some b→b≠lb∧b≠mb∧b≠ml:=fun b e=>by
  rcases jI with q | q
  ·exact h.po b (q.symm.trans e)
  ·have:=Option.some.inj (q.symm.trans e);omega
 have hs:=(Tch.refl (fun b=>b=lb) w9).set (b:=lb) rfl 9 pv';have Hw:Below N w w9:=ht.below ge (fun b _ q=>(World.ownsRow.lt h.procs b q).1);have h9:=ht.size;have DU:Below N w9 (w9.setCell ⟨lb,9,none⟩ pv'):=hs.below (by omega) (fun i _ q=>by rw[q];exact h.low.1);exact⟨(h.row.tch ht (hn lb (.inl rfl))).set 9 pv',aG cT hs (fun b e q=>(Fk b e).1 q),(h.mem.tch ht (hn mb (.inr (.inl rfl))) (hn ml (.inr (.inr rfl)))).tch hs (fun q=>h.ne.1 q.symm) (fun q=>h.ne.2.1 q.symm),h.ne,Fk,h.low,(h.bel.trans Hw).trans DU,h.hN⟩
theorem NewS.loom {A:Option Addr} (h:NewS N W o lb mb ml pv m (gs.map Cf) w) (hin:ProcsIn W N A gs) (h0:0<gs.length):∃ pb pc tg,LoomS N W o lb pb mb ml pc (.slice none 0 0) tg (gH (cg gs) m) (gs.map Cf) [] w:=by
 obtain⟨pb,pc,Mo⟩:∃ pb pc,pv=.slice (some ⟨pb,0,none⟩) gs.length pc:=by
  rcases h.procs.2 with ⟨_,e⟩ | ⟨g,cap,cur,e,_⟩
  ·rw[List.length_map] at e;omega
  ·rw[List.length_map] at e;exact⟨g,cap,e⟩
 have aZ:=World.ownsRow.lt h.procs;have MT:=h.po;subst Mo;have hp:=MT pb rfl;have I7:=aZ pb rfl;have oQ:=h.mem.lts;have DL:=h.row.lt;have i7:=h.ne;have BA:=h.low;refine⟨pb,pc,fun b=>if b=lb then 1 else if b=pb then 2 else if b=mb then 4 else if b=ml then 5 else 0,(by rw[List.length_map];exact h.row),(by rw[List.length_map];exact h.procs),⟨rfl,.inl ⟨rfl,rfl⟩⟩,rfl,fun e he=>(by cases he),h.mem,(by unfold gH cg;simp),fun k g p h1 h2=>?_,if_pos rfl,?_,fun b q=>(by cases q),?_,?_,fun b hb=>?_,h.bel,h.hN⟩
 ·unfold gH cg at h2;rw[List.getElem?_map] at h1;dsimp only at h2;rw[List.getElem?_map,List.getElem?_map] at h2;cases hg:gs[k]? with
  | none=>rw[hg] at h1;cases h1
  | some g0=>
   rw[hg] at h1 h2;obtain rfl:=Option.some.inj h1;obtain rfl:=Option.some.inj h2;have hm:=List.mem_of_getElem? hg;exact⟨rfl,(hin.sl g0 hm).below h.bel (Nat.le_refl _),hin.cap g0 hm,fun t ht=>(hin.ws g0 hm t ht).below h.bel (Nat.le_refl _),rfl,.inl ⟨rfl,rfl⟩⟩
 ·show(if pb=lb then 1 else _)=2;rw[if_neg hp.1,if_pos rfl]
 ·show(if mb=lb then 1 else _)=4;rw[if_neg (fun q=>i7.1 q.symm),if_neg (fun q=>hp.2.1 q.symm),if_pos rfl]
 ·show(if ml=lb then 1 else _)=5;rw[if_neg (fun q=>i7.2.1 q.symm),if_neg (fun q=>hp.2.2 q.symm),if_neg (fun q=>i7.2.2 q.symm),if_pos rfl]
 ·have hb:(if b=lb then 1 else if b=pb then 2 else if b=mb then 4 else if b=ml then 5 else 0)≠0:=hb
  split at hb
  ·omega
  ·split at hb
   ·omega
   ·split at hb
    ·omega
    ·split at hb
     ·omega
     ·exact absurd rfl hb
theorem Lm.turn_len {bg:Nat→Td→Kc} {st:Kc→List Int→Kc × List Int} {L:Lm} (k:Int):(Lm.turn bg st L k).ps.length=L.ps.length:=by
 unfold Lm.turn Lm.turn?
 by_cases hk:k<0
 ·rw[if_pos hk];rfl
 ·rw[if_neg hk];cases hp:L.ps[k.toNat]? with
  | none=>rfl
  | some p=>
   cases h1:Lm.one bg st L k.toNat p with
   | none=>show((Lm.one bg st L k.toNat p).getD L).ps.length=_;rw[h1];rfl
   | some L'=>
    show((Lm.one bg st L k.toNat p).getD L).ps.length=_;rw[h1];obtain⟨L1,ts,c,q,hb,rfl⟩:=Lm.one_some h1;show(L1.ps.set _ _).length=_;rw[List.length_set]
    rcases Lm.beg_some hb with ⟨rfl,_⟩ | ⟨t,ts',_,_,rfl⟩
    ·rfl
    ·simp
theorem Lm.run_len {bg:Nat→Td→Kc} {st:Kc→List Int→Kc × List Int}:∀ (ks:List Int) (L:Lm),(Lm.run bg st L ks).ps.length=L.ps.length
 | [],_=>rfl
 | k::ks,L=>(Lm.run_len ks (Lm.turn bg st L k)).trans (Lm.turn_len k)
theorem uV {pb pc j:Nat} {cv:Value} {tg:Nat→Nat} {L:Lm} {es:List CV} (h:LoomS N W o lb pb mb ml pc cv tg L gs es w) (ho:o.Ok) (hg:L.Good o j) (hj:j≤1000) (bA:L.ps.length≤1000) (hT:Tab64 W) (hG:(0:Nat)<N) (k:Int):
  Calls Tryz.prog 27 #[.pointer (some ⟨lb,0,none⟩),.int .i64 k] w (TurnR N W o lb pb mb ml pc L k):=by
 by_cases hk:k<0∨(gs.length:Int)≤k
 ·exact oa h k hk
 ·obtain⟨i,rfl⟩:∃ i:Nat,k=i:=⟨k.toNat,by omega⟩;have hl:=h.len;have hc:=h.cx;have hn:=hg.cn;have hw:=hg.now;have D8:es.length=L.calls.length:=by rw[← hc,List.length_map]
  refine rq h ho i (by omega) (by omega) hg.inv hg.call hT hG (fun g e t ht=>?_) (by omega) (by omega);obtain⟨p,hp⟩:∃ p,L.ps[i]?=some p:=⟨_,List.getElem?_eq_getElem (by omega)⟩;have:=hg.left i p hp t.td (by rw[(h.ps i g p e hp).left];exact List.mem_map_of_mem ht);exact this
end
def Ih (o:Ob) (gs:List PG) (m ks:List Int) (w:World) (e:Ending) (w':World):Prop:=
 ∃ lb pb mb ml pc cv tg gs' es,e=.returned (.tuple #[.pointer (some ⟨lb,0,none⟩),.int .i64 0])∧Lm.GoodTo o (gH (cg gs) m) ks ks.length∧LoomS w.heap.size w o lb pb mb ml pc cv tg (Lm.run (cK o) Kc.step (gH (cg gs) m) ks) gs' es w'
theorem Ev (o:Ob) (ho:o.Ok) (A B:Option Addr) (cap kn kc:Nat) (gs:List PG) (w:World) (hin:ProcsIn w w.heap.size A gs) (bA:gs.length≤1000) (dq:∀ g ∈ gs,g.ts.length≤1000) (hO:∀ g ∈ gs,∀ t ∈ g.ts,t.r.length≤1000) (hf:cy o (cg gs)≠0):
  Calls Tryz.prog 18 #[.agg (af o),.slice A gs.length cap,.slice B kn kc] w fun e w'=>e=.returned (.tuple #[.pointer none,.int .i64 (cy o (cg gs))])∧Below w.heap.size w w':=by
 have hF:=fun W (hb:Below w.heap.size w W)=>j7 o ho A cap gs W (hin.below hb hb.size) bA dq hO
 have hn:=RowB.new w (af o) 26;have hB:=bt w (.cells (af o) 26);obtain⟨n,aq⟩:∃ n,w.heap.size=n:=⟨_,rfl⟩;rw[aq] at hn hB;have HN:=hid hn;have HB:=hid hB;unfold af at HN HB;unfold af at hF;obtain⟨fv,uG⟩:∃ x,cy o (cg gs)=x:=⟨_,rfl⟩;rw[uG] at hF hf ⊢;have HF:=hid (hF _ (by rw[aq];exact HB.out));have d0:(fv != 0)=true:=by simpa using hf
 rw[aq];clear hn hB hF hf uG hin bA dq hO ho;unfold af;go_enter Tryz.func18,Tryz.ntmps18;go_wp2_with fail;refine HF.out.mono ?_;rintro e w1 ⟨rfl,hb⟩;have bT:=hid (bv HB.out hb);clear hb;go_wp2_with fail;go_ret2;exact⟨rfl,bT.out⟩
theorem xQ (o:Ob) (ho:o.Ok) (A B:Option Addr) (cap kc:Nat) (gs:List PG) (l ks:List Int) (w:World) (hin:ProcsIn w w.heap.size A gs) (bA:gs.length≤1000) (dq:∀ g ∈ gs,g.ts.length≤1000) (hO:∀ g ∈ gs,∀ t ∈ g.ts,t.r.length≤1000) (hf:cy o (cg gs)=0)
  (hl:o.ni=l.length) (hI:Ws w w.heap.size o.I l) (hK:SlOf (bB .i64) w w.heap.size B ks) (wE:ks.length≤1000) (hT:Tab64 w) (hG:(0:Nat)<w.heap.size):
  Calls Tryz.prog 18 #[.agg (af o),.slice A gs.length cap,.slice B ks.length kc] w (Ih o gs (bW o l) ks w):=by
 have hF:=fun W (hb:Below w.heap.size w W)=>j7 o ho A cap gs W (hin.below hb hb.size) bA dq hO
 obtain⟨hR,rV,_⟩:=eQ hf;have hZ:=nf hR hl
 have mu:Lm.Good o 0 (gH (cg gs) (bW o l)):=Lm.Good.start hf hZ (fun x hx t ht=>by
  unfold cg at hx;obtain⟨g,hg,rfl⟩:=List.mem_map.1 hx;obtain⟨u,hu,rfl⟩:=List.mem_map.1 ht;exact⟨hO g hg u hu,ft (hin.ws g hg u hu)⟩)
 have h0:0<gs.length:=by have:=rV;unfold cg at this;rw[List.length_map] at this;omega
 have zM:=hid mu;have F2:=gJ o;obtain⟨sz,bK⟩:∃ sz:Nat,av o=sz:=⟨(av o).toNat,by omega⟩;have Jc:(bW o l).length=sz:=by omega
 have Cq:=hid fun W=>bK ▸ DT o ho W
 have se:=hid fun W=>Eu sz (by omega) W
 have eC:=hid fun W (hb:Below w.heap.size w W)=>FH o ho l w.heap.size W hl (hI.below hb (Nat.le_refl _)) hb.size
 have hn:=RowB.new w (af o) 26;have hB:=bt w (.cells (af o) 26);obtain⟨n,aq⟩:∃ n,w.heap.size=n:=⟨_,rfl⟩;rw[aq] at hn hB;have HN:=hid hn;have HB:=hid hB;unfold af at HN HB;obtain⟨fv,uG⟩:∃ x,cy o (cg gs)=x:=⟨_,rfl⟩;rw[uG] at hF hf;subst hf;obtain⟨LZ,Gu⟩:∃ x,bW o l=x:=⟨_,rfl⟩;rw[Gu] at Jc eC zM ⊢;unfold af at hF Cq eC;have HF:=hid (hF _ (by rw[aq];exact HB.out));have tX:=hid hin;have nm:=hid bA;have cD:=hid hK;have Fi:=hid wE;have ns:=hid (And.intro hT hG);have HO:=hid ho;have Li:=hid h0;have MJ:=hid Jc;have Bt:=hid (show sz≤4096 by omega);have ij:=hid aq;have wS:=hid (show(cg gs).length=gs.length by unfold cg;rw[List.length_map]);clear hn hB hF uG hin bA dq hO ho hl hI hK wE hT hG h0 hZ mu rV hR F2 bK Gu Jc;unfold af;go_enter Tryz.func18,Tryz.ntmps18;go_wp2_with fail;refine HF.out.mono ?_;rintro e w1 ⟨rfl,hb⟩;have bZ:=hb.size;have am:Below n w w1:=bv HB.out hb;have bi:=HN.out.kept hb;have hc:=bi.c8;obtain⟨c0,c1,c2,c3,c4,c5,c6,c7⟩:=hc;have bL:=RowB.new w1 #[.int .i64 o.k,.int .i64 o.wd,.int .i64 o.s,.int .i64 o.c,.int .u32 o.st,.slice o.I o.ni o.ci,.int .i64 o.wr,.slice o.R o.nr o.cr,.pointer none,.slice none 0 0,.slice none 0 0,.int .i64 0] 56;have aC:=bi.kept ((Below.refl _ w1).alloc (Nat.le_refl _) (.cells #[.int .i64 o.k,.int .i64 o.wd,.int .i64 o.s,.int .i64 o.c,.int .u32 o.st,.slice o.I o.ni o.ci,.int .i64 o.wr,.slice o.R o.nr o.cr,.pointer none,.slice none 0 0,.slice none 0 0,.int .i64 0] 56));have bu:Below n w (w1.alloc (.cells #[.int .i64 o.k,.int .i64 o.wd,.int .i64 o.s,.int .i64 o.c,.int .u32 o.st,.slice o.I o.ni o.ci,.int .i64 o.wr,.slice o.R o.nr o.cr,.pointer none,.slice none 0 0,.slice none 0 0,.int .i64 0] 56)):=am.alloc (by have:=bi.lt;omega) _;have hd:(w1.alloc (.cells #[.int .i64 o.k,.int .i64 o.wd,.int .i64 o.s,.int .i64 o.c,.int .u32 o.st,.slice o.I o.ni o.ci,.int .i64 o.wr,.slice o.R o.nr o.cr,.pointer none,.slice none 0 0,.slice none 0 0,.int .i64 0] 56)).cell? ⟨n,0,none⟩=some (.int .i64 o.k)∧(w1.alloc (.cells #[.int .i64 o.k,.int .i64 o.wd,.int .i64 o.s,.int .i64 o.c,.int .u32 o.st,.slice o.I o.ni o.ci,.int .i64 o.wr,.slice o.R o.nr o.cr,.pointer none,.slice none 0 0,.slice none 0 0,.int .i64 0] 56)).cell? ⟨n,1,none⟩=some (.int .i64 o.wd)∧(w1.alloc (.cells #[.int .i64 o.k,.int .i64 o.wd,.int .i64 o.s,.int .i64 o.c,.int .u32 o.st,.slice o.I o.ni o.ci,.int .i64 o.wr,.slice o.R o.nr o.cr,.pointer none,.slice none 0 0,.slice none 0 0,.int .i64 0] 56)).cell? ⟨n,2,none⟩=some (.int .i64 o.s)∧(w1.alloc (.cells #[.int .i64 o.k,.int .i64 o.wd,.int .i64 o.s,.int .i64 o.c,.int .u32 o.st,.slice o.I o.ni o.ci,.int .i64 o.wr,.slice o.R o.nr o.cr,.pointer none,.slice none 0 0,.slice none 0 0,.int .i64 0] 56)).cell? ⟨n,3,none⟩=some (.int .i64 o.c)∧(w1.alloc (.cells #[.int .i64 o.k,.int .i64 o.wd,.int .i64 o.s,.int .i64 o.c,.int .u32 o.st,.slice o.I o.ni o.ci,.int .i64 o.wr,.slice o.R o.nr o.cr,.pointer none,.slice none 0 0,.slice none 0 0,.int .i64 0] 56)).cell? ⟨n,4,none⟩=some (.int .u32 o.st)∧(w1.alloc (.cells #[.int .i64 o.k,.int .i64 o.wd,.int .i64 o.s,.int .i64 o.c,.int .u32 o.st,.slice o.I o.ni o.ci,.int .i64 o.wr,.slice o.R o.nr o.cr,.pointer none,.slice none 0 0,.slice none 0 0,.int .i64 0] 56)).cell? ⟨n,5,none⟩=some (.slice o.I o.ni o.ci)∧(w1.alloc (.cells #[.int .i64 o.k,.int .i64 o.wd,.int .i64 o.s,.int .i64 o.c,.int .u32 o.st,.slice o.I o.ni o.ci,.int .i64 o.wr,.slice o.R o.nr o.cr,.pointer none,.slice none 0 0,.slice none 0 0,.int .i64 0] 56)).cell? ⟨n,6,none⟩=some (.int .i64 o.wr)∧(w1.alloc (.cells #[.int .i64 o.k,.int .i64 o.wd,.int .i64 o.s,.int .i64 o.c,.int .u32 o.st,.slice o.I o.ni o.ci,.int .i64 o.wr,.slice o.R o.nr o.cr,.pointer none,.slice none 0 0,.slice none 0 0,.int .i64 0] 56)).cell? ⟨n,7,none⟩=some (.slice o.R o.nr o.cr):=(by and_intros <;> exact aC.c rfl);obtain⟨lb,CO⟩:∃ x,w1.heap.size=x:=⟨_,rfl⟩;obtain⟨d0,d1,d2,d3,d4,d5,d6,d7⟩:=hd;rw[CO] at bL;have pQ:n<lb:=by have:=bi.lt;omega
 have cw:=hid bu;have eg:=hid aC;have lW:=hid bL;have KJ:=hid pQ;clear hb bi am bZ bL bu aC pQ;go_wp2_with fail;clear c0 c1 c2 c3 c4 c5 c6 c7 d0 d1 d2 d3 d4 d5 d6 d7;have fa:=hid CO;clear CO;generalize (w1.alloc (.cells #[.int .i64 o.k,.int .i64 o.wd,.int .i64 o.s,.int .i64 o.c,.int .u32 o.st,.slice o.I o.ni o.ci,.int .i64 o.wr,.slice o.R o.nr o.cr,.pointer none,.slice none 0 0,.slice none 0 0,.int .i64 0] 56))=w2 at cw eg lW ⊢;refine(Cq.out _).mono ?_;rintro e w3 ⟨rfl,cW⟩;have ic:=hid (cw.out.trans (cW.mono (by have:=eg.out.lt;omega)));have iJ:=hid (eg.out.kept cW);have gV:=hid (lW.out.kept cW);clear cW;go_wp2_with fail;refine(se.out _).mono ?_;rintro e w4 ⟨rfl,Fq⟩;obtain⟨ml,oQ⟩:∃ x,w3.heap.size=x:=⟨_,rfl⟩;have pW:=AW w3 Bt.out;rw[← Fq] at pW
 have gK:Below w3.heap.size w3 w4:=by
  rw[Fq];exact(bt w3 _).alloc (by rw[World.size_alloc];omega) _
 have Mb:=hid (show n<ml by have:=iJ.out.lt;omega);have Hy:=gV.out.kept gK;have E1:=iJ.out.kept gK;have aZ:=gV.out.lt;have cz:=ic.out.trans (gK.mono (by have:=iJ.out.lt;omega));have e8:=Hy.at 8 (.pointer none);have f8:=Hy.frozen 8;have km:=(Tch.refl (fun b=>b=lb) w4).set (b:=lb) rfl 8 (.pointer (some ⟨ml+1,0,none⟩))
 have Ku:NewS n w o lb (ml+1) ml (.slice none 0 0) (List.replicate sz 0) (([]:List PG).map Cf) (w4.setCell ⟨lb,8,none⟩ (.pointer (some ⟨ml+1,0,none⟩))):=by
  rw[oQ] at pW aZ;have pQ:=KJ.out;exact⟨Hy.set 8 _,⟨rfl,.inl ⟨rfl,rfl⟩⟩,pW.tch km (fun q=>by omega) (fun q=>by omega),⟨by omega,by omega,by omega⟩,fun b q=>(by cases q),⟨by omega,by omega,by omega⟩,cz.trans (km.below (by have:=cz.size;omega) (fun i _ q=>by omega)),by omega⟩
 have kR:=hid (E1.other lb 8 (.pointer (some ⟨ml+1,0,none⟩)) (by have:=KJ.out;omega));have dV:=hid Ku;rw[oQ];clear Fq pW gK Hy E1 aZ cz km Ku oQ;clear lW eg cw ic iJ gV;go_wp2_with fail;clear e8 f8;generalize (w4.setCell ⟨lb,8,none⟩ (.pointer (some ⟨ml+1,0,none⟩)))=w5 at kR dV ⊢;have ja:=hid (dV.out.below (Below.refl _ w5).drew);have lI:=hid (kR.out.kept (Below.refl _ w5).drew);refine dR (S:=(yt lb ml n o)) ⟨(ja.out.row.cell 8).trans rfl,(lI.out.cell 0).trans rfl,(lI.out.cell 1).trans rfl,(lI.out.cell 2).trans rfl,(lI.out.cell 3).trans rfl,(lI.out.cell 4).trans rfl,(lI.out.cell 5).trans rfl,(lI.out.cell 6).trans rfl,(lI.out.cell 7).trans rfl⟩ fun w6 aW hHeld=>?_
 rw[aW] at ja lI;clear aW;refine ap 0 1 2 3 ?_;refine aF 4 ?_;refine aJ 5 (fun K hK=>?_)
 ·go_simp;refine(eC.out _ (by rw[aq];exact ja.out.bel)).mono ?_;rintro ex w7 ⟨A7,c7,rfl,_,J2,CW⟩;have j4:=hid (ja.out.below CW);have im:=hid (lI.out.kept CW);have E8:=hid J2;have aN:(yt lb ml n o) w7:=⟨(j4.out.row.cell 8).trans rfl,(im.out.cell 0).trans rfl,(im.out.cell 1).trans rfl,(im.out.cell 2).trans rfl,(im.out.cell 3).trans rfl,(im.out.cell 4).trans rfl,(im.out.cell 5).trans rfl,(im.out.cell 6).trans rfl,(im.out.cell 7).trans rfl⟩;clear J2 CW;refine kH hK aN fun hHeld=>?_
  clear hK K;refine aJ 6 (fun K hK=>?_)
  ·go_simp;refine(Bx (ml+1) ml (List.replicate sz 0) LZ A7 c7 w7 j4.out.mem (by rw[List.length_replicate];exact MJ.out) E8.out).mono ?_;rintro ex w8 ⟨rfl,KR,Jd⟩;have nc:=hid (j4.out.filled KR Jd);have lK:=hid (im.out.tch Jd (fun q=>by have h1:=j4.out.low;have h2:=Mb.out;omega));have aN:(yt lb ml n o) w8:=⟨(nc.out.row.cell 8).trans rfl,(lK.out.cell 0).trans rfl,(lK.out.cell 1).trans rfl,(lK.out.cell 2).trans rfl,(lK.out.cell 3).trans rfl,(lK.out.cell 4).trans rfl,(lK.out.cell 5).trans rfl,(lK.out.cell 6).trans rfl,(lK.out.cell 7).trans rfl⟩;clear KR Jd;refine kH hK aN fun hHeld=>?_
   clear hK K;refine bh ?_;clear hHeld aN;clear lK im j4 E8 lI ja kR dV;go_wp2_with fail
   go_loopw [41] (fun j wr=>∃ (i:Nat) (pv:Value),i≤gs.length∧j=.int .i64 (i:Int)∧NewS n w o lb (ml+1) ml pv LZ ((gs.take i).map Cf) wr) (fun j _=>gs.length - (intOf j).toNat)
   case atStart=>exact⟨0,_,Nat.zero_le _,rfl,nc.out⟩
   case round=>
    obtain⟨i,pv,hi,rfl,hs⟩:=hrel
    by_cases aZ:i<gs.length
    ·have hd:decide ((i:Int)<(gs.length:Int))=true:=decide_eq_true (by omega);obtain⟨g,hg⟩:∃ g,gs[i]?=some g:=⟨_,List.getElem?_eq_getElem aZ⟩;obtain⟨pb,po,hA,wv,ba⟩:=(tX.out.below (by rw[aq];exact hs.bel) (Nat.le_refl _)).hd i g hg;have hx:wr.cell? ⟨pb,po+i,none⟩=some (.slice g.A g.ts.length g.c):=by simpa [tP] using ba 0 _ rfl
     have pP:(0:Int)≤(i:Int):=by omega
     have rN:(i:Int)<(gs.length:Int):=by omega
     have ub:IntKind.i64.wrap ((i:Int)+1)=(i:Int)+1:=ac (by omega) (by have:=nm.out;omega);obtain⟨Ap,np,cp,rfl⟩:=aR hs.procs;have c9:=hs.row.at 9 (.slice Ap np cp);have bZ:=hs.below ((Below.refl _ wr).alloc (Nat.le_refl _) (.cells #[.slice g.A g.ts.length g.c,.pointer none,.int .i64 0] 74));have fP:=hid bZ;have HG:=hid hg;have HI:=hid aZ;have Fv:((gs.take i).map Cf).length=i:=by rw[List.length_map,List.length_take];omega
     have qu:=hid Fv;subst hA;clear hs bZ ba wv hi hg Fv aZ;obtain⟨ht,i0,z,dD,hz,dt,rY,pX,bK⟩:=JE;go_wp2_with (at_builtin;refine wpList_append_own_at _ rfl _ _ 54 rfl n 74 i0 z 3 40 ht dD hz dt rY pX bK _ ((gs.take i).map Cf).length _ rfl fP.out.procs ⟨wr.heap.size,0,none⟩ 1 1 (Cf g).cells rfl rfl (bD wr (Cf g).cells _ _ rfl) (fun u hu=>by simp only[Cf,PG.cells,PG.ptr,List.mem_cons,List.not_mem_nil,or_false] at hu;rcases hu with rfl | rfl | rfl <;> rfl) (by have h1:=qu.out;have h2:=HI.out;have h3:=nm.out;unfold maxLen;omega) (by have h1:=qu.out;have h2:=HI.out;have h3:=nm.out;omega) (by have h1:=fP.out.bel.size;have h2:=ij.out;omega) ?_;intro v9 w9 bk lB _ cN;obtain⟨A9,n9,c9',rfl⟩:=aR bk;have da:=fJ lB (T:=fun b=>(Value.slice Ap np cp).ownBlock=some b) (fun _ h=>h);have sg:=fP.out.row.tch da (fun q=>(fP.out.po lb q).1 rfl);have d9:w9.cell? ⟨lb,9,none⟩=some (.slice Ap np cp):=(sg.cell 9).trans rfl;have f9:=sg.frozen 9);go_roundw
     case rel=>exact⟨i+1,_,by have:=HI.out;omega,by go_num,by rw[List.take_add_one,HG.out,List.map_append];exact fP.out.push (Own.app bk rfl) da cN⟩
     case measure=>simp[intOf];omega
    ·have hd:decide ((i:Int)<(gs.length:Int))=false:=decide_eq_false (by omega);obtain rfl:i=gs.length:=by omega
     rw[List.take_length] at hs;have tU:=hid hs;clear hs hi aZ;obtain⟨pb,pc,tg,hL⟩:=tU.out.loom (by rw[← aq];exact tX.out) Li.out;have nl:=hid hL;clear hL;go_wp2_with fail
     go_loopw [59] (fun jv wq=>∃ (j:Nat) (cv:Value) (tg:Nat→Nat) (gs':List PG) (es:List CV),j≤ks.length∧jv=.int .i64 (j:Int)∧Lm.GoodTo o (gH (cg gs) LZ) ks j∧LoomS n w o lb pb (ml+1) ml pc cv tg (Lm.run (cK o) Kc.step (gH (cg gs) LZ) (ks.take j)) gs' es wq) (fun jv _=>ks.length - (intOf jv).toNat)
     case atStart=>exact⟨0,_,tg,_,[],Nat.zero_le _,rfl,fun i hi=>(by have e:i=0:=Nat.le_zero.1 hi;subst e;exact⟨zM.out,rfl,fun q=>absurd q (Nat.lt_irrefl _)⟩),nl.out⟩
     case round=>
      clear nl tU tg;obtain⟨j,cv,tg,gs',es,hj,rfl,mu,hL⟩:=hrel
      by_cases aZ:j<ks.length
      ·have hd:decide ((j:Int)<(ks.length:Int))=true:=decide_eq_true (by omega);obtain⟨k,hk⟩:∃ k,ks[j]?=some k:=⟨_,List.getElem?_eq_getElem aZ⟩;obtain⟨kb,ko,hA,wU,ba⟩:=(cD.out.below (by rw[aq];exact hL.bel) (Nat.le_refl _)) j k hk;have hx:wr.cell? ⟨kb,ko+j,none⟩=some (.int .i64 k):=by simpa [bB,Enc.of1] using ba 0 _ rfl
       have rU:(0:Int)≤(j:Int):=by omega
       have zV:(j:Int)<(ks.length:Int):=by omega
       have K2:IntKind.i64.wrap ((j:Int)+1)=(j:Int)+1:=ac (by omega) (by have:=Fi.out;omega);have HT:=hid (uV hL HO.out (mu j (Nat.le_refl _)).1 (by have:=Fi.out;omega) (by rw[Lm.run_len];show((cg gs).map _).length≤_;rw[List.length_map,wS.out];exact nm.out) ns.out.1 (by rw[← aq];exact ns.out.2) k);have Lk:=hid (mu.next hk hL.mem.w32);have HK:=hid hk;have HJ:=hid aZ;subst hA;clear hL mu ba wU hj hk aZ;go_wp2_with fail;refine HT.out.mono ?_;rintro e w7 ⟨rfl,cv1,tg1,gs1,es1,hL⟩;have gI:=hid hL;clear hL;go_wp2_with fail;go_roundw
       case rel=>exact⟨j+1,cv1,tg1,gs1,es1,by have:=HJ.out;omega,by go_num,Lk.out,by rw[Lm.run_snoc HK.out];exact gI.out⟩
       case measure=>simp[intOf];omega
      ·have hd:decide ((j:Int)<(ks.length:Int))=false:=decide_eq_false (by omega);obtain rfl:j=ks.length:=by omega
       rw[List.take_length] at hL;have HF:=hid (And.intro mu hL);clear mu hL hj aZ;go_wp2_with fail;go_ret2;exact⟨lb,pb,ml+1,ml,pc,cv,tg,gs',es,rfl,HF.out.1,by rw[aq];exact HF.out.2⟩
end Go.Proofs.YtolmpehgeinlkaaGreatDoor
