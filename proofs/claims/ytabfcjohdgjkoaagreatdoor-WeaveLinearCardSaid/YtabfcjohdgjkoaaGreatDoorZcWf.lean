/- The program's loom: weave.run. -/
import Derived.Test.YtabfcjohdgjkoaaGreatDoorZcWe
import Derived.Test.YtabfcjohdgjkoaaGreatDoorZcOgT
namespace Go.Proofs.YtabfcjohdgjkoaaGreatDoor
open Go.RowKit
open Go.Lib (hid)
attribute [local go_sem] Oper.semAt_some
set_option maxHeartbeats 2000000
set_option maxRecDepth 100000
abbrev yM (a0 a1 a2:Nat) (a3:Ob) (w':World):Prop:=w'.cell? ⟨a0,8,none⟩=some (.pointer (some ⟨a1+1,0,none⟩))∧w'.cell? ⟨a2,0,none⟩=some (.int .i64 a3.k)∧w'.cell? ⟨a2,1,none⟩=some (.int .i64 a3.wd)∧w'.cell? ⟨a2,2,none⟩=some (.int .i64 a3.s)∧w'.cell? ⟨a2,3,none⟩=some (.int .i64 a3.c)∧w'.cell? ⟨a2,4,none⟩=some (.int .u32 a3.st)∧w'.cell? ⟨a2,5,none⟩=some (.slice a3.I a3.ni a3.ci)∧w'.cell? ⟨a2,6,none⟩=some (.int .i64 a3.wr)∧w'.cell? ⟨a2,7,none⟩=some (.slice a3.R a3.nr a3.cr)
theorem Pn:ElemTy Tryz.prog 69 98 3 40:=ElemTy.of (z:=.agg #[.slice none 0 0,.pointer none,.int .i64 0]) Tryz.underlying69 (by kernel_rfl) rfl (by omega)
def U4:=bn .i64
def EJ (g:PG):PG:=⟨g.A,g.c,g.ts,none,0⟩
section
variable {N:Nat} {W:World} {o:Ob} {lb mb ml:Nat} {pv:Value} {m:List Int} {gs:List PG} {w w9:World}
structure NewS (N:Nat) (W:World) (o:Ob) (lb mb ml:Nat) (pv:Value) (m:List Int) (gs:List PG) (w:World):Prop where
 row:RowB w lb (RO o mb pv (.slice none 0 0) 0) 71
 procs:Own pgE 98 N w pv gs
 mem:MemG w mb ml m
 ne:lb≠mb∧lb≠ml∧mb≠ml
 po:∀ b,pv.ownBlock=some b→b≠lb∧b≠mb∧b≠ml
 low:N≤lb∧N≤mb∧N≤ml
 bel:Below N W w
 hN:N≤W.heap.size
theorem MemG.lts {w:World} {mb ml:Nat} {m:List Int} (h:MemG w mb ml m):mb<w.heap.size∧ml<w.heap.size:=by
 obtain⟨_,_,q,o',_⟩:=h;obtain⟨cur,q2⟩:=nw o';exact⟨q.lt,q2.lt⟩
theorem NewS.below {w':World} (h:NewS N W o lb mb ml pv m gs w) (hb:Below w.heap.size w w'):NewS N W o lb mb ml pv m gs w':=by
 have ht:=Tch.of_below (fun _=>False) hb;exact⟨h.row.tch ht (fun q=>q),bl h.procs ht (fun _ _ q=>q),h.mem.tch ht (fun q=>q) (fun q=>q),h.ne,h.po,h.low,h.bel.trans (hb.mono (Nat.le_trans h.hN h.bel.size)),h.hN⟩
theorem NewS.filled {m':List Int} {w':World} (h:NewS N W o lb mb ml pv m gs w) (hm:MemG w' mb ml m') (ht:Tch (fun b=>b=ml) w w'):NewS N W o lb mb ml pv m' gs w':=
 ⟨h.row.tch ht h.ne.2.1,bl h.procs ht (fun b q=>(h.po b q).2.2),hm,h.ne,h.po,h.low,h.bel.trans (ht.below (Nat.le_trans h.hN h.bel.size) (fun i _ q=>by rw[q];exact h.low.2.2)),h.hN⟩
theorem NewS.push {pv':Value} {g:PG} (h:NewS N W o lb mb ml pv m gs w) (bU:Own pgE 98 N w9 pv' (gs++[g])) (ht:Tch (fun b=>pv.ownBlock=some b) w w9) (sG:pv'.ownBlock=pv.ownBlock∨pv'.ownBlock=some w.heap.size):
  NewS N W o lb mb ml pv' m (gs++[g]) (w9.setCell ⟨lb,9,none⟩ pv'):=by
 have iW:N≤w.heap.size:=Nat.le_trans h.hN h.bel.size;have aJ:=h.row.lt;have xn:=h.mem.lts
 have hn:∀ b,b=lb∨b=mb∨b=ml→pv.ownBlock≠some b:=fun b q e=>by
  have:=h.po b e
  rcases q with q | q | q <;> omega
 have ix:∀ b,pv'.ownBlock=some b→b≠lb∧b≠mb∧b≠ml:=fun b e=>by
  rcases sG with q | q
  ·exact h.po b (q.symm.trans e)
  ·have:=Option.some.inj (q.symm.trans e);omega
 have hs:=(Tch.refl (fun b=>b=lb) w9).set (b:=lb) rfl 9 pv';have xi:Below N w w9:=ht.below iW (fun b _ q=>(World.ownsRow.lt h.procs b q).1);have h9:=ht.size;have eE:Below N w9 (w9.setCell ⟨lb,9,none⟩ pv'):=hs.below (by omega) (fun i _ q=>by rw[q];exact h.low.1);exact⟨(h.row.tch ht (hn lb (.inl rfl))).set 9 pv',bl bU hs (fun b e q=>(ix b e).1 q),(h.mem.tch ht (hn mb (.inr (.inl rfl))) (hn ml (.inr (.inr rfl)))).tch hs (fun q=>h.ne.1 q.symm) (fun q=>h.ne.2.1 q.symm),h.ne,ix,h.low,(h.bel.trans xi).trans eE,h.hN⟩
theorem NewS.loom {A:Option Addr} (h:NewS N W o lb mb ml pv m (gs.map EJ) w) (hin:ProcsIn W N A gs) (h0:0<gs.length):∃ pb pc tg,LoomS N W o lb pb mb ml pc (.slice none 0 0) tg (gC (cV gs) m) (gs.map EJ) [] w:=by
 obtain⟨pb,pc,Tt⟩:∃ pb pc,pv=.slice (some ⟨pb,0,none⟩) gs.length pc:=by
  rcases h.procs.2 with ⟨_,e⟩ | ⟨g,cap,cur,e,_⟩
  ·rw[List.length_map] at e;omega
  ·rw[List.length_map] at e;exact⟨g,cap,e⟩
 have aJ:=World.ownsRow.lt h.procs;have pA:=h.po;subst Tt;have hp:=pA pb rfl;have Gg:=aJ pb rfl;have xn:=h.mem.lts;have JA:=h.row.lt;have eZ:=h.ne;have kw:=h.low;refine⟨pb,pc,fun b=>if b=lb then 1 else if b=pb then 2 else if b=mb then 4 else if b=ml then 5 else 0,(by rw[List.length_map];exact h.row),(by rw[List.length_map];exact h.procs),⟨rfl,.inl ⟨rfl,rfl⟩⟩,rfl,fun e he=>(by cases he),h.mem,(by unfold gC cV;simp),fun k g p h1 h2=>?_,if_pos rfl,?_,fun b q=>(by cases q),?_,?_,fun b hb=>?_,h.bel,h.hN⟩
 ·unfold gC cV at h2;rw[List.getElem?_map] at h1;dsimp only at h2;rw[List.getElem?_map,List.getElem?_map] at h2;cases hg:gs[k]? with
  | none=>rw[hg] at h1;cases h1
  | some g0=>
   rw[hg] at h1 h2;obtain rfl:=Option.some.inj h1;obtain rfl:=Option.some.inj h2;have hm:=List.mem_of_getElem? hg;exact⟨rfl,(hin.sl g0 hm).below h.bel (Nat.le_refl _),hin.cap g0 hm,fun t ht=>(hin.ws g0 hm t ht).below h.bel (Nat.le_refl _),rfl,.inl ⟨rfl,rfl⟩⟩
 ·show(if pb=lb then 1 else _)=2;rw[if_neg hp.1,if_pos rfl]
 ·show(if mb=lb then 1 else _)=4;rw[if_neg (fun q=>eZ.1 q.symm),if_neg (fun q=>hp.2.1 q.symm),if_pos rfl]
 ·show(if ml=lb then 1 else _)=5;rw[if_neg (fun q=>eZ.2.1 q.symm),if_neg (fun q=>hp.2.2 q.symm),if_neg (fun q=>eZ.2.2 q.symm),if_pos rfl]
 ·have hb:(if b=lb then 1 else if b=pb then 2 else if b=mb then 4 else if b=ml then 5 else 0)≠0:=hb
  split at hb
  ·omega
  ·split at hb
   ·omega
   ·split at hb
    ·omega
    ·split at hb
     ·omega
     ·exact absurd rfl hb
theorem Lm.turn_len {bg:Nat→Td→Kc} {st:Kc→List Int→Kc × List Int} {L:Lm} (k:Int):(Lm.turn bg st L k).ps.length=L.ps.length:=by
 unfold Lm.turn Lm.turn?
 by_cases hk:k<0
 ·rw[if_pos hk];rfl
 ·rw[if_neg hk];cases hp:L.ps[k.toNat]? with
  | none=>rfl
  | some p=>
   cases h1:Lm.one bg st L k.toNat p with
   | none=>show((Lm.one bg st L k.toNat p).getD L).ps.length=_;rw[h1];rfl
   | some L'=>
    show((Lm.one bg st L k.toNat p).getD L).ps.length=_;rw[h1];obtain⟨L1,ts,c,q,hb,rfl⟩:=Lm.one_some h1;show(L1.ps.set _ _).length=_;rw[List.length_set]
    rcases Lm.beg_some hb with ⟨rfl,_⟩ | ⟨t,ts',_,_,rfl⟩
    ·rfl
    ·simp
theorem Lm.run_len {bg:Nat→Td→Kc} {st:Kc→List Int→Kc × List Int}:∀ (ks:List Int) (L:Lm),(Lm.run bg st L ks).ps.length=L.ps.length
 | [],_=>rfl
 | k::ks,L=>(Lm.run_len ks (Lm.turn bg st L k)).trans (Lm.turn_len k)
theorem yd {pb pc j:Nat} {cv:Value} {tg:Nat→Nat} {L:Lm} {es:List CV} (h:LoomS N W o lb pb mb ml pc cv tg L gs es w) (ho:o.Ok) (hg:L.Good o j) (hj:j≤1000) (bf:L.ps.length≤1000) (hT:Tab64 W) (hG:(0:Nat)<N) (k:Int):
  Calls Tryz.prog 32 #[.pointer (some ⟨lb,0,none⟩),.int .i64 k] w (TurnR N W o lb pb mb ml pc L k):=by
 by_cases hk:k<0∨(gs.length:Int)≤k
 ·exact qt h k hk
 ·obtain⟨i,rfl⟩:∃ i:Nat,k=i:=⟨k.toNat,by omega⟩;have hl:=h.len;have hc:=h.cx;have hn:=hg.cn;have hw:=hg.now;have Hw:es.length=L.calls.length:=by rw[← hc,List.length_map]
  refine tG h ho i (by omega) (by omega) hg.inv hg.call hT hG (fun g e t ht=>?_) (by omega) (by omega);obtain⟨p,hp⟩:∃ p,L.ps[i]?=some p:=⟨_,List.getElem?_eq_getElem (by omega)⟩;have:=hg.left i p hp t.td (by rw[(h.ps i g p e hp).left];exact List.mem_map_of_mem ht);exact this
end
def Nt (o:Ob) (gs:List PG) (m ks:List Int) (w:World) (e:Ending) (w':World):Prop:=
 ∃ lb pb mb ml pc cv tg gs' es,e=.returned (.tuple #[.pointer (some ⟨lb,0,none⟩),.int .i64 0])∧Lm.GoodTo o (gC (cV gs) m) ks ks.length∧LoomS w.heap.size w o lb pb mb ml pc cv tg (Lm.run (eg o) Kc.step (gC (cV gs) m) ks) gs' es w'
theorem Cz (o:Ob) (ho:o.Ok) (A B:Option Addr) (cap kc:Nat) (gs:List PG) (l ks:List Int) (w:World) (hin:ProcsIn w w.heap.size A gs) (bf:gs.length≤1000) (iy:∀ g ∈ gs,g.ts.length≤1000) (gB:∀ g ∈ gs,∀ t ∈ g.ts,t.r.length≤1000) (hf:dE o (cV gs)=0)
  (hl:o.ni=l.length) (hI:Ws w w.heap.size o.I l) (hK:SlOf (bn .i64) w w.heap.size B ks) (ym:ks.length≤1000) (hT:Tab64 w) (hG:(0:Nat)<w.heap.size):
  Calls Tryz.prog 30 #[.agg (af o),.slice A gs.length cap,.slice B ks.length kc] w (Nt o gs (aW o l) ks w):=by
 have hF:=fun W (hb:Below w.heap.size w W)=>Cp o ho A cap gs W (hin.below hb hb.size) bf iy gB
 obtain⟨hR,yl,_⟩:=dR hf;have hZ:=oG hR hl
 have mg:Lm.Good o 0 (gC (cV gs) (aW o l)):=Lm.Good.start hf hZ (fun x hx t ht=>by
  unfold cV at hx;obtain⟨g,hg,rfl⟩:=List.mem_map.1 hx;obtain⟨u,hu,rfl⟩:=List.mem_map.1 ht;exact⟨gB g hg u hu,jD (hin.ws g hg u hu)⟩)
 have h0:0<gs.length:=by have:=yl;unfold cV at this;rw[List.length_map] at this;omega
 have Mj:=hid mg;have fH:=ny o;obtain⟨sz,bY⟩:∃ sz:Nat,aB o=sz:=⟨(aB o).toNat,by omega⟩;have JM:(aW o l).length=sz:=by omega
 have rI:=hid fun W=>bY ▸ IY o ho W
 have R8:=hid fun W=>IJ sz (by omega) W
 have iT:=hid fun W (hb:Below w.heap.size w W)=>LU o ho l w.heap.size W hl (hI.below hb (Nat.le_refl _)) hb.size
 have hn:=RowB.new w (af o) 26;have hB:=bK w (.cells (af o) 26);obtain⟨n,aI⟩:∃ n,w.heap.size=n:=⟨_,rfl⟩;rw[aI] at hn hB;have HN:=hid hn;have HB:=hid hB;unfold af at HN HB;obtain⟨fv,K4⟩:∃ x,dE o (cV gs)=x:=⟨_,rfl⟩;rw[K4] at hF hf;subst hf;obtain⟨LZ,QK⟩:∃ x,aW o l=x:=⟨_,rfl⟩;rw[QK] at JM iT Mj ⊢;unfold af at hF rI iT;have HF:=hid (hF _ (by rw[aI];exact HB.out));have CY:=hid hin;have CZ:=hid bf;have Jf:=hid hK;have Mo:=hid ym;have yF:=hid (And.intro hT hG);have HO:=hid ho;have R1:=hid h0;have Sq:=hid JM;have Sh:=hid (show sz≤4096 by omega);have lF:=hid aI;have Fy:=hid (show(cV gs).length=gs.length by unfold cV;rw[List.length_map]);clear hn hB hF K4 hin bf iy gB ho hl hI hK ym hT hG h0 hZ mg yl hR fH bY QK JM;unfold af;go_enter Tryz.func30,Tryz.ntmps30;go_wp2_with fail;refine HF.out.mono ?_;rintro e w1 ⟨rfl,hb⟩;have bN:=hb.size;have aq:Below n w w1:=eC HB.out hb;have bV:=HN.out.kept hb;have hc:=bV.c8;obtain⟨c0,c1,c2,c3,c4,c5,c6,c7⟩:=hc;have ah:=RowB.new w1 #[.int .i64 o.k,.int .i64 o.wd,.int .i64 o.s,.int .i64 o.c,.int .u32 o.st,.slice o.I o.ni o.ci,.int .i64 o.wr,.slice o.R o.nr o.cr,.pointer none,.slice none 0 0,.slice none 0 0,.int .i64 0] 71;have av:=bV.kept ((Below.refl _ w1).alloc (Nat.le_refl _) (.cells #[.int .i64 o.k,.int .i64 o.wd,.int .i64 o.s,.int .i64 o.c,.int .u32 o.st,.slice o.I o.ni o.ci,.int .i64 o.wr,.slice o.R o.nr o.cr,.pointer none,.slice none 0 0,.slice none 0 0,.int .i64 0] 71));have aO:Below n w (w1.alloc (.cells #[.int .i64 o.k,.int .i64 o.wd,.int .i64 o.s,.int .i64 o.c,.int .u32 o.st,.slice o.I o.ni o.ci,.int .i64 o.wr,.slice o.R o.nr o.cr,.pointer none,.slice none 0 0,.slice none 0 0,.int .i64 0] 71)):=aq.alloc (by have:=bV.lt;omega) _;have hd:(w1.alloc (.cells #[.int .i64 o.k,.int .i64 o.wd,.int .i64 o.s,.int .i64 o.c,.int .u32 o.st,.slice o.I o.ni o.ci,.int .i64 o.wr,.slice o.R o.nr o.cr,.pointer none,.slice none 0 0,.slice none 0 0,.int .i64 0] 71)).cell? ⟨n,0,none⟩=some (.int .i64 o.k)∧(w1.alloc (.cells #[.int .i64 o.k,.int .i64 o.wd,.int .i64 o.s,.int .i64 o.c,.int .u32 o.st,.slice o.I o.ni o.ci,.int .i64 o.wr,.slice o.R o.nr o.cr,.pointer none,.slice none 0 0,.slice none 0 0,.int .i64 0] 71)).cell? ⟨n,1,none⟩=some (.int .i64 o.wd)∧(w1.alloc (.cells #[.int .i64 o.k,.int .i64 o.wd,.int .i64 o.s,.int .i64 o.c,.int .u32 o.st,.slice o.I o.ni o.ci,.int .i64 o.wr,.slice o.R o.nr o.cr,.pointer none,.slice none 0 0,.slice none 0 0,.int .i64 0] 71)).cell? ⟨n,2,none⟩=some (.int .i64 o.s)∧(w1.alloc (.cells #[.int .i64 o.k,.int .i64 o.wd,.int .i64 o.s,.int .i64 o.c,.int .u32 o.st,.slice o.I o.ni o.ci,.int .i64 o.wr,.slice o.R o.nr o.cr,.pointer none,.slice none 0 0,.slice none 0 0,.int .i64 0] 71)).cell? ⟨n,3,none⟩=some (.int .i64 o.c)∧(w1.alloc (.cells #[.int .i64 o.k,.int .i64 o.wd,.int .i64 o.s,.int .i64 o.c,.int .u32 o.st,.slice o.I o.ni o.ci,.int .i64 o.wr,.slice o.R o.nr o.cr,.pointer none,.slice none 0 0,.slice none 0 0,.int .i64 0] 71)).cell? ⟨n,4,none⟩=some (.int .u32 o.st)∧(w1.alloc (.cells #[.int .i64 o.k,.int .i64 o.wd,.int .i64 o.s,.int .i64 o.c,.int .u32 o.st,.slice o.I o.ni o.ci,.int .i64 o.wr,.slice o.R o.nr o.cr,.pointer none,.slice none 0 0,.slice none 0 0,.int .i64 0] 71)).cell? ⟨n,5,none⟩=some (.slice o.I o.ni o.ci)∧(w1.alloc (.cells #[.int .i64 o.k,.int .i64 o.wd,.int .i64 o.s,.int .i64 o.c,.int .u32 o.st,.slice o.I o.ni o.ci,.int .i64 o.wr,.slice o.R o.nr o.cr,.pointer none,.slice none 0 0,.slice none 0 0,.int .i64 0] 71)).cell? ⟨n,6,none⟩=some (.int .i64 o.wr)∧(w1.alloc (.cells #[.int .i64 o.k,.int .i64 o.wd,.int .i64 o.s,.int .i64 o.c,.int .u32 o.st,.slice o.I o.ni o.ci,.int .i64 o.wr,.slice o.R o.nr o.cr,.pointer none,.slice none 0 0,.slice none 0 0,.int .i64 0] 71)).cell? ⟨n,7,none⟩=some (.slice o.R o.nr o.cr):=(by and_intros <;> exact av.c rfl);obtain⟨lb,rN⟩:∃ x,w1.heap.size=x:=⟨_,rfl⟩;obtain⟨d0,d1,d2,d3,d4,d5,d6,d7⟩:=hd;rw[rN] at ah;have JE:n<lb:=by have:=bV.lt;omega
 have cD:=hid aO;have gc:=hid av;have vm:=hid ah;have PX:=hid JE;clear hb bV aq bN ah aO av JE;go_wp2_with fail;clear c0 c1 c2 c3 c4 c5 c6 c7 d0 d1 d2 d3 d4 d5 d6 d7;have M5:=hid rN;clear rN;generalize (w1.alloc (.cells #[.int .i64 o.k,.int .i64 o.wd,.int .i64 o.s,.int .i64 o.c,.int .u32 o.st,.slice o.I o.ni o.ci,.int .i64 o.wr,.slice o.R o.nr o.cr,.pointer none,.slice none 0 0,.slice none 0 0,.int .i64 0] 71))=w2 at cD gc vm ⊢;refine(rI.out _).mono ?_;rintro e w3 ⟨rfl,gR⟩;have jE:=hid (cD.out.trans (gR.mono (by have:=gc.out.lt;omega)));have lG:=hid (gc.out.kept gR);have kE:=hid (vm.out.kept gR);clear gR;go_wp2_with fail;refine(R8.out _).mono ?_;rintro e w4 ⟨rfl,kL⟩;obtain⟨ml,xn⟩:∃ x,w3.heap.size=x:=⟨_,rfl⟩;have xm:=Ev w3 Sh.out;rw[← kL] at xm
 have uf:Below w3.heap.size w3 w4:=by
  rw[kL];exact(bK w3 _).alloc (by rw[World.size_alloc];omega) _
 have R9:=hid (show n<ml by have:=lG.out.lt;omega);have Id:=kE.out.kept uf;have Ec:=lG.out.kept uf;have aJ:=kE.out.lt;have cH:=jE.out.trans (uf.mono (by have:=lG.out.lt;omega));have e8:=Id.at 8 (.pointer none);have f8:=Id.frozen 8;have aC:=(Tch.refl (fun b=>b=lb) w4).set (b:=lb) rfl 8 (.pointer (some ⟨ml+1,0,none⟩))
 have vM:NewS n w o lb (ml+1) ml (.slice none 0 0) (List.replicate sz 0) (([]:List PG).map EJ) (w4.setCell ⟨lb,8,none⟩ (.pointer (some ⟨ml+1,0,none⟩))):=by
  rw[xn] at xm aJ;have JE:=PX.out;exact⟨Id.set 8 _,⟨rfl,.inl ⟨rfl,rfl⟩⟩,xm.tch aC (fun q=>by omega) (fun q=>by omega),⟨by omega,by omega,by omega⟩,fun b q=>(by cases q),⟨by omega,by omega,by omega⟩,cH.trans (aC.below (by have:=cH.size;omega) (fun i _ q=>by omega)),by omega⟩
 have tR:=hid (Ec.other lb 8 (.pointer (some ⟨ml+1,0,none⟩)) (by have:=PX.out;omega));have gD:=hid vM;rw[xn];clear kL xm uf Id Ec aJ cH aC vM xn;clear vm gc cD jE lG kE;go_wp2_with fail;clear e8 f8;generalize (w4.setCell ⟨lb,8,none⟩ (.pointer (some ⟨ml+1,0,none⟩)))=w5 at tR gD ⊢;have mG:=hid (gD.out.below (Below.refl _ w5).drew);have rH:=hid (tR.out.kept (Below.refl _ w5).drew);refine fg (S:=(yM lb ml n o)) ⟨(mG.out.row.cell 8).trans rfl,(rH.out.cell 0).trans rfl,(rH.out.cell 1).trans rfl,(rH.out.cell 2).trans rfl,(rH.out.cell 3).trans rfl,(rH.out.cell 4).trans rfl,(rH.out.cell 5).trans rfl,(rH.out.cell 6).trans rfl,(rH.out.cell 7).trans rfl⟩ fun w6 bq hHeld=>?_
 rw[bq] at mG rH;clear bq;refine ai 0 1 2 3 ?_;refine aX 4 ?_;refine aV 5 (fun K hK=>?_)
 ·go_simp;refine(iT.out _ (by rw[aI];exact mG.out.bel)).mono ?_;rintro ex w7 ⟨A7,c7,rfl,_,RI,p8⟩;have pg:=hid (mG.out.below p8);have o5:=hid (rH.out.kept p8);have Jn:=hid RI;have aw:(yM lb ml n o) w7:=⟨(pg.out.row.cell 8).trans rfl,(o5.out.cell 0).trans rfl,(o5.out.cell 1).trans rfl,(o5.out.cell 2).trans rfl,(o5.out.cell 3).trans rfl,(o5.out.cell 4).trans rfl,(o5.out.cell 5).trans rfl,(o5.out.cell 6).trans rfl,(o5.out.cell 7).trans rfl⟩;clear RI p8;refine kH hK aw fun hHeld=>?_
  clear hK K;refine aV 6 (fun K hK=>?_)
  ·go_simp;refine(Ew (ml+1) ml (List.replicate sz 0) LZ A7 c7 w7 pg.out.mem (by rw[List.length_replicate];exact Sq.out) Jn.out).mono ?_;rintro ex w8 ⟨rfl,Rk,OX⟩;have wI:=hid (pg.out.filled Rk OX);have o6:=hid (o5.out.tch OX (fun q=>by have h1:=pg.out.low;have h2:=R9.out;omega));have aw:(yM lb ml n o) w8:=⟨(wI.out.row.cell 8).trans rfl,(o6.out.cell 0).trans rfl,(o6.out.cell 1).trans rfl,(o6.out.cell 2).trans rfl,(o6.out.cell 3).trans rfl,(o6.out.cell 4).trans rfl,(o6.out.cell 5).trans rfl,(o6.out.cell 6).trans rfl,(o6.out.cell 7).trans rfl⟩;clear Rk OX;refine kH hK aw fun hHeld=>?_
   clear hK K;refine aY ?_;clear hHeld aw;clear o6 o5 pg Jn rH mG tR gD;go_wp2_with fail
   go_loopw [41] (fun j wr=>∃ (i:Nat) (pv:Value),i≤gs.length∧j=.int .i64 (i:Int)∧NewS n w o lb (ml+1) ml pv LZ ((gs.take i).map EJ) wr) (fun j _=>gs.length - (intOf j).toNat)
   case atStart=>exact⟨0,_,Nat.zero_le _,rfl,wI.out⟩
   case round=>
    obtain⟨i,pv,hi,rfl,hs⟩:=hrel
    by_cases aJ:i<gs.length
    ·have hd:decide ((i:Int)<(gs.length:Int))=true:=decide_eq_true (by omega);obtain⟨g,hg⟩:∃ g,gs[i]?=some g:=⟨_,List.getElem?_eq_getElem aJ⟩;obtain⟨pb,po,hA,Im,cJ⟩:=(CY.out.below (by rw[aI];exact hs.bel) (Nat.le_refl _)).hd i g hg;have hx:wr.cell? ⟨pb,po+i,none⟩=some (.slice g.A g.ts.length g.c):=by simpa [Hs] using cJ 0 _ rfl
     have px:(0:Int)≤(i:Int):=by omega
     have ul:(i:Int)<(gs.length:Int):=by omega
     have Ix:IntKind.i64.wrap ((i:Int)+1)=(i:Int)+1:=ag (by omega) (by have:=CZ.out;omega);obtain⟨Ap,np,cp,rfl⟩:=cz hs.procs;have c9:=hs.row.at 9 (.slice Ap np cp);have bN:=hs.below ((Below.refl _ wr).alloc (Nat.le_refl _) (.cells #[.slice g.A g.ts.length g.c,.pointer none,.int .i64 0] 98));have lV:=hid bN;have HG:=hid hg;have HI:=hid aJ;have JB:((gs.take i).map EJ).length=i:=by rw[List.length_map,List.length_take];omega
     have P8:=hid JB;subst hA;clear hs bN cJ Im hi hg JB aJ;obtain⟨ht,i0,z,fy,hz,fI,yj,AB,bY⟩:=Pn;go_wp2_with (at_builtin;refine wpList_append_own_at _ rfl _ _ 69 rfl n 98 i0 z 3 40 ht fy hz fI yj AB bY _ ((gs.take i).map EJ).length _ rfl lV.out.procs ⟨wr.heap.size,0,none⟩ 1 1 (EJ g).cells rfl rfl (cE wr (EJ g).cells _ _ rfl) (fun u hu=>by simp only[EJ,PG.cells,PG.ptr,List.mem_cons,List.not_mem_nil,or_false] at hu;rcases hu with rfl | rfl | rfl <;> rfl) (by have h1:=P8.out;have h2:=HI.out;have h3:=CZ.out;unfold maxLen;omega) (by have h1:=P8.out;have h2:=HI.out;have h3:=CZ.out;omega) (by have h1:=lV.out.bel.size;have h2:=lF.out;omega) ?_;intro v9 w9 ck Ib _ gU;obtain⟨A9,n9,c9',rfl⟩:=cz ck;have iH:=l9 Ib (T:=fun b=>(Value.slice Ap np cp).ownBlock=some b) (fun _ h=>h);have Ri:=lV.out.row.tch iH (fun q=>(lV.out.po lb q).1 rfl);have d9:w9.cell? ⟨lb,9,none⟩=some (.slice Ap np cp):=(Ri.cell 9).trans rfl;have f9:=Ri.frozen 9);go_roundw
     case rel=>exact⟨i+1,_,by have:=HI.out;omega,by go_num,by rw[List.take_add_one,HG.out,List.map_append];exact lV.out.push (Own.app ck rfl) iH gU⟩
     case measure=>simp[intOf];omega
    ·have hd:decide ((i:Int)<(gs.length:Int))=false:=decide_eq_false (by omega);obtain rfl:i=gs.length:=by omega
     rw[List.take_length] at hs;have yD:=hid hs;clear hs hi aJ;obtain⟨pb,pc,tg,hL⟩:=yD.out.loom (by rw[← aI];exact CY.out) R1.out;have Jg:=hid hL;clear hL;go_wp2_with fail
     go_loopw [59] (fun jv wq=>∃ (j:Nat) (cv:Value) (tg:Nat→Nat) (gs':List PG) (es:List CV),j≤ks.length∧jv=.int .i64 (j:Int)∧Lm.GoodTo o (gC (cV gs) LZ) ks j∧LoomS n w o lb pb (ml+1) ml pc cv tg (Lm.run (eg o) Kc.step (gC (cV gs) LZ) (ks.take j)) gs' es wq) (fun jv _=>ks.length - (intOf jv).toNat)
     case atStart=>exact⟨0,_,tg,_,[],Nat.zero_le _,rfl,fun i hi=>(by have e:i=0:=Nat.le_zero.1 hi;subst e;exact⟨Mj.out,rfl,fun q=>absurd q (Nat.lt_irrefl _)⟩),Jg.out⟩
     case round=>
      clear Jg yD tg;obtain⟨j,cv,tg,gs',es,hj,rfl,mg,hL⟩:=hrel
      by_cases aJ:j<ks.length
      ·have hd:decide ((j:Int)<(ks.length:Int))=true:=decide_eq_true (by omega);obtain⟨k,hk⟩:∃ k,ks[j]?=some k:=⟨_,List.getElem?_eq_getElem aJ⟩;obtain⟨kb,ko,hA,zT,cJ⟩:=(Jf.out.below (by rw[aI];exact hL.bel) (Nat.le_refl _)) j k hk;have hx:wr.cell? ⟨kb,ko+j,none⟩=some (.int .i64 k):=by simpa [bn,Enc.of1] using cJ 0 _ rfl
       have UN:(0:Int)≤(j:Int):=by omega
       have UO:(j:Int)<(ks.length:Int):=by omega
       have UX:IntKind.i64.wrap ((j:Int)+1)=(j:Int)+1:=ag (by omega) (by have:=Mo.out;omega);have HT:=hid (yd hL HO.out (mg j (Nat.le_refl _)).1 (by have:=Mo.out;omega) (by rw[Lm.run_len];show((cV gs).map _).length≤_;rw[List.length_map,Fy.out];exact CZ.out) yF.out.1 (by rw[← aI];exact yF.out.2) k);have R0:=hid (mg.next hk hL.mem.w32);have HK:=hid hk;have HJ:=hid aJ;subst hA;clear hL mg cJ zT hj hk aJ;go_wp2_with fail;refine HT.out.mono ?_;rintro e w7 ⟨rfl,cv1,tg1,gs1,es1,hL⟩;have pI:=hid hL;clear hL;go_wp2_with fail;go_roundw
       case rel=>exact⟨j+1,cv1,tg1,gs1,es1,by have:=HJ.out;omega,by go_num,R0.out,by rw[Lm.run_snoc HK.out];exact pI.out⟩
       case measure=>simp[intOf];omega
      ·have hd:decide ((j:Int)<(ks.length:Int))=false:=decide_eq_false (by omega);obtain rfl:j=ks.length:=by omega
       rw[List.take_length] at hL;have HF:=hid (And.intro mg hL);clear mg hL hj aJ;go_wp2_with fail;go_ret2;exact⟨lb,pb,ml+1,ml,pc,cv,tg,gs',es,rfl,HF.out.1,by rw[aI];exact HF.out.2⟩
end Go.Proofs.YtabfcjohdgjkoaaGreatDoor
