/- The program's loom: weave.run. -/
import Derived.Test.YtolmpehgeinlkaaGreatDoorZcWe
import Derived.Test.YtolmpehgeinlkaaGreatDoorZcOgT
namespace Go.Proofs.YtolmpehgeinlkaaGreatDoor
open Go.RowKit
open Go.Lib (hid)
attribute [local go_sem] Oper.semAt_some
set_option maxHeartbeats 2000000
set_option maxRecDepth 100000
abbrev QWvF0 (a0 a1 a2:Nat) (a3:Ob) (w':World):Prop:=w'.cell? ⟨a0,8,none⟩=some (.pointer (some ⟨a1+1,0,none⟩))∧w'.cell? ⟨a2,0,none⟩=some (.int .i64 a3.k)∧w'.cell? ⟨a2,1,none⟩=some (.int .i64 a3.wd)∧w'.cell? ⟨a2,2,none⟩=some (.int .i64 a3.s)∧w'.cell? ⟨a2,3,none⟩=some (.int .i64 a3.c)∧w'.cell? ⟨a2,4,none⟩=some (.int .u32 a3.st)∧w'.cell? ⟨a2,5,none⟩=some (.slice a3.I a3.ni a3.ci)∧w'.cell? ⟨a2,6,none⟩=some (.int .i64 a3.wr)∧w'.cell? ⟨a2,7,none⟩=some (.slice a3.R a3.nr a3.cr)
theorem pgTy:ElemTy Tryz.prog 54 74 3 40:=ElemTy.of (z:=.agg #[.slice none 0 0,.pointer none,.int .i64 0]) Tryz.underlying54 (by kernel_rfl) rfl (by omega)
def ksE:=ints .i64
def pg0 (g:PG):PG:=⟨g.A,g.c,g.ts,none,0⟩
section
variable {N:Nat} {W:World} {o:Ob} {lb mb ml:Nat} {pv:Value} {m:List Int} {gs:List PG} {w w9:World}
structure NewS (N:Nat) (W:World) (o:Ob) (lb mb ml:Nat) (pv:Value) (m:List Int) (gs:List PG) (w:World):Prop where
 row:RowB w lb (lmV o mb pv (.slice none 0 0) 0) 56
 procs:Own pgE 74 N w pv gs
 mem:MemG w mb ml m
 ne:lb≠mb∧lb≠ml∧mb≠ml
 po:∀ b,pv.ownBlock=some b→b≠lb∧b≠mb∧b≠ml
 low:N≤lb∧N≤mb∧N≤ml
 bel:Below N W w
 hN:N≤W.heap.size
theorem MemG.lts {w:World} {mb ml:Nat} {m:List Int} (h:MemG w mb ml m):mb<w.heap.size∧ml<w.heap.size:=by
 obtain⟨_,_,q,o',_⟩:=h;obtain⟨cur,q2⟩:=own_row o';exact⟨q.lt,q2.lt⟩
theorem NewS.below {w':World} (h:NewS N W o lb mb ml pv m gs w) (hb:Below w.heap.size w w'):NewS N W o lb mb ml pv m gs w':=by
 have ht:=Tch.of_below (fun _=>False) hb;exact⟨h.row.tch ht (fun q=>q),own_tch h.procs ht (fun _ _ q=>q),h.mem.tch ht (fun q=>q) (fun q=>q),h.ne,h.po,h.low,h.bel.trans (hb.mono (Nat.le_trans h.hN h.bel.size)),h.hN⟩
theorem NewS.filled {m':List Int} {w':World} (h:NewS N W o lb mb ml pv m gs w) (hm:MemG w' mb ml m') (ht:Tch (fun b=>b=ml) w w'):NewS N W o lb mb ml pv m' gs w':=
 ⟨h.row.tch ht h.ne.2.1,own_tch h.procs ht (fun b q=>(h.po b q).2.2),hm,h.ne,h.po,h.low,h.bel.trans (ht.below (Nat.le_trans h.hN h.bel.size) (fun i _ q=>by rw[q];exact h.low.2.2)),h.hN⟩
theorem NewS.push {pv':Value} {g:PG} (h:NewS N W o lb mb ml pv m gs w) (hown:Own pgE 74 N w9 pv' (gs++[g])) (ht:Tch (fun b=>pv.ownBlock=some b) w w9) (hob:pv'.ownBlock=pv.ownBlock∨pv'.ownBlock=some w.heap.size):
  NewS N W o lb mb ml pv' m (gs++[g]) (w9.setCell ⟨lb,9,none⟩ pv'):=by
 have hlow:N≤w.heap.size:=Nat.le_trans h.hN h.bel.size;have hlt:=h.row.lt;have hml:=h.mem.lts
 have hn:∀ b,b=lb∨b=mb∨b=ml→pv.ownBlock≠some b:=fun b q e=>by
  have:=h.po b e
  rcases q with q | q | q <;> omega
 have hp':∀ b,pv'.ownBlock=some b→b≠lb∧b≠mb∧b≠ml:=fun b e=>by
  rcases hob with q | q
  ·exact h.po b (q.symm.trans e)
  ·have:=Option.some.inj (q.symm.trans e);omega
 have hs:=(Tch.refl (fun b=>b=lb) w9).set (b:=lb) rfl 9 pv';have hb9:Below N w w9:=ht.below hlow (fun b _ q=>(World.ownsRow.lt h.procs b q).1);have h9:=ht.size;have hbs:Below N w9 (w9.setCell ⟨lb,9,none⟩ pv'):=hs.below (by omega) (fun i _ q=>by rw[q];exact h.low.1);exact⟨(h.row.tch ht (hn lb (.inl rfl))).set 9 pv',own_tch hown hs (fun b e q=>(hp' b e).1 q),(h.mem.tch ht (hn mb (.inr (.inl rfl))) (hn ml (.inr (.inr rfl)))).tch hs (fun q=>h.ne.1 q.symm) (fun q=>h.ne.2.1 q.symm),h.ne,hp',h.low,(h.bel.trans hb9).trans hbs,h.hN⟩
theorem NewS.loom {A:Option Addr} (h:NewS N W o lb mb ml pv m (gs.map pg0) w) (hin:ProcsIn W N A gs) (h0:0<gs.length):∃ pb pc tg,LoomS N W o lb pb mb ml pc (.slice none 0 0) tg (lm0 (tds gs) m) (gs.map pg0) [] w:=by
 obtain⟨pb,pc,hpv⟩:∃ pb pc,pv=.slice (some ⟨pb,0,none⟩) gs.length pc:=by
  rcases h.procs.2 with ⟨_,e⟩ | ⟨g,cap,cur,e,_⟩
  ·rw[List.length_map] at e;omega
  ·rw[List.length_map] at e;exact⟨g,cap,e⟩
 have hlt:=World.ownsRow.lt h.procs;have hpo:=h.po;subst hpv;have hp:=hpo pb rfl;have hpl:=hlt pb rfl;have hml:=h.mem.lts;have hll:=h.row.lt;have hne:=h.ne;have hlo:=h.low;refine⟨pb,pc,fun b=>if b=lb then 1 else if b=pb then 2 else if b=mb then 4 else if b=ml then 5 else 0,(by rw[List.length_map];exact h.row),(by rw[List.length_map];exact h.procs),⟨rfl,.inl ⟨rfl,rfl⟩⟩,rfl,fun e he=>(by cases he),h.mem,(by unfold lm0 tds;simp),fun k g p h1 h2=>?_,if_pos rfl,?_,fun b q=>(by cases q),?_,?_,fun b hb=>?_,h.bel,h.hN⟩
 ·unfold lm0 tds at h2;rw[List.getElem?_map] at h1;dsimp only at h2;rw[List.getElem?_map,List.getElem?_map] at h2;cases hg:gs[k]? with
  | none=>rw[hg] at h1;cases h1
  | some g0=>
   rw[hg] at h1 h2;obtain rfl:=Option.some.inj h1;obtain rfl:=Option.some.inj h2;have hm:=List.mem_of_getElem? hg;exact⟨rfl,(hin.sl g0 hm).below h.bel (Nat.le_refl _),hin.cap g0 hm,fun t ht=>(hin.ws g0 hm t ht).below h.bel (Nat.le_refl _),rfl,.inl ⟨rfl,rfl⟩⟩
 ·show(if pb=lb then 1 else _)=2;rw[if_neg hp.1,if_pos rfl]
 ·show(if mb=lb then 1 else _)=4;rw[if_neg (fun q=>hne.1 q.symm),if_neg (fun q=>hp.2.1 q.symm),if_pos rfl]
 ·show(if ml=lb then 1 else _)=5;rw[if_neg (fun q=>hne.2.1 q.symm),if_neg (fun q=>hp.2.2 q.symm),if_neg (fun q=>hne.2.2 q.symm),if_pos rfl]
 ·have hb:(if b=lb then 1 else if b=pb then 2 else if b=mb then 4 else if b=ml then 5 else 0)≠0:=hb
  split at hb
  ·omega
  ·split at hb
   ·omega
   ·split at hb
    ·omega
    ·split at hb
     ·omega
     ·exact absurd rfl hb
theorem Lm.turn_len {bg:Nat→Td→Kc} {st:Kc→List Int→Kc × List Int} {L:Lm} (k:Int):(Lm.turn bg st L k).ps.length=L.ps.length:=by
 unfold Lm.turn Lm.turn?
 by_cases hk:k<0
 ·rw[if_pos hk];rfl
 ·rw[if_neg hk];cases hp:L.ps[k.toNat]? with
  | none=>rfl
  | some p=>
   cases h1:Lm.one bg st L k.toNat p with
   | none=>show((Lm.one bg st L k.toNat p).getD L).ps.length=_;rw[h1];rfl
   | some L'=>
    show((Lm.one bg st L k.toNat p).getD L).ps.length=_;rw[h1];obtain⟨L1,ts,c,q,hb,rfl⟩:=Lm.one_some h1;show(L1.ps.set _ _).length=_;rw[List.length_set]
    rcases Lm.beg_some hb with ⟨rfl,_⟩ | ⟨t,ts',_,_,rfl⟩
    ·rfl
    ·simp
theorem Lm.run_len {bg:Nat→Td→Kc} {st:Kc→List Int→Kc × List Int}:∀ (ks:List Int) (L:Lm),(Lm.run bg st L ks).ps.length=L.ps.length
 | [],_=>rfl
 | k::ks,L=>(Lm.run_len ks (Lm.turn bg st L k)).trans (Lm.turn_len k)
theorem wturn_any {pb pc j:Nat} {cv:Value} {tg:Nat→Nat} {L:Lm} {es:List CV} (h:LoomS N W o lb pb mb ml pc cv tg L gs es w) (ho:o.Ok) (hg:L.Good o j) (hj:j≤1000) (hlen:L.ps.length≤1000) (hT:Tab64 W) (hG:(0:Nat)<N) (k:Int):
  Calls Tryz.prog 27 #[.pointer (some ⟨lb,0,none⟩),.int .i64 k] w (TurnR N W o lb pb mb ml pc L k):=by
 by_cases hk:k<0∨(gs.length:Int)≤k
 ·exact wturn_out h k hk
 ·obtain⟨i,rfl⟩:∃ i:Nat,k=i:=⟨k.toNat,by omega⟩;have hl:=h.len;have hc:=h.cx;have hn:=hg.cn;have hw:=hg.now;have hes:es.length=L.calls.length:=by rw[← hc,List.length_map]
  refine wturn_in h ho i (by omega) (by omega) hg.inv hg.call hT hG (fun g e t ht=>?_) (by omega) (by omega);obtain⟨p,hp⟩:∃ p,L.ps[i]?=some p:=⟨_,List.getElem?_eq_getElem (by omega)⟩;have:=hg.left i p hp t.td (by rw[(h.ps i g p e hp).left];exact List.mem_map_of_mem ht);exact this
end
def RunR (o:Ob) (gs:List PG) (m ks:List Int) (w:World) (e:Ending) (w':World):Prop:=
 ∃ lb pb mb ml pc cv tg gs' es,e=.returned (.tuple #[.pointer (some ⟨lb,0,none⟩),.int .i64 0])∧Lm.GoodTo o (lm0 (tds gs) m) ks ks.length∧LoomS w.heap.size w o lb pb mb ml pc cv tg (Lm.run (bgO o) Kc.step (lm0 (tds gs) m) ks) gs' es w'
theorem wrun_1 (o:Ob) (ho:o.Ok) (A B:Option Addr) (cap kn kc:Nat) (gs:List PG) (w:World) (hin:ProcsIn w w.heap.size A gs) (hlen:gs.length≤1000) (hts:∀ g ∈ gs,g.ts.length≤1000) (hrs:∀ g ∈ gs,∀ t ∈ g.ts,t.r.length≤1000) (hf:faultP o (tds gs)≠0):
  Calls Tryz.prog 18 #[.agg (obA o),.slice A gs.length cap,.slice B kn kc] w fun e w'=>e=.returned (.tuple #[.pointer none,.int .i64 (faultP o (tds gs))])∧Below w.heap.size w w':=by
 have hF:=fun W (hb:Below w.heap.size w W)=>wfault_o o ho A cap gs W (hin.below hb hb.size) hlen hts hrs
 have hn:=RowB.new w (obA o) 26;have hB:=(Below.refl w.heap.size w).alloc (Nat.le_refl _) (.cells (obA o) 26);obtain⟨n,hn0⟩:∃ n,w.heap.size=n:=⟨_,rfl⟩;rw[hn0] at hn hB;have HN:=hid hn;have HB:=hid hB;unfold obA at HN HB;unfold obA at hF;obtain⟨fv,hfv⟩:∃ x,faultP o (tds gs)=x:=⟨_,rfl⟩;rw[hfv] at hF hf ⊢;have HF:=hid (hF _ (by rw[hn0];exact HB.out));have d0:(fv != 0)=true:=by simpa using hf
 rw[hn0];clear hn hB hF hf hfv hin hlen hts hrs ho;unfold obA;go_enter Tryz.func18,Tryz.ntmps18;go_wp2_with fail;refine HF.out.mono ?_;rintro e w1 ⟨rfl,hb⟩;have HB1:=hid (HB.out.trans (hb.mono (by have:=HB.out.size;omega)));clear hb;go_wp2_with fail;go_ret2;exact⟨rfl,HB1.out⟩
theorem wrun_2 (o:Ob) (ho:o.Ok) (A B:Option Addr) (cap kc:Nat) (gs:List PG) (l ks:List Int) (w:World) (hin:ProcsIn w w.heap.size A gs) (hlen:gs.length≤1000) (hts:∀ g ∈ gs,g.ts.length≤1000) (hrs:∀ g ∈ gs,∀ t ∈ g.ts,t.r.length≤1000) (hf:faultP o (tds gs)=0)
  (hl:o.ni=l.length) (hI:Ws w w.heap.size o.I l) (hK:SlOf (ints .i64) w w.heap.size B ks) (hkn:ks.length≤1000) (hT:Tab64 w) (hG:(0:Nat)<w.heap.size):
  Calls Tryz.prog 18 #[.agg (obA o),.slice A gs.length cap,.slice B ks.length kc] w (RunR o gs (layZ o l) ks w):=by
 have hF:=fun W (hb:Below w.heap.size w W)=>wfault_o o ho A cap gs W (hin.below hb hb.size) hlen hts hrs
 obtain⟨hR,hgl,_⟩:=fault_zero hf;have hZ:=layZ_len hR hl
 have hgd:Lm.Good o 0 (lm0 (tds gs) (layZ o l)):=Lm.Good.start hf hZ (fun x hx t ht=>by
  unfold tds at hx;obtain⟨g,hg,rfl⟩:=List.mem_map.1 hx;obtain⟨u,hu,rfl⟩:=List.mem_map.1 ht;exact⟨hrs g hg u hu,ws_w32 (hin.ws g hg u hu)⟩)
 have h0:0<gs.length:=by have:=hgl;unfold tds at this;rw[List.length_map] at this;omega
 have HGD:=hid hgd;have hsb:=size_bd o;obtain⟨sz,hsz⟩:∃ sz:Nat,sizeZ o=sz:=⟨(sizeZ o).toNat,by omega⟩;have hzl:(layZ o l).length=sz:=by omega
 have HSZ:=hid fun W=>hsz ▸ size_o o ho W
 have HMN:=hid fun W=>mnew_g sz (by omega) W
 have HLA:=hid fun W (hb:Below w.heap.size w W)=>lay_o o ho l w.heap.size W hl (hI.below hb (Nat.le_refl _)) hb.size
 have hn:=RowB.new w (obA o) 26;have hB:=(Below.refl w.heap.size w).alloc (Nat.le_refl _) (.cells (obA o) 26);obtain⟨n,hn0⟩:∃ n,w.heap.size=n:=⟨_,rfl⟩;rw[hn0] at hn hB;have HN:=hid hn;have HB:=hid hB;unfold obA at HN HB;obtain⟨fv,hfv⟩:∃ x,faultP o (tds gs)=x:=⟨_,rfl⟩;rw[hfv] at hF hf;subst hf;obtain⟨LZ,hLZ⟩:∃ x,layZ o l=x:=⟨_,rfl⟩;rw[hLZ] at hzl HLA HGD ⊢;unfold obA at hF HSZ HLA;have HF:=hid (hF _ (by rw[hn0];exact HB.out));have HIN:=hid hin;have HLE:=hid hlen;have HKK:=hid hK;have HKN:=hid hkn;have HTB:=hid (And.intro hT hG);have HO:=hid ho;have HH0:=hid h0;have HZL:=hid hzl;have HSB:=hid (show sz≤4096 by omega);have HN0:=hid hn0;have HLN:=hid (show(tds gs).length=gs.length by unfold tds;rw[List.length_map]);clear hn hB hF hfv hin hlen hts hrs ho hl hI hK hkn hT hG h0 hZ hgd hgl hR hsb hsz hLZ hzl;unfold obA;go_enter Tryz.func18,Tryz.ntmps18;go_wp2_with fail;refine HF.out.mono ?_;rintro e w1 ⟨rfl,hb⟩;have hs1:=hb.size;have hb1:Below n w w1:=HB.out.trans (hb.mono (by have:=HB.out.size;omega));have hr1:=HN.out.kept hb;have hc:w1.cell? ⟨n,0,none⟩=some (.int .i64 o.k)∧w1.cell? ⟨n,1,none⟩=some (.int .i64 o.wd)∧w1.cell? ⟨n,2,none⟩=some (.int .i64 o.s)∧w1.cell? ⟨n,3,none⟩=some (.int .i64 o.c)∧w1.cell? ⟨n,4,none⟩=some (.int .u32 o.st)∧w1.cell? ⟨n,5,none⟩=some (.slice o.I o.ni o.ci)∧w1.cell? ⟨n,6,none⟩=some (.int .i64 o.wr)∧w1.cell? ⟨n,7,none⟩=some (.slice o.R o.nr o.cr):=(by and_intros <;> exact hr1.c rfl);obtain⟨c0,c1,c2,c3,c4,c5,c6,c7⟩:=hc;have hnew:=RowB.new w1 #[.int .i64 o.k,.int .i64 o.wd,.int .i64 o.s,.int .i64 o.c,.int .u32 o.st,.slice o.I o.ni o.ci,.int .i64 o.wr,.slice o.R o.nr o.cr,.pointer none,.slice none 0 0,.slice none 0 0,.int .i64 0] 56;have hr2:=hr1.kept ((Below.refl _ w1).alloc (Nat.le_refl _) (.cells #[.int .i64 o.k,.int .i64 o.wd,.int .i64 o.s,.int .i64 o.c,.int .u32 o.st,.slice o.I o.ni o.ci,.int .i64 o.wr,.slice o.R o.nr o.cr,.pointer none,.slice none 0 0,.slice none 0 0,.int .i64 0] 56));have hb2:Below n w (w1.alloc (.cells #[.int .i64 o.k,.int .i64 o.wd,.int .i64 o.s,.int .i64 o.c,.int .u32 o.st,.slice o.I o.ni o.ci,.int .i64 o.wr,.slice o.R o.nr o.cr,.pointer none,.slice none 0 0,.slice none 0 0,.int .i64 0] 56)):=hb1.alloc (by have:=hr1.lt;omega) _;have hd:(w1.alloc (.cells #[.int .i64 o.k,.int .i64 o.wd,.int .i64 o.s,.int .i64 o.c,.int .u32 o.st,.slice o.I o.ni o.ci,.int .i64 o.wr,.slice o.R o.nr o.cr,.pointer none,.slice none 0 0,.slice none 0 0,.int .i64 0] 56)).cell? ⟨n,0,none⟩=some (.int .i64 o.k)∧(w1.alloc (.cells #[.int .i64 o.k,.int .i64 o.wd,.int .i64 o.s,.int .i64 o.c,.int .u32 o.st,.slice o.I o.ni o.ci,.int .i64 o.wr,.slice o.R o.nr o.cr,.pointer none,.slice none 0 0,.slice none 0 0,.int .i64 0] 56)).cell? ⟨n,1,none⟩=some (.int .i64 o.wd)∧(w1.alloc (.cells #[.int .i64 o.k,.int .i64 o.wd,.int .i64 o.s,.int .i64 o.c,.int .u32 o.st,.slice o.I o.ni o.ci,.int .i64 o.wr,.slice o.R o.nr o.cr,.pointer none,.slice none 0 0,.slice none 0 0,.int .i64 0] 56)).cell? ⟨n,2,none⟩=some (.int .i64 o.s)∧(w1.alloc (.cells #[.int .i64 o.k,.int .i64 o.wd,.int .i64 o.s,.int .i64 o.c,.int .u32 o.st,.slice o.I o.ni o.ci,.int .i64 o.wr,.slice o.R o.nr o.cr,.pointer none,.slice none 0 0,.slice none 0 0,.int .i64 0] 56)).cell? ⟨n,3,none⟩=some (.int .i64 o.c)∧(w1.alloc (.cells #[.int .i64 o.k,.int .i64 o.wd,.int .i64 o.s,.int .i64 o.c,.int .u32 o.st,.slice o.I o.ni o.ci,.int .i64 o.wr,.slice o.R o.nr o.cr,.pointer none,.slice none 0 0,.slice none 0 0,.int .i64 0] 56)).cell? ⟨n,4,none⟩=some (.int .u32 o.st)∧(w1.alloc (.cells #[.int .i64 o.k,.int .i64 o.wd,.int .i64 o.s,.int .i64 o.c,.int .u32 o.st,.slice o.I o.ni o.ci,.int .i64 o.wr,.slice o.R o.nr o.cr,.pointer none,.slice none 0 0,.slice none 0 0,.int .i64 0] 56)).cell? ⟨n,5,none⟩=some (.slice o.I o.ni o.ci)∧(w1.alloc (.cells #[.int .i64 o.k,.int .i64 o.wd,.int .i64 o.s,.int .i64 o.c,.int .u32 o.st,.slice o.I o.ni o.ci,.int .i64 o.wr,.slice o.R o.nr o.cr,.pointer none,.slice none 0 0,.slice none 0 0,.int .i64 0] 56)).cell? ⟨n,6,none⟩=some (.int .i64 o.wr)∧(w1.alloc (.cells #[.int .i64 o.k,.int .i64 o.wd,.int .i64 o.s,.int .i64 o.c,.int .u32 o.st,.slice o.I o.ni o.ci,.int .i64 o.wr,.slice o.R o.nr o.cr,.pointer none,.slice none 0 0,.slice none 0 0,.int .i64 0] 56)).cell? ⟨n,7,none⟩=some (.slice o.R o.nr o.cr):=(by and_intros <;> exact hr2.c rfl);obtain⟨lb,hlb⟩:∃ x,w1.heap.size=x:=⟨_,rfl⟩;obtain⟨d0,d1,d2,d3,d4,d5,d6,d7⟩:=hd;rw[hlb] at hnew;have hnl:n<lb:=by have:=hr1.lt;omega
 have HB2:=hid hb2;have HN2:=hid hr2;have HL2:=hid hnew;have HNL:=hid hnl;clear hb hr1 hb1 hs1 hnew hb2 hr2 hnl;go_wp2_with fail;clear c0 c1 c2 c3 c4 c5 c6 c7 d0 d1 d2 d3 d4 d5 d6 d7;have HLB:=hid hlb;clear hlb;generalize (w1.alloc (.cells #[.int .i64 o.k,.int .i64 o.wd,.int .i64 o.s,.int .i64 o.c,.int .u32 o.st,.slice o.I o.ni o.ci,.int .i64 o.wr,.slice o.R o.nr o.cr,.pointer none,.slice none 0 0,.slice none 0 0,.int .i64 0] 56))=w2 at HB2 HN2 HL2 ⊢;refine(HSZ.out _).mono ?_;rintro e w3 ⟨rfl,hb3⟩;have HB3:=hid (HB2.out.trans (hb3.mono (by have:=HN2.out.lt;omega)));have HN3:=hid (HN2.out.kept hb3);have HL3:=hid (HL2.out.kept hb3);clear hb3;go_wp2_with fail;refine(HMN.out _).mono ?_;rintro e w4 ⟨rfl,hw4⟩;obtain⟨ml,hml⟩:∃ x,w3.heap.size=x:=⟨_,rfl⟩;have hm0:=mem_new w3 HSB.out;rw[← hw4] at hm0
 have hb4:Below w3.heap.size w3 w4:=by
  rw[hw4];exact((Below.refl w3.heap.size w3).alloc (Nat.le_refl _) _).alloc (by rw[World.size_alloc];omega) _
 have HNM:=hid (show n<ml by have:=HN3.out.lt;omega);have hl4:=HL3.out.kept hb4;have hn4:=HN3.out.kept hb4;have hlt:=HL3.out.lt;have hbb:=HB3.out.trans (hb4.mono (by have:=HN3.out.lt;omega));have e8:=hl4.at 8 (.pointer none);have f8:=hl4.frozen 8;have hset:=(Tch.refl (fun b=>b=lb) w4).set (b:=lb) rfl 8 (.pointer (some ⟨ml+1,0,none⟩))
 have hS5:NewS n w o lb (ml+1) ml (.slice none 0 0) (List.replicate sz 0) (([]:List PG).map pg0) (w4.setCell ⟨lb,8,none⟩ (.pointer (some ⟨ml+1,0,none⟩))):=by
  rw[hml] at hm0 hlt;have hnl:=HNL.out;exact⟨hl4.set 8 _,⟨rfl,.inl ⟨rfl,rfl⟩⟩,hm0.tch hset (fun q=>by omega) (fun q=>by omega),⟨by omega,by omega,by omega⟩,fun b q=>(by cases q),⟨by omega,by omega,by omega⟩,hbb.trans (hset.below (by have:=hbb.size;omega) (fun i _ q=>by omega)),by omega⟩
 have HN5:=hid (hn4.other lb 8 (.pointer (some ⟨ml+1,0,none⟩)) (by have:=HNL.out;omega));have HS5:=hid hS5;rw[hml];clear hw4 hm0 hb4 hl4 hn4 hlt hbb hset hS5 hml;clear HL2 HN2 HB2 HB3 HN3 HL3;go_wp2_with fail;clear e8 f8;generalize (w4.setCell ⟨lb,8,none⟩ (.pointer (some ⟨ml+1,0,none⟩)))=w5 at HN5 HS5 ⊢;have HS6:=hid (HS5.out.below (Below.refl _ w5).drew);have HN6:=hid (HN5.out.kept (Below.refl _ w5).drew);refine rgn (S:=(QWvF0 lb ml n o)) ⟨(HS6.out.row.cell 8).trans rfl,(HN6.out.cell 0).trans rfl,(HN6.out.cell 1).trans rfl,(HN6.out.cell 2).trans rfl,(HN6.out.cell 3).trans rfl,(HN6.out.cell 4).trans rfl,(HN6.out.cell 5).trans rfl,(HN6.out.cell 6).trans rfl,(HN6.out.cell 7).trans rfl⟩ fun w6 hw9 hHeld=>?_
 rw[hw9] at HS6 HN6;clear hw9;refine tk4 0 1 2 3 ?_;refine tkH 4 ?_;refine clH 5 (fun K hK=>?_)
 ·go_simp;refine(HLA.out _ (by rw[hn0];exact HS6.out.bel)).mono ?_;rintro ex w7 ⟨A7,c7,rfl,_,hw7,hb7⟩;have HS7:=hid (HS6.out.below hb7);have HN7:=hid (HN6.out.kept hb7);have HW7:=hid hw7;have hSx:(QWvF0 lb ml n o) w7:=⟨(HS7.out.row.cell 8).trans rfl,(HN7.out.cell 0).trans rfl,(HN7.out.cell 1).trans rfl,(HN7.out.cell 2).trans rfl,(HN7.out.cell 3).trans rfl,(HN7.out.cell 4).trans rfl,(HN7.out.cell 5).trans rfl,(HN7.out.cell 6).trans rfl,(HN7.out.cell 7).trans rfl⟩;clear hw7 hb7;refine kH hK hSx fun hHeld=>?_
  clear hK K;refine clH 6 (fun K hK=>?_)
  ·go_simp;refine(mfill_g (ml+1) ml (List.replicate sz 0) LZ A7 c7 w7 HS7.out.mem (by rw[List.length_replicate];exact HZL.out) HW7.out).mono ?_;rintro ex w8 ⟨rfl,hm8,ht8⟩;have HS8:=hid (HS7.out.filled hm8 ht8);have HN8:=hid (HN7.out.tch ht8 (fun q=>by have h1:=HS7.out.low;have h2:=HNM.out;omega));have hSx:(QWvF0 lb ml n o) w8:=⟨(HS8.out.row.cell 8).trans rfl,(HN8.out.cell 0).trans rfl,(HN8.out.cell 1).trans rfl,(HN8.out.cell 2).trans rfl,(HN8.out.cell 3).trans rfl,(HN8.out.cell 4).trans rfl,(HN8.out.cell 5).trans rfl,(HN8.out.cell 6).trans rfl,(HN8.out.cell 7).trans rfl⟩;clear hm8 ht8;refine kH hK hSx fun hHeld=>?_
   clear hK K;refine dnH ?_;clear hHeld hSx;clear HN8 HN7 HS7 HW7 HN6 HS6 HN5 HS5;go_wp2_with fail
   go_loopw [41] (fun j wr=>∃ (i:Nat) (pv:Value),i≤gs.length∧j=.int .i64 (i:Int)∧NewS n w o lb (ml+1) ml pv LZ ((gs.take i).map pg0) wr) (fun j _=>gs.length - (intOf j).toNat)
   case atStart=>exact⟨0,_,Nat.zero_le _,rfl,HS8.out⟩
   case round=>
    obtain⟨i,pv,hi,rfl,hs⟩:=hrel
    by_cases hlt:i<gs.length
    ·have hd:decide ((i:Int)<(gs.length:Int))=true:=decide_eq_true (by omega);obtain⟨g,hg⟩:∃ g,gs[i]?=some g:=⟨_,List.getElem?_eq_getElem hlt⟩;obtain⟨pb,po,hA,hpb,hcell⟩:=(HIN.out.below (by rw[hn0];exact hs.bel) (Nat.le_refl _)).hd i g hg;have hx:wr.cell? ⟨pb,po+i,none⟩=some (.slice g.A g.ts.length g.c):=by simpa [hdE] using hcell 0 _ rfl
     have hi0:(0:Int)≤(i:Int):=by omega
     have hi1:(i:Int)<(gs.length:Int):=by omega
     have hwi:IntKind.i64.wrap ((i:Int)+1)=(i:Int)+1:=sh_wrap (by omega) (by have:=HLE.out;omega);obtain⟨Ap,np,cp,rfl⟩:=own_slice hs.procs;have c9:=hs.row.at 9 (.slice Ap np cp);have hs1:=hs.below ((Below.refl _ wr).alloc (Nat.le_refl _) (.cells #[.slice g.A g.ts.length g.c,.pointer none,.int .i64 0] 74));have HSA:=hid hs1;have HG:=hid hg;have HI:=hid hlt;have hln:((gs.take i).map pg0).length=i:=by rw[List.length_map,List.length_take];omega
     have HTK:=hid hln;subst hA;clear hs hs1 hcell hpb hi hg hln hlt;obtain⟨ht,i0,z,hi2,hz,hsize,hby,hzs,hsz⟩:=pgTy;go_wp2_with (at_builtin;refine wpList_append_own_at _ rfl _ _ 54 rfl n 74 i0 z 3 40 ht hi2 hz hsize hby hzs hsz _ ((gs.take i).map pg0).length _ rfl HSA.out.procs ⟨wr.heap.size,0,none⟩ 1 1 (pg0 g).cells rfl rfl (cells_new' wr (pg0 g).cells _ _ rfl) (fun u hu=>by simp only[pg0,PG.cells,PG.ptr,List.mem_cons,List.not_mem_nil,or_false] at hu;rcases hu with rfl | rfl | rfl <;> rfl) (by have h1:=HTK.out;have h2:=HI.out;have h3:=HLE.out;unfold maxLen;omega) (by have h1:=HTK.out;have h2:=HI.out;have h3:=HLE.out;omega) (by have h1:=HSA.out.bel.size;have h2:=HN0.out;omega) ?_;intro v9 w9 hown9 hgr9 _ hob9;obtain⟨A9,n9,c9',rfl⟩:=own_slice hown9;have ht9:=grown_tch hgr9 (T:=fun b=>(Value.slice Ap np cp).ownBlock=some b) (fun _ h=>h);have hl9:=HSA.out.row.tch ht9 (fun q=>(HSA.out.po lb q).1 rfl);have d9:w9.cell? ⟨lb,9,none⟩=some (.slice Ap np cp):=(hl9.cell 9).trans rfl;have f9:=hl9.frozen 9);go_roundw
     case rel=>exact⟨i+1,_,by have:=HI.out;omega,by go_num,by rw[List.take_add_one,HG.out,List.map_append];exact HSA.out.push (Own.app hown9 rfl) ht9 hob9⟩
     case measure=>simp[intOf];omega
    ·have hd:decide ((i:Int)<(gs.length:Int))=false:=decide_eq_false (by omega);obtain rfl:i=gs.length:=by omega
     rw[List.take_length] at hs;have HS9:=hid hs;clear hs hi hlt;obtain⟨pb,pc,tg,hL⟩:=HS9.out.loom (by rw[← hn0];exact HIN.out) HH0.out;have HL9:=hid hL;clear hL;go_wp2_with fail
     go_loopw [59] (fun jv wq=>∃ (j:Nat) (cv:Value) (tg:Nat→Nat) (gs':List PG) (es:List CV),j≤ks.length∧jv=.int .i64 (j:Int)∧Lm.GoodTo o (lm0 (tds gs) LZ) ks j∧LoomS n w o lb pb (ml+1) ml pc cv tg (Lm.run (bgO o) Kc.step (lm0 (tds gs) LZ) (ks.take j)) gs' es wq) (fun jv _=>ks.length - (intOf jv).toNat)
     case atStart=>exact⟨0,_,tg,_,[],Nat.zero_le _,rfl,fun i hi=>(by have e:i=0:=Nat.le_zero.1 hi;subst e;exact⟨HGD.out,rfl,fun q=>absurd q (Nat.lt_irrefl _)⟩),HL9.out⟩
     case round=>
      clear HL9 HS9 tg;obtain⟨j,cv,tg,gs',es,hj,rfl,hgd,hL⟩:=hrel
      by_cases hlt:j<ks.length
      ·have hd:decide ((j:Int)<(ks.length:Int))=true:=decide_eq_true (by omega);obtain⟨k,hk⟩:∃ k,ks[j]?=some k:=⟨_,List.getElem?_eq_getElem hlt⟩;obtain⟨kb,ko,hA,hkb,hcell⟩:=(HKK.out.below (by rw[hn0];exact hL.bel) (Nat.le_refl _)) j k hk;have hx:wr.cell? ⟨kb,ko+j,none⟩=some (.int .i64 k):=by simpa [ints,Enc.of1] using hcell 0 _ rfl
       have hj0:(0:Int)≤(j:Int):=by omega
       have hj1:(j:Int)<(ks.length:Int):=by omega
       have hwj:IntKind.i64.wrap ((j:Int)+1)=(j:Int)+1:=sh_wrap (by omega) (by have:=HKN.out;omega);have HT:=hid (wturn_any hL HO.out (hgd j (Nat.le_refl _)).1 (by have:=HKN.out;omega) (by rw[Lm.run_len];show((tds gs).map _).length≤_;rw[List.length_map,HLN.out];exact HLE.out) HTB.out.1 (by rw[← hn0];exact HTB.out.2) k);have HGN:=hid (hgd.next hk hL.mem.w32);have HK:=hid hk;have HJ:=hid hlt;subst hA;clear hL hgd hcell hkb hj hk hlt;go_wp2_with fail;refine HT.out.mono ?_;rintro e w7 ⟨rfl,cv1,tg1,gs1,es1,hL⟩;have HL7:=hid hL;clear hL;go_wp2_with fail;go_roundw
       case rel=>exact⟨j+1,cv1,tg1,gs1,es1,by have:=HJ.out;omega,by go_num,HGN.out,by rw[Lm.run_snoc HK.out];exact HL7.out⟩
       case measure=>simp[intOf];omega
      ·have hd:decide ((j:Int)<(ks.length:Int))=false:=decide_eq_false (by omega);obtain rfl:j=ks.length:=by omega
       rw[List.take_length] at hL;have HF:=hid (And.intro hgd hL);clear hgd hL hj hlt;go_wp2_with fail;go_ret2;exact⟨lb,pb,ml+1,ml,pc,cv,tg,gs',es,rfl,HF.out.1,by rw[hn0];exact HF.out.2⟩
end Go.Proofs.YtolmpehgeinlkaaGreatDoor
