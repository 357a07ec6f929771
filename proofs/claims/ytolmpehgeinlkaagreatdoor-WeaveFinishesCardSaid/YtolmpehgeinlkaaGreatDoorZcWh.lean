/- The document's loom: what a turn changes. -/
import Derived.Test.YtolmpehgeinlkaaGreatDoorZcWe
import Derived.Test.YtolmpehgeinlkaaGreatDoorZcOrS
import Derived.Test.YtolmpehgeinlkaaGreatDoorZcOgT
import Derived.Deep.DeepCutAuto
namespace Go.Proofs.YtolmpehgeinlkaaGreatDoor
open Go.RowKit
structure RV where
 yb:Nat
 rv:Value
def EA (x:Option RV):Option Addr:=x.map fun v=>⟨v.yb,0,none⟩
def GK:Enc (Option RV):=⟨fun x=>[.pointer (EA x)],1,fun _=>rfl,fun e u hu=>by
 simp only[List.mem_cons,List.not_mem_nil,or_false] at hu
 rcases hu with rfl;rfl,by omega⟩
def nE:Enc Nat:=⟨fun n=>[.int .i64 (n:Int)],1,fun _=>rfl,fun e u hu=>by
 simp only[List.mem_cons,List.not_mem_nil,or_false] at hu
 rcases hu with rfl;rfl,by omega⟩
theorem cI {α:Type} {E:Enc α} {t:TypeId} {base:Nat} {w:World} {b n cap:Nat} {l:List α} (h:Own E t base w (.slice (some ⟨b,0,none⟩) n cap) l) (hE:E.size=1) {k:Nat} {x:α} (hk:l[k]?=some x) {u:Value} (hu:(E.cells x)[0]?=some u):w.cell? ⟨b,k,none⟩=some u:=by
 have:=ch h hk hu;rw[hE] at this
 simpa using this
theorem mQ {α:Type} {E:Enc α} {t:TypeId} {base g n c:Nat} {w:World} {l:List α} (h:Own E t base w (.slice (some ⟨g,0,none⟩) n c) l) (hE:E.size=1) {k:Nat} {x y:α} (hk:l[k]?=some x) {v:Value} (hy:E.cells y=(E.cells x).set 0 v):Own E t base (w.setCell ⟨g,k,none⟩ v) (.slice (some ⟨g,0,none⟩) n c) (l.set k y):=by
 have:=lE h hk hy (j:=0) (by rw[hE];omega);rw[hE] at this
 simpa using this
def Jk (o:Ob) (pV lV oV bV aV cV:Value) (now:Int):Array Value:=#[.int .i64 o.k,.int .i64 o.wd,.int .i64 o.s,.int .i64 o.c,.int .u32 o.st,.slice o.I o.ni o.ci,.int .i64 o.wr,.slice o.R o.nr o.cr,pV,lV,oV,bV,aV,cV,.int .i64 now]
section
variable (N:Nat) (tg:Nat→Nat) (k:Nat) (o:Ob) (w:World)
structure ROk (d:Kc) (v:RV):Prop where
 row:RowB w v.yb (vn o d v.rv) 84
 ty:tg v.yb=3*k+10
 live:d.over=false→Own (bB .u32) 22 0 w v.rv d.rc∧W32 d.rc∧Fits o d∧(d.op==if o.k=6 then 3 else 2)=d.wr∧v.rv.ownBlock≠some v.yb∧∀ b,v.rv.ownBlock=some b→tg b=3*k+12
structure RPr (g:PG) (x:Option RV) (b a:Nat) (q:Pr):Prop where
 left:q.left=(g.ts.drop b).map TV.td
 le:b≤g.ts.length
 call:q.call=a
 op:(q.op=none∧x=none)∨∃ d v,q.op=some d∧x=some v∧ROk tg k o w d v
end
section
variable {N:Nat} {tg:Nat→Nat} {k:Nat} {o:Ob} {w w':World}
theorem ROk.tch {d:Kc} {v:RV} {T:Nat→Prop} (h:ROk tg k o w d v) (ht:Tch T w w') (hT:∀ b,T b→tg b≠3*k+10∧tg b≠3*k+12):ROk tg k o w' d v:=
 ⟨h.row.tch ht (fun q=>(hT _ q).1 h.ty),h.ty,fun e=>by
  obtain⟨h1,h2,h3,h4,h5,h6⟩:=h.live e;exact⟨aG h1 ht (fun b q r=>(hT b r).2 (h6 b q)),h2,h3,h4,h5,h6⟩⟩
theorem RPr.tch {g:PG} {x:Option RV} {b a:Nat} {q:Pr} {T:Nat→Prop} (h:RPr tg k o w g x b a q) (ht:Tch T w w') (hT:∀ b,T b→tg b≠3*k+10∧tg b≠3*k+12):RPr tg k o w' g x b a q:=
 ⟨h.left,h.le,h.call,h.op.imp id fun ⟨d,v,e1,e2,r⟩=>⟨d,v,e1,e2,r.tch ht hT⟩⟩
theorem RPr.mark {g:PG} {x:Option RV} {b a:Nat} {q:Pr} {tg':Nat→Nat} (h:RPr tg k o w g x b a q) (e:∀ b,tg b=3*k+10∨tg b=3*k+12→tg' b=tg b):RPr tg' k o w g x b a q:=
 ⟨h.left,h.le,h.call,h.op.imp id fun ⟨d,v,e1,e2,r⟩=>⟨d,v,e1,e2,r.row,(e _ (.inl r.ty)).trans r.ty,fun hd=>by
  obtain⟨h1,h2,h3,h4,h5,h6⟩:=r.live hd;exact⟨h1,h2,h3,h4,h5,fun b q=>(e b (.inr (h6 b q))).trans (h6 b q)⟩⟩⟩
end
structure RL (N:Nat) (W:World) (o:Ob) (lb:Nat) (pV lV oV bV aV cV:Value) (tg:Nat→Nat) (M:Lm) (gs:List PG) (xl:List (Option RV)) (bl al:List Nat) (es:List CV) (w:World):Prop where
 row:RowB w lb (Jk o pV lV oV bV aV cV (M.now:Int)) 65
 mem:Own (bB .u32) 22 0 w lV M.mem
 w32:W32 M.mem
 ml:M.mem.length≤1000000
 ops:Own GK 81 N w oV xl
 bgs:Own nE 3 N w bV bl
 ats:Own nE 3 N w aV al
 calls:Own cvE 40 N w cV es
 cx:es.map (·.x)=M.calls
 recs:∀ e ∈ es,Ws w w.heap.size e.A e.x.r∧∀ b off,e.A=some ⟨b,off,none⟩→tg b=6
 ps:∀ (k:Nat) (g:PG) (x:Option RV) (b a:Nat) (q:Pr),gs[k]?=some g→xl[k]?=some x→bl[k]?=some b→al[k]?=some a→M.ps[k]?=some q→RPr tg k o w g x b a q
 hin:∃ A cap,pV=.slice A gs.length cap∧ProcsIn w N A gs
 tl:tg lb=1
 tp:∀ b,oV.ownBlock=some b→tg b=2
 tc:∀ b,cV.ownBlock=some b→tg b=3
 tm:∀ b,lV.ownBlock=some b→tg b=5
 tb:∀ b,bV.ownBlock=some b→tg b=7
 ta:∀ b,aV.ownBlock=some b→tg b=8
 tn:∀ b,tg b≠0→N≤b∧b<w.heap.size
 bel:Below N W w
 hN:N≤W.heap.size
section
variable {N:Nat} {W:World} {o:Ob} {lb:Nat} {pV lV oV bV aV cV:Value} {tg:Nat→Nat} {M:Lm} {gs:List PG} {xl:List (Option RV)} {bl al:List Nat} {es:List CV} {w w' w9:World}
theorem RL.lo (h:RL N W o lb pV lV oV bV aV cV tg M gs xl bl al es w):N≤w.heap.size:=Nat.le_trans h.hN h.bel.size
structure RK (N:Nat) (W:World) (o:Ob) (lb:Nat) (pV lV oV bV aV cV:Value) (tg:Nat→Nat) (M:Lm) (gs:List PG) (xl:List (Option RV)) (bl al:List Nat) (es:List CV) (P:Nat→Prop) (w':World):Prop where
 row:¬ P 1→RowB w' lb (Jk o pV lV oV bV aV cV (M.now:Int)) 65
 mem:¬ P 5→Own (bB .u32) 22 0 w' lV M.mem
 ops:¬ P 2→Own GK 81 N w' oV xl
 bgs:¬ P 7→Own nE 3 N w' bV bl
 ats:¬ P 8→Own nE 3 N w' aV al
 calls:¬ P 3→Own cvE 40 N w' cV es
 recs:¬ P 6→∀ e ∈ es,Ws w' w'.heap.size e.A e.x.r∧∀ b off,e.A=some ⟨b,off,none⟩→tg b=6
 ps:∀ (k:Nat) (g:PG) (x:Option RV) (b a:Nat) (q:Pr),¬ P (3*k+10)→¬ P (3*k+12)→gs[k]?=some g→xl[k]?=some x→bl[k]?=some b→al[k]?=some a→M.ps[k]?=some q→RPr tg k o w' g x b a q
 hin:∃ A cap,pV=.slice A gs.length cap∧ProcsIn w' N A gs
 tn:∀ b,tg b≠0→N≤b∧b<w'.heap.size
 bel:Below N W w'
theorem RL.keep {T:Nat→Prop} (h:RL N W o lb pV lV oV bV aV cV tg M gs xl bl al es w) (P:Nat→Prop) (ht:Tch T w w') (hT:∀ b,T b→tg b≠0∧P (tg b)):RK N W o lb pV lV oV bV aV cV tg M gs xl bl al es P w':=by
 have hn:∀ b n,¬ P n→tg b=n→¬ T b:=fun b n h0 e q=>h0 (e ▸ (hT b q).2)
 have hb:Below N w w':=ht.below h.lo (fun b _ q=>(h.tn b (hT b q).1).1);obtain⟨A,cap,e,hi⟩:=h.hin
 exact⟨fun p=>h.row.tch ht (hn _ 1 p h.tl),fun p=>aG h.mem ht (fun b q=>hn b 5 p (h.tm b q)),fun p=>aG h.ops ht (fun b q=>hn b 2 p (h.tp b q)),fun p=>aG h.bgs ht (fun b q=>hn b 7 p (h.tb b q)),fun p=>aG h.ats ht (fun b q=>hn b 8 p (h.ta b q)),fun p=>aG h.calls ht (fun b q=>hn b 3 p (h.tc b q)),
  fun p e he=>⟨(h.recs e he).1.tch ht (fun b off q=>hn b 6 p ((h.recs e he).2 b off q)) ht.size,(h.recs e he).2⟩,
  fun k g x b a q p1 p2 h1 h2 h3 h4 h5=>(h.ps k g x b a q h1 h2 h3 h4 h5).tch ht (fun i r=>⟨fun e=>p1 (e ▸ (hT i r).2),fun e=>p2 (e ▸ (hT i r).2)⟩),
  ⟨A,cap,e,hi.below hb (Nat.le_refl _)⟩,fun b q=>⟨(h.tn b q).1,by have:=(h.tn b q).2;have:=ht.size;omega⟩,h.bel.trans hb⟩
theorem RL.below (h:RL N W o lb pV lV oV bV aV cV tg M gs xl bl al es w) (hb:Below w.heap.size w w'):RL N W o lb pV lV oV bV aV cV tg M gs xl bl al es w':=by
 have q:=h.keep (fun _=>False) (Tch.of_below (fun _=>False) hb) (fun _ r=>r.elim);exact⟨q.row id,q.mem id,h.w32,h.ml,q.ops id,q.bgs id,q.ats id,q.calls id,h.cx,q.recs id,fun k g x b a r=>q.ps k g x b a r id id,q.hin,h.tl,h.tp,h.tc,h.tm,h.tb,h.ta,q.tn,q.bel,h.hN⟩
theorem RL.mark {tg':Nat→Nat} (h:RL N W o lb pV lV oV bV aV cV tg M gs xl bl al es w) (e:∀ b,tg b≠0→tg' b=tg b) (hn:∀ b,tg' b≠0→N≤b∧b<w.heap.size):RL N W o lb pV lV oV bV aV cV tg' M gs xl bl al es w:=by
 have e':∀ b n,n≠0→tg b=n→tg' b=n:=fun b n h0 q=>(e b (by rw[q];exact h0)).trans q
 exact⟨h.row,h.mem,h.w32,h.ml,h.ops,h.bgs,h.ats,h.calls,h.cx,fun x hx=>⟨(h.recs x hx).1,fun b off q=>e' b 6 (by decide) ((h.recs x hx).2 b off q)⟩,fun k g x b a r h1 h2 h3 h4 h5=>(h.ps k g x b a r h1 h2 h3 h4 h5).mark (fun i r=>e i (by omega)),h.hin,e' _ 1 (by decide) h.tl,fun b q=>e' b 2 (by decide) (h.tp b q),fun b q=>e' b 3 (by decide) (h.tc b q),fun b q=>e' b 5 (by decide) (h.tm b q),fun b q=>e' b 7 (by decide) (h.tb b q),fun b q=>e' b 8 (by decide) (h.ta b q),hn,h.bel,h.hN⟩
def hY (v:Value) (n:Nat) (tg:Nat→Nat) (b:Nat):Nat:=if v.ownBlock=some b then n else tg b
theorem eX {v:Value} {n b:Nat} (q:v.ownBlock=some b):hY v n tg b=n:=if_pos q
theorem lJ {v:Value} {n B:Nat} {b:Nat} (h:∀ b,v.ownBlock=some b→tg b=n∨B≤b) (hb:b<B):hY v n tg b=tg b:=by
 unfold hY
 by_cases e:v.ownBlock=some b
 ·rw[if_pos e]
  rcases h b e with q | q
  ·exact q.symm
  ·omega
 ·rw[if_neg e]
theorem RL.tick (h:RL N W o lb pV lV oV bV aV cV tg M gs xl bl al es w) (n:Nat):RL N W o lb pV lV oV bV aV cV tg { M with now:=n } gs xl bl al es (w.setCell ⟨lb,14,none⟩ (.int .i64 (n:Int))):=by
 have ht:=(Tch.refl (fun b=>b=lb) w).set (b:=lb) rfl 14 (.int .i64 (n:Int));have q:=h.keep (fun n=>n=1) ht (fun b e=>by rw[e,h.tl];exact⟨by decide,rfl⟩);exact⟨h.row.set 14 _,q.mem (by decide),h.w32,h.ml,q.ops (by decide),q.bgs (by decide),q.ats (by decide),q.calls (by decide),h.cx,q.recs (by decide),fun k g x b a r=>q.ps k g x b a r (by omega) (by omega),q.hin,h.tl,h.tp,h.tc,h.tm,h.tb,h.ta,q.tn,q.bel,h.hN⟩
theorem qA {v:Value} {n B b m:Nat} (h:∀ b,v.ownBlock=some b→tg b=n∨B≤b) (hb:b<B) (e:tg b=m):hY v n tg b=m:=(lJ h hb).trans e
theorem RL.pushO {V':Value} (h:RL N W o lb pV lV oV bV aV cV tg M gs xl bl al es w) (cT:Own GK 81 N w9 V' (xl++[none])) (ht:Tch (fun b=>oV.ownBlock=some b) w w9) (jI:V'.ownBlock=oV.ownBlock∨V'.ownBlock=some w.heap.size) (n0:bl.length≤xl.length):
  RL N W o lb pV lV V' bV aV cV (hY V' 2 tg) M gs (xl++[none]) bl al es (w9.setCell ⟨lb,10,none⟩ V'):=by
 have h2:∀ b,V'.ownBlock=some b→tg b=2∨w.heap.size≤b:=fun b q=>by
  rcases jI with r | r
  ·exact .inl (h.tp b (r.symm.trans q))
  ·exact .inr (Nat.le_of_eq (Option.some.inj (r.symm.trans q)))
 have aZ:=World.ownsRow.lt cT;have DL:=(h.tn lb (by rw[h.tl];decide)).2
 have hl:∀ b,V'.ownBlock=some b→b≠lb:=fun b q e=>by
  rcases h2 b q with r | r
  ·rw[e,h.tl] at r;omega
  ·omega
 have hs:=(Tch.refl (fun b=>b=lb) w9).set (b:=lb) rfl 10 V';have hT:=((ht.mono (T':=fun b=>oV.ownBlock=some b∨b=lb) (fun _ _ r=>.inl r)).set (b:=lb) (.inr rfl) 10 V')
 have q:=h.keep (fun n=>n=2∨n=1) hT (fun b e=>by
  rcases e with e | e
  ·rw[h.tp b e];exact⟨by decide,.inl rfl⟩
  ·rw[e,h.tl];exact⟨by decide,.inr rfl⟩)
 have e0:∀ b n,n≠0→tg b=n→hY V' 2 tg b=n:=fun b n h0 e=>qA h2 (h.tn b (by rw[e];exact h0)).2 e
 have hn:∀ b,hY V' 2 tg b≠0→N≤b∧b<(w9.setCell ⟨lb,10,none⟩ V').heap.size:=fun b e=>by
  unfold hY at e
  by_cases r:V'.ownBlock=some b
  ·exact⟨(aZ b r).1,by have:=(aZ b r).2;have:=hs.size;omega⟩
  ·rw[if_neg r] at e;exact q.tn b e
 refine⟨(h.row.tch ht (fun r=>by have:=h.tp _ r;rw[h.tl] at this;omega)).set 10 V',q.mem (by omega),h.w32,h.ml,aG cT hs (fun b e r=>hl b e r),q.bgs (by omega),q.ats (by omega),q.calls (by omega),h.cx,fun e he=>⟨(q.recs (by omega) e he).1,fun b off r=>e0 b 6 (by decide) ((h.recs e he).2 b off r)⟩,fun k g x b a r h1 tH h3 h4 h5=>?_,q.hin,e0 _ 1 (by decide) h.tl,fun b e=>eX e,fun b e=>e0 b 3 (by decide) (h.tc b e),fun b e=>e0 b 5 (by decide) (h.tm b e),fun b e=>e0 b 7 (by decide) (h.tb b e),fun b e=>e0 b 8 (by decide) (h.ta b e),hn,q.bel,h.hN⟩
 by_cases hk:k<xl.length
 ·rw[List.getElem?_append_left hk] at tH;exact(q.ps k g x b a r (by omega) (by omega) h1 tH h3 h4 h5).mark (fun i e=>e0 i _ (by omega) rfl)
 ·have:=(List.getElem?_eq_some_iff.1 h3).1;omega
theorem RL.pushB {V':Value} (h:RL N W o lb pV lV oV bV aV cV tg M gs xl bl al es w) (cT:Own nE 3 N w9 V' (bl++[0])) (ht:Tch (fun b=>bV.ownBlock=some b) w w9) (jI:V'.ownBlock=bV.ownBlock∨V'.ownBlock=some w.heap.size) (n0:al.length≤bl.length):
  RL N W o lb pV lV oV V' aV cV (hY V' 7 tg) M gs xl (bl++[0]) al es (w9.setCell ⟨lb,11,none⟩ V'):=by
 have h2:∀ b,V'.ownBlock=some b→tg b=7∨w.heap.size≤b:=fun b q=>by
  rcases jI with r | r
  ·exact .inl (h.tb b (r.symm.trans q))
  ·exact .inr (Nat.le_of_eq (Option.some.inj (r.symm.trans q)))
 have aZ:=World.ownsRow.lt cT;have DL:=(h.tn lb (by rw[h.tl];decide)).2
 have hl:∀ b,V'.ownBlock=some b→b≠lb:=fun b q e=>by
  rcases h2 b q with r | r
  ·rw[e,h.tl] at r;omega
  ·omega
 have hs:=(Tch.refl (fun b=>b=lb) w9).set (b:=lb) rfl 11 V';have hT:=((ht.mono (T':=fun b=>bV.ownBlock=some b∨b=lb) (fun _ _ r=>.inl r)).set (b:=lb) (.inr rfl) 11 V')
 have q:=h.keep (fun n=>n=7∨n=1) hT (fun b e=>by
  rcases e with e | e
  ·rw[h.tb b e];exact⟨by decide,.inl rfl⟩
  ·rw[e,h.tl];exact⟨by decide,.inr rfl⟩)
 have e0:∀ b n,n≠0→tg b=n→hY V' 7 tg b=n:=fun b n h0 e=>qA h2 (h.tn b (by rw[e];exact h0)).2 e
 have hn:∀ b,hY V' 7 tg b≠0→N≤b∧b<(w9.setCell ⟨lb,11,none⟩ V').heap.size:=fun b e=>by
  unfold hY at e
  by_cases r:V'.ownBlock=some b
  ·exact⟨(aZ b r).1,by have:=(aZ b r).2;have:=hs.size;omega⟩
  ·rw[if_neg r] at e;exact q.tn b e
 refine⟨(h.row.tch ht (fun r=>by have:=h.tb _ r;rw[h.tl] at this;omega)).set 11 V',q.mem (by omega),h.w32,h.ml,q.ops (by omega),aG cT hs (fun b e r=>hl b e r),q.ats (by omega),q.calls (by omega),h.cx,fun e he=>⟨(q.recs (by omega) e he).1,fun b off r=>e0 b 6 (by decide) ((h.recs e he).2 b off r)⟩,fun k g x b a r h1 tH h3 h4 h5=>?_,q.hin,e0 _ 1 (by decide) h.tl,fun b e=>e0 b 2 (by decide) (h.tp b e),fun b e=>e0 b 3 (by decide) (h.tc b e),fun b e=>e0 b 5 (by decide) (h.tm b e),fun b e=>eX e,fun b e=>e0 b 8 (by decide) (h.ta b e),hn,q.bel,h.hN⟩
 by_cases hk:k<bl.length
 ·rw[List.getElem?_append_left hk] at h3;exact(q.ps k g x b a r (by omega) (by omega) h1 tH h3 h4 h5).mark (fun i e=>e0 i _ (by omega) rfl)
 ·have:=(List.getElem?_eq_some_iff.1 h4).1;omega
theorem RL.pushA {V':Value} (h:RL N W o lb pV lV oV bV aV cV tg M gs xl bl al es w) (cT:Own nE 3 N w9 V' (al++[0])) (ht:Tch (fun b=>aV.ownBlock=some b) w w9) (jI:V'.ownBlock=aV.ownBlock∨V'.ownBlock=some w.heap.size) (hp:∀ (g:PG) (x:Option RV) (b:Nat) (q:Pr),gs[al.length]?=some g→xl[al.length]?=some x→bl[al.length]?=some b→M.ps[al.length]?=some q→x=none∧q.op=none∧q.call=0∧b=0∧q.left=g.ts.map TV.td):
  RL N W o lb pV lV oV bV V' cV (hY V' 8 tg) M gs xl bl (al++[0]) es (w9.setCell ⟨lb,12,none⟩ V'):=by
 have h2:∀ b,V'.ownBlock=some b→tg b=8∨w.heap.size≤b:=fun b q=>by
  rcases jI with r | r
  ·exact .inl (h.ta b (r.symm.trans q))
  ·exact .inr (Nat.le_of_eq (Option.some.inj (r.symm.trans q)))
 have aZ:=World.ownsRow.lt cT;have DL:=(h.tn lb (by rw[h.tl];decide)).2
 have hl:∀ b,V'.ownBlock=some b→b≠lb:=fun b q e=>by
  rcases h2 b q with r | r
  ·rw[e,h.tl] at r;omega
  ·omega
 have hs:=(Tch.refl (fun b=>b=lb) w9).set (b:=lb) rfl 12 V';have hT:=((ht.mono (T':=fun b=>aV.ownBlock=some b∨b=lb) (fun _ _ r=>.inl r)).set (b:=lb) (.inr rfl) 12 V')
 have q:=h.keep (fun n=>n=8∨n=1) hT (fun b e=>by
  rcases e with e | e
  ·rw[h.ta b e];exact⟨by decide,.inl rfl⟩
  ·rw[e,h.tl];exact⟨by decide,.inr rfl⟩)
 have e0:∀ b n,n≠0→tg b=n→hY V' 8 tg b=n:=fun b n h0 e=>qA h2 (h.tn b (by rw[e];exact h0)).2 e
 have hn:∀ b,hY V' 8 tg b≠0→N≤b∧b<(w9.setCell ⟨lb,12,none⟩ V').heap.size:=fun b e=>by
  unfold hY at e
  by_cases r:V'.ownBlock=some b
  ·exact⟨(aZ b r).1,by have:=(aZ b r).2;have:=hs.size;omega⟩
  ·rw[if_neg r] at e;exact q.tn b e
 refine⟨(h.row.tch ht (fun r=>by have:=h.ta _ r;rw[h.tl] at this;omega)).set 12 V',q.mem (by omega),h.w32,h.ml,q.ops (by omega),q.bgs (by omega),aG cT hs (fun b e r=>hl b e r),q.calls (by omega),h.cx,fun e he=>⟨(q.recs (by omega) e he).1,fun b off r=>e0 b 6 (by decide) ((h.recs e he).2 b off r)⟩,fun k g x b a r h1 tH h3 h4 h5=>?_,q.hin,e0 _ 1 (by decide) h.tl,fun b e=>e0 b 2 (by decide) (h.tp b e),fun b e=>e0 b 3 (by decide) (h.tc b e),fun b e=>e0 b 5 (by decide) (h.tm b e),fun b e=>e0 b 7 (by decide) (h.tb b e),fun b e=>eX e,hn,q.bel,h.hN⟩
 by_cases hk:k<al.length
 ·rw[List.getElem?_append_left hk] at h4;exact(q.ps k g x b a r (by omega) (by omega) h1 tH h3 h4 h5).mark (fun i e=>e0 i _ (by omega) rfl)
 ·have aZ:=(List.getElem?_eq_some_iff.1 h4).1;rw[List.length_append,List.length_singleton] at aZ;obtain rfl:k=al.length:=by omega
  rw[List.getElem?_append_right (Nat.le_refl _),Nat.sub_self] at h4;obtain rfl:0=a:=Option.some.inj h4;obtain⟨a1,a2,a3,a4,a5⟩:=hp g x b r h1 tH h3 h5;subst a4;exact⟨by rw[List.drop_zero];exact a5,Nat.zero_le _,a3,.inl ⟨a2,a1⟩⟩
end
open Go.Lib (hid)
attribute [local go_sem] Oper.semAt_some
set_option maxHeartbeats 4000000
set_option maxRecDepth 100000
abbrev yx (a0:Nat) (a1:Ob) (w':World):Prop:=w'.cell? ⟨a0,0,none⟩=some (.int .i64 a1.k)∧w'.cell? ⟨a0,1,none⟩=some (.int .i64 a1.wd)∧w'.cell? ⟨a0,2,none⟩=some (.int .i64 a1.s)∧w'.cell? ⟨a0,3,none⟩=some (.int .i64 a1.c)∧w'.cell? ⟨a0,4,none⟩=some (.int .u32 a1.st)∧w'.cell? ⟨a0,5,none⟩=some (.slice a1.I a1.ni a1.ci)∧w'.cell? ⟨a0,6,none⟩=some (.int .i64 a1.wr)∧w'.cell? ⟨a0,7,none⟩=some (.slice a1.R a1.nr a1.cr)
theorem Jt:ElemTy Tryz.prog 63 81 1 8:=ElemTy.of (z:=.pointer none) Tryz.underlying63 (by kernel_rfl) rfl (by omega)
theorem GG:ElemTy Tryz.prog 24 3 1 8:=ElemTy.of (z:=.int .i64 0) Tryz.underlying24 (by kernel_rfl) rfl (by omega)
def G6 (N:Nat) (W:World) (o:Ob) (pV:Value) (gs:List PG) (m:List Int) (z:Ending) (w':World):Prop:=
 ∃ lb ml mc oV bV aV tg xl bl al,z=.returned (.pointer (some ⟨lb,0,none⟩))∧m.length≤mc∧RL N W o lb pV (.slice (some ⟨ml,0,none⟩) m.length mc) oV bV aV (.slice none 0 0) tg (gH (cg gs) m) gs xl bl al [] w'∧xl.length=gs.length∧bl.length=gs.length∧al.length=gs.length
theorem DA {m:List Int} (h:∀ z ∈ m,(Lit.int .u32 z).wf=true):W32 m:=fun z hz=>by
 have:=h z hz;simp[Lit.wf,IntKind.min,IntKind.max,IntKind.signed,IntKind.bits] at this;omega
theorem zO {gs:List PG} {m:List Int} {i:Nat} {xl:List (Option RV)} {bl al:List Nat} {g:PG} {x:Option RV} {b:Nat} {q:Pr} (h:xl.length=i∧bl.length=i∧al.length=i) (h1:gs[al.length]?=some g) (h2:(xl++[none])[al.length]?=some x) (h3:(bl++[0])[al.length]?=some b) (h4:(gH (cg gs) m).ps[al.length]?=some q):x=none∧q.op=none∧q.call=0∧b=0∧q.left=g.ts.map TV.td:=by
 obtain⟨rfl,hb,ha⟩:=h;rw[ha] at h1 h2 h3 h4;have e2:x=none:=by simpa using h2.symm
 have e3:b=0:=by rw[← hb] at h3;simpa using h3.symm
 have e4:q=⟨g.ts.map TV.td,none,0⟩:=by
  have h5:=dw h1;show q=_;unfold gH at h4;dsimp only at h4;rw[List.getElem?_map,h5] at h4;exact(Option.some.inj h4).symm
 subst e2 e3 e4;exact⟨rfl,rfl,rfl,rfl,rfl⟩
theorem RL.first {o:Ob} {w w2:World} {lb ml:Nat} {A:Option Addr} {cap:Nat} {gs:List PG} {m:List Int} (hin:ProcsIn w w.heap.size A gs) (hr:RowB w2 lb (Jk o (.slice A gs.length cap) (.slice (some ⟨ml,0,none⟩) m.length m.length) (.slice none 0 0) (.slice none 0 0) (.slice none 0 0) (.slice none 0 0) 0) 65) (hm:RowB w2 ml (dn m) 22) (hl:m.length≤300) (hw:W32 m) (h1:w.heap.size≤ml) (h2:w.heap.size≤lb) (i7:lb≠ml) (hb:Below w.heap.size w w2):
  RL w.heap.size w o lb (.slice A gs.length cap) (.slice (some ⟨ml,0,none⟩) m.length m.length) (.slice none 0 0) (.slice none 0 0) (.slice none 0 0) (.slice none 0 0) (fun b=>if b=lb then 1 else if b=ml then 5 else 0) (gH (cg gs) m) gs [] [] [] [] w2:=by
 have DL:=hr.lt;have oQ:=hm.lt;refine⟨hr,yr hm (by unfold maxLen;omega),hw,by show m.length≤_;omega,⟨rfl,.inl ⟨rfl,rfl⟩⟩,⟨rfl,.inl ⟨rfl,rfl⟩⟩,⟨rfl,.inl ⟨rfl,rfl⟩⟩,⟨rfl,.inl ⟨rfl,rfl⟩⟩,rfl,fun e he=>(by cases he),fun k g x b a q _ h2=>(by simp at h2),⟨A,cap,rfl,hin.below hb (Nat.le_refl _)⟩,if_pos rfl,fun b q=>(by cases q),fun b q=>(by cases q),fun b q=>?_,fun b q=>(by cases q),fun b q=>(by cases q),fun b q=>?_,hb,Nat.le_refl _⟩
 ·obtain rfl:ml=b:=Option.some.inj q;show(if ml=lb then 1 else _)=5;rw[if_neg (fun q=>i7 q.symm),if_pos rfl]
 ·have q:(if b=lb then 1 else if b=ml then 5 else 0)≠0:=q
  split at q
  ·omega
  ·split at q
   ·omega
   ·exact absurd rfl q
theorem Ey (o:Ob) (ho:o.Ok) (hR:aT o) (A:Option Addr) (cap:Nat) (gs:List PG) (l:List Int) (w:World) (hin:ProcsIn w w.heap.size A gs) (bA:gs.length≤1000) (hl:o.ni=l.length) (hI:Ws w w.heap.size o.I l):
  Calls Tryz.prog 25 #[.agg (af o),.slice A gs.length cap] w (G6 w.heap.size w o (.slice A gs.length cap) gs (bW o l)):=by
 have hn:=RowB.new w (af o) 26;have hB:=bt w (.cells (af o) 26);obtain⟨n,aq⟩:∃ n,w.heap.size=n:=⟨_,rfl⟩;rw[aq] at hn;have eC:=hid fun W (hb:Below w.heap.size w W)=>zD o ho hR l w.heap.size W hl (hI.below hb (Nat.le_refl _)) hb.size
 obtain⟨m,hm⟩:∃ x,bW o l=x:=⟨_,rfl⟩;rw[hm] at eC ⊢;have HN:=hid hn;have HB:=hid hB;have tX:=hid hin;have nm:=hid bA;unfold af at eC HN HB;clear hn hB hin bA ho hR hl hI hm;unfold af;go_enter Tryz.func25,Tryz.ntmps25;go_wp2_with fail;generalize (w.alloc (.cells #[.int .i64 o.k,.int .i64 o.wd,.int .i64 o.s,.int .i64 o.c,.int .u32 o.st,.slice o.I o.ni o.ci,.int .i64 o.wr,.slice o.R o.nr o.cr] 26))=w1 at HN HB ⊢;have Ae:=hid (HN.out.kept (Below.refl _ w1).drew);have eJ:=hid (HB.out.trans ((Below.refl w1.heap.size w1).drew.mono HB.out.size));refine dR (S:=(yx n o)) (by and_intros <;> exact Ae.out.c rfl) fun w2 aW hHeld=>?_
 rw[aW] at Ae eJ;clear aW;refine bw 0 1 ?_;refine aF 2 ?_;refine aJ 3 (fun K hK=>?_)
 ·go_simp;refine(eC.out w2 eJ.out).mono ?_;rintro ex w3 ⟨ml,N3,rfl,Me,FA,oQ,bm,Ko,cW⟩;subst Me;have iJ:=hid (Ae.out.kept cW);have ic:=hid (eJ.out.trans (cW.mono eJ.out.size));have bf:=hid (And.intro FA (And.intro (Nat.le_trans eJ.out.size oQ) (And.intro bm Ko)));have aN:(yx n o) w3:=(by and_intros <;> exact iJ.out.c rfl);clear FA oQ bm Ko cW;refine kH hK aN fun hHeld=>?_
  clear hK K;refine aF 4 ?_;refine aJ 5 (fun K hK=>?_)
  ·go_simp;have ck:=bt w3 (.cells #[.int .i64 o.k,.int .i64 o.wd,.int .i64 o.s,.int .i64 o.c,.int .u32 o.st,.slice o.I o.ni o.ci,.int .i64 o.wr,.slice o.R o.nr o.cr,.slice A gs.length cap,.slice (some ⟨ml,0,none⟩) m.length m.length,.slice none 0 0,.slice none 0 0,.slice none 0 0,.slice none 0 0,.int .i64 0] 65);have GP:=RowB.new w3 #[.int .i64 o.k,.int .i64 o.wd,.int .i64 o.s,.int .i64 o.c,.int .u32 o.st,.slice o.I o.ni o.ci,.int .i64 o.wr,.slice o.R o.nr o.cr,.slice A gs.length cap,.slice (some ⟨ml,0,none⟩) m.length m.length,.slice none 0 0,.slice none 0 0,.slice none 0 0,.slice none 0 0,.int .i64 0] 65;have pE:=hid (iJ.out.kept ck);have zd:=hid (ic.out.trans (ck.mono ic.out.size));have qf:=hid GP;have dd:=hid (bf.out.2.2.1.kept ck);have CQ:(yx n o) (w3.alloc (.cells #[.int .i64 o.k,.int .i64 o.wd,.int .i64 o.s,.int .i64 o.c,.int .u32 o.st,.slice o.I o.ni o.ci,.int .i64 o.wr,.slice o.R o.nr o.cr,.slice A gs.length cap,.slice (some ⟨ml,0,none⟩) m.length m.length,.slice none 0 0,.slice none 0 0,.slice none 0 0,.slice none 0 0,.int .i64 0] 65)):=(by and_intros <;> exact pE.out.c rfl);clear ck GP;refine kH hK CQ fun hHeld=>?_
   clear hK K;refine aF 6 ?_;refine bh ?_;clear hHeld aN CQ;have ij:=hid aq;have HF:=hid (RL.first (cap:=cap) tX.out qf.out dd.out bf.out.1 (DA bf.out.2.2.2) bf.out.2.1 ic.out.size (by have:=bf.out.2.2.1.lt;omega) zd.out);obtain⟨lb,CO⟩:∃ x,w3.heap.size=x:=⟨_,rfl⟩;rw[CO] at HF ⊢;go_wp2_with fail
   go_loopw [14] (fun j wr=>∃ (i:Nat) (oV bV aV:Value) (tg:Nat→Nat) (xl:List (Option RV)) (bl al:List Nat),i≤gs.length∧j=.int .i64 (i:Int)∧xl.length=i∧bl.length=i∧al.length=i∧RL w.heap.size w o lb (.slice A gs.length cap) (.slice (some ⟨ml,0,none⟩) m.length m.length) oV bV aV (.slice none 0 0) tg (gH (cg gs) m) gs xl bl al [] wr) (fun j _=>gs.length - (intOf j).toNat)
   case atStart=>exact⟨0,_,_,_,_,[],[],[],Nat.zero_le _,rfl,rfl,rfl,rfl,HF.out⟩
   case round=>
    clear HF;obtain⟨i,oV,bV,aV,tg,xl,bl,al,hi,rfl,Aa,jU,Hp,hs⟩:=hrel
    by_cases aZ:i<gs.length
    ·have hd:decide ((i:Int)<(gs.length:Int))=true:=decide_eq_true (by omega);have ub:IntKind.i64.wrap ((i:Int)+1)=(i:Int)+1:=ac (by omega) (by have:=nm.out;omega);have Ag:=hid hs;have HI:=hid aZ;have qu:=hid (And.intro Aa (And.intro jU Hp));clear hs hi aZ Aa jU Hp;obtain⟨AO,nO,cO,rfl⟩:=aR Ag.out.ops;have eO:=Ag.out.row.at 10 (.slice AO nO cO);have Kp:=Ag.out.below ((Below.refl _ wr).alloc (Nat.le_refl _) (.cells #[.pointer none] 81));have EC:=hid Kp;clear Kp;obtain⟨ht,i0,z,dD,hz,dt,rY,pX,bK⟩:=Jt
     go_upto_region 5 with (at_builtin;refine wpList_append_own_at _ rfl _ _ 63 rfl w.heap.size 81 i0 z 1 8 ht dD hz dt rY pX bK _ xl.length _ rfl EC.out.ops ⟨wr.heap.size,0,none⟩ 1 1 [.pointer none] rfl rfl (bD wr [.pointer none] _ _ rfl) (fun u hu=>by simp only[List.mem_cons,List.not_mem_nil,or_false] at hu;rcases hu with rfl;rfl) (by have h1:=qu.out;have h2:=HI.out;have h3:=nm.out;unfold maxLen;omega) (by have h1:=qu.out;have h2:=HI.out;have h3:=nm.out;omega) EC.out.lo ?_;intro v9 w9 bk lB _ cN;obtain⟨A9,n9,c9',rfl⟩:=aR bk;have da:=fJ lB (T:=fun b=>(Value.slice AO nO cO).ownBlock=some b) (fun _ h=>h);have sg:=EC.out.row.tch da (fun q=>by have h1:=EC.out.tp _ q;have h2:=EC.out.tl;omega);have d9:w9.cell? ⟨lb,10,none⟩=some (.slice AO nO cO):=(sg.cell 10).trans rfl;have f9:=sg.frozen 10)
     clear ht i0 z dD hz dt rY pX bK sg d9 f9 eO;have Cy:=EC.out.pushO (Own.app bk rfl) da cN (by have h:=qu.out;omega);have FP:=hid Cy;clear Cy bk lB cN da EC;generalize (w9.setCell ⟨lb,10,none⟩ (.slice A9 n9 c9'))=wo at FP ⊢;clear Ag;obtain⟨AB,nB,cB,rfl⟩:=aR FP.out.bgs;have eB:=FP.out.row.at 11 (.slice AB nB cB);have JW:=FP.out.below ((Below.refl _ wo).alloc (Nat.le_refl _) (.cells #[.int .i64 0] 3));have Bt:=hid JW;clear JW;obtain⟨ht,i0,z,dD,hz,dt,rY,pX,bK⟩:=GG
     go_upto_region 6 with (at_builtin;refine wpList_append_own_at _ rfl _ _ 24 rfl w.heap.size 3 i0 z 1 8 ht dD hz dt rY pX bK _ bl.length _ rfl Bt.out.bgs ⟨wo.heap.size,0,none⟩ 1 1 [.int .i64 0] rfl rfl (bD wo [.int .i64 0] _ _ rfl) (fun u hu=>by simp only[List.mem_cons,List.not_mem_nil,or_false] at hu;rcases hu with rfl;rfl) (by have h1:=qu.out;have h2:=HI.out;have h3:=nm.out;unfold maxLen;omega) (by have h1:=qu.out;have h2:=HI.out;have h3:=nm.out;omega) Bt.out.lo ?_;intro v9 w9 bk lB _ cN;obtain⟨A9,n9,c9',rfl⟩:=aR bk;have da:=fJ lB (T:=fun b=>(Value.slice AB nB cB).ownBlock=some b) (fun _ h=>h);have sg:=Bt.out.row.tch da (fun q=>by have h1:=Bt.out.tb _ q;have h2:=Bt.out.tl;omega);have d9:w9.cell? ⟨lb,11,none⟩=some (.slice AB nB cB):=(sg.cell 11).trans rfl;have f9:=sg.frozen 11)
     clear ht i0 z dD hz dt rY pX bK sg d9 f9 eB;have Cy:=Bt.out.pushB (Own.app bk rfl) da cN (by have h:=qu.out;omega);have FV:=hid Cy;clear Cy bk lB cN da Bt;generalize (w9.setCell ⟨lb,11,none⟩ (.slice A9 n9 c9'))=wp at FV ⊢;clear FP;obtain⟨AA,nA,cA,rfl⟩:=aR FV.out.ats;have eA:=FV.out.row.at 12 (.slice AA nA cA);have J6:=FV.out.below ((Below.refl _ wp).alloc (Nat.le_refl _) (.cells #[.int .i64 0] 3));have fP:=hid J6;clear J6;obtain⟨ht,i0,z,dD,hz,dt,rY,pX,bK⟩:=GG
     go_upto_region 7 with (at_builtin;refine wpList_append_own_at _ rfl _ _ 24 rfl w.heap.size 3 i0 z 1 8 ht dD hz dt rY pX bK _ al.length _ rfl fP.out.ats ⟨wp.heap.size,0,none⟩ 1 1 [.int .i64 0] rfl rfl (bD wp [.int .i64 0] _ _ rfl) (fun u hu=>by simp only[List.mem_cons,List.not_mem_nil,or_false] at hu;rcases hu with rfl;rfl) (by have h1:=qu.out;have h2:=HI.out;have h3:=nm.out;unfold maxLen;omega) (by have h1:=qu.out;have h2:=HI.out;have h3:=nm.out;omega) fP.out.lo ?_;intro v9 w9 bk lB _ cN;obtain⟨A9,n9,c9',rfl⟩:=aR bk;have da:=fJ lB (T:=fun b=>(Value.slice AA nA cA).ownBlock=some b) (fun _ h=>h);have sg:=fP.out.row.tch da (fun q=>by have h1:=fP.out.ta _ q;have h2:=fP.out.tl;omega);have d9:w9.cell? ⟨lb,12,none⟩=some (.slice AA nA cA):=(sg.cell 12).trans rfl;have f9:=sg.frozen 12)
     clear ht i0 z dD hz dt rY pX bK sg d9 f9 eA;have Cy:=fP.out.pushA (Own.app bk rfl) da cN (fun g x b q h1 h2 h3 h4=>zO qu.out h1 h2 h3 h4);have Ka:=hid Cy;clear Cy bk lB cN da fP;generalize (w9.setCell ⟨lb,12,none⟩ (.slice A9 n9 c9'))=wq at Ka ⊢;clear FV;go_wp2_with fail;go_roundw
     case rel=>exact⟨i+1,_,_,_,_,_,_,_,by have:=HI.out;omega,by go_num,by simp[qu.out.1],by simp[qu.out.2.1],by simp[qu.out.2.2],Ka.out⟩
     case measure=>simp[intOf];omega
    ·have hd:decide ((i:Int)<(gs.length:Int))=false:=decide_eq_false (by omega);obtain rfl:i=gs.length:=by omega
     have Ag:=hid hs;have qu:=hid (And.intro Aa (And.intro jU Hp));clear hs hi aZ Aa jU Hp;go_wp2_with fail;go_ret;exact⟨lb,ml,m.length,oV,bV,aV,tg,xl,bl,al,rfl,Nat.le_refl _,Ag.out,qu.out⟩
theorem wg {o:Ob} {at' op rd:Int} {r:List Int} (h:cZ o at' op rd r.length=0):((kW o at' op rd r).op==if o.k=6 then 3 else 2)=(kW o at' op rd r).wr:=by
 obtain⟨hS,_,_,_,_⟩:=jM h;have e1:(kW o at' op rd r).op=op:=rfl;have e2:(kW o at' op rd r).kd=o.k:=rfl;have h5:=hS.op5;have h6:=hS.op6;rw[e1,e2] at h5 h6;unfold Kc.wr;rw[e1]
 by_cases hk:o.k=6
 ·rw[if_pos hk]
  rcases h6 hk with q | q <;> rw[q] <;> rfl
 ·rw[if_neg hk]
  rcases h5 hk with q | q <;> rw[q] <;> rfl
section
variable {N:Nat} {W:World} {o:Ob} {lb:Nat} {pV lV oV bV aV cV:Value} {tg:Nat→Nat} {M:Lm} {gs:List PG} {xl xl':List (Option RV)} {bl al bl' al':List Nat} {es:List CV} {w w' w9:World} {k:Nat}
theorem RL.proc {T:Nat→Prop} {q:Pr} (h:RL N W o lb pV lV oV bV aV cV tg M gs xl bl al es w) (ht:Tch T w w') (hT:∀ b,T b→tg b=2∨tg b=7∨tg b=8∨tg b=3*k+10∨tg b=3*k+12)
  (ho:Own GK 81 N w' oV xl') (hb:Own nE 3 N w' bV bl') (ha:Own nE 3 N w' aV al') (hx:∀ j,j≠k→xl'[j]?=xl[j]?∧bl'[j]?=bl[j]?∧al'[j]?=al[j]?)
  (hp:∀ g x b a,gs[k]?=some g→xl'[k]?=some x→bl'[k]?=some b→al'[k]?=some a→RPr tg k o w' g x b a q):
  RL N W o lb pV lV oV bV aV cV tg { M with ps:=M.ps.set k q } gs xl' bl' al' es w':=by
 have s:=h.keep (fun n=>n=2∨n=7∨n=8∨n=3*k+10∨n=3*k+12) ht (fun b e=>⟨by have:=hT b e;omega,hT b e⟩);refine⟨s.row (by omega),s.mem (by omega),h.w32,h.ml,ho,hb,ha,s.calls (by omega),h.cx,s.recs (by omega),fun j g x b a r h1 h2 h3 h4 h5=>?_,s.hin,h.tl,h.tp,h.tc,h.tm,h.tb,h.ta,s.tn,s.bel,h.hN⟩
 rcases bP h5 with ⟨rfl,rfl⟩ | ⟨e,h5⟩
 ·exact hp g x b a h1 h2 h3 h4
 ·obtain⟨e1,e2,e3⟩:=hx j e;exact s.ps j g x b a r (by omega) (by omega) h1 (e1 ▸ h2) (e2 ▸ h3) (e3 ▸ h4) h5
theorem RL.marks {v:Value} {n:Nat} (h:RL N W o lb pV lV oV bV aV cV tg M gs xl bl al es w) (hv:∀ b,v.ownBlock=some b→(tg b=0∨tg b=n)∧N≤b∧b<w.heap.size):RL N W o lb pV lV oV bV aV cV (hY v n tg) M gs xl bl al es w:=
 h.mark (fun b e=>by
  unfold hY
  by_cases q:v.ownBlock=some b
  ·rw[if_pos q]
   rcases (hv b q).1 with r | r
   ·exact absurd r e
   ·exact r.symm
  ·exact if_neg q) (fun b e=>by
  unfold hY at e
  by_cases q:v.ownBlock=some b
  ·exact(hv b q).2
  ·rw[if_neg q] at e;exact h.tn b e)
theorem RL.gives {v:Value} (h:RL N W o lb pV lV oV bV aV cV tg M gs xl bl al es w) (hv:∀ b,v.ownBlock=some b→tg b=3*k+12) (ho:∀ p d,M.ps[k]?=some p→p.op=some d→d.over=true):RL N W o lb pV lV oV bV aV cV (hY v 6 tg) M gs xl bl al es w:=by
 have e0:∀ b n,n≠3*k+12→tg b=n→hY v 6 tg b=n:=fun b n h0 e=>by
  unfold hY;rw[if_neg (fun q=>h0 (e.symm.trans (hv b q)))];exact e
 refine⟨h.row,h.mem,h.w32,h.ml,h.ops,h.bgs,h.ats,h.calls,h.cx,fun x hx=>⟨(h.recs x hx).1,fun b off q=>e0 b 6 (by omega) ((h.recs x hx).2 b off q)⟩,fun j g x b a r h1 h2 h3 h4 h5=>?_,h.hin,e0 _ 1 (by omega) h.tl,fun b q=>e0 b 2 (by omega) (h.tp b q),fun b q=>e0 b 3 (by omega) (h.tc b q),fun b q=>e0 b 5 (by omega) (h.tm b q),fun b q=>e0 b 7 (by omega) (h.tb b q),fun b q=>e0 b 8 (by omega) (h.ta b q),fun b e=>?_,h.bel,h.hN⟩
 ·have s:=h.ps j g x b a r h1 h2 h3 h4 h5;refine⟨s.left,s.le,s.call,s.op.imp id fun ⟨d,u,q1,q2,q⟩=>⟨d,u,q1,q2,q.row,e0 _ _ (by omega) q.ty,fun hd=>?_⟩⟩;obtain⟨g1,g2,g3,g4,g5,g6⟩:=q.live hd;refine⟨g1,g2,g3,g4,g5,fun i hi=>e0 i _ (fun e=>?_) (g6 i hi)⟩;obtain rfl:j=k:=by omega
  rw[ho r d h5 q1] at hd;cases hd
 ·unfold hY at e
  by_cases q:v.ownBlock=some b
  ·exact h.tn b (by rw[hv b q];omega)
  ·rw[if_neg q] at e;exact h.tn b e
theorem RL.sr {g:PG} {v:RV} {b a ml cap:Nat} {p:Pr} {d:Kc} (h:RL N W o lb pV (.slice (some ⟨ml,0,none⟩) M.mem.length cap) oV bV aV cV tg M gs xl bl al es w) (hg:gs[k]?=some g) (hx:xl[k]?=some (some v)) (hb:bl[k]?=some b) (ha:al[k]?=some a) (hp:M.ps[k]?=some p) (hd:p.op=some d) (bX:d.over=false):SR w v.yb ml cap o d v.rv M.mem:=by
 obtain⟨d',v',e1,e2,r⟩:∃ d' v',p.op=some d'∧some v=some v'∧ROk tg k o w d' v':=by
  rcases (h.ps k g _ b a p hg hx hb ha hp).op with ⟨_,q⟩ | q
  ·cases q
  ·exact q
 obtain rfl:=Option.some.inj e2;obtain rfl:d=d':=Option.some.inj (hd.symm.trans e1);obtain⟨h1,h2,h3,h4,h5,h6⟩:=r.live bX;have hm:=h.tm ml rfl;exact⟨r.row,h1,h2,h3,h.mem,h.w32,h.ml,fun e=>by have:=r.ty;rw[e,hm] at this;omega,h5,fun e=>by have:=h6 _ e;rw[hm] at this;omega,h4⟩
theorem RL.step {v:RV} {ml cap:Nat} {p:Pr} {d d':Kc} {rv':Value} {l':List Int} {g:PG} {b a:Nat} (h:RL N W o lb pV (.slice (some ⟨ml,0,none⟩) M.mem.length cap) oV bV aV cV tg M gs xl bl al es w) (hg:gs[k]?=some g) (hx:xl[k]?=some (some v)) (hb:bl[k]?=some b) (ha:al[k]?=some a) (hp:M.ps[k]?=some p) (hd:p.op=some d) (bX:d.over=false)
  (hs:SR w' v.yb ml cap o d' rv' l') (hm:Mv v.yb ml ml w w' v.rv rv') (hl:l'.length=M.mem.length):
  RL N W o lb pV (.slice (some ⟨ml,0,none⟩) l'.length cap) oV bV aV cV (hY rv' (3*k+12) tg) ⟨M.ps.set k { p with op:=some d' },l',M.calls,M.now⟩ gs (xl.set k (some ⟨v.yb,rv'⟩)) bl al es w'∧∀ b,rv'.ownBlock=some b→hY rv' (3*k+12) tg b=3*k+12:=by
 have hP:=h.ps k g _ b a p hg hx hb ha hp
 obtain⟨d1,v1,e1,e2,r⟩:∃ d' v',p.op=some d'∧some v=some v'∧ROk tg k o w d' v':=by
  rcases hP.op with ⟨_,q⟩ | q
  ·cases q
  ·exact q
 obtain rfl:=Option.some.inj e2;obtain rfl:d=d1:=Option.some.inj (hd.symm.trans e1);obtain⟨_,_,_,_,_,h6⟩:=r.live bX;have Ie:=h.tm ml rfl;have ht:=hm.tch;have aZ:=World.ownsRow.lt hs.rc
 have hT:∀ b,fp v.yb ml ml v.rv b→tg b=5∨tg b=3*k+10∨tg b=3*k+12:=fun b q=>by
  rcases q with q | q | q | q
  ·rw[q];exact .inr (.inl r.ty)
  ·rw[q];exact .inl Ie
  ·rw[q];exact .inl Ie
  ·exact .inr (.inr (h6 b q))
 have s:=h.keep (fun n=>n=5∨n=3*k+10∨n=3*k+12) ht (fun b e=>⟨by have:=hT b e;omega,hT b e⟩);have G0:∀ b,rv'.ownBlock=some b→tg b=3*k+12∨w.heap.size≤b:=fun b q=>(hm.rv b q).imp (h6 b) id
 have e0:∀ b n,n≠0→tg b=n→hY rv' (3*k+12) tg b=n:=fun b n h0 e=>qA G0 (h.tn b (by rw[e];exact h0)).2 e
 refine⟨⟨by rw[hl];exact s.row (by omega),hs.mem,hs.w32,hs.len,?_,s.bgs (by omega),s.ats (by omega),s.calls (by omega),h.cx,fun e he=>⟨(s.recs (by omega) e he).1,fun b off q=>e0 b 6 (by decide) ((h.recs e he).2 b off q)⟩,fun j g' x' b' a' r' h1 h2 h3 h4 h5=>?_,s.hin,e0 _ 1 (by decide) h.tl,fun b q=>e0 b 2 (by decide) (h.tp b q),fun b q=>e0 b 3 (by decide) (h.tc b q),fun b q=>e0 b 5 (by decide) (h.tm b q),fun b q=>e0 b 7 (by decide) (h.tb b q),fun b q=>e0 b 8 (by decide) (h.ta b q),fun b e=>?_,s.bel,h.hN⟩,fun b q=>eX q⟩
 ·have:=s.ops (by omega);unfold Own at this ⊢;rw[mt (E:=GK) (x:=some v) (y:=some ⟨v.yb,rv'⟩) rfl xl k hx,List.length_set];exact this
 ·rcases bP h5 with ⟨rfl,rfl⟩ | ⟨e,h5⟩
  ·rcases bP h2 with ⟨_,rfl⟩ | ⟨e2,_⟩
   ·rw[hg] at h1;rw[hb] at h3;rw[ha] at h4;cases h1;cases h3;cases h4;exact⟨hP.left,hP.le,hP.call,.inr ⟨d',_,rfl,rfl,hs.row,e0 _ _ (by omega) r.ty,fun _=>⟨hs.rc,hs.w32r,hs.fits,hs.opk,hs.s2,fun b q=>eX q⟩⟩⟩
   ·exact absurd rfl e2
  ·rcases bP h2 with ⟨e2,_⟩ | ⟨_,h2⟩
   ·exact absurd e2 e
   ·exact(s.ps j g' x' b' a' r' (by omega) (by omega) h1 h2 h3 h4 h5).mark (fun i q=>e0 i _ (by omega) rfl)
 ·unfold hY at e
  by_cases q:rv'.ownBlock=some b
  ·refine⟨?_,(aZ b q).2⟩
   rcases G0 b q with r | r
   ·exact(h.tn b (by rw[r];omega)).1
   ·exact Nat.le_trans h.lo r
  ·rw[if_neg q] at e;exact s.tn b e
theorem RL.push {cV':Value} {e:CV} (h:RL N W o lb pV lV oV bV aV cV tg M gs xl bl al es w) (cT:Own cvE 40 N w9 cV' (es++[e])) (ht:Tch (fun b=>cV.ownBlock=some b) w w9) (jI:cV'.ownBlock=cV.ownBlock∨cV'.ownBlock=some w.heap.size)
  (he:Ws w9 w9.heap.size e.A e.x.r∧∀ b off,e.A=some ⟨b,off,none⟩→tg b=6):
  RL N W o lb pV lV oV bV aV cV' (hY cV' 3 tg) { M with calls:=M.calls++[e.x] } gs xl bl al (es++[e]) (w9.setCell ⟨lb,13,none⟩ cV'):=by
 have h2:∀ b,cV'.ownBlock=some b→tg b=3∨w.heap.size≤b:=fun b q=>by
  rcases jI with r | r
  ·exact .inl (h.tc b (r.symm.trans q))
  ·exact .inr (Nat.le_of_eq (Option.some.inj (r.symm.trans q)))
 have aZ:=World.ownsRow.lt cT;have DL:=(h.tn lb (by rw[h.tl];decide)).2
 have hl:∀ b,cV'.ownBlock=some b→b≠lb:=fun b q e=>by
  rcases h2 b q with r | r
  ·rw[e,h.tl] at r;omega
  ·omega
 have hs:=(Tch.refl (fun b=>b=lb) w9).set (b:=lb) rfl 13 cV';have hT:=((ht.mono (T':=fun b=>cV.ownBlock=some b∨b=lb) (fun _ _ r=>.inl r)).set (b:=lb) (.inr rfl) 13 cV')
 have q:=h.keep (fun n=>n=3∨n=1) hT (fun b e=>by
  rcases e with e | e
  ·rw[h.tc b e];exact⟨by decide,.inl rfl⟩
  ·rw[e,h.tl];exact⟨by decide,.inr rfl⟩)
 have e0:∀ b n,n≠0→tg b=n→hY cV' 3 tg b=n:=fun b n h0 e=>qA h2 (h.tn b (by rw[e];exact h0)).2 e
 have hn:∀ b,hY cV' 3 tg b≠0→N≤b∧b<(w9.setCell ⟨lb,13,none⟩ cV').heap.size:=fun b e=>by
  unfold hY at e
  by_cases r:cV'.ownBlock=some b
  ·exact⟨(aZ b r).1,by have:=(aZ b r).2;have:=hs.size;omega⟩
  ·rw[if_neg r] at e;exact q.tn b e
 refine⟨(h.row.tch ht (fun r=>by have:=h.tc _ r;rw[h.tl] at this;omega)).set 13 cV',q.mem (by omega),h.w32,h.ml,q.ops (by omega),q.bgs (by omega),q.ats (by omega),aG cT hs (fun b e r=>hl b e r),by simp[h.cx],fun x hx=>?_,fun k g x b a r h1 tH h3 h4 h5=>(q.ps k g x b a r (by omega) (by omega) h1 tH h3 h4 h5).mark (fun i e=>e0 i _ (by omega) rfl),q.hin,e0 _ 1 (by decide) h.tl,fun b e=>e0 b 2 (by decide) (h.tp b e),fun b e=>eX e,fun b e=>e0 b 5 (by decide) (h.tm b e),fun b e=>e0 b 7 (by decide) (h.tb b e),fun b e=>e0 b 8 (by decide) (h.ta b e),hn,q.bel,h.hN⟩
 rcases List.mem_append.1 hx with hx | hx
 ·exact⟨(q.recs (by omega) x hx).1,fun b off r=>e0 b 6 (by decide) ((h.recs x hx).2 b off r)⟩
 ·rw[List.mem_singleton.1 hx];exact⟨he.1.tch hs (fun b off r=>fun e=>by have h1:=he.2 b off r;have h2:=h.tl;rw[e] at h1;omega) hs.size,fun b off r=>e0 b 6 (by decide) (he.2 b off r)⟩
theorem RL.callset {cb n cc i j:Nat} {e e1:CV} {v:Value} (h:RL N W o lb pV lV oV bV aV (.slice (some ⟨cb,0,none⟩) n cc) tg M gs xl bl al es w) (he:es[i]?=some e) (hy:cvE.cells e1=(cvE.cells e).set j v) (hj:j<7) (hr:Ws w w.heap.size e1.A e1.x.r∧∀ b off,e1.A=some ⟨b,off,none⟩→tg b=6):
  RL N W o lb pV lV oV bV aV (.slice (some ⟨cb,0,none⟩) n cc) tg { M with calls:=M.calls.set i e1.x } gs xl bl al (es.set i e1) (w.setCell ⟨cb,i*7+j,none⟩ v):=by
 have ht:=(Tch.refl (fun b=>b=cb) w).set (b:=cb) rfl (i*7+j) v;have Ft:=h.tc cb rfl;have q:=h.keep (fun n=>n=3) ht (fun b e=>by rw[e,Ft];exact⟨by decide,rfl⟩);refine⟨q.row (by decide),q.mem (by decide),h.w32,h.ml,q.ops (by decide),q.bgs (by decide),q.ats (by decide),lE h.calls he (E:=cvE) hy hj,by rw[List.map_set,h.cx],fun x hx=>?_,fun k g x b a r=>q.ps k g x b a r (by omega) (by omega),q.hin,h.tl,h.tp,h.tc,h.tm,h.tb,h.ta,q.tn,q.bel,h.hN⟩;obtain⟨i',hq⟩:=List.getElem?_of_mem hx
 rcases bP hq with ⟨_,rfl⟩ | ⟨_,hq⟩
 ·exact⟨hr.1.tch ht (fun b off r=>fun e=>by have h1:=hr.2 b off r;rw[e,Ft] at h1;omega) ht.size,hr.2⟩
 ·exact q.recs (by decide) x (List.mem_of_getElem? hq)
theorem RL.begun {ob no co yb B b a:Nat} {rv:Value} {x:Option RV} {g:PG} {q:Pr} {d:Kc} (h:RL N W o lb pV lV (.slice (some ⟨ob,0,none⟩) no co) bV aV cV tg M gs xl bl al es w) (hg:gs[k]?=some g) (hx:xl[k]?=some x) (hb:bl[k]?=some b) (ha:al[k]?=some a) (hq:M.ps[k]?=some q)
  (bm:RowB w yb (vn o d rv) 84) (cT:Own (bB .u32) 22 B w rv d.rc) (i7:rv.ownBlock≠some yb) (hB:∀ b,tg b≠0→b<B) (hN:N≤B) (hy:B≤yb) (hw:W32 d.rc) (hf:Fits o d) (aA:(d.op==if o.k=6 then 3 else 2)=d.wr):
  ∃ tg',RL N W o lb pV lV (.slice (some ⟨ob,0,none⟩) no co) bV aV cV tg' { M with ps:=M.ps.set k { q with op:=some d } } gs (xl.set k (some ⟨yb,rv⟩)) bl al es (w.setCell ⟨ob,k,none⟩ (.pointer (some ⟨yb,0,none⟩)))∧∀ b,b<B→tg' b=tg b:=by
 have aZ:=World.ownsRow.lt cT;obtain⟨tg',nd⟩:∃ t:Nat→Nat,t=fun b=>if b=yb then 3*k+10 else if rv.ownBlock=some b then 3*k+12 else tg b:=⟨_,rfl⟩
 have ge:∀ b,b<B→tg' b=tg b:=fun b hb=>by
  rw[nd];dsimp only;rw[if_neg (by omega),if_neg (fun e=>by have:=(aZ b e).1;omega)]
 have K3:tg' yb=3*k+10:=by rw[nd];exact if_pos rfl
 have Cz:∀ b,rv.ownBlock=some b→tg' b=3*k+12:=fun b e=>by
  rw[nd];dsimp only;rw[if_neg (fun r=>i7 (by rw[← r];exact e)),if_pos e]
 have hm:=h.mark (tg':=tg') (fun b e=>ge b (hB b e)) (fun b e=>by
  rw[nd] at e;dsimp only at e
  split at e
  ·rename_i r;subst r;exact⟨by omega,bm.lt⟩
  ·split at e
   ·rename_i r;exact⟨Nat.le_trans hN (aZ b r).1,(aZ b r).2⟩
   ·exact h.tn b e)
 have ht:=(Tch.refl (fun b=>b=ob) w).set (b:=ob) rfl k (.pointer (some ⟨yb,0,none⟩));have h2:=hm.tp ob rfl;have LE:yb≠ob:=fun e=>by rw[e] at K3;omega
 have MG:∀ b,rv.ownBlock=some b→¬ b=ob:=fun b r e=>by have:=Cz b r;rw[e] at this;omega
 have P:=hm.ps k g x b a q hg hx hb ha hq;have fU:∀ b,bV.ownBlock=some b→¬ b=ob:=fun b r e=>by have:=hm.tb b r;rw[e] at this;omega
 have eh:∀ b,aV.ownBlock=some b→¬ b=ob:=fun b r e=>by have:=hm.ta b r;rw[e] at this;omega
 refine⟨tg',hm.proc ht (fun b e=>.inl (by rw[e];exact h2)) (mQ hm.ops rfl hx (y:=some ⟨yb,rv⟩) rfl) (aG hm.bgs ht fU) (aG hm.ats ht eh) (fun j e=>⟨by rw[List.getElem?_set_ne (Ne.symm e)],rfl,rfl⟩) (fun g' x' b' a' h1 h3 h4 h5=>?_),ge⟩;rw[hg] at h1;rw[hb] at h4;rw[ha] at h5;cases h1;cases h4;cases h5
 rcases bP h3 with ⟨_,rfl⟩ | ⟨e,_⟩
 ·exact⟨P.left,P.le,P.call,.inr ⟨d,_,rfl,rfl,bm.tch ht LE,K3,fun _=>⟨aG (cT.mono (Nat.zero_le _)) ht MG,hw,hf,aA,i7,Cz⟩⟩⟩
 ·exact absurd rfl e
theorem RL.bgset {bb nb cb b:Nat} {g:PG} {q:Pr} {ts:List Td} (h:RL N W o lb pV lV oV (.slice (some ⟨bb,0,none⟩) nb cb) aV cV tg M gs xl bl al es w) (hg:gs[k]?=some g) (hb:bl[k]?=some b) (hq:M.ps[k]?=some q) (n0:b+1≤g.ts.length) (dq:ts=(g.ts.drop (b+1)).map TV.td):
  RL N W o lb pV lV oV (.slice (some ⟨bb,0,none⟩) nb cb) aV cV tg { M with ps:=M.ps.set k { q with left:=ts } } gs xl (bl.set k (b+1)) al es (w.setCell ⟨bb,k,none⟩ (.int .i64 ((b:Int)+1))):=by
 have ht:=(Tch.refl (fun b=>b=bb) w).set (b:=bb) rfl k (.int .i64 ((b:Int)+1));have h2:=h.tb bb rfl;have Ik:∀ b,oV.ownBlock=some b→¬ b=bb:=fun b r e=>by have:=h.tp b r;rw[e] at this;omega
 have eh:∀ b,aV.ownBlock=some b→¬ b=bb:=fun b r e=>by have:=h.ta b r;rw[e] at this;omega
 have hv:(.int .i64 ((b:Int)+1):Value)=.int .i64 ((b+1:Nat):Int):=by congr 1
 refine h.proc ht (fun b e=>.inr (.inl (by rw[e];exact h2))) (aG h.ops ht Ik) (mQ h.bgs rfl hb (y:=b+1) (by rw[hv];rfl)) (aG h.ats ht eh) (fun j e=>⟨rfl,by rw[List.getElem?_set_ne (Ne.symm e)],rfl⟩) (fun g' x' b' a' h1 h3 h4 h5=>?_);have P:=(h.ps k g' x' b a' q h1 h3 hb h5 hq).tch ht (fun i e=>by rw[e,h2];omega);rw[hg] at h1;cases h1
 rcases bP h4 with ⟨_,rfl⟩ | ⟨e,_⟩
 ·exact⟨dq,n0,P.call,P.op⟩
 ·exact absurd rfl e
theorem RL.atset {ab na ca a n:Nat} {q:Pr} (h:RL N W o lb pV lV oV bV (.slice (some ⟨ab,0,none⟩) na ca) cV tg M gs xl bl al es w) (ha:al[k]?=some a) (hq:M.ps[k]?=some q):
  RL N W o lb pV lV oV bV (.slice (some ⟨ab,0,none⟩) na ca) cV tg { M with ps:=M.ps.set k { q with call:=n } } gs xl bl (al.set k n) es (w.setCell ⟨ab,k,none⟩ (.int .i64 (n:Int))):=by
 have ht:=(Tch.refl (fun b=>b=ab) w).set (b:=ab) rfl k (.int .i64 (n:Int));have h2:=h.ta ab rfl;have Ik:∀ b,oV.ownBlock=some b→¬ b=ab:=fun b r e=>by have:=h.tp b r;rw[e] at this;omega
 have fU:∀ b,bV.ownBlock=some b→¬ b=ab:=fun b r e=>by have:=h.tb b r;rw[e] at this;omega
 refine h.proc ht (fun b e=>.inr (.inr (.inl (by rw[e];exact h2)))) (aG h.ops ht Ik) (aG h.bgs ht fU) (mQ h.ats rfl ha (y:=n) rfl) (fun j e=>⟨rfl,rfl,by rw[List.getElem?_set_ne (Ne.symm e)]⟩) (fun g' x' b' a' h1 h3 h4 h5=>?_);have P:=(h.ps k g' x' b' a q h1 h3 h4 ha hq).tch ht (fun i e=>by rw[e,h2];omega)
 rcases bP h5 with ⟨_,rfl⟩ | ⟨e,_⟩
 ·exact⟨P.left,P.le,rfl,P.op⟩
 ·exact absurd rfl e
theorem RL.oprow {v:RV} {g:PG} {b a:Nat} {p:Pr} {d:Kc} (h:RL N W o lb pV lV oV bV aV cV tg M gs xl bl al es w) (hg:gs[k]?=some g) (hx:xl[k]?=some (some v)) (hb:bl[k]?=some b) (ha:al[k]?=some a) (hp:M.ps[k]?=some p) (hd:p.op=some d):RowB w v.yb (vn o d v.rv) 84:=by
 rcases (h.ps k g _ b a p hg hx hb ha hp).op with ⟨_,q⟩ | ⟨d',v',e1,e2,r⟩
 ·cases q
 ·cases e2;obtain rfl:d=d':=Option.some.inj (hd.symm.trans e1);exact r.row
end
end Go.Proofs.YtolmpehgeinlkaaGreatDoor
