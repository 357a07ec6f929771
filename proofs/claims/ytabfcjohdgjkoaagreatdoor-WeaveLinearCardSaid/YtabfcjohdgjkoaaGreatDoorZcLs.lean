/- finder.from. -/
import Derived.Test.YtabfcjohdgjkoaaGreatDoorZcLq
import Derived.Deep.DeepCutAuto
namespace Go.Proofs.YtabfcjohdgjkoaaGreatDoor
open Go.RowKit Go.Maps
open Go.Lib (hid)
attribute [local go_sem] Oper.semAt_some
set_option maxHeartbeats 8000000
set_option maxRecDepth 100000
theorem zh {w0:World} {lo mid fb bm cP cT cI:Nat} {n:Int} {P T:List Cl} {AP AT AI:Option Addr} (hx:FixF w0 lo mid fb bm n P T AP cP AT cT AI cI) {M:Nat} {st:List Sp × List Int} {s:Sp} {W:World} (hs:Inv n P T s) (h:FS w0 lo mid fb bm n P T AP cP AT cT AI cI M st W):
  Calls Tryz.prog 175 #[.pointer (some ⟨fb,0,none⟩),gK s] W (kN (bR n P T s) W):=by
 obtain⟨vE,hF,_⟩:=h.own;obtain⟨hP,hT,eI,eT⟩:=hx.lens;have eX:=h.clP hx;have eY:=h.clT hx
 by_cases h0:s.a=P.length
 ·exact Hd hs hP hT eI eT W hF eX eY h0
 ·have ha:=hs.a;obtain⟨c,hc⟩:=bu (show s.a<P.length by omega);cases hm:jx c (T.drop s.b) with
  | false=>exact He hs hP hT eI eT W hF eX eY hc hm
  | true=>
   by_cases he:c.e<0
   ·exact Hg hs hP hT eI eT W hF eX eY hc hm he
   ·cases h2:(c.c==2) with
    | true=>exact Hf hs hP hT eI eT W hF eX eY hc hm (by omega) h2
    | false=>exact Hh hs hP hT eI eT W hF eX eY hc hm (by omega) h2
theorem xc {w0:World} {lo mid fb bm cP cT cI:Nat} {n:Int} {P T:List Cl} {AP AT AI:Option Addr} (hx:FixF w0 lo mid fb bm n P T AP cP AT cT AI cI) {M:Nat} {st:List Sp × List Int} {s:Sp} {W:World} (hs:Inv n P T s) (h:FS w0 lo mid fb bm n P T AP cP AT cT AI cI M st W):
  Calls Tryz.prog 176 #[.pointer (some ⟨fb,0,none⟩),gK s] W (kN (bO P T s) W):=by
 obtain⟨vE,hF,_⟩:=h.own;obtain⟨hP,hT,eI,eT⟩:=hx.lens;have eX:=h.clP hx;have eY:=h.clT hx;have Ta:=h.items hx
 by_cases h0:s.b=T.length
 ·exact DD hs hP hT eI eT W hF eX eY h0
 ·have ha:=hs.b;obtain⟨c,hc⟩:=bu (show s.b<T.length by omega);cases hm:jx c (P.drop s.a) with
  | false=>exact DE hs hP hT eI eT W hF eX eY hc hm
  | true=>
   by_cases hk:s.i=s.o
   ·by_cases he:c.e<0
    ·exact DF hs hP hT eI eT W hF eX eY hc hm he hk
    ·cases h2:(c.c==3) with
     | true=>exact vJ hs hP hT eI eT W hF eX eY hc hm (by omega) h2
     | false=>exact DG hs hP hT eI eT W hF eX eY hc hm (by omega) h2 hk
   ·by_cases he:c.e<0
    ·exact DH hs hP hT eI eT W hF eX eY hc hm he hk
    ·cases h2:(c.c==3) with
     | true=>exact vJ hs hP hT eI eT W hF eX eY hc hm (by omega) h2
     | false=>
      have UM:=hs.oi;have zR:=sZ hx.puts s.a;rw[← hs.i] at zR;obtain⟨r0,ak⟩:=bu (show s.o<(bM P).length by omega);obtain⟨ib,io,Ai,ci,Nx,_,hI,MJ,Lx,Eh⟩:=Ta s.o r0 ak;exact DI hs hP hT eI eT W hF eX eY hc hm (by omega) h2 hk Nx hI MJ Lx Eh ak (by omega)
def KeepS (W W':World):Prop:=∀ (b:Nat) (arr:Array Value),W.heap[b]?=some (.cells arr 149 (0,0))→W'.heap[b]?=some (.cells arr 149 (0,0))
theorem KeepS.refl (W:World):KeepS W W:=fun _ _ h=>h
theorem KeepS.trans {W W' W'':World} (h:KeepS W W') (h':KeepS W' W''):KeepS W W'':=fun b arr hb=>h' b arr (h b arr hb)
theorem KeepS.of {W W':World} (hb:Below W.heap.size W W'):KeepS W W':=fun _ _ h=>au h hb
theorem KeepS.map {W W':World} {bm:Nat} (hg:W.grownBy W' (some bm)) (hm:∃ es clock,W.heap[bm]?=some (.map es clock)):KeepS W W':=fun b arr h=>by
 obtain⟨es,clock,hm⟩:=hm;refine(hg.block b (cK h) (fun e=>?_)).trans h
 injection e with e
 subst e;rw[h] at hm;cases hm
theorem KeepS.store {W:World} {fb:Nat} {arr:Array Value} (hf:W.heap[fb]?=some (.cells arr 146 (0,0))) (j:Nat) (v:Value):KeepS W (W.setCell ⟨fb,j,none⟩ v):=fun b a h=>by
 refine aQ h fb j v (fun e=>?_);subst e;rw[hf] at h
 injection h with h
 injection h with _ h
 exact absurd h (by decide)
theorem oN {base:Nat} {W:World} {v:Value} {n:Nat} {xs:List Value} (h:W.ownsRow base 3 1 v n xs) {sb:Nat} {arr:Array Value} (hs:W.heap[sb]?=some (.cells arr 149 (0,0))):some sb≠v.ownBlock:=fun e=>by
 rcases h.2 with ⟨q,_⟩ | ⟨g,cap,cur,hv,Ia,hh,r⟩
 ·rw[q] at e;cases e
 ·rw[hv] at e;have e2:sb=g:=by simpa [Value.ownBlock] using e
  subst e2;rw[hs] at hh
  injection hh with hh
  injection hh with _ hh
  exact absurd hh (by decide)
theorem KeepS.ofApp {W Wa W':World} {ab:Nat} {v:Value} (bG:Below ab W Wa) (pu:W.heap.size=ab) (hk:∀ k,k<Wa.heap.size→some k≠v.ownBlock→W'.heap[k]?=Wa.heap[k]?) (eZ:∀ {sb:Nat} {arr:Array Value},Wa.heap[sb]?=some (.cells arr 149 (0,0))→some sb≠v.ownBlock):KeepS W W':=fun b arr h=>by
 have h1:Wa.heap[b]?=some (.cells arr 149 (0,0)):=(bG.block b (by rw[← pu];exact cK h)).trans h;exact(hk b (cK h1) (eZ h1)).trans h1
theorem nQ {w w':World} {b:Nat} {v0 v1 v2 v3 v4:Value} (h:w.cell? ⟨b,0,none⟩=some (v0)∧w.cell? ⟨b,1,none⟩=some (v1)∧w.cell? ⟨b,2,none⟩=some (v2)∧w.cell? ⟨b,3,none⟩=some (v3)∧w.cell? ⟨b,4,none⟩=some (v4)) (hb:Below w.heap.size w w'):w'.cell? ⟨b,0,none⟩=some (v0)∧w'.cell? ⟨b,1,none⟩=some (v1)∧w'.cell? ⟨b,2,none⟩=some (v2)∧w'.cell? ⟨b,3,none⟩=some (v3)∧w'.cell? ⟨b,4,none⟩=some (v4):=
 ⟨aG h.1 hb,aG h.2.1 hb,aG h.2.2.1 hb,aG h.2.2.2.1 hb,aG h.2.2.2.2 hb⟩
theorem qs {P:Program} {w:World} {ops:Array Oper} {o:Oper} {a:Act} {K:Act→World→Prop} {Q:Exit→Act→World→Prop} {E:Prop} (mg:o.guard=none) (s x:Operand) (t:TypeId)
  (ho:o.op=.call { callee:=.builtin .append,args:=#[s,x],argTypes:=#[t,t] }) {e:TypeId} {size bytes:Nat} (hT:ElemTy P t e size bytes) (base:Nat)
  {v:Value} {n:Nat} {xs:List Value} (bU:w.ownsRow base e size v n xs) (hs:a.eval s=v) {ad:Addr} {m c:Nat} {news:List Value} (z9:∀ j u,news[j]?=some u→w.cell? (ad.add j)=some u) (hx:a.eval x=.slice (some ad) m c) (hl:news.length=m*size) (h1:∀ u ∈ news,u.oneCell'=true)
  (KE:n+m≤maxLen) (ob:(n+m)*bytes≤140737488355328) (cX:base≤w.heap.size)
  (h:∀ v' w',w'.ownsRow base e size v' (n+m) (xs++news)→Below base w w'→(∀ k,k<w.heap.size→some k≠v.ownBlock→w'.heap[k]?=w.heap[k]?)→(v'.ownBlock=v.ownBlock∨v'.ownBlock=some w.heap.size)→K (a.put o.dst v') w'):if Region.wanted o (yielded ops a.tmps)=true then Oper.wp P o a w K Q else E:=by
 have hw:Region.wanted o (yielded ops a.tmps)=true:=by simp[Region.wanted,mg]
 rw[if_pos hw];obtain⟨ht,i,z,hi,hz,fI,yj,AB,bY⟩:=hT;obtain⟨v',w',hr,h2,h3,h4,h5⟩:=run_append_own_at (P:=P) w base t o.type e i z size bytes ht hi hz fI yj AB bY v n xs bU ad m c news hl z9 h1 KE ob cX;unfold Oper.wp execOp;simp only[ho,resolve,invoke,builtin,Sem.run_bind,Sem.run_pure,Result.andThen_ok,List.map_toArray,List.map_cons,List.map_nil,hs,hx,hr];exact h v' w' h2 (gI bU h3 (Nat.le_refl _) cX) h3.block h5
def fN:Nat→Nat
 | 0=>0
 | f+1=>1+2*fN f
theorem IO {base:Nat} {W:World} {v:Value} {l:List Int} (h:Own (bn .i64) 3 base W v l) {sb:Nat} {arr:Array Value} (hs:W.heap[sb]?=some (.cells arr 149 (0,0))):some sb≠v.ownBlock:=fun e=>by
 rcases h.2 with ⟨q,_⟩ | ⟨g,cap,cur,hv,Ia,hh,r⟩
 ·rw[q] at e;cases e
 ·rw[hv] at e;have e2:sb=g:=by simpa [Value.ownBlock] using e
  subst e2;rw[hs] at hh
  injection hh with hh
  injection hh with _ hh
  exact absurd hh (by decide)
theorem zi {w0:World} {lo mid fb bm cP cT cI:Nat} {n:Int} {P T:List Cl} {AP AT AI:Option Addr} (hx:FixF w0 lo mid fb bm n P T AP cP AT cT AI cI):∀ (f:Nat) (s:Sp) (st:List Sp × List Int) (M:Nat) (W:World),Inv n P T s→left P T s<f→M+fN f≤8796093022208→FS w0 lo mid fb bm n P T AP cP AT cT AI cI M st W→
  Calls Tryz.prog 113 #[.pointer (some ⟨fb,0,none⟩),gK s] W fun e w'=>e=.returned (.tuple #[])∧FS w0 lo mid fb bm n P T AP cP AT cT AI cI (M+fN f) (m4 n P T f s st) w'∧KeepS W w':=by
 intro f
 induction f with
 | zero=>intro s st M W hs hl;omega
 | succ f ih=>
  intro s st M W hs hl hM mf;obtain⟨hP,hT,eI,eT⟩:=hx.lens;have s1:=hs.a;have s2:=hs.b;have s3:=hs.oi;have s4:s.i≤60:=by rw[hs.i];exact Nat.le_trans List.countP_le_length (by rw[List.length_take];omega)
  have sok:s.Ok:=⟨by omega,by omega,by omega,by omega⟩;have MF:fN (f+1)=1+2*fN f:=rfl;rw[MF] at hM ⊢;have bf:=mf.len;obtain⟨g1,g2,g3,g4,g5,g6⟩:=hx.fbm;have aq:=bK W (.cells #[.int .i64 (s.a:Int),.int .i64 (s.b:Int),.int .i64 (s.i:Int),.int .i64 (s.o:Int)] 149);have At:=heap_alloc_new W (.cells #[.int .i64 (s.a:Int),.int .i64 (s.b:Int),.int .i64 (s.i:Int),.int .i64 (s.o:Int)] 149);have Hz:=mf.go hx aq;obtain⟨sb,fH⟩:∃ x,W.heap.size=x:=⟨_,rfl⟩;have Tl:mid≤sb:=by rw[← fH];exact mf.kept.1
  rw[fH] at At;obtain⟨D,cnt,bU,qg⟩:=Hz.seen;have vW:=bU.drew;have ui:=Hz.go hx (Below.refl _ _).drew;obtain⟨wd,ay⟩:∃ x,(W.alloc (.cells #[.int .i64 (s.a:Int),.int .i64 (s.b:Int),.int .i64 (s.i:Int),.int .i64 (s.o:Int)] 149)).drew=x:=⟨_,rfl⟩;rw[ay] at vW ui;have uu:SpBox wd sb s:=by rw[← ay];exact At
  obtain⟨c,st',wm,wz,hi,nl,Ag⟩:=AC vW (by omega) sok (fun c hc=>by
   rw[qg.at_ s sok] at hc
   injection hc with hc
   injection hc with _ hc
   have:=qg.le s;omega)
  have hc:c=(cnt s:Int):=by
   rw[qg.at_ s sok] at nl
   injection nl with hc
   injection hc with _ hc
   exact hc.symm
  have SW:=qg.le s;have Iv:SpBox wz sb s:=(hi.grown2.block sb (cK uu) (by simp;omega)).trans uu;have LD:SpBox wm sb s:=(hi.grown.block sb (cK uu) (by simp;omega)).trans uu;have vY:=fun (seen':List Sp) (h:∀ q,q ∈ seen'↔q=s∨q ∈ st.1)=>ui.turned hx hi.grown2 (seen':=seen') ⟨_,_,Ag,qg.put bU.isMap sok hc h⟩
  have Lb:(Instr.lookup 144 (.map (some bm)) (gK s) false).run Tryz.prog wz.drew=.ok (.int .i64 (c+1)) wz.drew:=by
   obtain⟨c2,Am,zD,_⟩:=Ag.drew.lookup_int lawS Tryz.underlying144 Tryz.underlying3 (tH wz.drew) (wB sok);rw[atKey_put_same bU.isMap (rz s)] at zD
   injection zD with h
   injection h with _ h
   rw[h];exact Am
  obtain⟨vE,KH,-⟩:=ui.own;obtain⟨d0,d1,d2,d3,d4,d5⟩:=KH.cells;have Ow:∀ (W':World),wd.grownBy W' (some bm)→W'.heap[fb]?=wd.heap[fb]?:=fun W' hg=>hg.block fb (cK KH) (by simp[g3])
  have Jp:=FBox.cells ((Ow wm hi.grown).trans KH);have Jq:=FBox.cells ((Ow wz hi.grown2).trans KH);have xg:=ui.below;have Qv:=xg.grown hi.grown (Nat.le_trans g6 ui.kept.1) (fun j hj=>by cases hj;exact g5);have Qw:=xg.grown hi.grown2 (Nat.le_trans g6 ui.kept.1) (fun j hj=>by cases hj;exact g5);obtain⟨look,entry,look2,store,-,fy⟩:=hi;unfold gK at look entry look2 Lb ⊢;obtain⟨c1,o8⟩:∃ x,c+1=x:=⟨_,rfl⟩;have dP:IntKind.i64.wrap (c+1)=c1:=(IntWalk.i64_in _ (by omega)).trans o8;have Hq:c1=(cnt s:Int)+1:=by omega
  rw[o8] at store Lb;have dc:(fun w':World=>Below lo w0 w'∧(w'.cell? ⟨fb,0,none⟩=some (.int .i64 n)∧w'.cell? ⟨fb,1,none⟩=some (.slice AP P.length cP)∧w'.cell? ⟨fb,2,none⟩=some (.slice AT T.length cT)∧w'.cell? ⟨fb,3,none⟩=some (.slice AI (bM P).length cI)∧w'.cell? ⟨fb,4,none⟩=some (.map (some bm)))∧(w'.cell? ⟨sb,0,none⟩=some (.int .i64 (s.a:Int))∧w'.cell? ⟨sb,1,none⟩=some (.int .i64 (s.b:Int))∧w'.cell? ⟨sb,2,none⟩=some (.int .i64 (s.i:Int))∧w'.cell? ⟨sb,3,none⟩=some (.int .i64 (s.o:Int)))) wd:=⟨xg,⟨d0,d1,d2,d3,d4⟩,uu.cells⟩;have ME:(fun w':World=>Below lo w0 w'∧(w'.cell? ⟨fb,0,none⟩=some (.int .i64 n)∧w'.cell? ⟨fb,1,none⟩=some (.slice AP P.length cP)∧w'.cell? ⟨fb,2,none⟩=some (.slice AT T.length cT)∧w'.cell? ⟨fb,3,none⟩=some (.slice AI (bM P).length cI)∧w'.cell? ⟨fb,4,none⟩=some (.map (some bm)))∧(w'.cell? ⟨sb,0,none⟩=some (.int .i64 (s.a:Int))∧w'.cell? ⟨sb,1,none⟩=some (.int .i64 (s.b:Int))∧w'.cell? ⟨sb,2,none⟩=some (.int .i64 (s.i:Int))∧w'.cell? ⟨sb,3,none⟩=some (.int .i64 (s.o:Int)))) wm:=⟨Qv,⟨Jp.1,Jp.2.1,Jp.2.2.1,Jp.2.2.2.1,Jp.2.2.2.2.1⟩,LD.cells⟩;have SK:(fun w':World=>Below lo w0 w'∧(w'.cell? ⟨fb,0,none⟩=some (.int .i64 n)∧w'.cell? ⟨fb,1,none⟩=some (.slice AP P.length cP)∧w'.cell? ⟨fb,2,none⟩=some (.slice AT T.length cT)∧w'.cell? ⟨fb,3,none⟩=some (.slice AI (bM P).length cI)∧w'.cell? ⟨fb,4,none⟩=some (.map (some bm)))∧(w'.cell? ⟨sb,0,none⟩=some (.int .i64 (s.a:Int))∧w'.cell? ⟨sb,1,none⟩=some (.int .i64 (s.b:Int))∧w'.cell? ⟨sb,2,none⟩=some (.int .i64 (s.i:Int))∧w'.cell? ⟨sb,3,none⟩=some (.int .i64 (s.o:Int)))) wz:=⟨Qw,⟨Jq.1,Jq.2.1,Jq.2.2.1,Jq.2.2.2.1,Jq.2.2.2.2.1⟩,Iv.cells⟩;have Rg:KeepS wd wz:=KeepS.map fy (by obtain⟨es,clock,hh,_⟩:=vW;exact⟨es,clock,hh⟩);have Rf:KeepS W wd:=fun b arr h=>au h (by rw[← ay];exact aq.drew)
  have PV:=hid Rg;have M4:=hid Rf;have C1:=hid uu;clear Rg Rf fy;have M7:=hid Lb;have FC:=hid vY;have Mk:=hid hs;have Je:=hid ih;have Si:=hid Iv;have pi:=hid qg;have rI:=hid SK;have PB:=hid Hq;clear Lb vY hs ih Iv qg bU vW Ag nl mf Hz ui KH Ow Jp Jq xg Qv Qw hc Hq d0 d1 d2 d3 d4 d5 aq LD uu At MF o8;go_enter Tryz.func113,Tryz.ntmps113
  go_upto_region 1 with fail
  go_cut [14] (fun _ wx=>wx=wz)
  case first=>
   refine wp_region_held_drew (S:=(fun w':World=>Below lo w0 w'∧(w'.cell? ⟨fb,0,none⟩=some (.int .i64 n)∧w'.cell? ⟨fb,1,none⟩=some (.slice AP P.length cP)∧w'.cell? ⟨fb,2,none⟩=some (.slice AT T.length cT)∧w'.cell? ⟨fb,3,none⟩=some (.slice AI (bM P).length cI)∧w'.cell? ⟨fb,4,none⟩=some (.map (some bm)))∧(w'.cell? ⟨sb,0,none⟩=some (.int .i64 (s.a:Int))∧w'.cell? ⟨sb,1,none⟩=some (.int .i64 (s.b:Int))∧w'.cell? ⟨sb,2,none⟩=some (.int .i64 (s.i:Int))∧w'.cell? ⟨sb,3,none⟩=some (.int .i64 (s.o:Int))))) (by kernel_rfl) (by rw[ay];exact dc) (fun hHeld=>?_);rw[ay] at hHeld ⊢;clear ay;refine ai 0 1 2 3 ?_;refine aX 4 ?_;refine dG [5,7] ?_;refine dp (fun K hK=>?_) ?_
   ·go_simp;refine kH hK dc fun hHeld=>?_
    clear hK K;refine aX 6 ?_;refine dG [7] ?_;refine dp (fun K hK=>?_) AllReadyH.nil
    ·go_simp;refine kH hK ME fun hHeld=>?_
     clear hK K;refine aX 8 ?_;refine dG [9] ?_;refine dp (fun K hK=>?_) AllReadyH.nil
     ·go_simp;refine kH hK rI.out fun hHeld=>?_
      clear hK K;refine aY ?_
      (try go_wp2_with fail)
      go_meet;exact rfl
   ·refine dp (fun K hK=>?_) AllReadyH.nil
    ·go_simp;refine kH hK ME fun hHeld=>?_
     clear hK K;refine aX 8 ?_;refine dG [5] ?_;refine dp (fun K hK=>?_) AllReadyH.nil
     ·go_simp;refine kH hK ME fun hHeld=>?_
      clear hK K;refine aX 6 ?_;refine dG [9] ?_;refine dp (fun K hK=>?_) AllReadyH.nil
      ·go_simp;refine kH hK rI.out fun hHeld=>?_
       clear hK K;refine aY ?_
       (try go_wp2_with fail)
       go_meet;exact rfl
  case rest=>
   rw[hcut];clear hcut;clear dc ME look entry look2 store ay wm
   by_cases hin:s ∈ st.1
   ·have F6:(1:Int)<c1:=by
     have h1:=(pi.out.iff s sok).1 hin;have h2:=PB.out;omega
    have Mh:=hid (show m4 n P T (f+1) s st=st by rw[m4,if_pos hin]);have HF:=hid (FC.out st.1 (fun q=>⟨Or.inr,fun h=>h.elim (fun e=>e ▸ hin) id⟩));clear hin;go_wp2_with fail;have zx:(fun w':World=>Below wz.heap.size wz w'∧(w'.cell? ⟨fb,0,none⟩=some (.int .i64 n)∧w'.cell? ⟨fb,1,none⟩=some (.slice AP P.length cP)∧w'.cell? ⟨fb,2,none⟩=some (.slice AT T.length cT)∧w'.cell? ⟨fb,3,none⟩=some (.slice AI (bM P).length cI)∧w'.cell? ⟨fb,4,none⟩=some (.map (some bm)))∧(w'.cell? ⟨sb,0,none⟩=some (.int .i64 (s.a:Int))∧w'.cell? ⟨sb,1,none⟩=some (.int .i64 (s.b:Int))∧w'.cell? ⟨sb,2,none⟩=some (.int .i64 (s.i:Int))∧w'.cell? ⟨sb,3,none⟩=some (.int .i64 (s.o:Int)))∧(Instr.lookup 144 (.map (some bm)) (.agg #[.int .i64 (s.a:Int),.int .i64 (s.b:Int),.int .i64 (s.i:Int),.int .i64 (s.o:Int)]) false).run Tryz.prog w'=.ok (.int .i64 c1) w') wz.drew:=⟨(Below.refl _ _).drew,rI.out.2.1,rI.out.2.2,M7.out⟩;refine wp_region_held_drew (S:=(fun w':World=>Below wz.heap.size wz w'∧(w'.cell? ⟨fb,0,none⟩=some (.int .i64 n)∧w'.cell? ⟨fb,1,none⟩=some (.slice AP P.length cP)∧w'.cell? ⟨fb,2,none⟩=some (.slice AT T.length cT)∧w'.cell? ⟨fb,3,none⟩=some (.slice AI (bM P).length cI)∧w'.cell? ⟨fb,4,none⟩=some (.map (some bm)))∧(w'.cell? ⟨sb,0,none⟩=some (.int .i64 (s.a:Int))∧w'.cell? ⟨sb,1,none⟩=some (.int .i64 (s.b:Int))∧w'.cell? ⟨sb,2,none⟩=some (.int .i64 (s.i:Int))∧w'.cell? ⟨sb,3,none⟩=some (.int .i64 (s.o:Int)))∧(Instr.lookup 144 (.map (some bm)) (.agg #[.int .i64 (s.a:Int),.int .i64 (s.b:Int),.int .i64 (s.i:Int),.int .i64 (s.o:Int)]) false).run Tryz.prog w'=.ok (.int .i64 c1) w')) (by kernel_rfl) zx (fun hHeld=>?_);generalize wz.drew=we at hHeld ⊢;have hHeld:(fun w':World=>Below wz.heap.size wz w'∧(w'.cell? ⟨fb,0,none⟩=some (.int .i64 n)∧w'.cell? ⟨fb,1,none⟩=some (.slice AP P.length cP)∧w'.cell? ⟨fb,2,none⟩=some (.slice AT T.length cT)∧w'.cell? ⟨fb,3,none⟩=some (.slice AI (bM P).length cI)∧w'.cell? ⟨fb,4,none⟩=some (.map (some bm)))∧(w'.cell? ⟨sb,0,none⟩=some (.int .i64 (s.a:Int))∧w'.cell? ⟨sb,1,none⟩=some (.int .i64 (s.b:Int))∧w'.cell? ⟨sb,2,none⟩=some (.int .i64 (s.i:Int))∧w'.cell? ⟨sb,3,none⟩=some (.int .i64 (s.o:Int)))∧(Instr.lookup 144 (.map (some bm)) (.agg #[.int .i64 (s.a:Int),.int .i64 (s.b:Int),.int .i64 (s.i:Int),.int .i64 (s.o:Int)]) false).run Tryz.prog w'=.ok (.int .i64 c1) w') we:=hHeld;refine ai 0 1 2 3 ?_;refine bv 4 5 ?_;refine aX 6 ?_;refine aY ?_;have hB:=hHeld.1;clear hHeld zx;go_wp2_with fail
    (try simp only[Exit.inBlock,Exit.then])
    refine bodyPost_ret (results_none rfl _ _ _) rfl ?_;exact⟨rfl,by rw[Mh.out];exact(HF.out.go hx hB).mono (by omega),M4.out.trans (PV.out.trans (KeepS.of hB))⟩
   ·have o8:¬ (1:Int)<c1:=by
     have h1:=mt (pi.out.iff s sok).2 hin;have h2:=PB.out;omega
    have Mh:=hid (show m4 n P T (f+1) s st=pC (m4 n P T f) (bO P T s) (pC (m4 n P T f) (bR n P T s) (begun P T s st)) by rw[m4,if_neg hin]);have HF:=hid (FC.out (s::st.1) (fun q=>by simp));clear hin;go_wp2_with fail;have zx:(fun w':World=>Below wz.heap.size wz w'∧(w'.cell? ⟨fb,0,none⟩=some (.int .i64 n)∧w'.cell? ⟨fb,1,none⟩=some (.slice AP P.length cP)∧w'.cell? ⟨fb,2,none⟩=some (.slice AT T.length cT)∧w'.cell? ⟨fb,3,none⟩=some (.slice AI (bM P).length cI)∧w'.cell? ⟨fb,4,none⟩=some (.map (some bm)))∧(w'.cell? ⟨sb,0,none⟩=some (.int .i64 (s.a:Int))∧w'.cell? ⟨sb,1,none⟩=some (.int .i64 (s.b:Int))∧w'.cell? ⟨sb,2,none⟩=some (.int .i64 (s.i:Int))∧w'.cell? ⟨sb,3,none⟩=some (.int .i64 (s.o:Int)))∧(Instr.lookup 144 (.map (some bm)) (.agg #[.int .i64 (s.a:Int),.int .i64 (s.b:Int),.int .i64 (s.i:Int),.int .i64 (s.o:Int)]) false).run Tryz.prog w'=.ok (.int .i64 c1) w') wz.drew:=⟨(Below.refl _ _).drew,rI.out.2.1,rI.out.2.2,M7.out⟩;refine wp_region_held_drew (S:=(fun w':World=>Below wz.heap.size wz w'∧(w'.cell? ⟨fb,0,none⟩=some (.int .i64 n)∧w'.cell? ⟨fb,1,none⟩=some (.slice AP P.length cP)∧w'.cell? ⟨fb,2,none⟩=some (.slice AT T.length cT)∧w'.cell? ⟨fb,3,none⟩=some (.slice AI (bM P).length cI)∧w'.cell? ⟨fb,4,none⟩=some (.map (some bm)))∧(w'.cell? ⟨sb,0,none⟩=some (.int .i64 (s.a:Int))∧w'.cell? ⟨sb,1,none⟩=some (.int .i64 (s.b:Int))∧w'.cell? ⟨sb,2,none⟩=some (.int .i64 (s.i:Int))∧w'.cell? ⟨sb,3,none⟩=some (.int .i64 (s.o:Int)))∧(Instr.lookup 144 (.map (some bm)) (.agg #[.int .i64 (s.a:Int),.int .i64 (s.b:Int),.int .i64 (s.i:Int),.int .i64 (s.o:Int)]) false).run Tryz.prog w'=.ok (.int .i64 c1) w')) (by kernel_rfl) zx (fun hHeld=>?_);generalize wz.drew=we at hHeld ⊢;have hHeld:(fun w':World=>Below wz.heap.size wz w'∧(w'.cell? ⟨fb,0,none⟩=some (.int .i64 n)∧w'.cell? ⟨fb,1,none⟩=some (.slice AP P.length cP)∧w'.cell? ⟨fb,2,none⟩=some (.slice AT T.length cT)∧w'.cell? ⟨fb,3,none⟩=some (.slice AI (bM P).length cI)∧w'.cell? ⟨fb,4,none⟩=some (.map (some bm)))∧(w'.cell? ⟨sb,0,none⟩=some (.int .i64 (s.a:Int))∧w'.cell? ⟨sb,1,none⟩=some (.int .i64 (s.b:Int))∧w'.cell? ⟨sb,2,none⟩=some (.int .i64 (s.i:Int))∧w'.cell? ⟨sb,3,none⟩=some (.int .i64 (s.o:Int)))∧(Instr.lookup 144 (.map (some bm)) (.agg #[.int .i64 (s.a:Int),.int .i64 (s.b:Int),.int .i64 (s.i:Int),.int .i64 (s.o:Int)]) false).run Tryz.prog w'=.ok (.int .i64 c1) w') we:=hHeld;refine ai 0 1 2 3 ?_;refine bv 4 5 ?_;refine aX 6 ?_;refine aY ?_;have hB:=hHeld.1;have K2:=HF.out.go hx hB;have fW:=PV.out.trans (KeepS.of hB);have wF:=hid K2;have vk:=hid fW;obtain⟨b,hb⟩:∃ b,ji P T s=b:=⟨_,rfl⟩;have tI:=hid hb;clear hHeld zx hB K2 fW hb rI M7
    go_upto_region 3 with fail
    go_cut [39] (fun v w3=>v=.bool b∧FS w0 lo mid fb bm n P T AP cP AT cT AI cI (M+1) (s::st.1,st.2) w3∧KeepS wd w3)
    case first=>
     have LE:=vk.out sb _ C1.out;have CO:=SpBox.cells LE;obtain⟨vE,QB,-⟩:=wF.out.own;have ol:=FBox.cells QB;have NZ:=fun (W':World) (hb:Below we.heap.size we W')=>sk AP cP P s.a W' (by omega) eI s1 ((wF.out.clP hx).below hb hb.size)
     have N0:=fun (W':World) (hb:Below we.heap.size we W')=>sk AT cT T s.b W' (by omega) eT s2 ((wF.out.clT hx).below hb hb.size)
     obtain⟨b1,aq⟩:∃ b,dd (P.drop s.a)=b:=⟨_,rfl⟩;obtain⟨b2,aO⟩:∃ b,dd (T.drop s.b)=b:=⟨_,rfl⟩;have cH:(b1&&b2)=b:=by rw[← aq,← aO];exact tI.out
     rw[aq] at NZ;rw[aO] at N0;have PD:=hid NZ;have RX:=hid N0;have JT:=hid cH;clear NZ N0 aq aO cH LE QB;have KL:(fun w':World=>Below we.heap.size we w'∧(w'.cell? ⟨fb,0,none⟩=some (.int .i64 n)∧w'.cell? ⟨fb,1,none⟩=some (.slice AP P.length cP)∧w'.cell? ⟨fb,2,none⟩=some (.slice AT T.length cT)∧w'.cell? ⟨fb,3,none⟩=some (.slice AI (bM P).length cI)∧w'.cell? ⟨fb,4,none⟩=some (.map (some bm)))∧(w'.cell? ⟨sb,0,none⟩=some (.int .i64 (s.a:Int))∧w'.cell? ⟨sb,1,none⟩=some (.int .i64 (s.b:Int))∧w'.cell? ⟨sb,2,none⟩=some (.int .i64 (s.i:Int))∧w'.cell? ⟨sb,3,none⟩=some (.int .i64 (s.o:Int)))) we.drew:=⟨(Below.refl _ _).drew,⟨ol.1,ol.2.1,ol.2.2.1,ol.2.2.2.1,ol.2.2.2.2.1⟩,CO⟩;clear ol CO;cases b1 with
     | false=>
      refine wp_region_held_drew (S:=(fun w':World=>Below we.heap.size we w'∧(w'.cell? ⟨fb,0,none⟩=some (.int .i64 n)∧w'.cell? ⟨fb,1,none⟩=some (.slice AP P.length cP)∧w'.cell? ⟨fb,2,none⟩=some (.slice AT T.length cT)∧w'.cell? ⟨fb,3,none⟩=some (.slice AI (bM P).length cI)∧w'.cell? ⟨fb,4,none⟩=some (.map (some bm)))∧(w'.cell? ⟨sb,0,none⟩=some (.int .i64 (s.a:Int))∧w'.cell? ⟨sb,1,none⟩=some (.int .i64 (s.b:Int))∧w'.cell? ⟨sb,2,none⟩=some (.int .i64 (s.i:Int))∧w'.cell? ⟨sb,3,none⟩=some (.int .i64 (s.o:Int))))) (by kernel_rfl) KL (fun hHeld=>?_);generalize we.drew=wg at hHeld ⊢;have hHeld:(fun w':World=>Below we.heap.size we w'∧(w'.cell? ⟨fb,0,none⟩=some (.int .i64 n)∧w'.cell? ⟨fb,1,none⟩=some (.slice AP P.length cP)∧w'.cell? ⟨fb,2,none⟩=some (.slice AT T.length cT)∧w'.cell? ⟨fb,3,none⟩=some (.slice AI (bM P).length cI)∧w'.cell? ⟨fb,4,none⟩=some (.map (some bm)))∧(w'.cell? ⟨sb,0,none⟩=some (.int .i64 (s.a:Int))∧w'.cell? ⟨sb,1,none⟩=some (.int .i64 (s.b:Int))∧w'.cell? ⟨sb,2,none⟩=some (.int .i64 (s.i:Int))∧w'.cell? ⟨sb,3,none⟩=some (.int .i64 (s.o:Int)))) wg:=hHeld;refine ai 0 1 2 3 ?_;refine bv 4 5 ?_;refine dG [6] ?_;refine dp (fun K hK=>?_) AllReadyH.nil;go_simp;refine(PD.out _ hHeld.1).mono ?_;rintro e wx ⟨rfl,ar⟩;have aw:(fun w':World=>Below we.heap.size we w'∧(w'.cell? ⟨fb,0,none⟩=some (.int .i64 n)∧w'.cell? ⟨fb,1,none⟩=some (.slice AP P.length cP)∧w'.cell? ⟨fb,2,none⟩=some (.slice AT T.length cT)∧w'.cell? ⟨fb,3,none⟩=some (.slice AI (bM P).length cI)∧w'.cell? ⟨fb,4,none⟩=some (.map (some bm)))∧(w'.cell? ⟨sb,0,none⟩=some (.int .i64 (s.a:Int))∧w'.cell? ⟨sb,1,none⟩=some (.int .i64 (s.b:Int))∧w'.cell? ⟨sb,2,none⟩=some (.int .i64 (s.i:Int))∧w'.cell? ⟨sb,3,none⟩=some (.int .i64 (s.o:Int)))) wx:=⟨hHeld.1.trans (ar.mono hHeld.1.size),nQ hHeld.2.1 ar,aE hHeld.2.2 ar⟩;refine kH hK aw fun hHeld=>?_
      clear hK K;refine aX 7 ?_;refine jZ 8 9 10 11 ?_;refine tD 12 13 ?_;refine mQ 14 ?_;refine aX 15 ?_;refine aY ?_
      (try go_wp2_with fail)
      go_meet;exact⟨by rw[← JT.out];simp,wF.out.go hx hHeld.1,vk.out.trans (KeepS.of hHeld.1)⟩
     | true=>
      refine wp_region_held_drew (S:=(fun w':World=>Below we.heap.size we w'∧(w'.cell? ⟨fb,0,none⟩=some (.int .i64 n)∧w'.cell? ⟨fb,1,none⟩=some (.slice AP P.length cP)∧w'.cell? ⟨fb,2,none⟩=some (.slice AT T.length cT)∧w'.cell? ⟨fb,3,none⟩=some (.slice AI (bM P).length cI)∧w'.cell? ⟨fb,4,none⟩=some (.map (some bm)))∧(w'.cell? ⟨sb,0,none⟩=some (.int .i64 (s.a:Int))∧w'.cell? ⟨sb,1,none⟩=some (.int .i64 (s.b:Int))∧w'.cell? ⟨sb,2,none⟩=some (.int .i64 (s.i:Int))∧w'.cell? ⟨sb,3,none⟩=some (.int .i64 (s.o:Int))))) (by kernel_rfl) KL (fun hHeld=>?_);generalize we.drew=wg at hHeld ⊢;have hHeld:(fun w':World=>Below we.heap.size we w'∧(w'.cell? ⟨fb,0,none⟩=some (.int .i64 n)∧w'.cell? ⟨fb,1,none⟩=some (.slice AP P.length cP)∧w'.cell? ⟨fb,2,none⟩=some (.slice AT T.length cT)∧w'.cell? ⟨fb,3,none⟩=some (.slice AI (bM P).length cI)∧w'.cell? ⟨fb,4,none⟩=some (.map (some bm)))∧(w'.cell? ⟨sb,0,none⟩=some (.int .i64 (s.a:Int))∧w'.cell? ⟨sb,1,none⟩=some (.int .i64 (s.b:Int))∧w'.cell? ⟨sb,2,none⟩=some (.int .i64 (s.i:Int))∧w'.cell? ⟨sb,3,none⟩=some (.int .i64 (s.o:Int)))) wg:=hHeld;refine ai 0 1 2 3 ?_;refine bv 4 5 ?_;refine dG [6] ?_;refine dp (fun K hK=>?_) AllReadyH.nil;go_simp;refine(PD.out _ hHeld.1).mono ?_;rintro e wx ⟨rfl,ar⟩;have aw:(fun w':World=>Below we.heap.size we w'∧(w'.cell? ⟨fb,0,none⟩=some (.int .i64 n)∧w'.cell? ⟨fb,1,none⟩=some (.slice AP P.length cP)∧w'.cell? ⟨fb,2,none⟩=some (.slice AT T.length cT)∧w'.cell? ⟨fb,3,none⟩=some (.slice AI (bM P).length cI)∧w'.cell? ⟨fb,4,none⟩=some (.map (some bm)))∧(w'.cell? ⟨sb,0,none⟩=some (.int .i64 (s.a:Int))∧w'.cell? ⟨sb,1,none⟩=some (.int .i64 (s.b:Int))∧w'.cell? ⟨sb,2,none⟩=some (.int .i64 (s.i:Int))∧w'.cell? ⟨sb,3,none⟩=some (.int .i64 (s.o:Int)))) wx:=⟨hHeld.1.trans (ar.mono hHeld.1.size),nQ hHeld.2.1 ar,aE hHeld.2.2 ar⟩;refine kH hK aw fun hHeld=>?_
      clear hK K;refine ai 7 8 9 10 ?_;refine bv 11 12 ?_;refine aX 13 ?_;refine dG [14] ?_;refine dp (fun K hK=>?_) AllReadyH.nil;go_simp;refine(RX.out _ hHeld.1).mono ?_;rintro e wx ⟨rfl,ar⟩;have aw:(fun w':World=>Below we.heap.size we w'∧(w'.cell? ⟨fb,0,none⟩=some (.int .i64 n)∧w'.cell? ⟨fb,1,none⟩=some (.slice AP P.length cP)∧w'.cell? ⟨fb,2,none⟩=some (.slice AT T.length cT)∧w'.cell? ⟨fb,3,none⟩=some (.slice AI (bM P).length cI)∧w'.cell? ⟨fb,4,none⟩=some (.map (some bm)))∧(w'.cell? ⟨sb,0,none⟩=some (.int .i64 (s.a:Int))∧w'.cell? ⟨sb,1,none⟩=some (.int .i64 (s.b:Int))∧w'.cell? ⟨sb,2,none⟩=some (.int .i64 (s.i:Int))∧w'.cell? ⟨sb,3,none⟩=some (.int .i64 (s.o:Int)))) wx:=⟨hHeld.1.trans (ar.mono hHeld.1.size),nQ hHeld.2.1 ar,aE hHeld.2.2 ar⟩;refine kH hK aw fun hHeld=>?_
      clear hK K;refine aX 15 ?_;refine aY ?_
      (try go_wp2_with fail)
      go_meet;exact⟨by rw[← JT.out];simp,wF.out.go hx hHeld.1,vk.out.trans (KeepS.of hHeld.1)⟩
    case rest=>
     obtain⟨rfl,K3,fX⟩:=hcut;obtain⟨w3,rfl⟩:∃ x,x=wc:=⟨_,rfl⟩;have CT:=hid K3;have vl:=hid fX;clear K3 fX wF vk
     go_upto_if 39 with fail
     go_cut [] (fun w4=>FS w0 lo mid fb bm n P T AP cP AT cT AI cI (M+1) (begun P T s st) w4∧KeepS wd w4)
     case first=>
      cases b with
      | false=>
       (try go_wp2_with fail)
       go_meet;exact⟨by unfold begun;rw[tI.out];exact CT.out,vl.out⟩
      | true=>
       obtain⟨vE,mO,QM⟩:=CT.out.own;have LC:=vl.out sb _ C1.out;obtain⟨wg,Gq⟩:∃ x,w3.drew=x:=⟨_,rfl⟩;have KI:FBox wg fb n AP P.length cP AT T.length cT AI (bM P).length cI bm vE:=by rw[← Gq];exact mO
       have KK:Own (bn .i64) 3 mid wg vE st.2:=by rw[← Gq];exact QM
       have zM:=CT.out.go hx (Below.refl _ w3).drew;have Au:SpBox wg sb s:=by rw[← Gq];exact LC
       have QF:KeepS wd wg:=by rw[← Gq];exact vl.out
       rw[Gq] at zM;obtain⟨kk,zU⟩:∃ x,(s.i:Int) - (s.o:Int)=x:=⟨_,rfl⟩;have JI:IntKind.i64.wrap ((s.i:Int) - (s.o:Int))=kk:=(IntWalk.i64_in _ (by omega)).trans zU;have bG:=bK wg (.cells #[.int .i64 kk] 3);have NE:=au KI bG;have Iu:=au Au bG;have gF:=cE wg [.int .i64 kk] #[.int .i64 kk] 3 rfl;have JF:=KK.alloc (.cells #[.int .i64 kk] 3);have Lk:=IO KK Au;have Rm:=zM.kept.1;have NA:=zM.below;have Qu:=NA.trans (bG.mono (Nat.le_trans g6 Rm));have Ab:=fun (v':Value) (W':World) ho hb hk=>zM.noted hx (W':=W') (v':=v') (k:=kk) KI KK ho hb (by show st.2.length+1≤M+1;omega) hk
       have na:=hid Ab;have Jf:=hid zU;have JZ:=hid JF;have MY:=hid NE;have lV:=hid Iu;have M3:=hid QF;have e5:=(FBox.cells KI).2.2.2.2.2;have e5a:=(FBox.cells NE).2.2.2.2.2;have Gc:=hid Lk;have Oq:=cK Au;have K0:=cK KI;have HL:=hid (show ∀ j,j<wg.heap.size→some j≠vE.ownBlock→True from fun _ _ _=>trivial);have El:some fb≠vE.ownBlock:=fun e=>by have:=(rj KK e.symm).1;omega
       have Qa:=hid El;have QU:(fun w':World=>Below lo w0 w'∧(w'.cell? ⟨sb,0,none⟩=some (.int .i64 (s.a:Int))∧w'.cell? ⟨sb,1,none⟩=some (.int .i64 (s.b:Int))∧w'.cell? ⟨sb,2,none⟩=some (.int .i64 (s.i:Int))∧w'.cell? ⟨sb,3,none⟩=some (.int .i64 (s.o:Int)))) wg:=⟨NA,SpBox.cells Au⟩;have p7:(fun w':World=>Below lo w0 w'∧(w'.cell? ⟨sb,0,none⟩=some (.int .i64 (s.a:Int))∧w'.cell? ⟨sb,1,none⟩=some (.int .i64 (s.b:Int))∧w'.cell? ⟨sb,2,none⟩=some (.int .i64 (s.i:Int))∧w'.cell? ⟨sb,3,none⟩=some (.int .i64 (s.o:Int)))) (wg.alloc (.cells #[.int .i64 kk] 3)):=⟨Qu,SpBox.cells Iu⟩;obtain⟨ab,pu⟩:∃ x,wg.heap.size=x:=⟨_,rfl⟩;obtain⟨wa,ig⟩:∃ x,wg.alloc (.cells #[.int .i64 kk] 3)=x:=⟨_,rfl⟩;have LG:wa.heap.size=ab+1:=by rw[← ig,World.size_alloc,pu]
       rw[ig] at na JZ MY lV e5a p7 gF;have Hl:Below wg.heap.size wg wa:=by rw[← ig];exact bG
       rw[pu] at gF Hl Rm Oq K0;have wJ:=hid LG;have lR:=hid Hl;have vr:=hid gF;clear mO QM LC KI KK zM Au QF zU bG NE Iu gF JF Lk NA Qu Ab LG Hl El HL;go_wp2_with fail;refine wp_region_held_drew (S:=(fun w':World=>Below lo w0 w'∧(w'.cell? ⟨sb,0,none⟩=some (.int .i64 (s.a:Int))∧w'.cell? ⟨sb,1,none⟩=some (.int .i64 (s.b:Int))∧w'.cell? ⟨sb,2,none⟩=some (.int .i64 (s.i:Int))∧w'.cell? ⟨sb,3,none⟩=some (.int .i64 (s.o:Int))))) (by kernel_rfl) (by rw[Gq];exact QU) (fun hHeld=>?_);rw[Gq] at hHeld ⊢;clear Gq;refine ai 0 1 2 3 ?_;refine ai 5 6 7 8 ?_;refine aX 9 ?_;refine dG [4,10] ?_;refine dp (fun K hK=>?_) ?_
       ·go_simp;refine kH hK QU fun hHeld=>?_
        clear hK K;refine dG [10] ?_;refine dp (fun K hK=>?_) AllReadyH.nil
        ·go_simp;refine kH hK p7 fun hHeld=>?_
         clear hK K;refine dG [11] ?_;refine dp (fun K hK=>?_) AllReadyH.nil
         ·refine qs (by rfl) (.tmp 44) (.tmp 50) 24 (by rfl) DN mid JZ.out (by rfl) vr.out (by rfl) (by rfl) (by simp[Value.oneCell']) (by unfold maxLen;omega) (by omega) (by rw[wJ.out];omega) ?_;intro v' w9 ck xi jr _;obtain⟨A9,n9,c9,rfl⟩:∃ A n c,v'=.slice A n c:=(by obtain⟨A,c,h,_⟩:=(Own.app (E:=bn .i64) (l:=st.2) (x:=kk) ck rfl).sl;exact⟨A,_,c,h⟩);have DR:=(jr fb (by rw[wJ.out];omega) Qa.out).trans MY.out;have Ei:=(jr sb (by rw[wJ.out];omega) Gc.out).trans lV.out;have qS:(fun w':World=>Below lo w0 w'∧(w'.cell? ⟨sb,0,none⟩=some (.int .i64 (s.a:Int))∧w'.cell? ⟨sb,1,none⟩=some (.int .i64 (s.b:Int))∧w'.cell? ⟨sb,2,none⟩=some (.int .i64 (s.i:Int))∧w'.cell? ⟨sb,3,none⟩=some (.int .i64 (s.o:Int)))) w9:=⟨p7.1.trans (xi.mono g6),SpBox.cells Ei⟩;have q5:=(FBox.cells DR).2.2.2.2.2;have r5:=ac DR 5;have MX:=hid DR;have yD:=hid Ei;have qw:=hid (na.out _ w9 ck xi jr);have MS:=hid jr;clear DR Ei ck jr;refine kH hK qS fun hHeld=>?_
          clear hK K;refine bv 12 13 ?_;refine dG [14] ?_;refine dp (fun K hK=>?_) AllReadyH.nil
          ·go_simp;have aw:(fun w':World=>Below lo w0 w'∧(w'.cell? ⟨sb,0,none⟩=some (.int .i64 (s.a:Int))∧w'.cell? ⟨sb,1,none⟩=some (.int .i64 (s.b:Int))∧w'.cell? ⟨sb,2,none⟩=some (.int .i64 (s.i:Int))∧w'.cell? ⟨sb,3,none⟩=some (.int .i64 (s.o:Int)))) (w9.setCell ⟨fb,5,none⟩ (.slice A9 n9 c9)):=⟨qS.1.setCell (p:=⟨fb,5,none⟩) g4 _,ca qS.2 (by omega)⟩;refine kH hK aw fun hHeld=>?_
           clear hK K;refine aY ?_
           (try go_wp2_with fail)
           go_meet;exact⟨by unfold begun;rw[tI.out];unfold yo;rw[Jf.out];exact qw.out,M3.out.trans ((KeepS.ofApp lR.out pu MS.out (oN JZ.out)).trans (KeepS.store MX.out 5 _))⟩
       ·refine dp (fun K hK=>?_) AllReadyH.nil
        ·go_simp;refine kH hK p7 fun hHeld=>?_
         clear hK K;refine dG [4] ?_;refine dp (fun K hK=>?_) AllReadyH.nil
         ·go_simp;refine kH hK p7 fun hHeld=>?_
          clear hK K;refine dG [11] ?_;refine dp (fun K hK=>?_) AllReadyH.nil
          ·refine qs (by rfl) (.tmp 44) (.tmp 50) 24 (by rfl) DN mid JZ.out (by rfl) vr.out (by rfl) (by rfl) (by simp[Value.oneCell']) (by unfold maxLen;omega) (by omega) (by rw[wJ.out];omega) ?_;intro v' w9 ck xi jr _;obtain⟨A9,n9,c9,rfl⟩:∃ A n c,v'=.slice A n c:=(by obtain⟨A,c,h,_⟩:=(Own.app (E:=bn .i64) (l:=st.2) (x:=kk) ck rfl).sl;exact⟨A,_,c,h⟩);have DR:=(jr fb (by rw[wJ.out];omega) Qa.out).trans MY.out;have Ei:=(jr sb (by rw[wJ.out];omega) Gc.out).trans lV.out;have qS:(fun w':World=>Below lo w0 w'∧(w'.cell? ⟨sb,0,none⟩=some (.int .i64 (s.a:Int))∧w'.cell? ⟨sb,1,none⟩=some (.int .i64 (s.b:Int))∧w'.cell? ⟨sb,2,none⟩=some (.int .i64 (s.i:Int))∧w'.cell? ⟨sb,3,none⟩=some (.int .i64 (s.o:Int)))) w9:=⟨p7.1.trans (xi.mono g6),SpBox.cells Ei⟩;have q5:=(FBox.cells DR).2.2.2.2.2;have r5:=ac DR 5;have MX:=hid DR;have yD:=hid Ei;have qw:=hid (na.out _ w9 ck xi jr);have MS:=hid jr;clear DR Ei ck jr;refine kH hK qS fun hHeld=>?_
           clear hK K;refine bv 12 13 ?_;refine dG [14] ?_;refine dp (fun K hK=>?_) AllReadyH.nil
           ·go_simp;have aw:(fun w':World=>Below lo w0 w'∧(w'.cell? ⟨sb,0,none⟩=some (.int .i64 (s.a:Int))∧w'.cell? ⟨sb,1,none⟩=some (.int .i64 (s.b:Int))∧w'.cell? ⟨sb,2,none⟩=some (.int .i64 (s.i:Int))∧w'.cell? ⟨sb,3,none⟩=some (.int .i64 (s.o:Int)))) (w9.setCell ⟨fb,5,none⟩ (.slice A9 n9 c9)):=⟨qS.1.setCell (p:=⟨fb,5,none⟩) g4 _,ca qS.2 (by omega)⟩;refine kH hK aw fun hHeld=>?_
            clear hK K;refine aY ?_
            (try go_wp2_with fail)
            go_meet;exact⟨by unfold begun;rw[tI.out];unfold yo;rw[Jf.out];exact qw.out,M3.out.trans ((KeepS.ofApp lR.out pu MS.out (oN JZ.out)).trans (KeepS.store MX.out 5 _))⟩
     case rest=>
      obtain⟨uh,gZ⟩:=hcut;obtain⟨w5,rfl⟩:∃ x,x=wc:=⟨_,rfl⟩;obtain⟨p0,p1,p2,p3⟩:=SpBox.cells (gZ sb _ C1.out);have ow:=zh hx Mk.out uh;unfold gK at ow;have yC:=hid ow;have JY:=hid uh;have yw:=hid gZ;clear ow uh gZ CT vl
      go_upto_if 60 with (go_at_call 175;refine yC.out.mono ?_;rintro e w6 ⟨t,ok,rfl,hr,zG⟩;have HR:=hid hr;clear hr;unfold gK)
      go_cut [] (fun w4=>FS w0 lo mid fb bm n P T AP cP AT cT AI cI (M+1+fN f) (pC (m4 n P T f) (bR n P T s) (begun P T s st)) w4∧KeepS wd w4)
      case first=>
       have bG:=bK w6 (.cells #[.int .i64 (t.a:Int),.int .i64 (t.b:Int),.int .i64 (t.i:Int),.int .i64 (t.o:Int)] 149);have p8:=zG.trans (bG.mono zG.size);have kZ:=JY.out.go hx p8;have F7:=yw.out.trans (KeepS.of p8);have du:=heap_alloc_new w6 (.cells #[.int .i64 (t.a:Int),.int .i64 (t.b:Int),.int .i64 (t.i:Int),.int .i64 (t.o:Int)] 149);cases ok with
       | false=>
        (try go_wp2_with fail)
        go_meet;exact⟨by rw[HR.out];exact kZ.mono (by omega),F7⟩
       | true=>
        have li:bR n P T s=some t:=HR.out;have hi:=Je.out t (begun P T s st) (M+1) _ (Mk.out.put li) (by have:=sP li;omega) (by omega) kZ;unfold gK at hi;obtain⟨t0,t1,t2,t3⟩:=SpBox.cells du;have HI:=hid hi;have J0:=hid F7;have nD:=hid li;clear hi bG p8 kZ F7 du li;go_wp2_with (go_at_call 113;refine HI.out.mono ?_;rintro e w8 ⟨rfl,H7,Og⟩);go_meet;exact⟨by rw[nD.out];exact H7,J0.out.trans Og⟩
      case rest=>
       obtain⟨uh,gZ⟩:=hcut;obtain⟨w9,rfl⟩:∃ x,x=wc:=⟨_,rfl⟩;clear p0 p1 p2 p3;obtain⟨p0,p1,p2,p3⟩:=SpBox.cells (gZ sb _ C1.out);have Az:=xc hx Mk.out uh;unfold gK at Az;have Kn:=hid Az;have MZ:=hid uh;have R3:=hid gZ;clear Az uh gZ JY yw
       go_upto_if 70 with (go_at_call 176;refine Kn.out.mono ?_;rintro e w6 ⟨t,ok,rfl,hr,zG⟩;have HR:=hid hr;clear hr;unfold gK)
       have bG:=bK w6 (.cells #[.int .i64 (t.a:Int),.int .i64 (t.b:Int),.int .i64 (t.i:Int),.int .i64 (t.o:Int)] 149);have p8:=zG.trans (bG.mono zG.size);have kZ:=MZ.out.go hx p8;have F7:=R3.out.trans (KeepS.of p8);have du:=heap_alloc_new w6 (.cells #[.int .i64 (t.a:Int),.int .i64 (t.b:Int),.int .i64 (t.i:Int),.int .i64 (t.o:Int)] 149);cases ok with
       | false=>
        have MW:=hid kZ;have J0:=hid F7;clear bG p8 kZ F7 du;go_wp2_with fail
        (try simp only[Exit.inBlock,Exit.then])
        refine bodyPost_end (results_none rfl _ _ _) rfl ?_;exact⟨rfl,by rw[Mh.out,HR.out];exact MW.out.mono (by omega),M4.out.trans J0.out⟩
       | true=>
        have li:bO P T s=some t:=HR.out;have hi:=Je.out t (pC (m4 n P T f) (bR n P T s) (begun P T s st)) (M+1+fN f) _ (Mk.out.take li) (by have:=qj li;omega) (by omega) kZ;unfold gK at hi;obtain⟨t0,t1,t2,t3⟩:=SpBox.cells du;have HI:=hid hi;have J0:=hid F7;have nD:=hid li;clear hi bG p8 kZ F7 du li;go_wp2_with (go_at_call 113;refine HI.out.mono ?_;rintro e w8 ⟨rfl,H7,Og⟩)
        (try simp only[Exit.inBlock,Exit.then])
        refine bodyPost_end (results_none rfl _ _ _) rfl ?_;exact⟨rfl,by rw[Mh.out,nD.out];exact H7.mono (by omega),M4.out.trans (J0.out.trans Og)⟩
end Go.Proofs.YtabfcjohdgjkoaaGreatDoor
