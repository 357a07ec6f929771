/- An operation that is under way: a failed attempt, a record's next word, a step that is opened. -/
import Derived.Test.YtabfcjohdgjkoaaGreatDoorZcC
namespace Go.Proofs.YtabfcjohdgjkoaaGreatDoor
open Go.RowKit
open Go.Lib (hid)
attribute [local go_sem] Oper.semAt_some
set_option maxHeartbeats 2000000
set_option maxRecDepth 100000
abbrev FJ (a0:Nat) (a1:Kc) (a2 a3 a4:Nat) (a5:Int) (w':World):Prop:=w'.cell? ⟨a0,11,none⟩=some (.int .i64 (a1.i:Int))∧w'.cell? ⟨a0,16,none⟩=some (.slice (some ⟨a2,a3,none⟩) a1.rc.length a4)∧w'.cell? ⟨a2,a3+a1.i,none⟩=some (.int .u32 a5)
section
variable (sb mb lb:Nat) (ty:TypeId) (o:Ob) (c:Kc) (rv:Value) (l:List Int)
theorem l4 (w:World) (h:St w sb mb lb ty o c rv l) (ht:c.tr<1000):Calls Tryz.prog 216 #[.pointer (some ⟨sb,0,none⟩)] w (Did sb mb lb ty o w rv { c with tr:=c.tr+1,rc:=[],ph:=0,i:=0 } l (.bool (decide ((c.cap:Int)≤(c.tr:Int)+1)))):=by
 obtain⟨u,hu,hr⟩:=h.op.row;have c12:=hr.at 12 (.int .i64 (c.tr:Int));have c16:w.cell? ⟨sb,16,none⟩=some rv:=(hr.cell 16).trans rfl;have f12:=hr.frozen 12;have f16:=hr.frozen 16;have av:=(hr.set 12 (.int .i64 ((c.tr:Int)+1))).set 16 (.slice none 0 0);have LH:=((Tch.refl (fun b=>b=sb) w).set (b:=sb) rfl 12 (.int .i64 ((c.tr:Int)+1))).set (b:=sb) rfl 16 (.slice none 0 0);have hf:=h.op.fits;have ic:=hf.cap;have HS:=hid (h.upd (c':={ c with tr:=c.tr+1,rc:=[] }) (rv':=.slice none 0 0) LH hu av ⟨hf.kd,hf.wd,hf.sl,hf.cap,hf.nr,hf.wd1,hf.nr1,hf.sl1,hf.cap1,hf.rd1,hf.base1,hf.size1,hf.i1,by show c.tr+1≤1000;omega,hf.st1,hf.A0,hf.A1,hf.B0,hf.B1⟩ (.inr ⟨rfl,rfl⟩));have HT:=hid LH;have px:(0:Int)≤(c.tr:Int):=by omega
 have ul:(c.tr:Int)≤1000:=by omega
 obtain⟨I,hI⟩:∃ x:Int,(c.tr:Int)=x:=⟨_,rfl⟩;rw[hI] at c12 px ul HS HT ⊢;have HI:=hid hI;have HC:=hid ic;clear hI hr hu av LH hf h ht ic;go_enter Tryz.func216,Tryz.ntmps216;go_wp2_with fail;have HG:=hid (dy sb mb lb ty o _ _ l 0 0 _ HS.out rfl);refine HG.out.mono ?_;rintro e w1 ⟨rfl,bN,fY⟩;obtain⟨u1,iz,bV⟩:=bN.op.row;have d12:=bV.at 12 (.int .i64 ((c.tr+1:Nat):Int));have d3:=bV.at 3 (.int .i64 o.c);rw[show((c.tr+1:Nat):Int)=I+1 by rw[← HI.out];rfl] at d12;rw[HC.out] at d3;have al:=hid bN.drew;have aT:=hid (((Mv.own (mb:=mb) (lb:=lb) (rv:=rv) (rv':=.slice none 0 0) HT.out (.inr rfl)).trans fY).trans (Mv.drew w1 _));clear bV iz bN fY HS HT HG;have e12:w1.drew.cell? ⟨sb,12,none⟩=some (.int .i64 (I+1)):=d12;have e3:w1.drew.cell? ⟨sb,3,none⟩=some (.int .i64 (c.cap:Int)):=d3;clear d12 d3;go_wp2_with fail;refine fg (S:=(fun w':World=>w'.cell? ⟨sb,12,none⟩=some (.int .i64 (I+1))∧w'.cell? ⟨sb,3,none⟩=some (.int .i64 (c.cap:Int)))) ⟨e12,e3⟩ fun wd bq hHeld=>?_
 rw[bq] at al aT;clear bq;refine ai 0 1 2 3 ?_;refine ai 4 5 6 7 ?_;refine bv 8 9 ?_;refine aX 10 ?_;refine aY ?_;clear hHeld;go_wp2_with fail;go_ret;exact⟨_,rfl,al.out,aT.out⟩
theorem EH {E:Enc Int} (hE:E=bn .u32) {w':World} {base:Nat} {v':Value} {l:List Int} {z:Int} (h:w'.ownsRow base 22 E.size v' (l.length+1) (E.all l++[.int .u32 z])):Own (bn .u32) 22 base w' v' (l++[z]):=by
 subst hE;exact Own.app (x:=z) h rfl
theorem Bi {w:World} {rv:Value} {rb ro n cap:Nat} {r:List Int} {i:Nat} {z:Int} (hv:rv=.slice (some ⟨rb,ro,none⟩) n cap) (h:Own (bn .u32) 22 0 w rv r) (hz:r[i]?=some z):w.cell? ⟨rb,ro+i,none⟩=some (.int .u32 z):=by
 subst hv;obtain⟨A,c',hv,_,_,aj⟩:=h.sl
 injection hv with hA _ _
 obtain⟨b,off,dZ,_,hc⟩:=aj i z hz;have:=hc 0 _ rfl;rw[← hA] at dZ
 injection dZ with dZ
 injection dZ with h1 h2
 subst h1 h2
 simpa [bn,Enc.of1] using this
theorem Fq (frm:Nat) (w:World) (h:St w sb mb lb ty o c rv l) (hw:c.wr=true) (hi:c.i<c.rc.length) (fy:c.i<1000) (hj:c.base+(frm+c.i)<l.length) (fL:frm≤1000000):
  Calls Tryz.prog 203 #[.pointer (some ⟨sb,0,none⟩),.int .i64 (frm:Int)] w (Did sb mb lb ty o w rv { c with i:=c.i+1 } (c.wrm l (frm+c.i) (c.rc.getD c.i 0)) (.bool (decide ((c.wd:Int)≤(c.i:Int)+1)))):=by
 obtain⟨u,hu,hr⟩:=h.op.row;have hf:=h.op.fits;obtain⟨A,cap,OS,o8,df,aj⟩:=h.op.rc.sl;obtain⟨z,hz⟩:=bu hi;have RN:c.rc.getD c.i 0=z:=by rw[List.getD_eq_getElem?_getD,hz];rfl
 have JL:=h.op.w32.get hz;obtain⟨rb,ro,hA,Tx,cJ⟩:=aj c.i z hz
 have TN:w.drew.cell? ⟨rb,ro+c.i,none⟩=some (.int .u32 z):=by
  have:=cJ 0 _ rfl
  simpa [bn,Enc.of1] using this
 subst hA;have h1:=h.drew;obtain⟨u1,iz,bV⟩:=h1.op.row;have c11:=bV.at 11 (.int .i64 (c.i:Int));have c16:=bV.at 16 (.slice (some ⟨rb,ro,none⟩) c.rc.length cap) (by rw[← OS];rfl);have c8:=hr.at 8 (.int .i64 c.op);have ML:=hw;unfold Kc.wr at hw;have Ej:=tF (a:=(frm:Int)) (b:=(c.i:Int)) (by omega) (by omega) (by omega) (by omega);have HR:=hid fun W (h:St W sb mb lb ty o c rv l)=>ef sb mb lb ty o c rv l ((frm:Int)+(c.i:Int)) (frm+c.i) z W h (by omega) hj JL
 have HH:=hid h1;have HM:=hid (Mv.drew (sb:=sb) (mb:=mb) (lb:=lb) w rv);have HE:=hid fun W (l':List Int) (rv':Value) (h:St W sb mb lb ty o c rv' l')=>gQ sb mb lb ty o c rv' l' (c.wd:Int) W h fy
 have cL:=hid hf.wd;have bf:(c.i:Int)<(c.rc.length:Int):=by omega
 have UC:(0:Int)≤(c.i:Int):=by omega
 have UE:(c.i:Int)≤1000:=by omega
 have UD:((c.i:Int)).toNat=c.i:=by omega
 rw[RN];have P5:=hid OS;have HZ:=hid hz;clear hr bV hu iz hf OS o8 df aj hz RN JL cJ h h1 hj ML fL Tx fy;have HI:=hid hi
 have nt:(c.op==2)=true∨((c.op==2)=false∧(c.op==3)=true):=by
  cases h2:(c.op==2) <;> simp[h2] at hw ⊢
  exact hw
 clear hw
 rcases nt with h2 | ⟨FV,h3⟩
 all_goals
  go_enter Tryz.func203,Tryz.ntmps203;go_wp2_with fail;refine fg (S:=(FJ sb c rb ro cap z)) ⟨c11,c16,TN⟩ fun wd bq hHeld=>?_
  rw[bq] at HH HM;clear bq;refine ai 0 1 2 3 ?_;refine ai 4 5 6 7 ?_;refine ai 8 9 10 11 ?_;refine ai 12 13 14 15 ?_;refine aX 16 ?_;refine aV 17 (fun K hK=>?_);go_simp;refine(HR.out _ HH.out).mono ?_;rintro ex wx ⟨rfl,bN,fY⟩;have al:=hid bN;have aT:=hid (HM.out.trans fY);obtain⟨u2,bI,av⟩:=bN.op.row;have aw:(FJ sb c rb ro cap z) wx:=⟨(av.cell 11).trans rfl,(av.cell 16).trans (by rw[← P5.out];rfl),Bi P5.out bN.op.rc HZ.out⟩;clear bN fY bI av;refine kH hK aw fun hHeld=>?_
  clear hK K;refine aY ?_;obtain⟨u3,eU,bS⟩:=al.out.op.row;have d1:=bS.at 1 (.int .i64 (c.wd:Int)) (by rw[← cL.out];rfl);clear hHeld aw bS eU;go_wp2_with fail;refine(HE.out _ _ _ al.out).mono ?_;rintro e w4 ⟨rfl,Ir,zY⟩;go_wp2_with fail;go_ret;exact⟨_,rfl,Ir,aT.out.trans zY⟩
theorem gh {P:Program} {w:World} {ops:Array Oper} {o:Oper} {a:Act} {K:Act→World→Prop} {Q:Exit→Act→World→Prop} {E:Prop} (mg:o.guard=none) (s x:Operand) (t:TypeId)
  (ho:o.op=.call { callee:=.builtin .append,args:=#[s,x],argTypes:=#[t,t] }) {e:TypeId} {size bytes:Nat} (hT:ElemTy P t e size bytes) (base:Nat)
  {v:Value} {n:Nat} {xs:List Value} (bU:w.ownsRow base e size v n xs) (hs:a.eval s=v) {ad:Addr} {m c:Nat} {news:List Value} (z9:∀ j u,news[j]?=some u→w.cell? (ad.add j)=some u) (hx:a.eval x=.slice (some ad) m c) (hl:news.length=m*size) (h1:∀ u ∈ news,u.oneCell'=true)
  (KE:n+m≤maxLen) (ob:(n+m)*bytes≤140737488355328) (cX:base≤w.heap.size)
  (h:∀ v' w',w'.ownsRow base e size v' (n+m) (xs++news)→Tch (fun b=>v.ownBlock=some b) w w'→(v'.ownBlock=v.ownBlock∨v'.ownBlock=some w.heap.size)→K (a.put o.dst v') w'):if Region.wanted o (yielded ops a.tmps)=true then Oper.wp P o a w K Q else E:=by
 have hw:Region.wanted o (yielded ops a.tmps)=true:=by simp[Region.wanted,mg]
 rw[if_pos hw];obtain⟨ht,i,z,hi,hz,fI,yj,AB,bY⟩:=hT;obtain⟨v',w',hr,h2,h3,h4,h5⟩:=run_append_own_at (P:=P) w base t o.type e i z size bytes ht hi hz fI yj AB bY v n xs bU ad m c news hl z9 h1 KE ob cX;unfold Oper.wp execOp;simp only[ho,resolve,invoke,builtin,Sem.run_bind,Sem.run_pure,Result.andThen_ok,List.map_toArray,List.map_cons,List.map_nil,hs,hx,hr];exact h v' w' h2 (l9 h3 fun _ h=>h) h5
theorem cz {w:World} {base size n:Nat} {e:TypeId} {v:Value} {xs:List Value} (h:w.ownsRow base e size v n xs):∃ A M c,v=.slice A M c:=by
 rcases h.2 with ⟨rfl,_⟩ | ⟨g,cap,cur,rfl,_⟩
 ·exact⟨_,_,_,rfl⟩
 ·exact⟨_,_,_,rfl⟩
theorem St.app {sb mb lb:Nat} {ty:TypeId} {o:Ob} {c:Kc} {rv v':Value} {l:List Int} {W w9:World} {z:Int} (h:St W sb mb lb ty o c rv l) (hz:0≤z∧z<4294967296) (bU:w9.ownsRow 0 22 1 v' (c.rc.length+1) ((bn .u32).all c.rc++[.int .u32 z])) (ht:Tch (fun b=>rv.ownBlock=some b) W w9) (sG:v'.ownBlock=rv.ownBlock∨v'.ownBlock=some W.heap.size):
  St (w9.setCell ⟨sb,16,none⟩ v') sb mb lb ty o { c with rc:=c.rc++[z] } v' l∧Mv sb mb lb W (w9.setCell ⟨sb,16,none⟩ v') rv v':=by
 obtain⟨u,hu,hr⟩:=h.op.row;have lL:=hr.tch ht h.op.sep;have aJ:=hr.lt;have Tj:=h.mem.tch ht h.s3 h.s4
 have xn:mb<W.heap.size∧lb<W.heap.size:=by
  obtain⟨k,cc,hr,ho,_⟩:=h.mem;obtain⟨cur,hc⟩:=nw ho;exact⟨hr.lt,hc.lt⟩
 have eZ:∀ b,b<W.heap.size→rv.ownBlock≠some b→v'.ownBlock≠some b:=fun b hb hn e=>by
  rcases sG with q | q
  ·exact hn (q ▸ e)
  ·rw[q] at e;have:=Option.some.inj e;omega
 have aC:Tch (fun b=>b=sb) w9 (w9.setCell ⟨sb,16,none⟩ v'):=(Tch.refl (fun b=>b=sb) w9).set (b:=sb) rfl 16 v';refine⟨⟨⟨⟨u,hu,lL.set 16 v'⟩,?_,?_,?_,eZ sb aJ h.op.sep⟩,Tj.tch aC (fun e=>h.s1 e.symm) (fun e=>h.s2 e.symm),h.s1,h.s2,eZ mb xn.1 h.s3,eZ lb xn.2 h.s4⟩,⟨(ht.mono fun _ _ q=>.inr (.inr (.inr q))).set (.inl rfl) 16 v',fun b hb=>?_⟩⟩
 ·exact bl (EH rfl bU) aC (fun b hb e=>eZ sb aJ h.op.sep (by rw[hb,e]))
 ·intro x hx
  rcases List.mem_append.1 hx with q | q
  ·exact h.op.w32 x q
  ·rw[List.mem_singleton.1 q];exact hz
 ·have hf:=h.op.fits;exact⟨hf.kd,hf.wd,hf.sl,hf.cap,hf.nr,hf.wd1,hf.nr1,hf.sl1,hf.cap1,hf.rd1,hf.base1,hf.size1,hf.i1,hf.tr1,hf.st1,hf.A0,hf.A1,hf.B0,hf.B1⟩
 ·rcases sG with q | q
  ·exact .inl (q ▸ hb)
  ·rw[q] at hb;exact .inr (by have:=Option.some.inj hb;omega)
theorem Fp (frm:Nat) (w:World) (h:St w sb mb lb ty o c rv l) (hw:c.wr=false) (hi:c.rc.length≤1000000) (fy:c.i<1000) (hj:c.base+(frm+c.i)<l.length) (fL:frm≤1000000):
  Calls Tryz.prog 203 #[.pointer (some ⟨sb,0,none⟩),.int .i64 (frm:Int)] w (Did sb mb lb ty o w rv { c with i:=c.i+1,rc:=c.rc++[c.rdm l (frm+c.i)] } l (.bool (decide ((c.wd:Int)≤(c.i:Int)+1)))):=by
 obtain⟨u,hu,hr⟩:=h.op.row;have hf:=h.op.fits;have JL:=cR hj h.mem.w32;have h1:=h.drew;obtain⟨u1,iz,bV⟩:=h1.op.row;have c11:=bV.at 11 (.int .i64 (c.i:Int));have c16:w.drew.cell? ⟨sb,16,none⟩=some rv:=(bV.cell 16).trans rfl;have c8:=hr.at 8 (.int .i64 c.op);have Ej:=tF (a:=(frm:Int)) (b:=(c.i:Int)) (by omega) (by omega) (by omega) (by omega);obtain⟨z,hz⟩:∃ x,c.rdm l (frm+c.i)=x:=⟨_,rfl⟩;have jX:=fun W (h:St W sb mb lb ty o c rv l)=>cS sb mb lb ty o c rv l ((frm:Int)+(c.i:Int)) (frm+c.i) W h (by omega) hj
 rw[hz] at jX JL ⊢;have HR:=hid jX;have HH:=hid h1;have HM:=hid (Mv.drew (sb:=sb) (mb:=mb) (lb:=lb) w rv);have HE:=hid fun W (rv':Value) (h:St W sb mb lb ty o { c with rc:=c.rc++[z] } rv' l)=>gQ sb mb lb ty o { c with rc:=c.rc++[z] } rv' l (c.wd:Int) W h fy
 have cL:=hid hf.wd;have Kq:=hid JL;have HI:=hid hi
 have nt:(c.op==2)=false∧(c.op==3)=false:=by
  unfold Kc.wr at hw;cases h2:(c.op==2) <;> simp[h2] at hw ⊢
  exact hw
 obtain⟨h2,h3⟩:=nt;clear hr bV hu iz hf h h1 hj hw fL fy hz jX JL hi;go_enter Tryz.func203,Tryz.ntmps203;go_wp2_with fail;refine wp_region_held_drew (S:=(fun w':World=>w'.cell? ⟨sb,11,none⟩=some (.int .i64 (c.i:Int)))) (by kernel_rfl) c11 (fun hHeld=>?_);clear c11;generalize w.drew=wd at hHeld c16 HH HM ⊢;have hHeld:(fun w':World=>w'.cell? ⟨sb,11,none⟩=some (.int .i64 (c.i:Int))) wd:=hHeld;refine ai 0 1 2 3 ?_;refine ai 5 6 7 8 ?_;refine bv 9 10 ?_;refine aX 11 ?_;refine dG [4,12] ?_;refine dp (fun K hK=>?_) ?_
 ·go_simp;refine kH hK hHeld fun hHeld=>?_
  clear hK K;refine aV 12 (fun K hK=>?_)
  ·go_simp;refine(HR.out _ HH.out).mono ?_;rintro ex wx ⟨rfl,bN,fY⟩;have al:=hid bN;have aT:=hid (HM.out.trans fY);obtain⟨u2,bI,av⟩:=bN.op.row;have aw:(fun w':World=>w'.cell? ⟨sb,11,none⟩=some (.int .i64 (c.i:Int))) wx:=(av.cell 11).trans rfl;have c16x:wx.cell? ⟨sb,16,none⟩=some rv:=(av.cell 16).trans rfl;clear bN fY bI av;refine kH hK aw fun hHeld=>?_
   clear hK K;refine aV 13 (fun K hK=>?_)
   ·go_simp;have bG:=bK wx (.cells #[.int .u32 z] 22);have lV:=hid (al.out.below bG);have yz:=hid (aT.out.trans (Mv.below bG rv));obtain⟨u2,bI,av⟩:=lV.out.op.row;have p7:(fun w':World=>w'.cell? ⟨sb,11,none⟩=some (.int .i64 (c.i:Int))) (wx.alloc (.cells #[.int .u32 z] 22)):=(av.cell 11).trans rfl;have c16a:(wx.alloc (.cells #[.int .u32 z] 22)).cell? ⟨sb,16,none⟩=some rv:=(av.cell 16).trans rfl;clear bG bI av;refine kH hK p7 fun hHeld=>?_
    clear hK K;refine aV 14 (fun K hK=>?_)
    ·refine gh (by rfl) (.tmp 39) (.tmp 48) 23 (by rfl) u32Ty 0 lV.out.op.rc (by rfl) (cE wx [.int .u32 z] _ _ rfl) (by rfl) (by rfl) (by simp[Value.oneCell']) (by have:=HI.out;unfold maxLen;omega) (by have:=HI.out;omega) (Nat.zero_le _) ?_;intro v' w9 ck iH gU;obtain⟨A9,M9,c9,rfl⟩:=cz ck;have yB:=hid ck;have yi:=hid iH;have vf:=hid gU;obtain⟨u2,bI,av⟩:=lV.out.op.row;have lL:=av.tch iH lV.out.op.sep;have qS:(fun w':World=>w'.cell? ⟨sb,11,none⟩=some (.int .i64 (c.i:Int))) w9:=(lL.cell 11).trans rfl;have c16n:w9.cell? ⟨sb,16,none⟩=some rv:=(lL.cell 16).trans rfl;have f16n:=lL.frozen 16;clear ck iH gU bI av lL;refine kH hK qS fun hHeld=>?_
     clear hK K;refine bv 15 16 ?_;refine aV 17 (fun K hK=>?_)
     ·go_simp;obtain⟨As,Gb⟩:=lV.out.app Kq.out yB.out yi.out vf.out;have FD:=hid As;have Fz:=hid (yz.out.trans Gb);obtain⟨u2,bI,av⟩:=As.op.row;have zy:(fun w':World=>w'.cell? ⟨sb,11,none⟩=some (.int .i64 (c.i:Int))) (w9.setCell ⟨sb,16,none⟩ (.slice A9 M9 c9)):=(av.cell 11).trans rfl;have d1:=av.at 1 (.int .i64 (c.wd:Int)) (by rw[← cL.out];rfl);clear As Gb bI av;refine kH hK zy fun hHeld=>?_
      clear hK K;refine aY ?_;clear hHeld;generalize w9.setCell ⟨sb,16,none⟩ (.slice A9 M9 c9)=wn at FD Fz d1 ⊢;go_wp2_with fail;refine(HE.out _ _ FD.out).mono ?_;rintro e w4 ⟨rfl,Ir,zY⟩;go_wp2_with fail;go_ret;exact⟨_,rfl,Ir,Fz.out.trans zY⟩
 ·refine dp (fun K hK=>?_) AllReadyH.nil
  ·go_simp;refine(HR.out _ HH.out).mono ?_;rintro ex wx ⟨rfl,bN,fY⟩;have al:=hid bN;have aT:=hid (HM.out.trans fY);obtain⟨u2,bI,av⟩:=bN.op.row;have aw:(fun w':World=>w'.cell? ⟨sb,11,none⟩=some (.int .i64 (c.i:Int))) wx:=(av.cell 11).trans rfl;have c16x:wx.cell? ⟨sb,16,none⟩=some rv:=(av.cell 16).trans rfl;clear bN fY bI av;refine kH hK aw fun hHeld=>?_
   clear hK K;refine dG [4,13] ?_;refine dp (fun K hK=>?_) ?_
   ·go_simp;refine kH hK hHeld fun hHeld=>?_
    clear hK K;refine aV 13 (fun K hK=>?_)
    ·go_simp;have bG:=bK wx (.cells #[.int .u32 z] 22);have lV:=hid (al.out.below bG);have yz:=hid (aT.out.trans (Mv.below bG rv));obtain⟨u2,bI,av⟩:=lV.out.op.row;have p7:(fun w':World=>w'.cell? ⟨sb,11,none⟩=some (.int .i64 (c.i:Int))) (wx.alloc (.cells #[.int .u32 z] 22)):=(av.cell 11).trans rfl;have c16a:(wx.alloc (.cells #[.int .u32 z] 22)).cell? ⟨sb,16,none⟩=some rv:=(av.cell 16).trans rfl;clear bG bI av;refine kH hK p7 fun hHeld=>?_
     clear hK K;refine aV 14 (fun K hK=>?_)
     ·refine gh (by rfl) (.tmp 39) (.tmp 48) 23 (by rfl) u32Ty 0 lV.out.op.rc (by rfl) (cE wx [.int .u32 z] _ _ rfl) (by rfl) (by rfl) (by simp[Value.oneCell']) (by have:=HI.out;unfold maxLen;omega) (by have:=HI.out;omega) (Nat.zero_le _) ?_;intro v' w9 ck iH gU;obtain⟨A9,M9,c9,rfl⟩:=cz ck;have yB:=hid ck;have yi:=hid iH;have vf:=hid gU;obtain⟨u2,bI,av⟩:=lV.out.op.row;have lL:=av.tch iH lV.out.op.sep;have qS:(fun w':World=>w'.cell? ⟨sb,11,none⟩=some (.int .i64 (c.i:Int))) w9:=(lL.cell 11).trans rfl;have c16n:w9.cell? ⟨sb,16,none⟩=some rv:=(lL.cell 16).trans rfl;have f16n:=lL.frozen 16;clear ck iH gU bI av lL;refine kH hK qS fun hHeld=>?_
      clear hK K;refine bv 15 16 ?_;refine aV 17 (fun K hK=>?_)
      ·go_simp;obtain⟨As,Gb⟩:=lV.out.app Kq.out yB.out yi.out vf.out;have FD:=hid As;have Fz:=hid (yz.out.trans Gb);obtain⟨u2,bI,av⟩:=As.op.row;have zy:(fun w':World=>w'.cell? ⟨sb,11,none⟩=some (.int .i64 (c.i:Int))) (w9.setCell ⟨sb,16,none⟩ (.slice A9 M9 c9)):=(av.cell 11).trans rfl;have d1:=av.at 1 (.int .i64 (c.wd:Int)) (by rw[← cL.out];rfl);clear As Gb bI av;refine kH hK zy fun hHeld=>?_
       clear hK K;refine aY ?_;clear hHeld;generalize w9.setCell ⟨sb,16,none⟩ (.slice A9 M9 c9)=wn at FD Fz d1 ⊢;go_wp2_with fail;refine(HE.out _ _ FD.out).mono ?_;rintro e w4 ⟨rfl,Ir,zY⟩;go_wp2_with fail;go_ret;exact⟨_,rfl,Ir,Fz.out.trans zY⟩
   ·refine dp (fun K hK=>?_) AllReadyH.nil
    ·go_simp;have bG:=bK wx (.cells #[.int .u32 z] 22);have lV:=hid (al.out.below bG);have yz:=hid (aT.out.trans (Mv.below bG rv));obtain⟨u2,bI,av⟩:=lV.out.op.row;have p7:(fun w':World=>w'.cell? ⟨sb,11,none⟩=some (.int .i64 (c.i:Int))) (wx.alloc (.cells #[.int .u32 z] 22)):=(av.cell 11).trans rfl;have c16a:(wx.alloc (.cells #[.int .u32 z] 22)).cell? ⟨sb,16,none⟩=some rv:=(av.cell 16).trans rfl;clear bG bI av;refine kH hK p7 fun hHeld=>?_
     clear hK K;refine aV 4 (fun K hK=>?_)
     ·go_simp;refine kH hK hHeld fun hHeld=>?_
      clear hK K;refine aV 14 (fun K hK=>?_)
      ·refine gh (by rfl) (.tmp 39) (.tmp 48) 23 (by rfl) u32Ty 0 lV.out.op.rc (by rfl) (cE wx [.int .u32 z] _ _ rfl) (by rfl) (by rfl) (by simp[Value.oneCell']) (by have:=HI.out;unfold maxLen;omega) (by have:=HI.out;omega) (Nat.zero_le _) ?_;intro v' w9 ck iH gU;obtain⟨A9,M9,c9,rfl⟩:=cz ck;have yB:=hid ck;have yi:=hid iH;have vf:=hid gU;obtain⟨u2,bI,av⟩:=lV.out.op.row;have lL:=av.tch iH lV.out.op.sep;have qS:(fun w':World=>w'.cell? ⟨sb,11,none⟩=some (.int .i64 (c.i:Int))) w9:=(lL.cell 11).trans rfl;have c16n:w9.cell? ⟨sb,16,none⟩=some rv:=(lL.cell 16).trans rfl;have f16n:=lL.frozen 16;clear ck iH gU bI av lL;refine kH hK qS fun hHeld=>?_
       clear hK K;refine bv 15 16 ?_;refine aV 17 (fun K hK=>?_)
       ·go_simp;obtain⟨As,Gb⟩:=lV.out.app Kq.out yB.out yi.out vf.out;have FD:=hid As;have Fz:=hid (yz.out.trans Gb);obtain⟨u2,bI,av⟩:=As.op.row;have zy:(fun w':World=>w'.cell? ⟨sb,11,none⟩=some (.int .i64 (c.i:Int))) (w9.setCell ⟨sb,16,none⟩ (.slice A9 M9 c9)):=(av.cell 11).trans rfl;have d1:=av.at 1 (.int .i64 (c.wd:Int)) (by rw[← cL.out];rfl);clear As Gb bI av;refine kH hK zy fun hHeld=>?_
        clear hK K;refine aY ?_;clear hHeld;generalize w9.setCell ⟨sb,16,none⟩ (.slice A9 M9 c9)=wn at FD Fz d1 ⊢;go_wp2_with fail;refine(HE.out _ _ FD.out).mono ?_;rintro e w4 ⟨rfl,Ir,zY⟩;go_wp2_with fail;go_ret;exact⟨_,rfl,Ir,Fz.out.trans zY⟩
end
end Go.Proofs.YtabfcjohdgjkoaaGreatDoor
