/- An operation that is under way: a failed attempt, a record's next word, a step that is opened. -/
import Derived.Test.YtolmpehgeinlkaaGreatDoorZcC
namespace Go.Proofs.YtolmpehgeinlkaaGreatDoor
open Go.RowKit
open Go.Lib (hid)
attribute [local go_sem] Oper.semAt_some
set_option maxHeartbeats 2000000
set_option maxRecDepth 100000
abbrev De (a0:Nat) (a1:Kc) (a2 a3 a4:Nat) (a5:Int) (w':World):Prop:=w'.cell? ⟨a0,11,none⟩=some (.int .i64 (a1.i:Int))∧w'.cell? ⟨a0,16,none⟩=some (.slice (some ⟨a2,a3,none⟩) a1.rc.length a4)∧w'.cell? ⟨a2,a3+a1.i,none⟩=some (.int .u32 a5)
section
variable (sb mb lb:Nat) (ty:TypeId) (o:Ob) (c:Kc) (rv:Value) (l:List Int)
theorem kM (w:World) (h:St w sb mb lb ty o c rv l) (ht:c.tr<1000):Calls Tryz.prog 173 #[.pointer (some ⟨sb,0,none⟩)] w (Did sb mb lb ty o w rv { c with tr:=c.tr+1,rc:=[],ph:=0,i:=0 } l (.bool (decide ((c.cap:Int)≤(c.tr:Int)+1)))):=by
 obtain⟨u,hu,hr⟩:=h.op.row;have c12:=hr.at 12 (.int .i64 (c.tr:Int));have c16:w.cell? ⟨sb,16,none⟩=some rv:=(hr.cell 16).trans rfl;have f12:=hr.frozen 12;have f16:=hr.frozen 16;have aC:=(hr.set 12 (.int .i64 ((c.tr:Int)+1))).set 16 (.slice none 0 0);have Eh:=((Tch.refl (fun b=>b=sb) w).set (b:=sb) rfl 12 (.int .i64 ((c.tr:Int)+1))).set (b:=sb) rfl 16 (.slice none 0 0);have hf:=h.op.fits;have i5:=hf.cap;have HS:=hid (h.upd (c':={ c with tr:=c.tr+1,rc:=[] }) (rv':=.slice none 0 0) Eh hu aC ⟨hf.kd,hf.wd,hf.sl,hf.cap,hf.nr,hf.wd1,hf.nr1,hf.sl1,hf.cap1,hf.rd1,hf.base1,hf.size1,hf.i1,by show c.tr+1≤1000;omega,hf.st1,hf.A0,hf.A1,hf.B0,hf.B1⟩ (.inr ⟨rfl,rfl⟩));have HT:=hid Eh;have pP:(0:Int)≤(c.tr:Int):=by omega
 have rN:(c.tr:Int)≤1000:=by omega
 obtain⟨I,hI⟩:∃ x:Int,(c.tr:Int)=x:=⟨_,rfl⟩;rw[hI] at c12 pP rN HS HT ⊢;have HI:=hid hI;have HC:=hid i5;clear hI hr hu aC Eh hf h ht i5;go_enter Tryz.func173,Tryz.ntmps173;go_wp2_with fail;have HG:=hid (dh sb mb lb ty o _ _ l 0 0 _ HS.out rfl);refine HG.out.mono ?_;rintro e w1 ⟨rfl,bZ,fq⟩;obtain⟨u1,gS,bi⟩:=bZ.op.row;have d12:=bi.at 12 (.int .i64 ((c.tr+1:Nat):Int));have d3:=bi.at 3 (.int .i64 o.c);rw[show((c.tr+1:Nat):Int)=I+1 by rw[← HI.out];rfl] at d12;rw[HC.out] at d3;have ai:=hid bZ.drew;have au:=hid (((Mv.own (mb:=mb) (lb:=lb) (rv:=rv) (rv':=.slice none 0 0) HT.out (.inr rfl)).trans fq).trans (Mv.drew w1 _));clear bi gS bZ fq HS HT HG;have e12:w1.drew.cell? ⟨sb,12,none⟩=some (.int .i64 (I+1)):=d12;have e3:w1.drew.cell? ⟨sb,3,none⟩=some (.int .i64 (c.cap:Int)):=d3;clear d12 d3;go_wp2_with fail;refine dR (S:=(fun w':World=>w'.cell? ⟨sb,12,none⟩=some (.int .i64 (I+1))∧w'.cell? ⟨sb,3,none⟩=some (.int .i64 (c.cap:Int)))) ⟨e12,e3⟩ fun wd aW hHeld=>?_
 rw[aW] at ai au;clear aW;refine ap 0 1 2 3 ?_;refine ap 4 5 6 7 ?_;refine bw 8 9 ?_;refine aF 10 ?_;refine bh ?_;clear hHeld;go_wp2_with fail;go_ret;exact⟨_,rfl,ai.out,au.out⟩
theorem uC {E:Enc Int} (hE:E=bB .u32) {w':World} {base:Nat} {v':Value} {l:List Int} {z:Int} (h:w'.ownsRow base 22 E.size v' (l.length+1) (E.all l++[.int .u32 z])):Own (bB .u32) 22 base w' v' (l++[z]):=by
 subst hE;exact Own.app (x:=z) h rfl
theorem rC {w:World} {rv:Value} {rb ro n cap:Nat} {r:List Int} {i:Nat} {z:Int} (hv:rv=.slice (some ⟨rb,ro,none⟩) n cap) (h:Own (bB .u32) 22 0 w rv r) (hz:r[i]?=some z):w.cell? ⟨rb,ro+i,none⟩=some (.int .u32 z):=by
 subst hv;obtain⟨A,c',hv,_,_,bH⟩:=h.sl
 injection hv with hA _ _
 obtain⟨b,off,nj,_,hc⟩:=bH i z hz;have:=hc 0 _ rfl;rw[← hA] at nj
 injection nj with nj
 injection nj with h1 h2
 subst h1 h2
 simpa [bB,Enc.of1] using this
theorem Ao (frm:Nat) (w:World) (h:St w sb mb lb ty o c rv l) (hw:c.wr=true) (hi:c.i<c.rc.length) (dD:c.i<1000) (hj:c.base+(frm+c.i)<l.length) (fj:frm≤1000000):
  Calls Tryz.prog 160 #[.pointer (some ⟨sb,0,none⟩),.int .i64 (frm:Int)] w (Did sb mb lb ty o w rv { c with i:=c.i+1 } (c.wrm l (frm+c.i) (c.rc.getD c.i 0)) (.bool (decide ((c.wd:Int)≤(c.i:Int)+1)))):=by
 obtain⟨u,hu,hr⟩:=h.op.row;have hf:=h.op.fits;obtain⟨A,cap,C8,pZ,FS,bH⟩:=h.op.rc.sl;obtain⟨z,hz⟩:=eF hi;have Kt:c.rc.getD c.i 0=z:=by rw[List.getD_eq_getElem?_getD,hz];rfl
 have th:=h.op.w32.get hz;obtain⟨rb,ro,hA,I1,ba⟩:=bH c.i z hz
 have LM:w.drew.cell? ⟨rb,ro+c.i,none⟩=some (.int .u32 z):=by
  have:=ba 0 _ rfl
  simpa [bB,Enc.of1] using this
 subst hA;have h1:=h.drew;obtain⟨u1,gS,bi⟩:=h1.op.row;have c11:=bi.at 11 (.int .i64 (c.i:Int));have c16:=bi.at 16 (.slice (some ⟨rb,ro,none⟩) c.rc.length cap) (by rw[← C8];rfl);have c8:=hr.at 8 (.int .i64 c.op);have yC:=hw;unfold Kc.wr at hw;have Ak:=rK (a:=(frm:Int)) (b:=(c.i:Int)) (by omega) (by omega) (by omega) (by omega);have HR:=hid fun W (h:St W sb mb lb ty o c rv l)=>dN sb mb lb ty o c rv l ((frm:Int)+(c.i:Int)) (frm+c.i) z W h (by omega) hj th
 have HH:=hid h1;have HM:=hid (Mv.drew (sb:=sb) (mb:=mb) (lb:=lb) w rv);have HE:=hid fun W (l':List Int) (rv':Value) (h:St W sb mb lb ty o c rv' l')=>gi sb mb lb ty o c rv' l' (c.wd:Int) W h dD
 have bp:=hid hf.wd;have bA:(c.i:Int)<(c.rc.length:Int):=by omega
 have No:(0:Int)≤(c.i:Int):=by omega
 have Nv:(c.i:Int)≤1000:=by omega
 have nn:((c.i:Int)).toNat=c.i:=by omega
 rw[Kt];have DO:=hid C8;have HZ:=hid hz;clear hr bi hu gS hf C8 pZ FS bH hz Kt th ba h h1 hj yC fj I1 dD;have HI:=hid hi
 have Ch:(c.op==2)=true∨((c.op==2)=false∧(c.op==3)=true):=by
  cases h2:(c.op==2) <;> simp[h2] at hw ⊢
  exact hw
 clear hw
 rcases Ch with h2 | ⟨tH,h3⟩
 all_goals
  go_enter Tryz.func160,Tryz.ntmps160;go_wp2_with fail;refine dR (S:=(De sb c rb ro cap z)) ⟨c11,c16,LM⟩ fun wd aW hHeld=>?_
  rw[aW] at HH HM;clear aW;refine ap 0 1 2 3 ?_;refine ap 4 5 6 7 ?_;refine ap 8 9 10 11 ?_;refine ap 12 13 14 15 ?_;refine aF 16 ?_;refine aJ 17 (fun K hK=>?_);go_simp;refine(HR.out _ HH.out).mono ?_;rintro ex wx ⟨rfl,bZ,fq⟩;have ai:=hid bZ;have au:=hid (HM.out.trans fq);obtain⟨u2,bU,aC⟩:=bZ.op.row;have aN:(De sb c rb ro cap z) wx:=⟨(aC.cell 11).trans rfl,(aC.cell 16).trans (by rw[← DO.out];rfl),rC DO.out bZ.op.rc HZ.out⟩;clear bZ fq bU aC;refine kH hK aN fun hHeld=>?_
  clear hK K;refine bh ?_;obtain⟨u3,ez,bC⟩:=ai.out.op.row;have d1:=bC.at 1 (.int .i64 (c.wd:Int)) (by rw[← bp.out];rfl);clear hHeld aN bC ez;go_wp2_with fail;refine(HE.out _ _ _ ai.out).mono ?_;rintro e w4 ⟨rfl,DN,Ez⟩;go_wp2_with fail;go_ret;exact⟨_,rfl,DN,au.out.trans Ez⟩
theorem cY {P:Program} {w:World} {ops:Array Oper} {o:Oper} {a:Act} {K:Act→World→Prop} {Q:Exit→Act→World→Prop} {E:Prop} (mu:o.guard=none) (s x:Operand) (t:TypeId)
  (ho:o.op=.call { callee:=.builtin .append,args:=#[s,x],argTypes:=#[t,t] }) {e:TypeId} {size bytes:Nat} (hT:ElemTy P t e size bytes) (base:Nat)
  {v:Value} {n:Nat} {xs:List Value} (cT:w.ownsRow base e size v n xs) (hs:a.eval s=v) {ad:Addr} {m c:Nat} {news:List Value} (F4:∀ j u,news[j]?=some u→w.cell? (ad.add j)=some u) (hx:a.eval x=.slice (some ad) m c) (hl:news.length=m*size) (h1:∀ u ∈ news,u.oneCell'=true)
  (L4:n+m≤maxLen) (EX:(n+m)*bytes≤140737488355328) (iG:base≤w.heap.size)
  (h:∀ v' w',w'.ownsRow base e size v' (n+m) (xs++news)→Tch (fun b=>v.ownBlock=some b) w w'→(v'.ownBlock=v.ownBlock∨v'.ownBlock=some w.heap.size)→K (a.put o.dst v') w'):if Region.wanted o (yielded ops a.tmps)=true then Oper.wp P o a w K Q else E:=by
 have hw:Region.wanted o (yielded ops a.tmps)=true:=by simp[Region.wanted,mu]
 rw[if_pos hw];obtain⟨ht,i,z,hi,hz,dt,rY,pX,bK⟩:=hT;obtain⟨v',w',hr,h2,h3,h4,h5⟩:=run_append_own_at (P:=P) w base t o.type e i z size bytes ht hi hz dt rY pX bK v n xs cT ad m c news hl F4 h1 L4 EX iG;unfold Oper.wp execOp;simp only[ho,resolve,invoke,builtin,Sem.run_bind,Sem.run_pure,Result.andThen_ok,List.map_toArray,List.map_cons,List.map_nil,hs,hx,hr];exact h v' w' h2 (fJ h3 fun _ h=>h) h5
theorem aR {w:World} {base size n:Nat} {e:TypeId} {v:Value} {xs:List Value} (h:w.ownsRow base e size v n xs):∃ A M c,v=.slice A M c:=by
 rcases h.2 with ⟨rfl,_⟩ | ⟨g,cap,cur,rfl,_⟩
 ·exact⟨_,_,_,rfl⟩
 ·exact⟨_,_,_,rfl⟩
theorem St.app {sb mb lb:Nat} {ty:TypeId} {o:Ob} {c:Kc} {rv v':Value} {l:List Int} {W w9:World} {z:Int} (h:St W sb mb lb ty o c rv l) (hz:0≤z∧z<4294967296) (cT:w9.ownsRow 0 22 1 v' (c.rc.length+1) ((bB .u32).all c.rc++[.int .u32 z])) (ht:Tch (fun b=>rv.ownBlock=some b) W w9) (jI:v'.ownBlock=rv.ownBlock∨v'.ownBlock=some W.heap.size):
  St (w9.setCell ⟨sb,16,none⟩ v') sb mb lb ty o { c with rc:=c.rc++[z] } v' l∧Mv sb mb lb W (w9.setCell ⟨sb,16,none⟩ v') rv v':=by
 obtain⟨u,hu,hr⟩:=h.op.row;have ev:=hr.tch ht h.op.sep;have aZ:=hr.lt;have G3:=h.mem.tch ht h.s3 h.s4
 have oQ:mb<W.heap.size∧lb<W.heap.size:=by
  obtain⟨k,cc,hr,ho,_⟩:=h.mem;obtain⟨cur,hc⟩:=jP ho;exact⟨hr.lt,hc.lt⟩
 have i7:∀ b,b<W.heap.size→rv.ownBlock≠some b→v'.ownBlock≠some b:=fun b hb hn e=>by
  rcases jI with q | q
  ·exact hn (q ▸ e)
  ·rw[q] at e;have:=Option.some.inj e;omega
 have km:Tch (fun b=>b=sb) w9 (w9.setCell ⟨sb,16,none⟩ v'):=(Tch.refl (fun b=>b=sb) w9).set (b:=sb) rfl 16 v';refine⟨⟨⟨⟨u,hu,ev.set 16 v'⟩,?_,?_,?_,i7 sb aZ h.op.sep⟩,G3.tch km (fun e=>h.s1 e.symm) (fun e=>h.s2 e.symm),h.s1,h.s2,i7 mb oQ.1 h.s3,i7 lb oQ.2 h.s4⟩,⟨(ht.mono fun _ _ q=>.inr (.inr (.inr q))).set (.inl rfl) 16 v',fun b hb=>?_⟩⟩
 ·exact aG (uC rfl cT) km (fun b hb e=>i7 sb aZ h.op.sep (by rw[hb,e]))
 ·intro x hx
  rcases List.mem_append.1 hx with q | q
  ·exact h.op.w32 x q
  ·rw[List.mem_singleton.1 q];exact hz
 ·have hf:=h.op.fits;exact⟨hf.kd,hf.wd,hf.sl,hf.cap,hf.nr,hf.wd1,hf.nr1,hf.sl1,hf.cap1,hf.rd1,hf.base1,hf.size1,hf.i1,hf.tr1,hf.st1,hf.A0,hf.A1,hf.B0,hf.B1⟩
 ·rcases jI with q | q
  ·exact .inl (q ▸ hb)
  ·rw[q] at hb;exact .inr (by have:=Option.some.inj hb;omega)
theorem BT (frm:Nat) (w:World) (h:St w sb mb lb ty o c rv l) (hw:c.wr=false) (hi:c.rc.length≤1000000) (dD:c.i<1000) (hj:c.base+(frm+c.i)<l.length) (fj:frm≤1000000):
  Calls Tryz.prog 160 #[.pointer (some ⟨sb,0,none⟩),.int .i64 (frm:Int)] w (Did sb mb lb ty o w rv { c with i:=c.i+1,rc:=c.rc++[c.rdm l (frm+c.i)] } l (.bool (decide ((c.wd:Int)≤(c.i:Int)+1)))):=by
 obtain⟨u,hu,hr⟩:=h.op.row;have hf:=h.op.fits;have th:=cR hj h.mem.w32;have h1:=h.drew;obtain⟨u1,gS,bi⟩:=h1.op.row;have c11:=bi.at 11 (.int .i64 (c.i:Int));have c16:w.drew.cell? ⟨sb,16,none⟩=some rv:=(bi.cell 16).trans rfl;have c8:=hr.at 8 (.int .i64 c.op);have Ak:=rK (a:=(frm:Int)) (b:=(c.i:Int)) (by omega) (by omega) (by omega) (by omega);obtain⟨z,hz⟩:∃ x,c.rdm l (frm+c.i)=x:=⟨_,rfl⟩;have gg:=fun W (h:St W sb mb lb ty o c rv l)=>cX sb mb lb ty o c rv l ((frm:Int)+(c.i:Int)) (frm+c.i) W h (by omega) hj
 rw[hz] at gg th ⊢;have HR:=hid gg;have HH:=hid h1;have HM:=hid (Mv.drew (sb:=sb) (mb:=mb) (lb:=lb) w rv);have HE:=hid fun W (rv':Value) (h:St W sb mb lb ty o { c with rc:=c.rc++[z] } rv' l)=>gi sb mb lb ty o { c with rc:=c.rc++[z] } rv' l (c.wd:Int) W h dD
 have bp:=hid hf.wd;have pO:=hid th;have HI:=hid hi
 have Ch:(c.op==2)=false∧(c.op==3)=false:=by
  unfold Kc.wr at hw;cases h2:(c.op==2) <;> simp[h2] at hw ⊢
  exact hw
 obtain⟨h2,h3⟩:=Ch;clear hr bi hu gS hf h h1 hj hw fj dD hz gg th hi;go_enter Tryz.func160,Tryz.ntmps160;go_wp2_with fail;refine wp_region_held_drew (S:=(fun w':World=>w'.cell? ⟨sb,11,none⟩=some (.int .i64 (c.i:Int)))) (by kernel_rfl) c11 (fun hHeld=>?_);clear c11;generalize w.drew=wd at hHeld c16 HH HM ⊢;have hHeld:(fun w':World=>w'.cell? ⟨sb,11,none⟩=some (.int .i64 (c.i:Int))) wd:=hHeld;refine ap 0 1 2 3 ?_;refine ap 5 6 7 8 ?_;refine bw 9 10 ?_;refine aF 11 ?_;refine jX [4,12] ?_;refine gN (fun K hK=>?_) ?_
 ·go_simp;refine kH hK hHeld fun hHeld=>?_
  clear hK K;refine aJ 12 (fun K hK=>?_)
  ·go_simp;refine(HR.out _ HH.out).mono ?_;rintro ex wx ⟨rfl,bZ,fq⟩;have ai:=hid bZ;have au:=hid (HM.out.trans fq);obtain⟨u2,bU,aC⟩:=bZ.op.row;have aN:(fun w':World=>w'.cell? ⟨sb,11,none⟩=some (.int .i64 (c.i:Int))) wx:=(aC.cell 11).trans rfl;have c16x:wx.cell? ⟨sb,16,none⟩=some rv:=(aC.cell 16).trans rfl;clear bZ fq bU aC;refine kH hK aN fun hHeld=>?_
   clear hK K;refine aJ 13 (fun K hK=>?_)
   ·go_simp;have ck:=bt wx (.cells #[.int .u32 z] 22);have fP:=hid (ai.out.below ck);have sG:=hid (au.out.trans (Mv.below ck rv));obtain⟨u2,bU,aC⟩:=fP.out.op.row;have qJ:(fun w':World=>w'.cell? ⟨sb,11,none⟩=some (.int .i64 (c.i:Int))) (wx.alloc (.cells #[.int .u32 z] 22)):=(aC.cell 11).trans rfl;have c16a:(wx.alloc (.cells #[.int .u32 z] 22)).cell? ⟨sb,16,none⟩=some rv:=(aC.cell 16).trans rfl;clear ck bU aC;refine kH hK qJ fun hHeld=>?_
    clear hK K;refine aJ 14 (fun K hK=>?_)
    ·refine cY (by rfl) (.tmp 39) (.tmp 48) 23 (by rfl) u32Ty 0 fP.out.op.rc (by rfl) (bD wx [.int .u32 z] _ _ rfl) (by rfl) (by rfl) (by simp[Value.oneCell']) (by have:=HI.out;unfold maxLen;omega) (by have:=HI.out;omega) (Nat.zero_le _) ?_;intro v' w9 bk da cN;obtain⟨A9,M9,c9,rfl⟩:=aR bk;have tj:=hid bk;have sL:=hid da;have nL:=hid cN;obtain⟨u2,bU,aC⟩:=fP.out.op.row;have ev:=aC.tch da fP.out.op.sep;have mw:(fun w':World=>w'.cell? ⟨sb,11,none⟩=some (.int .i64 (c.i:Int))) w9:=(ev.cell 11).trans rfl;have c16n:w9.cell? ⟨sb,16,none⟩=some rv:=(ev.cell 16).trans rfl;have f16n:=ev.frozen 16;clear bk da cN bU aC ev;refine kH hK mw fun hHeld=>?_
     clear hK K;refine bw 15 16 ?_;refine aJ 17 (fun K hK=>?_)
     ·go_simp;obtain⟨pI,t8⟩:=fP.out.app pO.out tj.out sL.out nL.out;have uh:=hid pI;have uJ:=hid (sG.out.trans t8);obtain⟨u2,bU,aC⟩:=pI.op.row;have kI:(fun w':World=>w'.cell? ⟨sb,11,none⟩=some (.int .i64 (c.i:Int))) (w9.setCell ⟨sb,16,none⟩ (.slice A9 M9 c9)):=(aC.cell 11).trans rfl;have d1:=aC.at 1 (.int .i64 (c.wd:Int)) (by rw[← bp.out];rfl);clear pI t8 bU aC;refine kH hK kI fun hHeld=>?_
      clear hK K;refine bh ?_;clear hHeld;generalize w9.setCell ⟨sb,16,none⟩ (.slice A9 M9 c9)=wn at uh uJ d1 ⊢;go_wp2_with fail;refine(HE.out _ _ uh.out).mono ?_;rintro e w4 ⟨rfl,DN,Ez⟩;go_wp2_with fail;go_ret;exact⟨_,rfl,DN,uJ.out.trans Ez⟩
 ·refine gN (fun K hK=>?_) AllReadyH.nil
  ·go_simp;refine(HR.out _ HH.out).mono ?_;rintro ex wx ⟨rfl,bZ,fq⟩;have ai:=hid bZ;have au:=hid (HM.out.trans fq);obtain⟨u2,bU,aC⟩:=bZ.op.row;have aN:(fun w':World=>w'.cell? ⟨sb,11,none⟩=some (.int .i64 (c.i:Int))) wx:=(aC.cell 11).trans rfl;have c16x:wx.cell? ⟨sb,16,none⟩=some rv:=(aC.cell 16).trans rfl;clear bZ fq bU aC;refine kH hK aN fun hHeld=>?_
   clear hK K;refine jX [4,13] ?_;refine gN (fun K hK=>?_) ?_
   ·go_simp;refine kH hK hHeld fun hHeld=>?_
    clear hK K;refine aJ 13 (fun K hK=>?_)
    ·go_simp;have ck:=bt wx (.cells #[.int .u32 z] 22);have fP:=hid (ai.out.below ck);have sG:=hid (au.out.trans (Mv.below ck rv));obtain⟨u2,bU,aC⟩:=fP.out.op.row;have qJ:(fun w':World=>w'.cell? ⟨sb,11,none⟩=some (.int .i64 (c.i:Int))) (wx.alloc (.cells #[.int .u32 z] 22)):=(aC.cell 11).trans rfl;have c16a:(wx.alloc (.cells #[.int .u32 z] 22)).cell? ⟨sb,16,none⟩=some rv:=(aC.cell 16).trans rfl;clear ck bU aC;refine kH hK qJ fun hHeld=>?_
     clear hK K;refine aJ 14 (fun K hK=>?_)
     ·refine cY (by rfl) (.tmp 39) (.tmp 48) 23 (by rfl) u32Ty 0 fP.out.op.rc (by rfl) (bD wx [.int .u32 z] _ _ rfl) (by rfl) (by rfl) (by simp[Value.oneCell']) (by have:=HI.out;unfold maxLen;omega) (by have:=HI.out;omega) (Nat.zero_le _) ?_;intro v' w9 bk da cN;obtain⟨A9,M9,c9,rfl⟩:=aR bk;have tj:=hid bk;have sL:=hid da;have nL:=hid cN;obtain⟨u2,bU,aC⟩:=fP.out.op.row;have ev:=aC.tch da fP.out.op.sep;have mw:(fun w':World=>w'.cell? ⟨sb,11,none⟩=some (.int .i64 (c.i:Int))) w9:=(ev.cell 11).trans rfl;have c16n:w9.cell? ⟨sb,16,none⟩=some rv:=(ev.cell 16).trans rfl;have f16n:=ev.frozen 16;clear bk da cN bU aC ev;refine kH hK mw fun hHeld=>?_
      clear hK K;refine bw 15 16 ?_;refine aJ 17 (fun K hK=>?_)
      ·go_simp;obtain⟨pI,t8⟩:=fP.out.app pO.out tj.out sL.out nL.out;have uh:=hid pI;have uJ:=hid (sG.out.trans t8);obtain⟨u2,bU,aC⟩:=pI.op.row;have kI:(fun w':World=>w'.cell? ⟨sb,11,none⟩=some (.int .i64 (c.i:Int))) (w9.setCell ⟨sb,16,none⟩ (.slice A9 M9 c9)):=(aC.cell 11).trans rfl;have d1:=aC.at 1 (.int .i64 (c.wd:Int)) (by rw[← bp.out];rfl);clear pI t8 bU aC;refine kH hK kI fun hHeld=>?_
       clear hK K;refine bh ?_;clear hHeld;generalize w9.setCell ⟨sb,16,none⟩ (.slice A9 M9 c9)=wn at uh uJ d1 ⊢;go_wp2_with fail;refine(HE.out _ _ uh.out).mono ?_;rintro e w4 ⟨rfl,DN,Ez⟩;go_wp2_with fail;go_ret;exact⟨_,rfl,DN,uJ.out.trans Ez⟩
   ·refine gN (fun K hK=>?_) AllReadyH.nil
    ·go_simp;have ck:=bt wx (.cells #[.int .u32 z] 22);have fP:=hid (ai.out.below ck);have sG:=hid (au.out.trans (Mv.below ck rv));obtain⟨u2,bU,aC⟩:=fP.out.op.row;have qJ:(fun w':World=>w'.cell? ⟨sb,11,none⟩=some (.int .i64 (c.i:Int))) (wx.alloc (.cells #[.int .u32 z] 22)):=(aC.cell 11).trans rfl;have c16a:(wx.alloc (.cells #[.int .u32 z] 22)).cell? ⟨sb,16,none⟩=some rv:=(aC.cell 16).trans rfl;clear ck bU aC;refine kH hK qJ fun hHeld=>?_
     clear hK K;refine aJ 4 (fun K hK=>?_)
     ·go_simp;refine kH hK hHeld fun hHeld=>?_
      clear hK K;refine aJ 14 (fun K hK=>?_)
      ·refine cY (by rfl) (.tmp 39) (.tmp 48) 23 (by rfl) u32Ty 0 fP.out.op.rc (by rfl) (bD wx [.int .u32 z] _ _ rfl) (by rfl) (by rfl) (by simp[Value.oneCell']) (by have:=HI.out;unfold maxLen;omega) (by have:=HI.out;omega) (Nat.zero_le _) ?_;intro v' w9 bk da cN;obtain⟨A9,M9,c9,rfl⟩:=aR bk;have tj:=hid bk;have sL:=hid da;have nL:=hid cN;obtain⟨u2,bU,aC⟩:=fP.out.op.row;have ev:=aC.tch da fP.out.op.sep;have mw:(fun w':World=>w'.cell? ⟨sb,11,none⟩=some (.int .i64 (c.i:Int))) w9:=(ev.cell 11).trans rfl;have c16n:w9.cell? ⟨sb,16,none⟩=some rv:=(ev.cell 16).trans rfl;have f16n:=ev.frozen 16;clear bk da cN bU aC ev;refine kH hK mw fun hHeld=>?_
       clear hK K;refine bw 15 16 ?_;refine aJ 17 (fun K hK=>?_)
       ·go_simp;obtain⟨pI,t8⟩:=fP.out.app pO.out tj.out sL.out nL.out;have uh:=hid pI;have uJ:=hid (sG.out.trans t8);obtain⟨u2,bU,aC⟩:=pI.op.row;have kI:(fun w':World=>w'.cell? ⟨sb,11,none⟩=some (.int .i64 (c.i:Int))) (w9.setCell ⟨sb,16,none⟩ (.slice A9 M9 c9)):=(aC.cell 11).trans rfl;have d1:=aC.at 1 (.int .i64 (c.wd:Int)) (by rw[← bp.out];rfl);clear pI t8 bU aC;refine kH hK kI fun hHeld=>?_
        clear hK K;refine bh ?_;clear hHeld;generalize w9.setCell ⟨sb,16,none⟩ (.slice A9 M9 c9)=wn at uh uJ d1 ⊢;go_wp2_with fail;refine(HE.out _ _ uh.out).mono ?_;rintro e w4 ⟨rfl,DN,Ez⟩;go_wp2_with fail;go_ret;exact⟨_,rfl,DN,uJ.out.trans Ez⟩
end
end Go.Proofs.YtolmpehgeinlkaaGreatDoor
