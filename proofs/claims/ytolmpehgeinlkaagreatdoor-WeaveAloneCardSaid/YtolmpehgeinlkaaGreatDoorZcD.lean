/- An operation that is under way: a failed attempt, a record's next word, a step that is opened. -/
import Derived.Test.YtolmpehgeinlkaaGreatDoorZcC
namespace Go.Proofs.YtolmpehgeinlkaaGreatDoor
open Go.RowKit
open Go.Lib (hid)
attribute [local go_sem] Oper.semAt_some
set_option maxHeartbeats 2000000
set_option maxRecDepth 100000
abbrev QOgD0 (a0:Nat) (a1:Kc) (a2 a3 a4:Nat) (a5:Int) (w':World):Prop:=w'.cell? ⟨a0,11,none⟩=some (.int .i64 (a1.i:Int))∧w'.cell? ⟨a0,16,none⟩=some (.slice (some ⟨a2,a3,none⟩) a1.rc.length a4)∧w'.cell? ⟨a2,a3+a1.i,none⟩=some (.int .u32 a5)
section
variable (sb mb lb:Nat) (ty:TypeId) (o:Ob) (c:Kc) (rv:Value) (l:List Int)
theorem fail_o (w:World) (h:St w sb mb lb ty o c rv l) (ht:c.tr<1000):Calls Tryz.prog 173 #[.pointer (some ⟨sb,0,none⟩)] w (Did sb mb lb ty o w rv { c with tr:=c.tr+1,rc:=[],ph:=0,i:=0 } l (.bool (decide ((c.cap:Int)≤(c.tr:Int)+1)))):=by
 obtain⟨u,hu,hr⟩:=h.op.row;have c12:=hr.at 12 (.int .i64 (c.tr:Int));have c16:w.cell? ⟨sb,16,none⟩=some rv:=(hr.cell 16).trans rfl;have f12:=hr.frozen 12;have f16:=hr.frozen 16;have hr2:=(hr.set 12 (.int .i64 ((c.tr:Int)+1))).set 16 (.slice none 0 0);have ht2:=((Tch.refl (fun b=>b=sb) w).set (b:=sb) rfl 12 (.int .i64 ((c.tr:Int)+1))).set (b:=sb) rfl 16 (.slice none 0 0);have hf:=h.op.fits;have hcap:=hf.cap;have HS:=hid (h.upd (c':={ c with tr:=c.tr+1,rc:=[] }) (rv':=.slice none 0 0) ht2 hu hr2 ⟨hf.kd,hf.wd,hf.sl,hf.cap,hf.nr,hf.wd1,hf.nr1,hf.sl1,hf.cap1,hf.rd1,hf.base1,hf.size1,hf.i1,by show c.tr+1≤1000;omega,hf.st1,hf.A0,hf.A1,hf.B0,hf.B1⟩ (.inr ⟨rfl,rfl⟩));have HT:=hid ht2;have hi0:(0:Int)≤(c.tr:Int):=by omega
 have hi1:(c.tr:Int)≤1000:=by omega
 obtain⟨I,hI⟩:∃ x:Int,(c.tr:Int)=x:=⟨_,rfl⟩;rw[hI] at c12 hi0 hi1 HS HT ⊢;have HI:=hid hI;have HC:=hid hcap;clear hI hr hu hr2 ht2 hf h ht hcap;go_enter Tryz.func173,Tryz.ntmps173;go_wp2_with fail;have HG:=hid (go_o sb mb lb ty o _ _ l 0 0 _ HS.out rfl);refine HG.out.mono ?_;rintro e w1 ⟨rfl,hs1,hm1⟩;obtain⟨u1,hu1,hr1⟩:=hs1.op.row;have d12:=hr1.at 12 (.int .i64 ((c.tr+1:Nat):Int));have d3:=hr1.at 3 (.int .i64 o.c);rw[show((c.tr+1:Nat):Int)=I+1 by rw[← HI.out];rfl] at d12;rw[HC.out] at d3;have HS1:=hid hs1.drew;have HM1:=hid (((Mv.own (mb:=mb) (lb:=lb) (rv:=rv) (rv':=.slice none 0 0) HT.out (.inr rfl)).trans hm1).trans (Mv.drew w1 _));clear hr1 hu1 hs1 hm1 HS HT HG;have e12:w1.drew.cell? ⟨sb,12,none⟩=some (.int .i64 (I+1)):=d12;have e3:w1.drew.cell? ⟨sb,3,none⟩=some (.int .i64 (c.cap:Int)):=d3;clear d12 d3;go_wp2_with fail;refine rgn (S:=(fun w':World=>w'.cell? ⟨sb,12,none⟩=some (.int .i64 (I+1))∧w'.cell? ⟨sb,3,none⟩=some (.int .i64 (c.cap:Int)))) ⟨e12,e3⟩ fun wd hw9 hHeld=>?_
 rw[hw9] at HS1 HM1;clear hw9;refine tk4 0 1 2 3 ?_;refine tk4 4 5 6 7 ?_;refine tk2 8 9 ?_;refine tkH 10 ?_;refine dnH ?_;clear hHeld;go_wp2_with fail;go_ret;exact⟨_,rfl,HS1.out,HM1.out⟩
theorem own_app {E:Enc Int} (hE:E=ints .u32) {w':World} {base:Nat} {v':Value} {l:List Int} {z:Int} (h:w'.ownsRow base 22 E.size v' (l.length+1) (E.all l++[.int .u32 z])):Own (ints .u32) 22 base w' v' (l++[z]):=by
 subst hE;exact Own.app (x:=z) h rfl
theorem rec_cell {w:World} {rv:Value} {rb ro n cap:Nat} {r:List Int} {i:Nat} {z:Int} (hv:rv=.slice (some ⟨rb,ro,none⟩) n cap) (h:Own (ints .u32) 22 0 w rv r) (hz:r[i]?=some z):w.cell? ⟨rb,ro+i,none⟩=some (.int .u32 z):=by
 subst hv;obtain⟨A,c',hv,_,_,hsl⟩:=h.sl
 injection hv with hA _ _
 obtain⟨b,off,hA2,_,hc⟩:=hsl i z hz;have:=hc 0 _ rfl;rw[← hA] at hA2
 injection hA2 with hA2
 injection hA2 with h1 h2
 subst h1 h2
 simpa [ints,Enc.of1] using this
theorem wordw_o (frm:Nat) (w:World) (h:St w sb mb lb ty o c rv l) (hw:c.wr=true) (hi:c.i<c.rc.length) (hi2:c.i<1000) (hj:c.base+(frm+c.i)<l.length) (hf1:frm≤1000000):
  Calls Tryz.prog 160 #[.pointer (some ⟨sb,0,none⟩),.int .i64 (frm:Int)] w (Did sb mb lb ty o w rv { c with i:=c.i+1 } (c.wrm l (frm+c.i) (c.rc.getD c.i 0)) (.bool (decide ((c.wd:Int)≤(c.i:Int)+1)))):=by
 obtain⟨u,hu,hr⟩:=h.op.row;have hf:=h.op.fits;obtain⟨A,cap,hrv,hc1,hc2,hsl⟩:=h.op.rc.sl;obtain⟨z,hz⟩:=get_some hi;have hzd:c.rc.getD c.i 0=z:=by rw[List.getD_eq_getElem?_getD,hz];rfl
 have hzb:=h.op.w32.get hz;obtain⟨rb,ro,hA,hrb,hcell⟩:=hsl c.i z hz
 have hzc:w.drew.cell? ⟨rb,ro+c.i,none⟩=some (.int .u32 z):=by
  have:=hcell 0 _ rfl
  simpa [ints,Enc.of1] using this
 subst hA;have h1:=h.drew;obtain⟨u1,hu1,hr1⟩:=h1.op.row;have c11:=hr1.at 11 (.int .i64 (c.i:Int));have c16:=hr1.at 16 (.slice (some ⟨rb,ro,none⟩) c.rc.length cap) (by rw[← hrv];rfl);have c8:=hr.at 8 (.int .i64 c.op);have hw0:=hw;unfold Kc.wr at hw;have hsum:=sum_g (a:=(frm:Int)) (b:=(c.i:Int)) (by omega) (by omega) (by omega) (by omega);have HR:=hid fun W (h:St W sb mb lb ty o c rv l)=>write_o sb mb lb ty o c rv l ((frm:Int)+(c.i:Int)) (frm+c.i) z W h (by omega) hj hzb
 have HH:=hid h1;have HM:=hid (Mv.drew (sb:=sb) (mb:=mb) (lb:=lb) w rv);have HE:=hid fun W (l':List Int) (rv':Value) (h:St W sb mb lb ty o c rv' l')=>each_o sb mb lb ty o c rv' l' (c.wd:Int) W h hi2
 have HWD:=hid hf.wd;have hlen:(c.i:Int)<(c.rc.length:Int):=by omega
 have hI0:(0:Int)≤(c.i:Int):=by omega
 have hI9:(c.i:Int)≤1000:=by omega
 have hI2:((c.i:Int)).toNat=c.i:=by omega
 rw[hzd];have HRV:=hid hrv;have HZ:=hid hz;clear hr hr1 hu hu1 hf hrv hc1 hc2 hsl hz hzd hzb hcell h h1 hj hw0 hf1 hrb hi2;have HI:=hid hi
 have hw':(c.op==2)=true∨((c.op==2)=false∧(c.op==3)=true):=by
  cases h2:(c.op==2) <;> simp[h2] at hw ⊢
  exact hw
 clear hw
 rcases hw' with h2 | ⟨h2',h3⟩
 all_goals
  go_enter Tryz.func160,Tryz.ntmps160;go_wp2_with fail;refine rgn (S:=(QOgD0 sb c rb ro cap z)) ⟨c11,c16,hzc⟩ fun wd hw9 hHeld=>?_
  rw[hw9] at HH HM;clear hw9;refine tk4 0 1 2 3 ?_;refine tk4 4 5 6 7 ?_;refine tk4 8 9 10 11 ?_;refine tk4 12 13 14 15 ?_;refine tkH 16 ?_;refine clH 17 (fun K hK=>?_);go_simp;refine(HR.out _ HH.out).mono ?_;rintro ex wx ⟨rfl,hs1,hm1⟩;have HS1:=hid hs1;have HM1:=hid (HM.out.trans hm1);obtain⟨u2,hu2,hr2⟩:=hs1.op.row;have hSx:(QOgD0 sb c rb ro cap z) wx:=⟨(hr2.cell 11).trans rfl,(hr2.cell 16).trans (by rw[← HRV.out];rfl),rec_cell HRV.out hs1.op.rc HZ.out⟩;clear hs1 hm1 hu2 hr2;refine kH hK hSx fun hHeld=>?_
  clear hK K;refine dnH ?_;obtain⟨u3,hu3,hr3⟩:=HS1.out.op.row;have d1:=hr3.at 1 (.int .i64 (c.wd:Int)) (by rw[← HWD.out];rfl);clear hHeld hSx hr3 hu3;go_wp2_with fail;refine(HE.out _ _ _ HS1.out).mono ?_;rintro e w4 ⟨rfl,hs4,hm4⟩;go_wp2_with fail;go_ret;exact⟨_,rfl,hs4,HM1.out.trans hm4⟩
theorem step_appT {P:Program} {w:World} {ops:Array Oper} {o:Oper} {a:Act} {K:Act→World→Prop} {Q:Exit→Act→World→Prop} {E:Prop} (hgd:o.guard=none) (s x:Operand) (t:TypeId)
  (ho:o.op=.call { callee:=.builtin .append,args:=#[s,x],argTypes:=#[t,t] }) {e:TypeId} {size bytes:Nat} (hT:ElemTy P t e size bytes) (base:Nat)
  {v:Value} {n:Nat} {xs:List Value} (hown:w.ownsRow base e size v n xs) (hs:a.eval s=v) {ad:Addr} {m c:Nat} {news:List Value} (hnews:∀ j u,news[j]?=some u→w.cell? (ad.add j)=some u) (hx:a.eval x=.slice (some ad) m c) (hl:news.length=m*size) (h1:∀ u ∈ news,u.oneCell'=true)
  (h63:n+m≤maxLen) (hbytes:(n+m)*bytes≤140737488355328) (hbase:base≤w.heap.size)
  (h:∀ v' w',w'.ownsRow base e size v' (n+m) (xs++news)→Tch (fun b=>v.ownBlock=some b) w w'→(v'.ownBlock=v.ownBlock∨v'.ownBlock=some w.heap.size)→K (a.put o.dst v') w'):if Region.wanted o (yielded ops a.tmps)=true then Oper.wp P o a w K Q else E:=by
 have hw:Region.wanted o (yielded ops a.tmps)=true:=by simp[Region.wanted,hgd]
 rw[if_pos hw];obtain⟨ht,i,z,hi,hz,hsize,hby,hzs,hsz⟩:=hT;obtain⟨v',w',hr,h2,h3,h4,h5⟩:=run_append_own_at (P:=P) w base t o.type e i z size bytes ht hi hz hsize hby hzs hsz v n xs hown ad m c news hl hnews h1 h63 hbytes hbase;unfold Oper.wp execOp;simp only[ho,resolve,invoke,builtin,Sem.run_bind,Sem.run_pure,Result.andThen_ok,List.map_toArray,List.map_cons,List.map_nil,hs,hx,hr];exact h v' w' h2 (grown_tch h3 fun _ h=>h) h5
theorem own_slice {w:World} {base size n:Nat} {e:TypeId} {v:Value} {xs:List Value} (h:w.ownsRow base e size v n xs):∃ A M c,v=.slice A M c:=by
 rcases h.2 with ⟨rfl,_⟩ | ⟨g,cap,cur,rfl,_⟩
 ·exact⟨_,_,_,rfl⟩
 ·exact⟨_,_,_,rfl⟩
theorem St.app {sb mb lb:Nat} {ty:TypeId} {o:Ob} {c:Kc} {rv v':Value} {l:List Int} {W w9:World} {z:Int} (h:St W sb mb lb ty o c rv l) (hz:0≤z∧z<4294967296) (hown:w9.ownsRow 0 22 1 v' (c.rc.length+1) ((ints .u32).all c.rc++[.int .u32 z])) (ht:Tch (fun b=>rv.ownBlock=some b) W w9) (hob:v'.ownBlock=rv.ownBlock∨v'.ownBlock=some W.heap.size):
  St (w9.setCell ⟨sb,16,none⟩ v') sb mb lb ty o { c with rc:=c.rc++[z] } v' l∧Mv sb mb lb W (w9.setCell ⟨sb,16,none⟩ v') rv v':=by
 obtain⟨u,hu,hr⟩:=h.op.row;have hr9:=hr.tch ht h.op.sep;have hlt:=hr.lt;have hm9:=h.mem.tch ht h.s3 h.s4
 have hml:mb<W.heap.size∧lb<W.heap.size:=by
  obtain⟨k,cc,hr,ho,_⟩:=h.mem;obtain⟨cur,hc⟩:=own_row ho;exact⟨hr.lt,hc.lt⟩
 have hne:∀ b,b<W.heap.size→rv.ownBlock≠some b→v'.ownBlock≠some b:=fun b hb hn e=>by
  rcases hob with q | q
  ·exact hn (q ▸ e)
  ·rw[q] at e;have:=Option.some.inj e;omega
 have hset:Tch (fun b=>b=sb) w9 (w9.setCell ⟨sb,16,none⟩ v'):=(Tch.refl (fun b=>b=sb) w9).set (b:=sb) rfl 16 v';refine⟨⟨⟨⟨u,hu,hr9.set 16 v'⟩,?_,?_,?_,hne sb hlt h.op.sep⟩,hm9.tch hset (fun e=>h.s1 e.symm) (fun e=>h.s2 e.symm),h.s1,h.s2,hne mb hml.1 h.s3,hne lb hml.2 h.s4⟩,⟨(ht.mono fun _ _ q=>.inr (.inr (.inr q))).set (.inl rfl) 16 v',fun b hb=>?_⟩⟩
 ·exact own_tch (own_app rfl hown) hset (fun b hb e=>hne sb hlt h.op.sep (by rw[hb,e]))
 ·intro x hx
  rcases List.mem_append.1 hx with q | q
  ·exact h.op.w32 x q
  ·rw[List.mem_singleton.1 q];exact hz
 ·have hf:=h.op.fits;exact⟨hf.kd,hf.wd,hf.sl,hf.cap,hf.nr,hf.wd1,hf.nr1,hf.sl1,hf.cap1,hf.rd1,hf.base1,hf.size1,hf.i1,hf.tr1,hf.st1,hf.A0,hf.A1,hf.B0,hf.B1⟩
 ·rcases hob with q | q
  ·exact .inl (q ▸ hb)
  ·rw[q] at hb;exact .inr (by have:=Option.some.inj hb;omega)
theorem wordr_o (frm:Nat) (w:World) (h:St w sb mb lb ty o c rv l) (hw:c.wr=false) (hi:c.rc.length≤1000000) (hi2:c.i<1000) (hj:c.base+(frm+c.i)<l.length) (hf1:frm≤1000000):
  Calls Tryz.prog 160 #[.pointer (some ⟨sb,0,none⟩),.int .i64 (frm:Int)] w (Did sb mb lb ty o w rv { c with i:=c.i+1,rc:=c.rc++[c.rdm l (frm+c.i)] } l (.bool (decide ((c.wd:Int)≤(c.i:Int)+1)))):=by
 obtain⟨u,hu,hr⟩:=h.op.row;have hf:=h.op.fits;have hzb:=rdm_bd hj h.mem.w32;have h1:=h.drew;obtain⟨u1,hu1,hr1⟩:=h1.op.row;have c11:=hr1.at 11 (.int .i64 (c.i:Int));have c16:w.drew.cell? ⟨sb,16,none⟩=some rv:=(hr1.cell 16).trans rfl;have c8:=hr.at 8 (.int .i64 c.op);have hsum:=sum_g (a:=(frm:Int)) (b:=(c.i:Int)) (by omega) (by omega) (by omega) (by omega);obtain⟨z,hz⟩:∃ x,c.rdm l (frm+c.i)=x:=⟨_,rfl⟩;have hrd:=fun W (h:St W sb mb lb ty o c rv l)=>read_o sb mb lb ty o c rv l ((frm:Int)+(c.i:Int)) (frm+c.i) W h (by omega) hj
 rw[hz] at hrd hzb ⊢;have HR:=hid hrd;have HH:=hid h1;have HM:=hid (Mv.drew (sb:=sb) (mb:=mb) (lb:=lb) w rv);have HE:=hid fun W (rv':Value) (h:St W sb mb lb ty o { c with rc:=c.rc++[z] } rv' l)=>each_o sb mb lb ty o { c with rc:=c.rc++[z] } rv' l (c.wd:Int) W h hi2
 have HWD:=hid hf.wd;have HZB:=hid hzb;have HI:=hid hi
 have hw':(c.op==2)=false∧(c.op==3)=false:=by
  unfold Kc.wr at hw;cases h2:(c.op==2) <;> simp[h2] at hw ⊢
  exact hw
 obtain⟨h2,h3⟩:=hw';clear hr hr1 hu hu1 hf h h1 hj hw hf1 hi2 hz hrd hzb hi;go_enter Tryz.func160,Tryz.ntmps160;go_wp2_with fail;refine wp_region_held_drew (S:=(fun w':World=>w'.cell? ⟨sb,11,none⟩=some (.int .i64 (c.i:Int)))) (by kernel_rfl) c11 (fun hHeld=>?_);clear c11;generalize w.drew=wd at hHeld c16 HH HM ⊢;have hHeld:(fun w':World=>w'.cell? ⟨sb,11,none⟩=some (.int .i64 (c.i:Int))) wd:=hHeld;refine tk4 0 1 2 3 ?_;refine tk4 5 6 7 8 ?_;refine tk2 9 10 ?_;refine tkH 11 ?_;refine rdH [4,12] ?_;refine cnH (fun K hK=>?_) ?_
 ·go_simp;refine kH hK hHeld fun hHeld=>?_
  clear hK K;refine clH 12 (fun K hK=>?_)
  ·go_simp;refine(HR.out _ HH.out).mono ?_;rintro ex wx ⟨rfl,hs1,hm1⟩;have HS1:=hid hs1;have HM1:=hid (HM.out.trans hm1);obtain⟨u2,hu2,hr2⟩:=hs1.op.row;have hSx:(fun w':World=>w'.cell? ⟨sb,11,none⟩=some (.int .i64 (c.i:Int))) wx:=(hr2.cell 11).trans rfl;have c16x:wx.cell? ⟨sb,16,none⟩=some rv:=(hr2.cell 16).trans rfl;clear hs1 hm1 hu2 hr2;refine kH hK hSx fun hHeld=>?_
   clear hK K;refine clH 13 (fun K hK=>?_)
   ·go_simp;have hba:=(Below.refl wx.heap.size wx).alloc (Nat.le_refl _) (.cells #[.int .u32 z] 22);have HSA:=hid (HS1.out.below hba);have HMA:=hid (HM1.out.trans (Mv.below hba rv));obtain⟨u2,hu2,hr2⟩:=HSA.out.op.row;have hSa:(fun w':World=>w'.cell? ⟨sb,11,none⟩=some (.int .i64 (c.i:Int))) (wx.alloc (.cells #[.int .u32 z] 22)):=(hr2.cell 11).trans rfl;have c16a:(wx.alloc (.cells #[.int .u32 z] 22)).cell? ⟨sb,16,none⟩=some rv:=(hr2.cell 16).trans rfl;clear hba hu2 hr2;refine kH hK hSa fun hHeld=>?_
    clear hK K;refine clH 14 (fun K hK=>?_)
    ·refine step_appT (by rfl) (.tmp 39) (.tmp 48) 23 (by rfl) u32Ty 0 HSA.out.op.rc (by rfl) (cells_new' wx [.int .u32 z] _ _ rfl) (by rfl) (by rfl) (by simp[Value.oneCell']) (by have:=HI.out;unfold maxLen;omega) (by have:=HI.out;omega) (Nat.zero_le _) ?_;intro v' w9 hown9 ht9 hob9;obtain⟨A9,M9,c9,rfl⟩:=own_slice hown9;have HO9:=hid hown9;have HT9:=hid ht9;have HB9:=hid hob9;obtain⟨u2,hu2,hr2⟩:=HSA.out.op.row;have hr9:=hr2.tch ht9 HSA.out.op.sep;have hS9:(fun w':World=>w'.cell? ⟨sb,11,none⟩=some (.int .i64 (c.i:Int))) w9:=(hr9.cell 11).trans rfl;have c16n:w9.cell? ⟨sb,16,none⟩=some rv:=(hr9.cell 16).trans rfl;have f16n:=hr9.frozen 16;clear hown9 ht9 hob9 hu2 hr2 hr9;refine kH hK hS9 fun hHeld=>?_
     clear hK K;refine tk2 15 16 ?_;refine clH 17 (fun K hK=>?_)
     ·go_simp;obtain⟨hsf,hmf⟩:=HSA.out.app HZB.out HO9.out HT9.out HB9.out;have HSF:=hid hsf;have HMF:=hid (HMA.out.trans hmf);obtain⟨u2,hu2,hr2⟩:=hsf.op.row;have hSf:(fun w':World=>w'.cell? ⟨sb,11,none⟩=some (.int .i64 (c.i:Int))) (w9.setCell ⟨sb,16,none⟩ (.slice A9 M9 c9)):=(hr2.cell 11).trans rfl;have d1:=hr2.at 1 (.int .i64 (c.wd:Int)) (by rw[← HWD.out];rfl);clear hsf hmf hu2 hr2;refine kH hK hSf fun hHeld=>?_
      clear hK K;refine dnH ?_;clear hHeld;generalize w9.setCell ⟨sb,16,none⟩ (.slice A9 M9 c9)=wn at HSF HMF d1 ⊢;go_wp2_with fail;refine(HE.out _ _ HSF.out).mono ?_;rintro e w4 ⟨rfl,hs4,hm4⟩;go_wp2_with fail;go_ret;exact⟨_,rfl,hs4,HMF.out.trans hm4⟩
 ·refine cnH (fun K hK=>?_) AllReadyH.nil
  ·go_simp;refine(HR.out _ HH.out).mono ?_;rintro ex wx ⟨rfl,hs1,hm1⟩;have HS1:=hid hs1;have HM1:=hid (HM.out.trans hm1);obtain⟨u2,hu2,hr2⟩:=hs1.op.row;have hSx:(fun w':World=>w'.cell? ⟨sb,11,none⟩=some (.int .i64 (c.i:Int))) wx:=(hr2.cell 11).trans rfl;have c16x:wx.cell? ⟨sb,16,none⟩=some rv:=(hr2.cell 16).trans rfl;clear hs1 hm1 hu2 hr2;refine kH hK hSx fun hHeld=>?_
   clear hK K;refine rdH [4,13] ?_;refine cnH (fun K hK=>?_) ?_
   ·go_simp;refine kH hK hHeld fun hHeld=>?_
    clear hK K;refine clH 13 (fun K hK=>?_)
    ·go_simp;have hba:=(Below.refl wx.heap.size wx).alloc (Nat.le_refl _) (.cells #[.int .u32 z] 22);have HSA:=hid (HS1.out.below hba);have HMA:=hid (HM1.out.trans (Mv.below hba rv));obtain⟨u2,hu2,hr2⟩:=HSA.out.op.row;have hSa:(fun w':World=>w'.cell? ⟨sb,11,none⟩=some (.int .i64 (c.i:Int))) (wx.alloc (.cells #[.int .u32 z] 22)):=(hr2.cell 11).trans rfl;have c16a:(wx.alloc (.cells #[.int .u32 z] 22)).cell? ⟨sb,16,none⟩=some rv:=(hr2.cell 16).trans rfl;clear hba hu2 hr2;refine kH hK hSa fun hHeld=>?_
     clear hK K;refine clH 14 (fun K hK=>?_)
     ·refine step_appT (by rfl) (.tmp 39) (.tmp 48) 23 (by rfl) u32Ty 0 HSA.out.op.rc (by rfl) (cells_new' wx [.int .u32 z] _ _ rfl) (by rfl) (by rfl) (by simp[Value.oneCell']) (by have:=HI.out;unfold maxLen;omega) (by have:=HI.out;omega) (Nat.zero_le _) ?_;intro v' w9 hown9 ht9 hob9;obtain⟨A9,M9,c9,rfl⟩:=own_slice hown9;have HO9:=hid hown9;have HT9:=hid ht9;have HB9:=hid hob9;obtain⟨u2,hu2,hr2⟩:=HSA.out.op.row;have hr9:=hr2.tch ht9 HSA.out.op.sep;have hS9:(fun w':World=>w'.cell? ⟨sb,11,none⟩=some (.int .i64 (c.i:Int))) w9:=(hr9.cell 11).trans rfl;have c16n:w9.cell? ⟨sb,16,none⟩=some rv:=(hr9.cell 16).trans rfl;have f16n:=hr9.frozen 16;clear hown9 ht9 hob9 hu2 hr2 hr9;refine kH hK hS9 fun hHeld=>?_
      clear hK K;refine tk2 15 16 ?_;refine clH 17 (fun K hK=>?_)
      ·go_simp;obtain⟨hsf,hmf⟩:=HSA.out.app HZB.out HO9.out HT9.out HB9.out;have HSF:=hid hsf;have HMF:=hid (HMA.out.trans hmf);obtain⟨u2,hu2,hr2⟩:=hsf.op.row;have hSf:(fun w':World=>w'.cell? ⟨sb,11,none⟩=some (.int .i64 (c.i:Int))) (w9.setCell ⟨sb,16,none⟩ (.slice A9 M9 c9)):=(hr2.cell 11).trans rfl;have d1:=hr2.at 1 (.int .i64 (c.wd:Int)) (by rw[← HWD.out];rfl);clear hsf hmf hu2 hr2;refine kH hK hSf fun hHeld=>?_
       clear hK K;refine dnH ?_;clear hHeld;generalize w9.setCell ⟨sb,16,none⟩ (.slice A9 M9 c9)=wn at HSF HMF d1 ⊢;go_wp2_with fail;refine(HE.out _ _ HSF.out).mono ?_;rintro e w4 ⟨rfl,hs4,hm4⟩;go_wp2_with fail;go_ret;exact⟨_,rfl,hs4,HMF.out.trans hm4⟩
   ·refine cnH (fun K hK=>?_) AllReadyH.nil
    ·go_simp;have hba:=(Below.refl wx.heap.size wx).alloc (Nat.le_refl _) (.cells #[.int .u32 z] 22);have HSA:=hid (HS1.out.below hba);have HMA:=hid (HM1.out.trans (Mv.below hba rv));obtain⟨u2,hu2,hr2⟩:=HSA.out.op.row;have hSa:(fun w':World=>w'.cell? ⟨sb,11,none⟩=some (.int .i64 (c.i:Int))) (wx.alloc (.cells #[.int .u32 z] 22)):=(hr2.cell 11).trans rfl;have c16a:(wx.alloc (.cells #[.int .u32 z] 22)).cell? ⟨sb,16,none⟩=some rv:=(hr2.cell 16).trans rfl;clear hba hu2 hr2;refine kH hK hSa fun hHeld=>?_
     clear hK K;refine clH 4 (fun K hK=>?_)
     ·go_simp;refine kH hK hHeld fun hHeld=>?_
      clear hK K;refine clH 14 (fun K hK=>?_)
      ·refine step_appT (by rfl) (.tmp 39) (.tmp 48) 23 (by rfl) u32Ty 0 HSA.out.op.rc (by rfl) (cells_new' wx [.int .u32 z] _ _ rfl) (by rfl) (by rfl) (by simp[Value.oneCell']) (by have:=HI.out;unfold maxLen;omega) (by have:=HI.out;omega) (Nat.zero_le _) ?_;intro v' w9 hown9 ht9 hob9;obtain⟨A9,M9,c9,rfl⟩:=own_slice hown9;have HO9:=hid hown9;have HT9:=hid ht9;have HB9:=hid hob9;obtain⟨u2,hu2,hr2⟩:=HSA.out.op.row;have hr9:=hr2.tch ht9 HSA.out.op.sep;have hS9:(fun w':World=>w'.cell? ⟨sb,11,none⟩=some (.int .i64 (c.i:Int))) w9:=(hr9.cell 11).trans rfl;have c16n:w9.cell? ⟨sb,16,none⟩=some rv:=(hr9.cell 16).trans rfl;have f16n:=hr9.frozen 16;clear hown9 ht9 hob9 hu2 hr2 hr9;refine kH hK hS9 fun hHeld=>?_
       clear hK K;refine tk2 15 16 ?_;refine clH 17 (fun K hK=>?_)
       ·go_simp;obtain⟨hsf,hmf⟩:=HSA.out.app HZB.out HO9.out HT9.out HB9.out;have HSF:=hid hsf;have HMF:=hid (HMA.out.trans hmf);obtain⟨u2,hu2,hr2⟩:=hsf.op.row;have hSf:(fun w':World=>w'.cell? ⟨sb,11,none⟩=some (.int .i64 (c.i:Int))) (w9.setCell ⟨sb,16,none⟩ (.slice A9 M9 c9)):=(hr2.cell 11).trans rfl;have d1:=hr2.at 1 (.int .i64 (c.wd:Int)) (by rw[← HWD.out];rfl);clear hsf hmf hu2 hr2;refine kH hK hSf fun hHeld=>?_
        clear hK K;refine dnH ?_;clear hHeld;generalize w9.setCell ⟨sb,16,none⟩ (.slice A9 M9 c9)=wn at HSF HMF d1 ⊢;go_wp2_with fail;refine(HE.out _ _ HSF.out).mono ?_;rintro e w4 ⟨rfl,hs4,hm4⟩;go_wp2_with fail;go_ret;exact⟨_,rfl,hs4,HMF.out.trans hm4⟩
end
end Go.Proofs.YtolmpehgeinlkaaGreatDoor
