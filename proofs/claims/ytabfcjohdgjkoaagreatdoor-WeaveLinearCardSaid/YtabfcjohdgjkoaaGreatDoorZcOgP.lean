/- An operation on an object, of whatever kind: its step, whether it is over, its steps, its answer. -/
import Derived.Test.YtabfcjohdgjkoaaGreatDoorZcOgN
namespace Go.Proofs.YtabfcjohdgjkoaaGreatDoor
open Go.RowKit
open Go.Lib (hid)
attribute [local go_sem] Oper.semAt_some
set_option maxHeartbeats 1000000
set_option maxRecDepth 100000
abbrev FN (a0:Nat) (a1:Option Addr) (a2:Kc) (a3:Nat) (w':World):Prop:=w'.cell? ⟨a0,16,none⟩=some (.slice a1 a2.rc.length a3)∧w'.cell? ⟨a0,20,none⟩=some (.int .i64 a2.code)
theorem jG (A:Option Addr) (c:Nat) (l:List Int) (w:World) (hn:l.length≤1000000) (hl:Ws w w.heap.size A l):
  Calls Tryz.prog 94 #[.slice A l.length c] w fun e w'=>∃ v,e=.returned v∧OwnW w.heap.size w' v l∧Below w.heap.size w w':=by
 obtain⟨i0,z,hi,hz,h1,h2,h3,h4⟩:=u32Ty.hi;cases A with
 | none=>
  have h0:l=[]:=by
   cases l with
   | nil=>rfl
   | cons x l=>obtain⟨_,_,h,_⟩:=hl.1 0 x rfl;cases h
  subst h0;have hn:=fun W=>Lib.run_eql_slice_nil (P:=Tryz.prog) W 23 22 none 0 c 0 0 Tryz.underlying23
  clear hl;simp only[List.length_nil];go_enter Tryz.func94,Tryz.ntmps94;go_wp2_with fail;go_ret;exact⟨_,rfl,⟨Own.nil _ _,by simp⟩,Below.refl _ _⟩
 | some a=>
  have hc:∀ (j:Nat) u,((bn .u32).all l)[j]?=some u→w.cell? (a.add j)=some u:=by
   intro j u hu;have eS:(bn .u32).all l=l.map (Value.int .u32):=iI _ _ l;rw[eS,List.getElem?_map] at hu;obtain⟨z,hz,rfl⟩:=Option.map_eq_some_iff.1 hu;obtain⟨_,b',off',hA,_,cJ⟩:=hl.get hz
   injection hA with hA
   subst hA;rw[Addr.add_lit];exact cJ
  have jV:=hid hl.2;clear hl;have ah:=World.ownsRow_lit (base:=w.heap.size) (e:=22) (size:=1) w #[] 0 (Nat.le_refl _) (by simp[maxLen]) rfl
  have aJ:∀ (j:Nat) u,((bn .u32).all l)[j]?=some u→(w.alloc (.cells #[] 22)).cell? (a.add j)=some u:=fun j u hu=>by
   have h:=hc j u hu;rw[World.cell?_alloc_lt w _ _ (aM h)];exact h
  have Oo:=hid aJ;have Gd:=hid ah;have hE:=fun w=>Lib.run_eql_slice_nil (P:=Tryz.prog) w 23 22 (some a) l.length c 0 0 Tryz.underlying23
  clear hc aJ ah;go_enter Tryz.func94,Tryz.ntmps94
  go_wp2_with (first
   | (at_builtin;refine wpList_append_own_at _ rfl _ _ 23 rfl w.heap.size 22 i0 z 1 4 Tryz.underlying23 hi hz h1 h2 h3 h4 _ 0 [] rfl Gd.out a l.length c ((bn .u32).all l) rfl (by rw[Enc.all_len];rfl) Oo.out ((bn .u32).all_one l) (by unfold maxLen;omega) (by omega) (by simp) ?_;intro v' w1 lg uj _ _)
   | go_in)
  go_ret;refine⟨_,rfl,⟨by simpa [Own,bn,Enc.of1] using lg,jV.out⟩,((Below.refl _ w).alloc (Nat.le_refl _) _).trans (gI Gd.out uj (Nat.le_refl _) (by simp))⟩
theorem IQ {w:World} {B n c:Nat} {A:Option Addr} {l:List Int} (h:Own (bn .u32) 22 B w (.slice A n c) l) (hw:W32 l):n=l.length∧Ws w w.heap.size A l:=by
 obtain⟨A',c',hv,_,_,aj⟩:=h.sl
 injection hv with h1 h2 h3
 subst h1 h2 h3;exact⟨rfl,aj,hw.wf⟩
section
variable (sb:Nat) (ty:TypeId) (o:Ob) (c:Kc) (rv mp:Value)
def Kc.sc (c:Kc):Int:=if c.over then c.code else 0
def Kc.sr (c:Kc):List Int:=if c.over then c.rc else []
def GW (c:Kc) (w:World) (e:Ending) (w':World):Prop:=∃ v,e=.returned (.tuple #[v,.int .i64 c.sc])∧OwnW w.heap.size w' v c.sr∧Below w.heap.size w w'
theorem I2 (w:World) (h:OpS w sb ty o c rv mp) (hl:c.rc.length≤1000000):Calls Tryz.prog 173 #[.pointer (some ⟨sb,0,none⟩)] w (GW c w):=by
 obtain⟨u,hu,hr⟩:=h.row;have c22:=hr.at 22 (.bool c.over);have qT:=(Below.refl w.heap.size w).drew;have hd:=h.belo qT;obtain⟨u1,iz,bV⟩:=hd.row;cases ho:c.over
 ·rw[ho] at c22;clear hr bV hu iz h hd qT;go_enter Tryz.func173,Tryz.ntmps173;go_wp2_with fail;go_ret2;exact⟨.slice none 0 0,(by unfold Kc.sc;rw[ho];rfl),(by unfold Kc.sr;rw[ho];exact⟨Own.nil _ _,by simp⟩),Below.refl _ _⟩
 ·rw[ho] at c22;obtain⟨A,M,cc,hv⟩:∃ A M cc,rv=.slice A M cc:=cz h.rc;have c16:=bV.at 16 (.slice A M cc) (by rw[← hv];rfl);have c20:=bV.at 20 (.int .i64 c.code);have fZ:=hd.rc;rw[hv] at fZ;obtain⟨hM,dV⟩:=IQ fZ hd.w32;subst hM;have tN:=hid (jG A cc c.rc w.drew hl dV);have HB:=hid qT;have Mr:=hid ho;clear hr bV hu iz h hd qT fZ dV hl ho hv;go_enter Tryz.func173,Tryz.ntmps173;go_wp2_with fail;refine fg (S:=(FN sb A c cc)) ⟨c16,c20⟩ fun wd bq hHeld=>?_
  rw[bq] at tN HB;clear bq;refine ai 0 1 2 3 ?_;refine ai 5 6 7 8 ?_;refine aV 4 (fun K hK=>?_);go_simp;refine tN.out.mono ?_;rintro ex wx ⟨v,rfl,dg,ar⟩;have aw:(FN sb A c cc) wx:=⟨(ar.cell (p:=⟨sb,16,none⟩) (aM hHeld.1)).trans hHeld.1,(ar.cell (p:=⟨sb,20,none⟩) (aM hHeld.2)).trans hHeld.2⟩;have HV:=hid dg;have kD:=hid (HB.out.trans (ar.mono HB.out.size));refine kH hK aw fun hHeld=>?_
  clear hK K;refine bv 9 10 ?_;refine aY ?_;clear hHeld aw dg ar;go_wp2_with fail;go_ret2;exact⟨v,(by unfold Kc.sc;rw[Mr.out];rfl),(by unfold Kc.sr;rw[Mr.out,if_pos rfl];exact⟨HV.out.1.mono HB.out.size,HV.out.2⟩),kD.out⟩
theorem Dk (w:World) (h:OpS w sb ty o c rv mp):Calls Tryz.prog 172 #[.pointer (some ⟨sb,0,none⟩)] w fun e w'=>e=.returned (.bool c.over)∧w'=w:=by
 obtain⟨u,hu,hr⟩:=h.row;have c22:=hr.at 22 (.bool c.over);clear hr hu h;go_enter Tryz.func172,Tryz.ntmps172;go_wp2_with fail;go_ret;exact⟨rfl,rfl⟩
theorem ij (w:World) (h:OpS w sb ty o c rv mp) (f:Nat) (hf:f=101∨f=102∨f=103∨f=104∨f=105∨f=106):Calls Tryz.prog f #[.pointer (some ⟨sb,0,none⟩)] w fun e w'=>e=.returned (.bool c.over)∧w'=w:=by
 have HE:=hid (Dk sb ty o c rv mp w h);clear h
 rcases hf with rfl | rfl | rfl | rfl | rfl | rfl
 go_enter Tryz.func101,Tryz.ntmps101;rotate_left;go_enter Tryz.func102,Tryz.ntmps102;rotate_left;go_enter Tryz.func103,Tryz.ntmps103;rotate_left;go_enter Tryz.func104,Tryz.ntmps104;rotate_left;go_enter Tryz.func105,Tryz.ntmps105;rotate_left;go_enter Tryz.func106,Tryz.ntmps106;rotate_left
 all_goals
  go_wp2_with fail;refine HE.out.mono ?_;rintro e w1 ⟨rfl,rfl⟩;go_wp2_with fail;go_ret;exact⟨rfl,rfl⟩
theorem gf (w:World) (f:Nat) (hf:f=101∨f=102∨f=103∨f=104∨f=105∨f=106):Calls Tryz.prog f #[.pointer none] w fun e w'=>e=.returned (.bool true)∧w'=w:=by
 rcases hf with rfl | rfl | rfl | rfl | rfl | rfl
 go_enter Tryz.func101,Tryz.ntmps101;rotate_left;go_enter Tryz.func102,Tryz.ntmps102;rotate_left;go_enter Tryz.func103,Tryz.ntmps103;rotate_left;go_enter Tryz.func104,Tryz.ntmps104;rotate_left;go_enter Tryz.func105,Tryz.ntmps105;rotate_left;go_enter Tryz.func106,Tryz.ntmps106;rotate_left
 all_goals
  go_wp2_with fail;go_ret;exact⟨rfl,rfl⟩
theorem ft (w:World) (h:OpS w sb ty o c rv mp) (hl:c.rc.length≤1000000) (f:Nat) (hf:f=107∨f=108∨f=109∨f=110∨f=111∨f=112):Calls Tryz.prog f #[.pointer (some ⟨sb,0,none⟩)] w (GW c w):=by
 have HE:=hid (I2 sb ty o c rv mp w h hl);clear h hl
 rcases hf with rfl | rfl | rfl | rfl | rfl | rfl
 go_enter Tryz.func107,Tryz.ntmps107;rotate_left;go_enter Tryz.func108,Tryz.ntmps108;rotate_left;go_enter Tryz.func109,Tryz.ntmps109;rotate_left;go_enter Tryz.func110,Tryz.ntmps110;rotate_left;go_enter Tryz.func111,Tryz.ntmps111;rotate_left;go_enter Tryz.func112,Tryz.ntmps112;rotate_left
 all_goals
  go_wp2_with fail;refine HE.out.mono ?_;rintro e w1 ⟨v,rfl,hv,hb⟩;have HV:=hid (And.intro hv hb);clear hv hb;go_wp2_with fail;go_ret2;exact⟨v,rfl,HV.out⟩
end
set_option maxHeartbeats 1000000
set_option maxRecDepth 100000
def lr (k j:Int) (sb:Nat):Value:=.pointer (if k=j then some ⟨sb,0,none⟩ else none)
def AY (k:Int) (sb:Nat):Array Value:=#[.int .i64 k,lr k 1 sb,lr k 2 sb,lr k 3 sb,lr k 4 sb,lr k 5 sb,lr k 6 sb]
structure Oj (w:World) (xb sb:Nat) (ty:TypeId) (o:Ob) (c:Kc) (rv mp:Value):Prop where
 row:RowB w xb (AY c.kd sb) 142
 op:OpS w sb ty o c rv mp
 ne:xb≠sb
 rx:rv.ownBlock≠some xb
 mpp:∃ q,mp=.pointer q
theorem Oj.tch {w w':World} {xb sb:Nat} {ty:TypeId} {o:Ob} {c:Kc} {rv mp:Value} {T:Nat→Prop} (h:Oj w xb sb ty o c rv mp) (hk:Tch T w w') (h0:¬ T xb) (h1:¬ T sb) (h2:∀ b,rv.ownBlock=some b→¬ T b):Oj w' xb sb ty o c rv mp:=
 ⟨h.row.tch hk h0,h.op.tch hk h1 h2,h.ne,h.rx,h.mpp⟩
theorem Oj.below {w w':World} {xb sb:Nat} {ty:TypeId} {o:Ob} {c:Kc} {rv mp:Value} (h:Oj w xb sb ty o c rv mp) (hb:Below w.heap.size w w'):Oj w' xb sb ty o c rv mp:=
 h.tch (T:=fun _=>False) (Tch.of_below _ hb) (fun h=>h) (fun h=>h) (fun _ _ h=>h)
def Went (xb sb mb lb:Nat) (ty:TypeId) (o:Ob) (w:World) (rv:Value) (c':Kc) (l':List Int) (e:Ending) (w':World):Prop:=
 ∃ rv',e=.returned (.bool true)∧Oj w' xb sb ty o c' rv' (.pointer (some ⟨mb,0,none⟩))∧MemG w' mb lb l'∧(rv'.ownBlock≠some mb∧rv'.ownBlock≠some lb)∧Mv sb mb lb w w' rv rv'
theorem Went.of {xb sb mb lb:Nat} {ty:TypeId} {o:Ob} {w w':World} {rv rv':Value} {c c':Kc} {l':List Int} {mp:Value} (h:Oj w xb sb ty o c rv mp) (hm:xb≠mb) (hl:xb≠lb) (hk:c'.kd=c.kd) (hs:St w' sb mb lb ty o c' rv' l') (hv:Mv sb mb lb w w' rv rv'):Went xb sb mb lb ty o w rv c' l' (.returned (.bool true)) w':=by
 have hx:¬ fp sb mb lb rv xb:=by
  rintro(q | q | q | q)
  ·exact h.ne q
  ·exact hm q
  ·exact hl q
  ·exact h.rx q
 refine⟨rv',rfl,⟨by rw[hk];exact h.row.tch hv.tch hx,hs.op,h.ne,fun q=>?_,⟨_,rfl⟩⟩,hs.mem,⟨hs.s3,hs.s4⟩,hv⟩
 rcases hv.rv xb q with e | e
 ·exact h.rx e
 ·have:=h.row.lt;omega
section
variable (xb sb mb lb:Nat) (ty:TypeId) (o:Ob) (c:Kc) (rv mp:Value) (l:List Int)
theorem my (k j:Int) (sb:Nat) {Q:Option Addr→Prop} (h1:k=j→Q (some ⟨sb,0,none⟩)) (h0:k≠j→Q none):∃ p,lr k j sb=.pointer p∧Q p:=by
 unfold lr
 by_cases q:k=j
 ·rw[if_pos q];exact⟨_,rfl,h1 q⟩
 ·rw[if_neg q];exact⟨_,rfl,h0 q⟩
def TU (k:Int):Nat:=match k.toNat with
 | 1=>95
 | 2=>96
 | 3=>97
 | 4=>98
 | 5=>99
 | _=>100
def TS (k:Int):Nat:=match k.toNat with
 | 1=>107
 | 2=>108
 | 3=>109
 | 4=>110
 | 5=>111
 | _=>112
theorem Ba (w:World) (h:Oj w xb sb ty o c rv mp) (hI:Kc.Inv c) (P:Bool→World→Prop) (HS:Calls Tryz.prog (TU c.kd) #[.pointer (some ⟨sb,0,none⟩),.pointer (some ⟨mb,0,none⟩)] w fun e w'=>∃ b,e=.returned (.bool b)∧P b w'):Calls Tryz.prog 59 #[.pointer (some ⟨xb,0,none⟩),.pointer (some ⟨mb,0,none⟩)] w fun e w'=>∃ b,e=.returned (.bool b)∧P b w':=by
 rcases hI.sta.kd with q | q | q | q | q | q
 all_goals
  have c0:=h.row.at 0 (.int .i64 c.kd);have c1:=h.row.at 1 (lr c.kd 1 sb);have c2:=h.row.at 2 (lr c.kd 2 sb);have c3:=h.row.at 3 (lr c.kd 3 sb);have c4:=h.row.at 4 (lr c.kd 4 sb);have c5:=h.row.at 5 (lr c.kd 5 sb);have c6:=h.row.at 6 (lr c.kd 6 sb);rw[q] at c0 HS;simp[lr,q] at c1 c2 c3 c4 c5 c6;have HS:=hid HS;clear h hI q;go_enter Tryz.func59,Tryz.ntmps59;go_wp2_with fail;refine HS.out.mono ?_;rintro e w1 ⟨b,rfl,hp⟩;have HP:=hid hp;clear hp;go_wp2_with fail;go_ret;exact⟨b,rfl,HP.out⟩
theorem uC (w:World) (h:Oj w xb sb ty o c rv mp) (hI:Kc.Inv c) (P:Value→Int→World→Prop) (HS:Calls Tryz.prog (TS c.kd) #[.pointer (some ⟨sb,0,none⟩)] w fun e w'=>∃ v n,e=.returned (.tuple #[v,.int .i64 n])∧P v n w'):Calls Tryz.prog 61 #[.pointer (some ⟨xb,0,none⟩)] w fun e w'=>∃ v n,e=.returned (.tuple #[v,.int .i64 n])∧P v n w':=by
 rcases hI.sta.kd with q | q | q | q | q | q
 all_goals
  have c0:=h.row.at 0 (.int .i64 c.kd);have c1:=h.row.at 1 (lr c.kd 1 sb);have c2:=h.row.at 2 (lr c.kd 2 sb);have c3:=h.row.at 3 (lr c.kd 3 sb);have c4:=h.row.at 4 (lr c.kd 4 sb);have c5:=h.row.at 5 (lr c.kd 5 sb);have c6:=h.row.at 6 (lr c.kd 6 sb);rw[q] at c0 HS;simp[lr,q] at c1 c2 c3 c4 c5 c6;have HS:=hid HS;clear h hI q;go_enter Tryz.func61,Tryz.ntmps61;go_wp2_with fail;refine HS.out.mono ?_;rintro e w1 ⟨v,n,rfl,hp⟩;have HP:=hid hp;clear hp;go_wp2_with fail;go_ret2;exact⟨v,n,rfl,HP.out⟩
theorem xN (w:World) (h:Oj w xb sb ty o c rv mp) (hm:MemG w mb lb l) (hI:Kc.Inv c) (eq:c.can l=true) (s1:sb≠mb) (s2:sb≠lb) (s3:rv.ownBlock≠some mb) (s4:rv.ownBlock≠some lb) (s5:xb≠mb) (s6:xb≠lb) (hT:Tab64 w) (hn:¬ fp sb mb lb rv 0):Calls Tryz.prog 59 #[.pointer (some ⟨xb,0,none⟩),.pointer (some ⟨mb,0,none⟩)] w (Went xb sb mb lb ty o w rv (c.step l).1 (c.step l).2):=by
 have dg:=(ke eq).1;have Oi:(c.step l).1.kd=c.kd:=(Kc.left_step (l:=l) dg hI.sta.wd1 hI.sta.nr1 hI.sta.cap1).2.1;have fw:=Ba xb sb mb ty o c rv mp w h hI (fun b w1=>b=true∧∃ rv',St w1 sb mb lb ty o (c.step l).1 rv' (c.step l).2∧Mv sb mb lb w w1 rv rv');refine(fw ?_).mono fun e w1 q=>?_
 ·rcases hI.sta.kd with q | q | q | q | q | q <;> rw[q]
  ·exact(qO sb mb lb ty o c rv mp l w h.op hm h.mpp hI q eq s1 s2 s3 s4 hT hn).mono fun _ _ ⟨rv1,e,hs,hv⟩=>⟨_,e,rfl,rv1,hs,hv⟩
  ·exact(qC sb mb lb ty o c rv mp l w h.op hm h.mpp hI q eq s1 s2 s3 s4 hT hn).mono fun _ _ ⟨rv1,e,hs,hv⟩=>⟨_,e,rfl,rv1,hs,hv⟩
  ·exact(tv sb mb lb ty o c rv mp l w h.op hm h.mpp hI q eq s1 s2 s3 s4 hT hn).mono fun _ _ ⟨rv1,e,hs,hv⟩=>⟨_,e,rfl,rv1,hs,hv⟩
  ·exact(rp sb mb lb ty o c rv mp l w h.op hm h.mpp hI q eq s1 s2 s3 s4 hT hn).mono fun _ _ ⟨rv1,e,hs,hv⟩=>⟨_,e,rfl,rv1,hs,hv⟩
  ·exact(sf sb mb lb ty o c rv mp l w h.op hm h.mpp hI q eq s1 s2 s3 s4 hT hn).mono fun _ _ ⟨rv1,e,hs,hv⟩=>⟨_,e,rfl,rv1,hs,hv⟩
  ·exact(qI sb mb lb ty o c rv mp l w h.op hm h.mpp hI q eq s1 s2 s3 s4 hT hn).mono fun _ _ ⟨rv1,e,hs,hv⟩=>⟨_,e,rfl,rv1,hs,hv⟩
 ·obtain⟨b,rfl,rfl,rv1,hs,hv⟩:=q;exact Went.of h s5 s6 Oi hs hv
theorem xJ (w:World) (h:Oj w xb sb ty o c rv mp) (hI:Kc.Inv c):Calls Tryz.prog 61 #[.pointer (some ⟨xb,0,none⟩)] w (GW c w):=by
 have hl:c.rc.length≤1000000:=by have:=hI.gen.rcl;have:=hI.st;omega
 have fw:=uC xb sb ty o c rv mp w h hI (fun v n w1=>n=c.sc∧OwnW w.heap.size w1 v c.sr∧Below w.heap.size w w1);refine(fw ?_).mono fun e w1 q=>?_
 ·rcases hI.sta.kd with q | q | q | q | q | q <;> rw[q]
  ·exact(ft sb ty o c rv mp w h.op hl _ (by decide)).mono fun _ _ ⟨v,e,hv,hb⟩=>⟨v,_,e,rfl,hv,hb⟩
  ·exact(ft sb ty o c rv mp w h.op hl _ (by decide)).mono fun _ _ ⟨v,e,hv,hb⟩=>⟨v,_,e,rfl,hv,hb⟩
  ·exact(ft sb ty o c rv mp w h.op hl _ (by decide)).mono fun _ _ ⟨v,e,hv,hb⟩=>⟨v,_,e,rfl,hv,hb⟩
  ·exact(ft sb ty o c rv mp w h.op hl _ (by decide)).mono fun _ _ ⟨v,e,hv,hb⟩=>⟨v,_,e,rfl,hv,hb⟩
  ·exact(ft sb ty o c rv mp w h.op hl _ (by decide)).mono fun _ _ ⟨v,e,hv,hb⟩=>⟨v,_,e,rfl,hv,hb⟩
  ·exact(ft sb ty o c rv mp w h.op hl _ (by decide)).mono fun _ _ ⟨v,e,hv,hb⟩=>⟨v,_,e,rfl,hv,hb⟩
 ·obtain⟨v,n,rfl,rfl,hv,hb⟩:=q;exact⟨v,rfl,hv,hb⟩
theorem ED (w:World) (h:Oj w xb sb ty o c rv mp) (hI:Kc.Inv c):Calls Tryz.prog 60 #[.pointer (some ⟨xb,0,none⟩)] w fun e w'=>e=.returned (.bool c.over)∧w'=w:=by
 obtain⟨p1,e1,b1,h1,x1,y1⟩:∃ p,lr c.kd 1 sb=.pointer p∧∃ b,Calls Tryz.prog 101 #[.pointer p] w (fun e w'=>e=.returned (.bool b)∧w'=w)∧(c.kd=1→b=c.over)∧(b=false→c.over=false):=my _ _ _ (fun _=>⟨_,ij sb ty o c rv mp w h.op _ (by decide),fun _=>rfl,fun e=>e⟩) (fun q=>⟨_,gf _ _ (by decide),fun z=>absurd z q,fun z=>by cases z⟩);have c1:w.cell? ⟨xb,1,none⟩=some (.pointer p1):=(h.row.cell 1).trans (congrArg some e1);have H1:=hid h1;have X1:=hid (And.intro x1 y1);clear e1 h1 x1 y1;obtain⟨p2,e2,b2,h2,x2,y2⟩:∃ p,lr c.kd 2 sb=.pointer p∧∃ b,Calls Tryz.prog 102 #[.pointer p] w (fun e w'=>e=.returned (.bool b)∧w'=w)∧(c.kd=2→b=c.over)∧(b=false→c.over=false):=my _ _ _ (fun _=>⟨_,ij sb ty o c rv mp w h.op _ (by decide),fun _=>rfl,fun e=>e⟩) (fun q=>⟨_,gf _ _ (by decide),fun z=>absurd z q,fun z=>by cases z⟩);have c2:w.cell? ⟨xb,2,none⟩=some (.pointer p2):=(h.row.cell 2).trans (congrArg some e2);have H2:=hid h2;have X2:=hid (And.intro x2 y2);clear e2 h2 x2 y2;obtain⟨p3,e3,b3,h3,x3,y3⟩:∃ p,lr c.kd 3 sb=.pointer p∧∃ b,Calls Tryz.prog 103 #[.pointer p] w (fun e w'=>e=.returned (.bool b)∧w'=w)∧(c.kd=3→b=c.over)∧(b=false→c.over=false):=my _ _ _ (fun _=>⟨_,ij sb ty o c rv mp w h.op _ (by decide),fun _=>rfl,fun e=>e⟩) (fun q=>⟨_,gf _ _ (by decide),fun z=>absurd z q,fun z=>by cases z⟩);have c3:w.cell? ⟨xb,3,none⟩=some (.pointer p3):=(h.row.cell 3).trans (congrArg some e3);have H3:=hid h3;have X3:=hid (And.intro x3 y3);clear e3 h3 x3 y3;obtain⟨p4,e4,b4,h4,x4,y4⟩:∃ p,lr c.kd 4 sb=.pointer p∧∃ b,Calls Tryz.prog 104 #[.pointer p] w (fun e w'=>e=.returned (.bool b)∧w'=w)∧(c.kd=4→b=c.over)∧(b=false→c.over=false):=my _ _ _ (fun _=>⟨_,ij sb ty o c rv mp w h.op _ (by decide),fun _=>rfl,fun e=>e⟩) (fun q=>⟨_,gf _ _ (by decide),fun z=>absurd z q,fun z=>by cases z⟩);have c4:w.cell? ⟨xb,4,none⟩=some (.pointer p4):=(h.row.cell 4).trans (congrArg some e4);have H4:=hid h4;have X4:=hid (And.intro x4 y4);clear e4 h4 x4 y4;obtain⟨p5,e5,b5,h5,x5,y5⟩:∃ p,lr c.kd 5 sb=.pointer p∧∃ b,Calls Tryz.prog 105 #[.pointer p] w (fun e w'=>e=.returned (.bool b)∧w'=w)∧(c.kd=5→b=c.over)∧(b=false→c.over=false):=my _ _ _ (fun _=>⟨_,ij sb ty o c rv mp w h.op _ (by decide),fun _=>rfl,fun e=>e⟩) (fun q=>⟨_,gf _ _ (by decide),fun z=>absurd z q,fun z=>by cases z⟩);have c5:w.cell? ⟨xb,5,none⟩=some (.pointer p5):=(h.row.cell 5).trans (congrArg some e5);have H5:=hid h5;have X5:=hid (And.intro x5 y5);clear e5 h5 x5 y5;obtain⟨p6,e6,b6,h6,x6,y6⟩:∃ p,lr c.kd 6 sb=.pointer p∧∃ b,Calls Tryz.prog 106 #[.pointer p] w (fun e w'=>e=.returned (.bool b)∧w'=w)∧(c.kd=6→b=c.over)∧(b=false→c.over=false):=my _ _ _ (fun _=>⟨_,ij sb ty o c rv mp w h.op _ (by decide),fun _=>rfl,fun e=>e⟩) (fun q=>⟨_,gf _ _ (by decide),fun z=>absurd z q,fun z=>by cases z⟩);have c6:w.cell? ⟨xb,6,none⟩=some (.pointer p6):=(h.row.cell 6).trans (congrArg some e6);have H6:=hid h6;have X6:=hid (And.intro x6 y6);clear e6 h6 x6 y6;have J6:=hid hI.sta.kd;clear h hI;go_enter Tryz.func60,Tryz.ntmps60;go_wp2_with fail;refine H1.out.mono ?_;rintro e w' ⟨rfl,hw⟩;subst hw;cases b1
 ·go_wp2_with fail;go_ret;rw[X1.out.2 (by trivial)];exact⟨rfl,rfl⟩
 go_wp2_with fail;refine H2.out.mono ?_;rintro e w' ⟨rfl,hw⟩;subst hw;cases b2
 ·go_wp2_with fail;go_ret;rw[X2.out.2 (by trivial)];exact⟨rfl,rfl⟩
 go_wp2_with fail;refine H3.out.mono ?_;rintro e w' ⟨rfl,hw⟩;subst hw;cases b3
 ·go_wp2_with fail;go_ret;rw[X3.out.2 (by trivial)];exact⟨rfl,rfl⟩
 go_wp2_with fail;refine H4.out.mono ?_;rintro e w' ⟨rfl,hw⟩;subst hw;cases b4
 ·go_wp2_with fail;go_ret;rw[X4.out.2 (by trivial)];exact⟨rfl,rfl⟩
 go_wp2_with fail;refine H5.out.mono ?_;rintro e w' ⟨rfl,hw⟩;subst hw;cases b5
 ·go_wp2_with fail;go_ret;rw[X5.out.2 (by trivial)];exact⟨rfl,rfl⟩
 go_wp2_with fail;refine H6.out.mono ?_;rintro e w' ⟨rfl,hw⟩;subst hw;cases b6
 ·go_wp2_with fail;go_ret;rw[X6.out.2 (by trivial)];exact⟨rfl,rfl⟩
 go_wp2_with fail;go_ret
 rcases J6.out with q | q | q | q | q | q
 ·rw[← X1.out.1 q];exact⟨rfl,rfl⟩
 ·rw[← X2.out.1 q];exact⟨rfl,rfl⟩
 ·rw[← X3.out.1 q];exact⟨rfl,rfl⟩
 ·rw[← X4.out.1 q];exact⟨rfl,rfl⟩
 ·rw[← X5.out.1 q];exact⟨rfl,rfl⟩
 ·rw[← X6.out.1 q];exact⟨rfl,rfl⟩
end
theorem xL (w:World):Calls Tryz.prog 60 #[.pointer none] w fun e w'=>e=.returned (.bool true)∧w'=w:=by
 go_enter Tryz.func60,Tryz.ntmps60;go_wp2_with fail;go_ret;exact⟨rfl,rfl⟩
end Go.Proofs.YtabfcjohdgjkoaaGreatDoor
