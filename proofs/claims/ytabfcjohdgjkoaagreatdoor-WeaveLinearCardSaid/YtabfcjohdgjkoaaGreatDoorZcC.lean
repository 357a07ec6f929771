/- An operation that is under way, and what its own methods do. -/
import Derived.Test.YtabfcjohdgjkoaaGreatDoorZcB
namespace Go.Proofs.YtabfcjohdgjkoaaGreatDoor
open Go.RowKit
open Go.Lib (hid)
attribute [local go_sem] Oper.semAt_some
set_option maxHeartbeats 1000000
set_option maxRecDepth 100000
abbrev pK (a0 a1:Nat) (a2:Int) (w':World):Prop:=w'.cell? ⟨a0,17,none⟩=some (.pointer (some ⟨a1,0,none⟩))∧w'.cell? ⟨a0,18,none⟩=some (.int .i64 a2)
theorem wk {w:World} {mb lb:Nat} {l:List Int} (h:MemG w mb lb l) {i:Nat} (hi:i<l.length) {z:Int} (hz:0≤z∧z<4294967296):MemG (w.setCell ⟨lb,i,none⟩ (.int .u32 z)) mb lb (l.set i z):=by
 obtain⟨k,c,hr,ho,hn,hl,hw⟩:=h;exact⟨k,c,by rw[List.length_set];exact hr.other lb i _ (fun e=>hn e.symm),by rw[List.length_set];exact EI ho hi z,hn,by simpa using hl,hw.set i hz⟩
theorem uZ (mb lb:Nat) (l:List Int) (at':Int) (w:World) (hm:MemG w mb lb l) (h0:0≤at') (h1:at'<l.length):
  ∃ W1,Calls Tryz.prog 267 #[.pointer (some ⟨mb,0,none⟩),.int .i64 at'] w (fun e w'=>e=.returned (.tuple #[.pointer (some ⟨lb,at'.toNat,none⟩),.int .i64 0])∧w'=W1)∧Tch (fun b=>b=mb) w W1∧MemG W1 mb lb l:=by
 obtain⟨k,c,hr,ho,hn,hl,hw⟩:=hm;refine⟨_,I7 mb l.length c lb k at' w hr hl h0 h1,(Tch.refl (fun b=>b=mb) w).set (b:=mb) rfl 1 _,?_⟩;exact⟨_,c,hr.set 1 _,bl (T:=fun b=>b=mb) ho ((Tch.refl (fun b=>b=mb) w).set (b:=mb) rfl 1 _) (fun b hb e=>hn ((Option.some.inj hb).trans e)),hn,hl,hw⟩
theorem oJ {w:World} {mb lb:Nat} {l:List Int} (h:MemG w mb lb l) {i:Nat} {z:Int} (hz:l[i]?=some z):w.cell? ⟨lb,i,none⟩=some (.int .u32 z):=by
 obtain⟨k,c,hr,ho,hn,hl,hw⟩:=h;exact Bb ho hz
theorem kz {w:World} {mb lb:Nat} {l:List Int} (h:MemG w mb lb l) (i:Nat):w.frozen? ⟨lb,i,none⟩=false:=by
 obtain⟨k,c,hr,ho,hn,hl,hw⟩:=h;exact eK ho i
theorem qQ {l:List Int} {at' z:Int} (h0:0≤at') (hz:l[at'.toNat]?=some z):at'<l.length:=by
 have:=bQ hz;omega
theorem IS (mb lb:Nat) (l:List Int) (at' z:Int) (w:World) (hm:MemG w mb lb l) (h0:0≤at') (hz:l[at'.toNat]?=some z):
  Calls Tryz.prog 248 #[.pointer (some ⟨mb,0,none⟩),.int .i64 at'] w fun e w'=>e=.returned (.tuple #[.int .u32 z,.int .i64 0])∧Tch (fun b=>b=mb) w w'∧MemG w' mb lb l:=by
 have aJ:=bQ hz;obtain⟨W1,hw,ht,fY⟩:=uZ mb lb l at' w hm h0 (qQ h0 hz);have l0:=oJ fY hz;have f0:=kz fY at'.toNat;have HW:=hid hw;have HT:=hid ht;have HM:=hid fY;have HZ:=hid hz;have HL:=hid aJ;clear hw ht fY hm hz aJ;go_enter Tryz.func248,Tryz.ntmps248;go_wp2_with fail;refine HW.out.mono ?_;rintro e w1 ⟨rfl,rfl⟩;go_wp2_with fail;go_ret2;exact⟨rfl,HT.out,HM.out⟩
theorem Fr (mb lb:Nat) (l:List Int) (at' z v:Int) (w:World) (hm:MemG w mb lb l) (h0:0≤at') (hz:l[at'.toNat]?=some z) (hv:0≤v∧v<4294967296):
  Calls Tryz.prog 249 #[.pointer (some ⟨mb,0,none⟩),.int .i64 at',.int .u32 v] w fun e w'=>e=.returned (.int .i64 0)∧Tch (fun b=>b=mb∨b=lb) w w'∧MemG w' mb lb (l.set at'.toNat v):=by
 have aJ:=bQ hz;obtain⟨W1,hw,ht,fY⟩:=uZ mb lb l at' w hm h0 (qQ h0 hz);have l0:=oJ fY hz;have f0:=kz fY at'.toNat;have HW:=hid hw;have HT:=hid ht;have HM:=hid fY;have HZ:=hid hz;have HL:=hid aJ;clear hw ht fY hm hz aJ;have HV:=hid hv;clear hv;go_enter Tryz.func249,Tryz.ntmps249;go_wp2_with fail;refine HW.out.mono ?_;rintro e w1 ⟨rfl,rfl⟩;go_wp2_with fail;go_ret;exact⟨rfl,(HT.out.mono fun _ _=>.inl).set (.inr rfl) _ _,wk HM.out HL.out HV.out⟩
theorem Ky (mb lb:Nat) (l:List Int) (at' z was now:Int) (w:World) (hm:MemG w mb lb l) (h0:0≤at') (hz:l[at'.toNat]?=some z) (hv:0≤now∧now<4294967296):
  Calls Tryz.prog 252 #[.pointer (some ⟨mb,0,none⟩),.int .i64 at',.int .u32 was,.int .u32 now] w fun e w'=>∃ b,e=.returned (.tuple #[.bool b,.int .i64 0])∧Tch (fun b=>b=mb∨b=lb) w w'∧MemG w' mb lb (if z=was then l.set at'.toNat now else l):=by
 have aJ:=bQ hz;obtain⟨W1,hw,ht,fY⟩:=uZ mb lb l at' w hm h0 (qQ h0 hz);have l0:=oJ fY hz;have f0:=kz fY at'.toNat;have HW:=hid hw;have HT:=hid ht;have HM:=hid fY;have HZ:=hid hz;have HL:=hid aJ;clear hw ht fY hm hz aJ;have HV:=hid hv;clear hv
 by_cases hq:z=was
 ·subst hq;have eZ:(z != z)=false:=by simp
  rw[if_pos rfl];go_enter Tryz.func252,Tryz.ntmps252;go_wp2_with fail;refine HW.out.mono ?_;rintro e w1 ⟨rfl,rfl⟩;go_wp2_with fail;go_ret2;exact⟨_,rfl,(HT.out.mono fun _ _=>.inl).set (.inr rfl) _ _,wk HM.out HL.out HV.out⟩
 ·have eZ:(z != was)=true:=by simpa using hq
  rw[if_neg hq];have HQ:=hid hq;clear hq;go_enter Tryz.func252,Tryz.ntmps252;go_wp2_with fail;refine HW.out.mono ?_;rintro e w1 ⟨rfl,rfl⟩;go_wp2_with fail;go_ret2;exact⟨_,rfl,HT.out.mono fun _ _=>.inl,HM.out⟩
theorem II (mb lb:Nat) (l:List Int) (w:World) (hm:MemG w mb lb l):Calls Tryz.prog 200 #[.pointer (some ⟨mb,0,none⟩)] w fun e w'=>e=.returned (.int .i64 l.length)∧w'=w:=by
 obtain⟨k,c,hr,-,-,hl,-⟩:=hm;have c0:=(hr.cell 0).trans rfl;clear hr;go_enter Tryz.func200,Tryz.ntmps200;go_wp2_with fail;go_ret;exact⟨rfl,rfl⟩
section
variable (sb mb lb:Nat) (ty:TypeId) (cs:Array Value) (l:List Int) (base:Int)
theorem tF {a b:Int} (h0:0≤a) (h1:a≤1000000000) (h2:0≤b) (h3:b≤1000000000):IntKind.i64.wrap (a+b)=a+b:=by
 simp[IntKind.wrap,IntKind.signed,IntKind.bits];omega
theorem Dh (i z:Int) (w:World) (hc:RowB w sb cs ty) (hp:cs[17]?=some (.pointer (some ⟨mb,0,none⟩))) (hb:cs[18]?=some (.int .i64 base)) (hm:MemG w mb lb l) (hs:sb≠mb) (h0:0≤base) (hi:0≤i) (fy:i≤1000000) (hz:l[(base+i).toNat]?=some z):
  Calls Tryz.prog 201 #[.pointer (some ⟨sb,0,none⟩),.int .i64 i] w fun e w'=>e=.returned (.int .u32 z)∧Tch (fun b=>b=mb) w w'∧MemG w' mb lb l:=by
 have aJ:=bQ hz;have bf:=hm.len;have Ej:=tF h0 (by omega) hi (by omega);have jY:Tch (fun b=>b=mb) w w.drew:=(Tch.refl _ w).drew;have z8:¬ (fun b=>b=mb) sb:=by exact hs
 have sC:=hc.tch jY z8;have HM:=hid (hm.tch (T:=fun _=>False) (Tch.refl _ w).drew (fun h=>h) (fun h=>h));have HT:=hid jY;have c17:=(sC.cell 17).trans hp;have c18:=(sC.cell 18).trans hb;have HR:=hid fun W (hm:MemG W mb lb l)=>IS mb lb l (base+i) z W hm (by omega) hz
 have HN:=hid z8;clear jY sC hc hm z8 hz aJ bf hp hb;go_enter Tryz.func201,Tryz.ntmps201;go_wp2_with fail;refine fg (S:=(pK sb mb base)) ⟨c17,c18⟩ fun wd bq hHeld=>?_
 rw[bq] at HM HT;clear bq;refine ai 0 1 2 3 ?_;refine ai 4 5 6 7 ?_;refine bv 8 9 ?_;refine aV 10 (fun K hK=>?_);go_simp;refine(HR.out _ HM.out).mono ?_;rintro ex wx ⟨rfl,ht,Ig⟩;have aw:(pK sb mb base) wx:=⟨ht.cell hHeld.1 HN.out,ht.cell hHeld.2 HN.out⟩;refine kH hK aw fun hHeld=>?_
 clear hK K;refine ai 11 12 13 14 ?_;refine aX 15 ?_;refine aY ?_;have LJ:=HT.out.trans ht;clear hHeld aw ht;go_wp2_with fail;go_ret;exact⟨rfl,LJ,Ig⟩
theorem yZ (i z v:Int) (w:World) (hc:RowB w sb cs ty) (hp:cs[17]?=some (.pointer (some ⟨mb,0,none⟩))) (hb:cs[18]?=some (.int .i64 base)) (hm:MemG w mb lb l) (hs:sb≠mb) (cO:sb≠lb) (h0:0≤base) (hi:0≤i) (fy:i≤1000000) (hz:l[(base+i).toNat]?=some z) (hv:0≤v∧v<4294967296):
  Calls Tryz.prog 205 #[.pointer (some ⟨sb,0,none⟩),.int .i64 i,.int .u32 v] w fun e w'=>e=.returned (.tuple #[])∧Tch (fun b=>b=mb∨b=lb) w w'∧MemG w' mb lb (l.set (base+i).toNat v):=by
 have aJ:=bQ hz;have bf:=hm.len;have Ej:=tF h0 (by omega) hi (by omega);have jY:Tch (fun b=>b=mb∨b=lb) w w.drew:=(Tch.refl _ w).drew;have z8:¬ (fun b=>b=mb∨b=lb) sb:=by rintro(h | h);exact hs h;exact cO h
 have sC:=hc.tch jY z8;have HM:=hid (hm.tch (T:=fun _=>False) (Tch.refl _ w).drew (fun h=>h) (fun h=>h));have HT:=hid jY;have c17:=(sC.cell 17).trans hp;have c18:=(sC.cell 18).trans hb;have HR:=hid fun W (hm:MemG W mb lb l)=>Fr mb lb l (base+i) z v W hm (by omega) hz hv
 have HN:=hid z8;clear jY sC hc hm z8 hz aJ bf hp hb;go_enter Tryz.func205,Tryz.ntmps205;go_wp2_with fail;refine fg (S:=(pK sb mb base)) ⟨c17,c18⟩ fun wd bq hHeld=>?_
 rw[bq] at HM HT;clear bq;refine ai 0 1 2 3 ?_;refine ai 4 5 6 7 ?_;refine bv 8 9 ?_;refine aX 10 ?_;refine aV 11 (fun K hK=>?_);go_simp;refine(HR.out _ HM.out).mono ?_;rintro ex wx ⟨rfl,ht,Ig⟩;have aw:(pK sb mb base) wx:=⟨ht.cell hHeld.1 HN.out,ht.cell hHeld.2 HN.out⟩;refine kH hK aw fun hHeld=>?_
 clear hK K;refine aY ?_;have LJ:=HT.out.trans ht;clear hHeld aw ht
 go_end0
 exact⟨rfl,LJ,Ig⟩
theorem Di (i z was now:Int) (w:World) (hc:RowB w sb cs ty) (hp:cs[17]?=some (.pointer (some ⟨mb,0,none⟩))) (hb:cs[18]?=some (.int .i64 base)) (hm:MemG w mb lb l) (hs:sb≠mb) (cO:sb≠lb) (h0:0≤base) (hi:0≤i) (fy:i≤1000000) (hz:l[(base+i).toNat]?=some z) (hv:0≤now∧now<4294967296):
  Calls Tryz.prog 209 #[.pointer (some ⟨sb,0,none⟩),.int .i64 i,.int .u32 was,.int .u32 now] w fun e w'=>e=.returned (.tuple #[])∧Tch (fun b=>b=mb∨b=lb) w w'∧MemG w' mb lb (if z=was then l.set (base+i).toNat now else l):=by
 have aJ:=bQ hz;have bf:=hm.len;have Ej:=tF h0 (by omega) hi (by omega);have jY:Tch (fun b=>b=mb∨b=lb) w w.drew:=(Tch.refl _ w).drew;have z8:¬ (fun b=>b=mb∨b=lb) sb:=by rintro(h | h);exact hs h;exact cO h
 have sC:=hc.tch jY z8;have HM:=hid (hm.tch (T:=fun _=>False) (Tch.refl _ w).drew (fun h=>h) (fun h=>h));have HT:=hid jY;have c17:=(sC.cell 17).trans hp;have c18:=(sC.cell 18).trans hb;have HR:=hid fun W (hm:MemG W mb lb l)=>Ky mb lb l (base+i) z was now W hm (by omega) hz hv
 have HN:=hid z8;clear jY sC hc hm z8 hz aJ bf hp hb;go_enter Tryz.func209,Tryz.ntmps209;go_wp2_with fail;refine fg (S:=(pK sb mb base)) ⟨c17,c18⟩ fun wd bq hHeld=>?_
 rw[bq] at HM HT;clear bq;refine ai 0 1 2 3 ?_;refine ai 4 5 6 7 ?_;refine ai 8 9 10 11 ?_;refine aV 12 (fun K hK=>?_);go_simp;refine(HR.out _ HM.out).mono ?_;rintro ex wx ⟨bb,rfl,ht,Ig⟩;have aw:(pK sb mb base) wx:=⟨ht.cell hHeld.1 HN.out,ht.cell hHeld.2 HN.out⟩;refine kH hK aw fun hHeld=>?_
 clear hK K;refine aY ?_;have LJ:=HT.out.trans ht;clear hHeld aw ht
 go_end0
 exact⟨rfl,LJ,Ig⟩
end
set_option maxHeartbeats 1000000
set_option maxRecDepth 100000
def vF (o:Ob) (c:Kc) (u:Int) (rv mp:Value):Array Value:=#[.int .i64 o.k,.int .i64 o.wd,.int .i64 o.s,.int .i64 o.c,.int .u32 o.st,.slice o.I o.ni o.ci,.int .i64 o.wr,.slice o.R o.nr o.cr,.int .i64 c.op,.int .i64 (c.rd:Int),.int .i64 (c.ph:Int),.int .i64 (c.i:Int),.int .i64 (c.tr:Int),.int .u32 c.A,.int .u32 c.B,.int .u64 u,rv,mp,.int .i64 (c.base:Int),.int .i64 (c.size:Int),.int .i64 c.code,.int .i64 (c.steps:Int),.bool c.over]
def lW (u:Int) (f:Nat→Bool):Prop:=0≤u∧u<18446744073709551616∧∀ k,u.toNat.testBit k=f k
structure Fits (o:Ob) (c:Kc):Prop where
 kd:o.k=c.kd
 wd:o.wd=(c.wd:Int)
 sl:o.s=(c.sl:Int)
 cap:o.c=(c.cap:Int)
 nr:o.nr=c.nr
 wd1:c.wd≤8
 nr1:c.nr≤4
 sl1:c.sl≤16
 cap1:c.cap≤16
 rd1:c.rd≤4
 base1:c.base<9223372036854775808
 size1:c.size≤1000
 i1:c.i≤1000
 tr1:c.tr≤1000
 st1:c.steps≤1000000
 A0:0≤c.A
 A1:c.A<4294967296
 B0:0≤c.B
 B1:c.B<4294967296
structure OpS (w:World) (sb:Nat) (ty:TypeId) (o:Ob) (c:Kc) (rv mp:Value):Prop where
 row:∃ u,lW u c.used∧RowB w sb (vF o c u rv mp) ty
 rc:Own (bn .u32) 22 0 w rv c.rc
 w32:W32 c.rc
 fits:Fits o c
 sep:rv.ownBlock≠some sb
theorem OpS.tch {w w':World} {sb:Nat} {ty:TypeId} {o:Ob} {c:Kc} {rv mp:Value} {T:Nat→Prop} (h:OpS w sb ty o c rv mp) (hk:Tch T w w') (h1:¬ T sb) (h2:∀ b,rv.ownBlock=some b→¬ T b):OpS w' sb ty o c rv mp:=
 ⟨h.row.elim fun u ⟨hu,hr⟩=>⟨u,hu,hr.tch hk h1⟩,bl h.rc hk h2,h.w32,h.fits,h.sep⟩
def fp (sb mb lb:Nat) (rv:Value) (b:Nat):Prop:=b=sb∨b=mb∨b=lb∨rv.ownBlock=some b
structure St (w:World) (sb mb lb:Nat) (ty:TypeId) (o:Ob) (c:Kc) (rv:Value) (l:List Int):Prop where
 op:OpS w sb ty o c rv (.pointer (some ⟨mb,0,none⟩))
 mem:MemG w mb lb l
 s1:sb≠mb
 s2:sb≠lb
 s3:rv.ownBlock≠some mb
 s4:rv.ownBlock≠some lb
structure Mv (sb mb lb:Nat) (w w':World) (rv rv':Value):Prop where
 tch:Tch (fp sb mb lb rv) w w'
 rv:∀ b,rv'.ownBlock=some b→rv.ownBlock=some b∨w.heap.size≤b
section
variable {sb mb lb:Nat} {w w' w'':World} {rv rv' rv'':Value} {ty:TypeId} {o:Ob} {c c':Kc} {l l':List Int}
theorem Mv.refl (w:World) (rv:Value):Mv sb mb lb w w rv rv:=⟨Tch.refl _ w,fun _ h=>.inl h⟩
theorem Mv.trans (h:Mv sb mb lb w w' rv rv') (h':Mv sb mb lb w' w'' rv' rv''):Mv sb mb lb w w'' rv rv'':=by
 refine⟨h.tch.new h'.tch fun k hk ht=>?_,fun b hb=>?_⟩
 ·rcases ht with ht | ht | ht | ht
  ·exact .inl ht
  ·exact .inr (.inl ht)
  ·exact .inr (.inr (.inl ht))
  ·rcases h.rv k ht with q | q
   ·exact .inr (.inr (.inr q))
   ·omega
 ·rcases h'.rv b hb with q | q
  ·exact h.rv b q
  ·exact .inr (Nat.le_trans h.tch.size q)
theorem Mv.own (h:Tch (fun b=>b=sb) w w') (hr:rv'=rv∨rv'=.slice none 0 0):Mv sb mb lb w w' rv rv':=
 ⟨h.mono fun _ _=>.inl,fun b hb=>by
  rcases hr with rfl | rfl
  ·exact .inl hb
  ·cases hb⟩
theorem Mv.of (h:Tch (fun b=>b=mb∨b=lb) w w'):Mv sb mb lb w w' rv rv:=⟨h.mono fun _ _ h=>h.elim (fun h=>.inr (.inl h)) (fun h=>.inr (.inr (.inl h))),fun _ h=>.inl h⟩
theorem St.drew (h:St w sb mb lb ty o c rv l):St w.drew sb mb lb ty o c rv l:=
 ⟨h.op.tch (T:=fun _=>False) (Tch.refl _ w).drew (fun h=>h) (fun _ _ h=>h),h.mem.tch (T:=fun _=>False) (Tch.refl _ w).drew (fun h=>h) (fun h=>h),h.s1,h.s2,h.s3,h.s4⟩
theorem Mv.drew (w:World) (rv:Value):Mv sb mb lb w w.drew rv rv:=⟨(Tch.refl _ w).drew,fun _ h=>.inl h⟩
theorem St.below (h:St w sb mb lb ty o c rv l) (hb:Below w.heap.size w w'):St w' sb mb lb ty o c rv l:=
 ⟨h.op.tch (T:=fun _=>False) (Tch.of_below _ hb) (fun h=>h) (fun _ _ h=>h),h.mem.tch (T:=fun _=>False) (Tch.of_below _ hb) (fun h=>h) (fun h=>h),h.s1,h.s2,h.s3,h.s4⟩
theorem Mv.below (hb:Below w.heap.size w w') (rv:Value):Mv sb mb lb w w' rv rv:=⟨Tch.of_below _ hb,fun _ h=>.inl h⟩
theorem St.upd (h:St w sb mb lb ty o c rv l) (hk:Tch (fun b=>b=sb) w w') {u:Int} (hu:lW u c'.used) (hr:RowB w' sb (vF o c' u rv' (.pointer (some ⟨mb,0,none⟩))) ty) (hf:Fits o c') (hv:rv'=rv∧c'.rc=c.rc∨rv'=.slice none 0 0∧c'.rc=[]):St w' sb mb lb ty o c' rv' l:=by
 have hm:=h.mem.tch hk (fun e=>h.s1 e.symm) (fun e=>h.s2 e.symm)
 rcases hv with ⟨rfl,hc⟩ | ⟨rfl,hc⟩
 ·exact⟨⟨⟨u,hu,hr⟩,by rw[hc];exact bl h.op.rc hk (fun b hb e=>h.op.sep (by rw[hb,e])),by rw[hc];exact h.op.w32,hf,h.op.sep⟩,hm,h.s1,h.s2,h.s3,h.s4⟩
 ·exact⟨⟨⟨u,hu,hr⟩,by rw[hc];exact Own.nil _ _,by rw[hc];exact(fun _ h=>by cases h),hf,(fun e=>by cases e)⟩,hm,h.s1,h.s2,(fun e=>by cases e),(fun e=>by cases e)⟩
end
def Did (sb mb lb:Nat) (ty:TypeId) (o:Ob) (w:World) (rv:Value) (c':Kc) (l':List Int) (v:Value) (e:Ending) (w':World):Prop:=∃ rv',e=.returned v∧St w' sb mb lb ty o c' rv' l'∧Mv sb mb lb w w' rv rv'
def mS (sb mb lb:Nat) (ty:TypeId) (o:Ob) (w:World) (rv:Value) (c':Kc) (l':List Int) (v:Value) (e:Ending) (w':World):Prop:=e=.returned v∧St w' sb mb lb ty o c' rv l'∧Mv sb mb lb w w' rv rv
theorem Did.of {sb mb lb:Nat} {ty:TypeId} {o:Ob} {w w1 w':World} {rv rv1:Value} {c':Kc} {l':List Int} {v:Value} {e:Ending} (h1:Mv sb mb lb w w1 rv rv1) (h:Did sb mb lb ty o w1 rv1 c' l' v e w'):Did sb mb lb ty o w rv c' l' v e w':=by
 obtain⟨rv',he,hs,hm⟩:=h;exact⟨rv',he,hs,h1.trans hm⟩
section
variable (sb mb lb:Nat) (ty:TypeId) (o:Ob) (c:Kc) (rv:Value) (l:List Int)
theorem nx {c:Kc} {l:List Int} {j:Nat} (h:c.base+j<l.length):l[c.base+j]?=some (c.rdm l j):=by
 unfold Kc.rdm;rw[List.getD_eq_getElem?_getD,List.getElem?_eq_getElem h];rfl
theorem cR {c:Kc} {l:List Int} {j:Nat} (h:c.base+j<l.length) (hw:W32 l):0≤c.rdm l j∧c.rdm l j<4294967296:=hw.get (nx h)
theorem yQ {a j:Nat} {i:Int} (h:i=(j:Int)):((a:Int)+i).toNat=a+j:=by omega
theorem cS (i:Int) (j:Nat) (w:World) (h:St w sb mb lb ty o c rv l) (hi:i=(j:Int)) (hj:c.base+j<l.length):Calls Tryz.prog 201 #[.pointer (some ⟨sb,0,none⟩),.int .i64 i] w (mS sb mb lb ty o w rv c l (.int .u32 (c.rdm l j))):=by
 obtain⟨u,hu,hr⟩:=h.op.row;have hl:=h.mem.len;refine(Dh sb mb lb ty _ l (c.base:Int) i (c.rdm l j) w hr rfl rfl h.mem h.s1 (by omega) (by omega) (by omega) (by rw[yQ hi];exact nx hj)).mono ?_;rintro e w' ⟨he,ht,hm⟩;exact⟨he,⟨h.op.tch ht h.s1 (fun b hb e=>h.s3 (by rw[hb,e])),hm,h.s1,h.s2,h.s3,h.s4⟩,Mv.of (ht.mono fun _ _=>.inl)⟩
theorem ef (i:Int) (j:Nat) (v:Int) (w:World) (h:St w sb mb lb ty o c rv l) (hi:i=(j:Int)) (hj:c.base+j<l.length) (hv:0≤v∧v<4294967296):Calls Tryz.prog 205 #[.pointer (some ⟨sb,0,none⟩),.int .i64 i,.int .u32 v] w (mS sb mb lb ty o w rv c (c.wrm l j v) (.tuple #[])):=by
 obtain⟨u,hu,hr⟩:=h.op.row;have hl:=h.mem.len;refine(yZ sb mb lb ty _ l (c.base:Int) i (c.rdm l j) v w hr rfl rfl h.mem h.s1 h.s2 (by omega) (by omega) (by omega) (by rw[yQ hi];exact nx hj) hv).mono ?_;rintro e w' ⟨he,ht,hm⟩;rw[yQ hi] at hm;exact⟨he,⟨h.op.tch ht (by rintro(q | q);exact h.s1 q;exact h.s2 q) (fun b hb=>by rintro(e | e);exact h.s3 (by rw[hb,e]);exact h.s4 (by rw[hb,e])),hm,h.s1,h.s2,h.s3,h.s4⟩,Mv.of ht⟩
theorem uS (i:Int) (j:Nat) (was now:Int) (w:World) (h:St w sb mb lb ty o c rv l) (hi:i=(j:Int)) (hj:c.base+j<l.length) (hv:0≤now∧now<4294967296):Calls Tryz.prog 209 #[.pointer (some ⟨sb,0,none⟩),.int .i64 i,.int .u32 was,.int .u32 now] w (mS sb mb lb ty o w rv c (if c.rdm l j=was then c.wrm l j now else l) (.tuple #[])):=by
 obtain⟨u,hu,hr⟩:=h.op.row;have hl:=h.mem.len;refine(Di sb mb lb ty _ l (c.base:Int) i (c.rdm l j) was now w hr rfl rfl h.mem h.s1 h.s2 (by omega) (by omega) (by omega) (by rw[yQ hi];exact nx hj) hv).mono ?_;rintro e w' ⟨he,ht,hm⟩;rw[yQ hi] at hm;exact⟨he,⟨h.op.tch ht (by rintro(q | q);exact h.s1 q;exact h.s2 q) (fun b hb=>by rintro(e | e);exact h.s3 (by rw[hb,e]);exact h.s4 (by rw[hb,e])),hm,h.s1,h.s2,h.s3,h.s4⟩,Mv.of ht⟩
theorem dy (p:Int) (q:Nat) (w:World) (h:St w sb mb lb ty o c rv l) (hp:p=(q:Int)):Calls Tryz.prog 202 #[.pointer (some ⟨sb,0,none⟩),.int .i64 p] w (mS sb mb lb ty o w rv (c.go q) l (.tuple #[])):=by
 subst hp;obtain⟨u,hu,hr⟩:=h.op.row;have c10:=(hr.cell 10).trans rfl;have c11:=(hr.cell 11).trans rfl;have f10:=hr.frozen 10;have f11:=hr.frozen 11;have av:=(hr.set 10 (.int .i64 (q:Int))).set 11 (.int .i64 0);have ht:=((Tch.refl (fun b=>b=sb) w).set (b:=sb) rfl 10 (.int .i64 (q:Int))).set (b:=sb) rfl 11 (.int .i64 0);have hf:=h.op.fits;have HS:=hid (h.upd (c':=c.go q) (rv':=rv) ht hu av ⟨hf.kd,hf.wd,hf.sl,hf.cap,hf.nr,hf.wd1,hf.nr1,hf.sl1,hf.cap1,hf.rd1,hf.base1,hf.size1,Nat.zero_le _,hf.tr1,hf.st1,hf.A0,hf.A1,hf.B0,hf.B1⟩ (.inl ⟨rfl,rfl⟩));have HT:=hid ht;clear hr hu av ht hf h;go_enter Tryz.func202,Tryz.ntmps202;go_wp2_with fail
 go_end0
 exact⟨rfl,HS.out,Mv.own HT.out (.inl rfl)⟩
theorem gQ (n:Int) (w:World) (h:St w sb mb lb ty o c rv l) (hi:c.i<1000):Calls Tryz.prog 211 #[.pointer (some ⟨sb,0,none⟩),.int .i64 n] w (mS sb mb lb ty o w rv { c with i:=c.i+1 } l (.bool (decide (n≤(c.i:Int)+1)))):=by
 obtain⟨u,hu,hr⟩:=h.op.row;have c11:=hr.at 11 (.int .i64 (c.i:Int));have f11:=hr.frozen 11;have av:=hr.set 11 (.int .i64 ((c.i:Int)+1));have ht:=((Tch.refl (fun b=>b=sb) w).set (b:=sb) rfl 11 (.int .i64 ((c.i:Int)+1)));have hf:=h.op.fits;have HS:=hid (h.upd (c':={ c with i:=c.i+1 }) (rv':=rv) ht hu av ⟨hf.kd,hf.wd,hf.sl,hf.cap,hf.nr,hf.wd1,hf.nr1,hf.sl1,hf.cap1,hf.rd1,hf.base1,hf.size1,by show c.i+1≤1000;omega,hf.tr1,hf.st1,hf.A0,hf.A1,hf.B0,hf.B1⟩ (.inl ⟨rfl,rfl⟩));have HT:=hid ht;have px:(0:Int)≤(c.i:Int):=by omega
 have ul:(c.i:Int)≤1000:=by omega
 clear hr hu av ht hf h;obtain⟨I,hI⟩:∃ x:Int,(c.i:Int)=x:=⟨_,rfl⟩;rw[hI] at c11 px ul HS HT ⊢;clear hI hi;go_enter Tryz.func211,Tryz.ntmps211;go_wp2_with fail;go_ret;exact⟨rfl,HS.out,Mv.own HT.out (.inl rfl)⟩
theorem fT (k:Int) (w:World) (h:St w sb mb lb ty o c rv l):Calls Tryz.prog 206 #[.pointer (some ⟨sb,0,none⟩),.int .i64 k] w (Did sb mb lb ty o w rv (c.fin k) l (.tuple #[])):=by
 obtain⟨u,hu,hr⟩:=h.op.row;have c8:=hr.at 8 (.int .i64 c.op);have c16:w.cell? ⟨sb,16,none⟩=some rv:=(hr.cell 16).trans rfl;have c22:=(hr.cell 22).trans rfl;have c20:=(hr.cell 20).trans rfl;have f22:=hr.frozen 22;have f20:=hr.frozen 20;have f16:=hr.frozen 16;have hf:=h.op.fits;have MI:Fits o (c.fin k):=⟨hf.kd,hf.wd,hf.sl,hf.cap,hf.nr,hf.wd1,hf.nr1,hf.sl1,hf.cap1,hf.rd1,hf.base1,hf.size1,hf.i1,hf.tr1,hf.st1,hf.A0,hf.A1,hf.B0,hf.B1⟩;have av:=(hr.set 22 (.bool true)).set 20 (.int .i64 k);have ht:=((Tch.refl (fun b=>b=sb) w).set (b:=sb) rfl 22 (.bool true)).set (b:=sb) rfl 20 (.int .i64 k);have bS:=av.set 16 (.slice none 0 0);have MK:=ht.set (b:=sb) rfl 16 (.slice none 0 0)
 by_cases hk:(k != 0 || c.wr)=true
 ·have fZ:(c.fin k).rc=[]:=by unfold Kc.fin;rw[if_pos hk]
  have HS:=hid (h.upd (c':=c.fin k) (rv':=.slice none 0 0) MK hu bS MI (.inr ⟨rfl,fZ⟩));have HT:=hid MK;clear hr hu av bS ht MK hf MI h fZ;unfold Kc.wr at hk
  by_cases k9:(k != 0)=true
  ·clear hk;go_enter Tryz.func206,Tryz.ntmps206;go_wp2_with fail
   go_end0
   exact⟨_,rfl,HS.out,Mv.own HT.out (.inr rfl)⟩
  ·have dU:(k != 0)=false:=by simpa using k9
   rw[dU,Bool.false_or] at hk
   by_cases h2:(c.op==2)=true
   ·clear hk k9;go_enter Tryz.func206,Tryz.ntmps206;go_wp2_with fail
    go_end0
    exact⟨_,rfl,HS.out,Mv.own HT.out (.inr rfl)⟩
   ·have FV:(c.op==2)=false:=by simpa using h2
    have h3:(c.op==3)=true:=by rw[FV,Bool.false_or] at hk;exact hk
    clear hk k9 h2;go_enter Tryz.func206,Tryz.ntmps206;go_wp2_with fail
    go_end0
    exact⟨_,rfl,HS.out,Mv.own HT.out (.inr rfl)⟩
 ·have fZ:(c.fin k).rc=c.rc:=by unfold Kc.fin;rw[if_neg hk]
  have HS:=hid (h.upd (c':=c.fin k) (rv':=rv) ht hu av MI (.inl ⟨rfl,fZ⟩));have HT:=hid ht;clear hr hu av bS ht MK hf MI h fZ;unfold Kc.wr at hk
  have um:(k != 0)=false∧(c.op==2)=false∧(c.op==3)=false:=by
   cases h1:(k != 0) <;> cases h2:(c.op==2) <;> cases h3:(c.op==3) <;> simp[h1,h2,h3] at hk ⊢
  obtain⟨k1,k2,k3⟩:=um;clear hk;go_enter Tryz.func206,Tryz.ntmps206;go_wp2_with fail
  go_end0
  exact⟨_,rfl,HS.out,Mv.own HT.out (.inl rfl)⟩
end
theorem RowB.ph {w:World} {b:Nat} {arr:Array Value} {t:TypeId} {c:Kc} {N:Nat} (h:RowB w b arr t) (j:Nat) (v:Int) (H:Go.RowKit.Hid (c.ph=N)) (e:arr[j]?=some (.int .i64 (c.ph:Int)):=by rfl) (e2:(N:Int)=v:=by rfl):w.cell? ⟨b,j,none⟩=some (.int .i64 v):=(h.cell j).trans (by rw[e,H.out,e2])
theorem St.start {w:World} {sb mb lb:Nat} {ty:TypeId} {o:Ob} {c:Kc} {rv:Value} {l:List Int} (h:St w sb mb lb ty o c rv l):Go.RowKit.Hid (St w sb mb lb ty o c rv l)∧Go.RowKit.Hid (Mv sb mb lb w w rv rv)∧Fits o c∧Go.RowKit.Hid (Fits o c)∧Go.RowKit.Hid (o.wd=(c.wd:Int))∧Go.RowKit.Hid (o.s=(c.sl:Int))∧Go.RowKit.Hid (o.c=(c.cap:Int))∧Go.RowKit.Hid (o.nr=c.nr):=⟨h,Mv.refl _ _,h.op.fits,h.op.fits,h.op.fits.wd,h.op.fits.sl,h.op.fits.cap,h.op.fits.nr⟩
theorem cu {v:Value} {p:World→Prop} {a b d:Nat} {w0 w:World} {r0 r1 r2:Value} {G:Ending→World→Prop} (H:Go.RowKit.Hid (Mv a b d w0 w r0 r1)) (h:∀ w',Go.RowKit.Hid (p w')→Go.RowKit.Hid (Mv a b d w0 w' r0 r2)→G (.returned v) w'):∀ e w',(e=.returned v∧p w'∧Mv a b d w w' r1 r2)→G e w':=fun _ w' ⟨e,hs,hm⟩=>e ▸ h w' hs (H.out.trans hm)
theorem fz {v:Value} {p:World→Value→Prop} {a b d:Nat} {w0 w:World} {r0 r1:Value} {G:Ending→World→Prop} (H:Go.RowKit.Hid (Mv a b d w0 w r0 r1)) (h:∀ w' r2,Go.RowKit.Hid (p w' r2)→Go.RowKit.Hid (Mv a b d w0 w' r0 r2)→G (.returned v) w'):∀ e w',(∃ r2,e=.returned v∧p w' r2∧Mv a b d w w' r1 r2)→G e w':=fun _ w' ⟨r2,e,hs,hm⟩=>e ▸ h w' r2 hs (H.out.trans hm)
theorem ea {P:Program} {id:Nat} {ops:Array Oper} {Q:Exit→Act→World→Prop} {S:World→Prop} {a:Act} {w w0:World} {sb mb lb:Nat} {ty:TypeId} {o:Ob} {c:Kc} {rv r0:Value} {l:List Int} (H:Go.RowKit.Hid (St w sb mb lb ty o c rv l)) (M:Go.RowKit.Hid (Mv sb mb lb w0 w r0 rv)) (hS:Go.RowKit.Hid (St w.drew sb mb lb ty o c rv l)→S w.drew) (h:∀ w',Go.RowKit.Hid (St w' sb mb lb ty o c rv l)→Go.RowKit.Hid (Mv sb mb lb w0 w' r0 rv)→S w'→wpAnyH P .any ops Q S ops.size (Array.replicate ops.size false) a w') (hm:P.follows .mixedOrders=true:=by kernel_rfl):(Code.region id ops true).wp P Q a w:=wp_region_held_drew hm (hS H.out.drew) (h _ H.out.drew (M.out.trans (Mv.drew w _)))
theorem qm {p:Prop} {a b d:Nat} {w0 w w':World} {r0 r1 r2:Value} (h:p∧Mv a b d w w' r1 r2) (H:Go.RowKit.Hid (Mv a b d w0 w r0 r1)):Go.RowKit.Hid p∧Go.RowKit.Hid (Mv a b d w0 w' r0 r2):=⟨h.1,H.out.trans h.2⟩
end Go.Proofs.YtabfcjohdgjkoaaGreatDoor
