/- An operation of each kind begins. -/
import Derived.Test.YtabfcjohdgjkoaaGreatDoorZcOgQ
namespace Go.Proofs.YtabfcjohdgjkoaaGreatDoor
open Go.RowKit
open Go.Lib (hid)
attribute [local go_sem] Oper.semAt_some
set_option maxHeartbeats 8000000
set_option maxRecDepth 100000
def ql (o:Ob) (sz at' op rd:Int) (n:Nat) (a b:Int):Int:=
 if sz<1∨at'<0 then 1 else if op=a then (if rd<0∨1≤rd then 5 else if (n:Int)≠o.wd then 4 else 0) else if op=b then (if rd<0∨(o.nr:Int)≤rd then 5 else if (n:Int)≠0 then 4 else 0) else 9
def MbR (o:Ob) (sz at' op rd:Int) (r:List Int) (code:Int) (w:World) (arr:Array Value) (w':World):Prop:=
 arr.size=23∧arr.all (·.oneCell')=true∧Below w.heap.size w w'∧(code=0→∃ v,arr=bJ o op rd at' sz v∧OwnW w.heap.size w' v r)
theorem MbR.err {o:Ob} {sz at' op rd:Int} {r:List Int} {code:Int} {w w':World} (hc:code≠0) (hb:Below w.heap.size w w'):MbR o sz at' op rd r code w aF w':=⟨rfl,by simp[aF,Value.oneCell'],hb,fun h=>absurd h hc⟩
theorem fu (o:Ob) (sz at' op rd:Int) (A:Option Addr) (cap:Nat) (r:List Int) (a b:Int) (w:World) (hl:r.length≤1000000) (hr:Ws w w.heap.size A r):
  Calls Tryz.prog 199 #[.agg (af o),.int .i64 sz,.int .i64 at',.int .i64 op,.int .i64 rd,.slice A r.length cap,.agg #[.int .i64 a,.int .i64 b]] w fun e w'=>∃ arr,e=.returned (.tuple #[.agg arr,.int .i64 (ql o sz at' op rd r.length a b)])∧MbR o sz at' op rd r (ql o sz at' op rd r.length a b) w arr w':=by
 have er:∀ (code:Int),ql o sz at' op rd r.length a b=code→code≠0→(Calls Tryz.prog 199 #[.agg (af o),.int .i64 sz,.int .i64 at',.int .i64 op,.int .i64 rd,.slice A r.length cap,.agg #[.int .i64 a,.int .i64 b]] w fun e w'=>e=.returned (.tuple #[.agg aF,.int .i64 code])∧Below w.heap.size w w')→Calls Tryz.prog 199 #[.agg (af o),.int .i64 sz,.int .i64 at',.int .i64 op,.int .i64 rd,.slice A r.length cap,.agg #[.int .i64 a,.int .i64 b]] w fun e w'=>∃ arr,e=.returned (.tuple #[.agg arr,.int .i64 (ql o sz at' op rd r.length a b)])∧MbR o sz at' op rd r (ql o sz at' op rd r.length a b) w arr w':=fun code hc h0 h=>by
  rw[hc];exact h.mono fun e w' ⟨he,hb⟩=>⟨_,he,MbR.err h0 hb⟩
 have ok:ql o sz at' op rd r.length a b=0→(Calls Tryz.prog 199 #[.agg (af o),.int .i64 sz,.int .i64 at',.int .i64 op,.int .i64 rd,.slice A r.length cap,.agg #[.int .i64 a,.int .i64 b]] w fun e w'=>∃ v,e=.returned (.tuple #[.agg (bJ o op rd at' sz v),.int .i64 0])∧OwnW w.heap.size w' v r∧Below w.heap.size w w')→Calls Tryz.prog 199 #[.agg (af o),.int .i64 sz,.int .i64 at',.int .i64 op,.int .i64 rd,.slice A r.length cap,.agg #[.int .i64 a,.int .i64 b]] w fun e w'=>∃ arr,e=.returned (.tuple #[.agg arr,.int .i64 (ql o sz at' op rd r.length a b)])∧MbR o sz at' op rd r (ql o sz at' op rd r.length a b) w arr w':=fun hc h=>by
  rw[hc];refine h.mono fun e w' ⟨v,he,hv,hb⟩=>⟨_,he,rfl,?_,hb,fun _=>⟨v,rfl,hv⟩⟩
  obtain⟨A9,M9,c9,rfl⟩:=cz hv.1;simp[bJ,Value.oneCell']
 unfold ql at er ok ⊢
 by_cases h1:sz<1
 ·rw[if_pos (.inl h1)] at er ok ⊢;exact er 1 rfl (by decide) (xB o sz at' op rd A cap r a b w h1)
 by_cases h2:at'<0
 ·rw[if_pos (.inr h2)] at er ok ⊢;exact er 1 rfl (by decide) (uz o sz at' op rd A cap r a b w (by omega) h2)
 rw[if_neg (by rintro(q | q);exact h1 q;exact h2 q)] at er ok ⊢
 by_cases h3:op=a
 ·rw[if_pos h3] at er ok ⊢
  by_cases h5:rd<0
  ·rw[if_pos (.inl h5)] at er ok ⊢;exact er 5 rfl (by decide) (xI o sz at' op rd A cap r a b w (by omega) (by omega) h3 h5)
  by_cases h6:1≤rd
  ·rw[if_pos (.inr h6)] at er ok ⊢;exact er 5 rfl (by decide) (uB o sz at' op rd A cap r a b w (by omega) (by omega) h3 (by omega) h6)
  rw[if_neg (by rintro(q | q);exact h5 q;exact h6 q)] at er ok ⊢
  by_cases h7:(r.length:Int)=o.wd
  ·rw[if_neg (fun q=>q h7)] at er ok ⊢;exact ok rfl (xG o sz at' op rd A cap r a b w hl hr (by omega) (by omega) h3 (by omega) (by omega) h7)
  ·rw[if_pos h7] at er ok ⊢;exact er 4 rfl (by decide) (xH o sz at' op rd A cap r a b w (by omega) (by omega) h3 (by omega) (by omega) h7)
 rw[if_neg h3] at er ok ⊢
 by_cases h4:op=b
 ·rw[if_pos h4] at er ok ⊢
  by_cases h5:rd<0
  ·rw[if_pos (.inl h5)] at er ok ⊢;exact er 5 rfl (by decide) (xF o sz at' op rd A cap r a b w (by omega) (by omega) h3 h4 h5)
  by_cases h6:(o.nr:Int)≤rd
  ·rw[if_pos (.inr h6)] at er ok ⊢;exact er 5 rfl (by decide) (uA o sz at' op rd A cap r a b w (by omega) (by omega) h3 h4 (by omega) h6)
  rw[if_neg (by rintro(q | q);exact h5 q;exact h6 q)] at er ok ⊢
  by_cases h7:(r.length:Int)=0
  ·rw[if_neg (fun q=>q h7)] at er ok ⊢;exact ok rfl (xD o sz at' op rd A cap r a b w hl hr (by omega) (by omega) h3 h4 (by omega) (by omega) h7)
  ·rw[if_pos h7] at er ok ⊢;exact er 4 rfl (by decide) (xE o sz at' op rd A cap r a b w (by omega) (by omega) h3 h4 (by omega) (by omega) h7)
 rw[if_neg h4] at er ok ⊢;exact er 9 rfl (by decide) (xC o sz at' op rd A cap r a b w (by omega) (by omega) h3 h4)
theorem uI {ι:Type} {P:Program} {id:Nat} {ops:Array Oper} {b:Bool} {a:Act} {w:World} {Q:Exit→Act→World→Prop} (A:ι→Act) (X:ι→World→Prop)
  (h:(Code.region id ops b).wp P (fun e a w=>e=.normal∧∃ nb,a=A nb∧X nb w) a w) (hq:∀ nb w,X nb w→Q .normal (A nb) w):(Code.region id ops b).wp P Q a w:=
 Code.wp_mono (fun e a w ⟨he,nb,ha,hx⟩=>by
  subst he ha;exact hq nb w hx) h
def SbG (w1:World) (n:Nat) (o:Ob) (w':World):Prop:=Below w1.heap.size w1 w'∧w'.cell? ⟨n,0,none⟩=some (.int .i64 o.k)∧w'.cell? ⟨n,1,none⟩=some (.int .i64 o.wd)∧w'.cell? ⟨n,2,none⟩=some (.int .i64 o.s)∧w'.cell? ⟨n,3,none⟩=some (.int .i64 o.c)∧w'.cell? ⟨n,4,none⟩=some (.int .u32 o.st)∧w'.cell? ⟨n,5,none⟩=some (.slice o.I o.ni o.ci)∧w'.cell? ⟨n,6,none⟩=some (.int .i64 o.wr)∧w'.cell? ⟨n,7,none⟩=some (.slice o.R o.nr o.cr)
section
variable {w1 w w':World} {n:Nat} {o:Ob}
theorem SbG.of (hb:Below w1.heap.size w1 w) (h:RowB w n (af o) 26):SbG w1 n o w:=⟨hb,(h.cell 0).trans rfl,(h.cell 1).trans rfl,(h.cell 2).trans rfl,(h.cell 3).trans rfl,(h.cell 4).trans rfl,(h.cell 5).trans rfl,(h.cell 6).trans rfl,(h.cell 7).trans rfl⟩
theorem SbG.below (h:SbG w1 n o w) (hb:Below w.heap.size w w'):SbG w1 n o w':=by
 obtain⟨h1,a0,a1,a2,a3,a4,a5,a6,a7⟩:=h;have hk:∀ {i:Nat} {u:Value},w.cell? ⟨n,i,none⟩=some u→w'.cell? ⟨n,i,none⟩=some u:=fun {i u} hc=>(hb.cell (p:=⟨n,i,none⟩) (aM hc)).trans hc
 exact⟨h1.trans (hb.mono h1.size),hk a0,hk a1,hk a2,hk a3,hk a4,hk a5,hk a6,hk a7⟩
theorem SbG.row {nb:Nat} (h:SbG w1 n o w) (hn:w1.heap.size≤nb) (Tm:n<w1.heap.size) (cells:Array Value):SbG w1 n o (w.setRow nb cells):=by
 obtain⟨h1,a0,a1,a2,a3,a4,a5,a6,a7⟩:=h
 have hk:∀ {i:Nat} {u:Value},w.cell? ⟨n,i,none⟩=some u→(w.setRow nb cells).cell? ⟨n,i,none⟩=some u:=fun {i u} hc=>by
  unfold World.cell? at hc ⊢;rw[setRow_other _ _ _ _ (show n≠nb by omega)];exact hc
 exact⟨bc h1 nb cells hn,hk a0,hk a1,hk a2,hk a3,hk a4,hk a5,hk a6,hk a7⟩
def mF (o:Ob) (sz at' op rd:Int) (r:List Int) (code:Int) (N:Nat) (nb:Nat) (w:World) (arr:Array Value):Prop:=
 arr.size=23∧arr.all (·.oneCell')=true∧(code=0→∃ v,arr=bJ o op rd at' sz v∧OwnW N w v r∧v.ownBlock≠some nb)
end
section
variable (o:Ob) (at' op rd:Int) (A:Option Addr) (cap:Nat) (r:List Int)
def jR (F:Nat) (ty:TypeId) (sz code:Int) (w:World):Prop:=Calls Tryz.prog F #[.agg (af o),.int .i64 at',.int .i64 op,.int .i64 rd,.slice A r.length cap] w fun e w'=>∃ x,e=.returned (.tuple #[.pointer x,.int .i64 code])∧Below w.heap.size w w'∧(code≠0→x=none)∧(code=0→∃ b v,x=some ⟨b,0,none⟩∧w.heap.size≤b∧RowB w' b (bJ o op rd at' sz v) ty∧OwnW w.heap.size w' v r∧v.ownBlock≠some b)
def GZ (F:Nat) (sz:Int):Prop:=∀ W:World,Calls Tryz.prog F #[.agg (af o)] W fun e w'=>e=.returned (.int .i64 sz)∧Below W.heap.size W w'
def GV (sz code a b:Int):Prop:=∀ W:World,Ws W W.heap.size A r→Calls Tryz.prog 199 #[.agg (af o),.int .i64 sz,.int .i64 at',.int .i64 op,.int .i64 rd,.slice A r.length cap,.agg #[.int .i64 a,.int .i64 b]] W fun e w'=>∃ arr,e=.returned (.tuple #[.agg arr,.int .i64 code])∧MbR o sz at' op rd r code W arr w'
theorem ii (w:World) (hr:Ws w w.heap.size A r) (sz code:Int):
  (GZ o 77 sz→GV o at' op rd A cap r sz code 2 1→jR o at' op rd A cap r 153 181 sz code w)∧
  (GZ o 78 sz→GV o at' op rd A cap r sz code 2 1→jR o at' op rd A cap r 154 182 sz code w)∧
  (GZ o 79 sz→GV o at' op rd A cap r sz code 2 1→jR o at' op rd A cap r 155 183 sz code w)∧
  (GZ o 80 sz→GV o at' op rd A cap r sz code 2 1→jR o at' op rd A cap r 156 184 sz code w)∧
  (GZ o 81 sz→GV o at' op rd A cap r sz code 2 1→jR o at' op rd A cap r 157 185 sz code w)∧
  (GZ o 82 sz→GV o at' op rd A cap r sz code 3 4→jR o at' op rd A cap r 158 186 sz code w):=by
 have hn:=RowB.new w (af o) 26;have hB:=bK w (.cells (af o) 26);have HR:=hid (hr.below hB hB.size);obtain⟨n,i6⟩:∃ n,w.heap.size=n:=⟨_,rfl⟩;unfold GZ GV jR;rw[i6] at hn hB ⊢;have HN:=hid hn;have HB:=hid hB;clear hn hB hr;unfold af at HN HB HR;unfold af;refine⟨fun bY qe=>?_,fun bY qe=>?_,fun bY qe=>?_,fun bY qe=>?_,fun bY qe=>?_,fun bY qe=>?_⟩;go_enter Tryz.func153,Tryz.ntmps153;rotate_left;go_enter Tryz.func154,Tryz.ntmps154;rotate_left;go_enter Tryz.func155,Tryz.ntmps155;rotate_left;go_enter Tryz.func156,Tryz.ntmps156;rotate_left;go_enter Tryz.func157,Tryz.ntmps157;rotate_left;go_enter Tryz.func158,Tryz.ntmps158;rotate_left
 all_goals
  have rI:=hid bY;have M8:=hid qe;clear bY qe;go_wp2_with fail;obtain⟨w1,g9⟩:∃ x,w.alloc (.cells #[.int .i64 o.k,.int .i64 o.wd,.int .i64 o.s,.int .i64 o.c,.int .u32 o.st,.slice o.I o.ni o.ci,.int .i64 o.wr,.slice o.R o.nr o.cr] 26)=x:=⟨_,rfl⟩;have hn:=HN.out;have hB:=HB.out;have bN:w1.heap.size=n+1:=by rw[← g9,World.size_alloc,i6]
  have QQ:Ws w1 w1.heap.size A r:=by rw[← g9];exact HR.out
  rw[g9] at hn hB ⊢;have Jk:=hid QQ;clear HN HB HR g9 QQ;have gT:n<w1.heap.size:=by omega
  have dc:SbG w1 n o w1.drew:=.of (Below.refl _ w1).drew (hn.kept (Below.refl _ w1).drew);refine uI (fun x:Nat × Array Value × Value=>{ tmps:=#[.agg #[.int .i64 o.k,.int .i64 o.wd,.int .i64 o.s,.int .i64 o.c,.int .u32 o.st,.slice o.I o.ni o.ci,.int .i64 o.wr,.slice o.R o.nr o.cr],.int .i64 at',.int .i64 op,.int .i64 rd,.slice A r.length cap,.pointer (some ⟨n,0,none⟩),undef,undef,undef,undef,.pointer none,.int .i64 0,.pointer (some ⟨x.1,0,none⟩),.int .i64 code,.tuple #[.agg x.2.1,.int .i64 code],.agg #[.int .i64 o.k,.int .i64 o.wd,.int .i64 o.s,.int .i64 o.c,.int .u32 o.st,.slice o.I o.ni o.ci,.int .i64 o.wr,.slice o.R o.nr o.cr],.agg #[.int .i64 o.k,.int .i64 o.wd,.int .i64 o.s,.int .i64 o.c,.int .u32 o.st,.slice o.I o.ni o.ci,.int .i64 o.wr,.slice o.R o.nr o.cr],.int .i64 sz,.int .i64 at',.int .i64 op,.int .i64 rd,.slice A r.length cap,x.2.2,.tuple #[.agg x.2.1,.int .i64 code],.agg x.2.1,.int .i64 code,undef,undef,undef,undef,undef,undef],defers:=[] }) (fun x w=>w1.heap.size≤x.1∧RowB w x.1 x.2.1 179∧Below w1.heap.size w1 w∧mF o sz at' op rd r code w1.heap.size x.1 w x.2.1) ?_ ?_
  ·refine wp_region_held_drew (S:=fun w'=>Below w1.heap.size w1 w'∧w'.cell? ⟨n,0,none⟩=some (.int .i64 o.k)∧w'.cell? ⟨n,1,none⟩=some (.int .i64 o.wd)∧w'.cell? ⟨n,2,none⟩=some (.int .i64 o.s)∧w'.cell? ⟨n,3,none⟩=some (.int .i64 o.c)∧w'.cell? ⟨n,4,none⟩=some (.int .u32 o.st)∧w'.cell? ⟨n,5,none⟩=some (.slice o.I o.ni o.ci)∧w'.cell? ⟨n,6,none⟩=some (.int .i64 o.wr)∧w'.cell? ⟨n,7,none⟩=some (.slice o.R o.nr o.cr)) (by kernel_rfl) dc (fun hHeld=>?_);generalize w1.drew=wd at hHeld ⊢;have hHeld:SbG w1 n o wd:=hHeld;refine ai 0 1 3 4 ?_;refine bv 5 6 ?_;refine aX 7 ?_;refine dG [2,12] ?_;refine dp (fun K hK=>?_) ?_
   ·go_simp;refine(rI.out _).mono ?_;rintro ex wx ⟨rfl,ar⟩;have aw:=SbG.below (w1:=w1) (n:=n) (o:=o) hHeld ar;refine kH hK aw fun hHeld=>?_
    clear hK K;refine dG [8,12] ?_;refine dp (fun K hK=>?_) ?_
    ·go_simp;refine(M8.out _ (Jk.out.below hHeld.1 hHeld.1.size)).mono ?_;rintro ex wx ⟨CA,rfl,fY,rO,ar,CN⟩;have aw:=SbG.below (w1:=w1) (n:=n) (o:=o) hHeld ar;have hG:mF o sz at' op rd r code w1.heap.size wx.heap.size wx CA:=⟨fY,rO,fun h0=>(CN h0).elim fun v ⟨xr,oC⟩=>⟨v,xr,⟨oC.1.mono (hHeld.1.size),oC.2⟩,fun e=>by have:=World.ownsRow.lt oC.1 _ e;omega⟩⟩;refine kH hK aw fun hHeld=>?_
     clear hK K;refine bv 9 10 ?_;refine aX 11 ?_;refine aV 12 (fun K hK=>?_);go_simp;have ah:=RowB.new (wx) #[.int .i64 0,.int .i64 0,.int .i64 0,.int .i64 0,.int .u32 0,.slice none 0 0,.int .i64 0,.slice none 0 0,.int .i64 0,.int .i64 0,.int .i64 0,.int .i64 0,.int .i64 0,.int .u32 0,.int .u32 0,.int .u64 0,.slice none 0 0,.pointer none,.int .i64 0,.int .i64 0,.int .i64 0,.int .i64 0,.bool false] 179;have bY:=hHeld.1.size;have bG:=(Below.refl _ (wx)).alloc (Nat.le_refl _) (.cells #[.int .i64 0,.int .i64 0,.int .i64 0,.int .i64 0,.int .u32 0,.slice none 0 0,.int .i64 0,.slice none 0 0,.int .i64 0,.int .i64 0,.int .i64 0,.int .i64 0,.int .i64 0,.int .u32 0,.int .u32 0,.int .u64 0,.slice none 0 0,.pointer none,.int .i64 0,.int .i64 0,.int .i64 0,.int .i64 0,.bool false] 179);have aw:=SbG.below (w1:=w1) (n:=n) (o:=o) hHeld bG;have hG:mF o sz at' op rd r code w1.heap.size (wx).heap.size _ CA:=⟨hG.1,hG.2.1,fun h0=>(hG.2.2 h0).elim fun v ⟨xr,oC,CP⟩=>⟨v,xr,⟨bl (T:=fun _=>False) oC.1 (Tch.of_below _ bG) (fun _ _ h=>h),oC.2⟩,CP⟩⟩;refine kH hK aw fun hHeld=>?_
     clear hK K;obtain⟨wa,ig⟩:∃ x,(wx).alloc (.cells #[.int .i64 0,.int .i64 0,.int .i64 0,.int .i64 0,.int .u32 0,.slice none 0 0,.int .i64 0,.slice none 0 0,.int .i64 0,.int .i64 0,.int .i64 0,.int .i64 0,.int .i64 0,.int .u32 0,.int .u32 0,.int .u64 0,.slice none 0 0,.pointer none,.int .i64 0,.int .i64 0,.int .i64 0,.int .i64 0,.bool false] 179)=x:=⟨_,rfl⟩;obtain⟨nb,jI⟩:∃ x,(wx).heap.size=x:=⟨_,rfl⟩;have bH:RowB wa nb #[.int .i64 0,.int .i64 0,.int .i64 0,.int .i64 0,.int .u32 0,.slice none 0 0,.int .i64 0,.slice none 0 0,.int .i64 0,.int .i64 0,.int .i64 0,.int .i64 0,.int .i64 0,.int .u32 0,.int .u32 0,.int .u64 0,.slice none 0 0,.pointer none,.int .i64 0,.int .i64 0,.int .i64 0,.int .i64 0,.bool false] 179:=by rw[← ig,← jI];exact ah
     rw[ig] at hHeld hG ⊢;rw[jI] at bY hG ⊢;clear ig jI ah;refine dG [13] ?_;refine dp (fun K hK=>?_) AllReadyH.nil;refine dX rfl 179 (.tmp 12) (.tmp 24) rfl nb CA rfl rfl 179 _ bH (by rw[hG.1];kernel_rfl) (by rw[hG.1];rfl) hG.2.1 ?_;have hr:=RowB.row (cells:=CA) bH;have aw:=SbG.row (w1:=w1) (n:=n) (o:=o) (nb:=nb) hHeld bY gT CA;have KJ:mF o sz at' op rd r code w1.heap.size nb _ CA:=⟨hG.1,hG.2.1,fun h0=>(hG.2.2 h0).elim fun v ⟨xr,oC,CP⟩=>⟨v,xr,⟨bl (T:=fun b=>b=nb) oC.1 ((Tch.refl (fun b=>b=nb) _).row (b:=nb) rfl CA) (fun b hb e=>CP (by rw[hb,e])),oC.2⟩,CP⟩⟩;refine hK.out _ _ aw (fun hHeld=>?_);clear hK K;try simp only[Act.put]
     refine aX 14 ?_;refine aY ?_;exact⟨rfl,(nb,CA,_),rfl,bY,hr,hHeld.1,KJ⟩
    ·refine dp (fun K hK=>?_) AllReadyH.nil
     ·go_simp;have ah:=RowB.new (wx) #[.int .i64 0,.int .i64 0,.int .i64 0,.int .i64 0,.int .u32 0,.slice none 0 0,.int .i64 0,.slice none 0 0,.int .i64 0,.int .i64 0,.int .i64 0,.int .i64 0,.int .i64 0,.int .u32 0,.int .u32 0,.int .u64 0,.slice none 0 0,.pointer none,.int .i64 0,.int .i64 0,.int .i64 0,.int .i64 0,.bool false] 179;have bY:=hHeld.1.size;have bG:=(Below.refl _ (wx)).alloc (Nat.le_refl _) (.cells #[.int .i64 0,.int .i64 0,.int .i64 0,.int .i64 0,.int .u32 0,.slice none 0 0,.int .i64 0,.slice none 0 0,.int .i64 0,.int .i64 0,.int .i64 0,.int .i64 0,.int .i64 0,.int .u32 0,.int .u32 0,.int .u64 0,.slice none 0 0,.pointer none,.int .i64 0,.int .i64 0,.int .i64 0,.int .i64 0,.bool false] 179);have aw:=SbG.below (w1:=w1) (n:=n) (o:=o) hHeld bG;refine kH hK aw fun hHeld=>?_
      clear hK K;obtain⟨wa,ig⟩:∃ x,(wx).alloc (.cells #[.int .i64 0,.int .i64 0,.int .i64 0,.int .i64 0,.int .u32 0,.slice none 0 0,.int .i64 0,.slice none 0 0,.int .i64 0,.int .i64 0,.int .i64 0,.int .i64 0,.int .i64 0,.int .u32 0,.int .u32 0,.int .u64 0,.slice none 0 0,.pointer none,.int .i64 0,.int .i64 0,.int .i64 0,.int .i64 0,.bool false] 179)=x:=⟨_,rfl⟩;obtain⟨nb,jI⟩:∃ x,(wx).heap.size=x:=⟨_,rfl⟩;have bH:RowB wa nb #[.int .i64 0,.int .i64 0,.int .i64 0,.int .i64 0,.int .u32 0,.slice none 0 0,.int .i64 0,.slice none 0 0,.int .i64 0,.int .i64 0,.int .i64 0,.int .i64 0,.int .i64 0,.int .u32 0,.int .u32 0,.int .u64 0,.slice none 0 0,.pointer none,.int .i64 0,.int .i64 0,.int .i64 0,.int .i64 0,.bool false] 179:=by rw[← ig,← jI];exact ah
      rw[ig] at hHeld ⊢;rw[jI] at bY ⊢;clear ig jI ah;refine dG [8] ?_;refine dp (fun K hK=>?_) AllReadyH.nil
      ·go_simp;refine(M8.out _ (Jk.out.below hHeld.1 hHeld.1.size)).mono ?_;rintro ex wx ⟨CA,rfl,fY,rO,ar,CN⟩;have aw:=SbG.below (w1:=w1) (n:=n) (o:=o) hHeld ar;have OC:=bH.lt;have hG:mF o sz at' op rd r code w1.heap.size nb wx CA:=⟨fY,rO,fun h0=>(CN h0).elim fun v ⟨xr,oC⟩=>⟨v,xr,⟨oC.1.mono (hHeld.1.size),oC.2⟩,fun e=>by have:=World.ownsRow.lt oC.1 nb e;omega⟩⟩;have bH:=bH.kept ar;refine kH hK aw fun hHeld=>?_
       clear hK K;refine bv 9 10 ?_;refine aX 11 ?_;refine dG [13] ?_;refine dp (fun K hK=>?_) AllReadyH.nil;refine dX rfl 179 (.tmp 12) (.tmp 24) rfl nb CA rfl rfl 179 _ bH (by rw[hG.1];kernel_rfl) (by rw[hG.1];rfl) hG.2.1 ?_;have hr:=RowB.row (cells:=CA) bH;have aw:=SbG.row (w1:=w1) (n:=n) (o:=o) (nb:=nb) hHeld bY gT CA;have KJ:mF o sz at' op rd r code w1.heap.size nb _ CA:=⟨hG.1,hG.2.1,fun h0=>(hG.2.2 h0).elim fun v ⟨xr,oC,CP⟩=>⟨v,xr,⟨bl (T:=fun b=>b=nb) oC.1 ((Tch.refl (fun b=>b=nb) _).row (b:=nb) rfl CA) (fun b hb e=>CP (by rw[hb,e])),oC.2⟩,CP⟩⟩;refine hK.out _ _ aw (fun hHeld=>?_);clear hK K;try simp only[Act.put]
       refine aX 14 ?_;refine aY ?_;exact⟨rfl,(nb,CA,_),rfl,bY,hr,hHeld.1,KJ⟩
   ·refine dp (fun K hK=>?_) AllReadyH.nil
    ·go_simp;have ah:=RowB.new (wd) #[.int .i64 0,.int .i64 0,.int .i64 0,.int .i64 0,.int .u32 0,.slice none 0 0,.int .i64 0,.slice none 0 0,.int .i64 0,.int .i64 0,.int .i64 0,.int .i64 0,.int .i64 0,.int .u32 0,.int .u32 0,.int .u64 0,.slice none 0 0,.pointer none,.int .i64 0,.int .i64 0,.int .i64 0,.int .i64 0,.bool false] 179;have bY:=hHeld.1.size;have bG:=(Below.refl _ (wd)).alloc (Nat.le_refl _) (.cells #[.int .i64 0,.int .i64 0,.int .i64 0,.int .i64 0,.int .u32 0,.slice none 0 0,.int .i64 0,.slice none 0 0,.int .i64 0,.int .i64 0,.int .i64 0,.int .i64 0,.int .i64 0,.int .u32 0,.int .u32 0,.int .u64 0,.slice none 0 0,.pointer none,.int .i64 0,.int .i64 0,.int .i64 0,.int .i64 0,.bool false] 179);have aw:=SbG.below (w1:=w1) (n:=n) (o:=o) hHeld bG;refine kH hK aw fun hHeld=>?_
     clear hK K;obtain⟨wa,ig⟩:∃ x,(wd).alloc (.cells #[.int .i64 0,.int .i64 0,.int .i64 0,.int .i64 0,.int .u32 0,.slice none 0 0,.int .i64 0,.slice none 0 0,.int .i64 0,.int .i64 0,.int .i64 0,.int .i64 0,.int .i64 0,.int .u32 0,.int .u32 0,.int .u64 0,.slice none 0 0,.pointer none,.int .i64 0,.int .i64 0,.int .i64 0,.int .i64 0,.bool false] 179)=x:=⟨_,rfl⟩;obtain⟨nb,jI⟩:∃ x,(wd).heap.size=x:=⟨_,rfl⟩;have bH:RowB wa nb #[.int .i64 0,.int .i64 0,.int .i64 0,.int .i64 0,.int .u32 0,.slice none 0 0,.int .i64 0,.slice none 0 0,.int .i64 0,.int .i64 0,.int .i64 0,.int .i64 0,.int .i64 0,.int .u32 0,.int .u32 0,.int .u64 0,.slice none 0 0,.pointer none,.int .i64 0,.int .i64 0,.int .i64 0,.int .i64 0,.bool false] 179:=by rw[← ig,← jI];exact ah
     rw[ig] at hHeld ⊢;rw[jI] at bY ⊢;clear ig jI ah;refine dG [2] ?_;refine dp (fun K hK=>?_) AllReadyH.nil
     ·go_simp;refine(rI.out _).mono ?_;rintro ex wx ⟨rfl,ar⟩;have aw:=SbG.below (w1:=w1) (n:=n) (o:=o) hHeld ar;have bH:=bH.kept ar;refine kH hK aw fun hHeld=>?_
      clear hK K;refine dG [8] ?_;refine dp (fun K hK=>?_) AllReadyH.nil
      ·go_simp;refine(M8.out _ (Jk.out.below hHeld.1 hHeld.1.size)).mono ?_;rintro ex wx ⟨CA,rfl,fY,rO,ar,CN⟩;have aw:=SbG.below (w1:=w1) (n:=n) (o:=o) hHeld ar;have OC:=bH.lt;have hG:mF o sz at' op rd r code w1.heap.size nb wx CA:=⟨fY,rO,fun h0=>(CN h0).elim fun v ⟨xr,oC⟩=>⟨v,xr,⟨oC.1.mono (hHeld.1.size),oC.2⟩,fun e=>by have:=World.ownsRow.lt oC.1 nb e;omega⟩⟩;have bH:=bH.kept ar;refine kH hK aw fun hHeld=>?_
       clear hK K;refine bv 9 10 ?_;refine aX 11 ?_;refine dG [13] ?_;refine dp (fun K hK=>?_) AllReadyH.nil;refine dX rfl 179 (.tmp 12) (.tmp 24) rfl nb CA rfl rfl 179 _ bH (by rw[hG.1];kernel_rfl) (by rw[hG.1];rfl) hG.2.1 ?_;have hr:=RowB.row (cells:=CA) bH;have aw:=SbG.row (w1:=w1) (n:=n) (o:=o) (nb:=nb) hHeld bY gT CA;have KJ:mF o sz at' op rd r code w1.heap.size nb _ CA:=⟨hG.1,hG.2.1,fun h0=>(hG.2.2 h0).elim fun v ⟨xr,oC,CP⟩=>⟨v,xr,⟨bl (T:=fun b=>b=nb) oC.1 ((Tch.refl (fun b=>b=nb) _).row (b:=nb) rfl CA) (fun b hb e=>CP (by rw[hb,e])),oC.2⟩,CP⟩⟩;refine hK.out _ _ aw (fun hHeld=>?_);clear hK K;try simp only[Act.put]
       refine aX 14 ?_;refine aY ?_;exact⟨rfl,(nb,CA,_),rfl,bY,hr,hHeld.1,KJ⟩
  rintro⟨nb,CA,VV⟩ w2 ⟨jI,hr,aO,hG⟩;try dsimp only
  dsimp only at jI hr hG;have dO:=hB.trans (aO.mono (by omega));clear dc aO hB hn;have HG:=hid hG;have P6:=hid hr;have cD:=hid dO;clear hG hr dO
  by_cases h0:code=0
  ·have d0:(code != 0)=false:=by simpa using h0
   obtain⟨v,SF,hv,El⟩:=HG.out.2.2 h0;obtain⟨A9,M9,c9,rfl⟩:=cz hv.1;have HV:=hid (And.intro hv El);have H0:=hid h0;subst SF;clear h0 hv El HG;unfold bJ at P6 ⊢;obtain⟨N,hN⟩:∃ N,w2.heap.size=N:=⟨_,rfl⟩
   go_wp2_with (first
    | (refine wpList_load_row rfl 179 (.tmp 12) rfl nb rfl 179 #[.int .i64 o.k,.int .i64 o.wd,.int .i64 o.s,.int .i64 o.c,.int .u32 o.st,.slice o.I o.ni o.ci,.int .i64 o.wr,.slice o.R o.nr o.cr,.int .i64 op,.int .i64 rd,.int .i64 0,.int .i64 0,.int .i64 0,.int .u32 0,.int .u32 0,.int .u64 0,.slice A9 M9 c9,.pointer none,.int .i64 at',.int .i64 sz,.int .i64 0,.int .i64 0,.bool false] (0,0) _ P6.out Tryz.underlying179 rfl (by kernel_rfl) ?_
       refine wpList_build rfl _ _ rfl (by kernel_rfl) ?_;refine Great.wpList_boxTo rfl _ (.tmp 30) rfl (some 31) rfl N hN #[.int .i64 o.k,.int .i64 o.wd,.int .i64 o.s,.int .i64 o.c,.int .u32 o.st,.slice o.I o.ni o.ci,.int .i64 o.wr,.slice o.R o.nr o.cr,.int .i64 op,.int .i64 rd,.int .i64 0,.int .i64 0,.int .i64 0,.int .u32 0,.int .u32 0,.int .u64 0,.slice A9 M9 c9,.pointer none,.int .i64 at',.int .i64 sz,.int .i64 0,.int .i64 0,.bool false] (by kernel_rfl) ?_))
   go_ret2;refine⟨some ⟨N,0,none⟩,(by rw[H0.out];rfl),cD.out.alloc (by have:=cD.out.size;omega) _,fun h=>absurd H0.out h,fun _=>⟨N,.slice A9 M9 c9,rfl,by have:=cD.out.size;omega,?_,⟨(bl (T:=fun _=>False) HV.out.1.1 (Tch.of_below _ ((Below.refl _ _).alloc (Nat.le_refl _) _)) (fun _ _ h=>h)).mono (by omega),HV.out.1.2⟩,fun e=>?_⟩⟩
   ·rw[← hN];exact RowB.new w2 _ _
   ·have:=World.ownsRow.lt HV.out.1.1 N e;omega
  ·have d0:(code != 0)=true:=by simpa using h0
   have H0:=hid h0;clear h0;go_wp2_with fail;go_ret2;exact⟨none,rfl,cD.out,fun _=>rfl,fun h=>absurd h H0.out⟩
theorem su (ho:o.Ok) (hk:o.k=1) (w:World) (hl:r.length≤1000000) (hr:Ws w w.heap.size A r):jR o at' op rd A cap r 153 181 (aB o) (ql o (aB o) at' op rd r.length 2 1) w:=
 (ii o at' op rd A cap r w hr _ _).1 (fun W=>kp o ho hk W) (fun W hr=>fu o (aB o) at' op rd A cap r 2 1 W hl hr)
theorem si (ho:o.Ok) (hk:o.k=2) (w:World) (hl:r.length≤1000000) (hr:Ws w w.heap.size A r):jR o at' op rd A cap r 154 182 (aB o) (ql o (aB o) at' op rd r.length 2 1) w:=
 (ii o at' op rd A cap r w hr _ _).2.1 (fun W=>kg o ho hk W) (fun W hr=>fu o (aB o) at' op rd A cap r 2 1 W hl hr)
theorem uO (ho:o.Ok) (hk:o.k=3) (w:World) (hl:r.length≤1000000) (hr:Ws w w.heap.size A r):jR o at' op rd A cap r 155 183 (aB o) (ql o (aB o) at' op rd r.length 2 1) w:=
 (ii o at' op rd A cap r w hr _ _).2.2.1 (fun W=>qp o ho hk W) (fun W hr=>fu o (aB o) at' op rd A cap r 2 1 W hl hr)
theorem tj (ho:o.Ok) (hk:o.k=4) (w:World) (hl:r.length≤1000000) (hr:Ws w w.heap.size A r):jR o at' op rd A cap r 156 184 (aB o) (ql o (aB o) at' op rd r.length 2 1) w:=
 (ii o at' op rd A cap r w hr _ _).2.2.2.1 (fun W=>kB o ho hk W) (fun W hr=>fu o (aB o) at' op rd A cap r 2 1 W hl hr)
theorem tU (ho:o.Ok) (hk:o.k=5) (w:World) (hl:r.length≤1000000) (hr:Ws w w.heap.size A r):jR o at' op rd A cap r 157 185 (aB o) (ql o (aB o) at' op rd r.length 2 1) w:=
 (ii o at' op rd A cap r w hr _ _).2.2.2.2.1 (fun W=>lZ o ho hk W) (fun W hr=>fu o (aB o) at' op rd A cap r 2 1 W hl hr)
theorem sn (ho:o.Ok) (hk:¬ o.k=1∧¬ o.k=2∧¬ o.k=3∧¬ o.k=4∧¬ o.k=5) (w:World) (hl:r.length≤1000000) (hr:Ws w w.heap.size A r):jR o at' op rd A cap r 158 186 (aB o) (ql o (aB o) at' op rd r.length 3 4) w:=
 (ii o at' op rd A cap r w hr _ _).2.2.2.2.2 (fun W=>km o ho hk W) (fun W hr=>fu o (aB o) at' op rd A cap r 3 4 W hl hr)
end
end Go.Proofs.YtabfcjohdgjkoaaGreatDoor
