/- An operation of each kind begins. -/
import Derived.Test.YtolmpehgeinlkaaGreatDoorZcOgQ
namespace Go.Proofs.YtolmpehgeinlkaaGreatDoor
open Go.RowKit
open Go.Lib (hid)
attribute [local go_sem] Oper.semAt_some
set_option maxHeartbeats 8000000
set_option maxRecDepth 100000
def lz (o:Ob) (sz at' op rd:Int) (n:Nat) (a b:Int):Int:=
 if sz<1∨at'<0 then 1 else if op=a then (if rd<0∨1≤rd then 5 else if (n:Int)≠o.wd then 4 else 0) else if op=b then (if rd<0∨(o.nr:Int)≤rd then 5 else if (n:Int)≠0 then 4 else 0) else 9
def MbR (o:Ob) (sz at' op rd:Int) (r:List Int) (code:Int) (w:World) (arr:Array Value) (w':World):Prop:=
 arr.size=23∧arr.all (·.oneCell')=true∧Below w.heap.size w w'∧(code=0→∃ v,arr=bR o op rd at' sz v∧OwnW w.heap.size w' v r)
theorem MbR.err {o:Ob} {sz at' op rd:Int} {r:List Int} {code:Int} {w w':World} (hc:code≠0) (hb:Below w.heap.size w w'):MbR o sz at' op rd r code w aK w':=⟨rfl,by simp[aK,Value.oneCell'],hb,fun h=>absurd h hc⟩
theorem eV (o:Ob) (sz at' op rd:Int) (A:Option Addr) (cap:Nat) (r:List Int) (a b:Int) (w:World) (hl:r.length≤1000000) (hr:Ws w w.heap.size A r):
  Calls Tryz.prog 156 #[.agg (af o),.int .i64 sz,.int .i64 at',.int .i64 op,.int .i64 rd,.slice A r.length cap,.agg #[.int .i64 a,.int .i64 b]] w fun e w'=>∃ arr,e=.returned (.tuple #[.agg arr,.int .i64 (lz o sz at' op rd r.length a b)])∧MbR o sz at' op rd r (lz o sz at' op rd r.length a b) w arr w':=by
 have er:∀ (code:Int),lz o sz at' op rd r.length a b=code→code≠0→(Calls Tryz.prog 156 #[.agg (af o),.int .i64 sz,.int .i64 at',.int .i64 op,.int .i64 rd,.slice A r.length cap,.agg #[.int .i64 a,.int .i64 b]] w fun e w'=>e=.returned (.tuple #[.agg aK,.int .i64 code])∧Below w.heap.size w w')→Calls Tryz.prog 156 #[.agg (af o),.int .i64 sz,.int .i64 at',.int .i64 op,.int .i64 rd,.slice A r.length cap,.agg #[.int .i64 a,.int .i64 b]] w fun e w'=>∃ arr,e=.returned (.tuple #[.agg arr,.int .i64 (lz o sz at' op rd r.length a b)])∧MbR o sz at' op rd r (lz o sz at' op rd r.length a b) w arr w':=fun code hc h0 h=>by
  rw[hc];exact h.mono fun e w' ⟨he,hb⟩=>⟨_,he,MbR.err h0 hb⟩
 have ok:lz o sz at' op rd r.length a b=0→(Calls Tryz.prog 156 #[.agg (af o),.int .i64 sz,.int .i64 at',.int .i64 op,.int .i64 rd,.slice A r.length cap,.agg #[.int .i64 a,.int .i64 b]] w fun e w'=>∃ v,e=.returned (.tuple #[.agg (bR o op rd at' sz v),.int .i64 0])∧OwnW w.heap.size w' v r∧Below w.heap.size w w')→Calls Tryz.prog 156 #[.agg (af o),.int .i64 sz,.int .i64 at',.int .i64 op,.int .i64 rd,.slice A r.length cap,.agg #[.int .i64 a,.int .i64 b]] w fun e w'=>∃ arr,e=.returned (.tuple #[.agg arr,.int .i64 (lz o sz at' op rd r.length a b)])∧MbR o sz at' op rd r (lz o sz at' op rd r.length a b) w arr w':=fun hc h=>by
  rw[hc];refine h.mono fun e w' ⟨v,he,hv,hb⟩=>⟨_,he,rfl,?_,hb,fun _=>⟨v,rfl,hv⟩⟩
  obtain⟨A9,M9,c9,rfl⟩:=aR hv.1;simp[bR,Value.oneCell']
 unfold lz at er ok ⊢
 by_cases h1:sz<1
 ·rw[if_pos (.inl h1)] at er ok ⊢;exact er 1 rfl (by decide) (vu o sz at' op rd A cap r a b w h1)
 by_cases h2:at'<0
 ·rw[if_pos (.inr h2)] at er ok ⊢;exact er 1 rfl (by decide) (tZ o sz at' op rd A cap r a b w (by omega) h2)
 rw[if_neg (by rintro(q | q);exact h1 q;exact h2 q)] at er ok ⊢
 by_cases h3:op=a
 ·rw[if_pos h3] at er ok ⊢
  by_cases h5:rd<0
  ·rw[if_pos (.inl h5)] at er ok ⊢;exact er 5 rfl (by decide) (xf o sz at' op rd A cap r a b w (by omega) (by omega) h3 h5)
  by_cases h6:1≤rd
  ·rw[if_pos (.inr h6)] at er ok ⊢;exact er 5 rfl (by decide) (tY o sz at' op rd A cap r a b w (by omega) (by omega) h3 (by omega) h6)
  rw[if_neg (by rintro(q | q);exact h5 q;exact h6 q)] at er ok ⊢
  by_cases h7:(r.length:Int)=o.wd
  ·rw[if_neg (fun q=>q h7)] at er ok ⊢;exact ok rfl (vj o sz at' op rd A cap r a b w hl hr (by omega) (by omega) h3 (by omega) (by omega) h7)
  ·rw[if_pos h7] at er ok ⊢;exact er 4 rfl (by decide) (vm o sz at' op rd A cap r a b w (by omega) (by omega) h3 (by omega) (by omega) h7)
 rw[if_neg h3] at er ok ⊢
 by_cases h4:op=b
 ·rw[if_pos h4] at er ok ⊢
  by_cases h5:rd<0
  ·rw[if_pos (.inl h5)] at er ok ⊢;exact er 5 rfl (by decide) (u9 o sz at' op rd A cap r a b w (by omega) (by omega) h3 h4 h5)
  by_cases h6:(o.nr:Int)≤rd
  ·rw[if_pos (.inr h6)] at er ok ⊢;exact er 5 rfl (by decide) (sS o sz at' op rd A cap r a b w (by omega) (by omega) h3 h4 (by omega) h6)
  rw[if_neg (by rintro(q | q);exact h5 q;exact h6 q)] at er ok ⊢
  by_cases h7:(r.length:Int)=0
  ·rw[if_neg (fun q=>q h7)] at er ok ⊢;exact ok rfl (vy o sz at' op rd A cap r a b w hl hr (by omega) (by omega) h3 h4 (by omega) (by omega) h7)
  ·rw[if_pos h7] at er ok ⊢;exact er 4 rfl (by decide) (vs o sz at' op rd A cap r a b w (by omega) (by omega) h3 h4 (by omega) (by omega) h7)
 rw[if_neg h4] at er ok ⊢;exact er 9 rfl (by decide) (uR o sz at' op rd A cap r a b w (by omega) (by omega) h3 h4)
theorem sN {ι:Type} {P:Program} {id:Nat} {ops:Array Oper} {b:Bool} {a:Act} {w:World} {Q:Exit→Act→World→Prop} (A:ι→Act) (X:ι→World→Prop)
  (h:(Code.region id ops b).wp P (fun e a w=>e=.normal∧∃ nb,a=A nb∧X nb w) a w) (hq:∀ nb w,X nb w→Q .normal (A nb) w):(Code.region id ops b).wp P Q a w:=
 Code.wp_mono (fun e a w ⟨he,nb,ha,hx⟩=>by
  subst he ha;exact hq nb w hx) h
def SbG (w1:World) (n:Nat) (o:Ob) (w':World):Prop:=Below w1.heap.size w1 w'∧w'.cell? ⟨n,0,none⟩=some (.int .i64 o.k)∧w'.cell? ⟨n,1,none⟩=some (.int .i64 o.wd)∧w'.cell? ⟨n,2,none⟩=some (.int .i64 o.s)∧w'.cell? ⟨n,3,none⟩=some (.int .i64 o.c)∧w'.cell? ⟨n,4,none⟩=some (.int .u32 o.st)∧w'.cell? ⟨n,5,none⟩=some (.slice o.I o.ni o.ci)∧w'.cell? ⟨n,6,none⟩=some (.int .i64 o.wr)∧w'.cell? ⟨n,7,none⟩=some (.slice o.R o.nr o.cr)
section
variable {w1 w w':World} {n:Nat} {o:Ob}
theorem SbG.of (hb:Below w1.heap.size w1 w) (h:RowB w n (af o) 26):SbG w1 n o w:=⟨hb,(h.cell 0).trans rfl,(h.cell 1).trans rfl,(h.cell 2).trans rfl,(h.cell 3).trans rfl,(h.cell 4).trans rfl,(h.cell 5).trans rfl,(h.cell 6).trans rfl,(h.cell 7).trans rfl⟩
theorem SbG.below (h:SbG w1 n o w) (hb:Below w.heap.size w w'):SbG w1 n o w':=by
 obtain⟨h1,a0,a1,a2,a3,a4,a5,a6,a7⟩:=h;have hk:∀ {i:Nat} {u:Value},w.cell? ⟨n,i,none⟩=some u→w'.cell? ⟨n,i,none⟩=some u:=fun {i u} hc=>(hb.cell (p:=⟨n,i,none⟩) (aX hc)).trans hc
 exact⟨h1.trans (hb.mono h1.size),hk a0,hk a1,hk a2,hk a3,hk a4,hk a5,hk a6,hk a7⟩
theorem SbG.row {nb:Nat} (h:SbG w1 n o w) (hn:w1.heap.size≤nb) (LQ:n<w1.heap.size) (cells:Array Value):SbG w1 n o (w.setRow nb cells):=by
 obtain⟨h1,a0,a1,a2,a3,a4,a5,a6,a7⟩:=h
 have hk:∀ {i:Nat} {u:Value},w.cell? ⟨n,i,none⟩=some u→(w.setRow nb cells).cell? ⟨n,i,none⟩=some u:=fun {i u} hc=>by
  unfold World.cell? at hc ⊢;rw[setRow_other _ _ _ _ (show n≠nb by omega)];exact hc
 exact⟨bs h1 nb cells hn,hk a0,hk a1,hk a2,hk a3,hk a4,hk a5,hk a6,hk a7⟩
def kX (o:Ob) (sz at' op rd:Int) (r:List Int) (code:Int) (N:Nat) (nb:Nat) (w:World) (arr:Array Value):Prop:=
 arr.size=23∧arr.all (·.oneCell')=true∧(code=0→∃ v,arr=bR o op rd at' sz v∧OwnW N w v r∧v.ownBlock≠some nb)
end
section
variable (o:Ob) (at' op rd:Int) (A:Option Addr) (cap:Nat) (r:List Int)
def i6 (F:Nat) (ty:TypeId) (sz code:Int) (w:World):Prop:=Calls Tryz.prog F #[.agg (af o),.int .i64 at',.int .i64 op,.int .i64 rd,.slice A r.length cap] w fun e w'=>∃ x,e=.returned (.tuple #[.pointer x,.int .i64 code])∧Below w.heap.size w w'∧(code≠0→x=none)∧(code=0→∃ b v,x=some ⟨b,0,none⟩∧w.heap.size≤b∧RowB w' b (bR o op rd at' sz v) ty∧OwnW w.heap.size w' v r∧v.ownBlock≠some b)
def Eo (F:Nat) (sz:Int):Prop:=∀ W:World,Calls Tryz.prog F #[.agg (af o)] W fun e w'=>e=.returned (.int .i64 sz)∧Below W.heap.size W w'
def EG (sz code a b:Int):Prop:=∀ W:World,Ws W W.heap.size A r→Calls Tryz.prog 156 #[.agg (af o),.int .i64 sz,.int .i64 at',.int .i64 op,.int .i64 rd,.slice A r.length cap,.agg #[.int .i64 a,.int .i64 b]] W fun e w'=>∃ arr,e=.returned (.tuple #[.agg arr,.int .i64 code])∧MbR o sz at' op rd r code W arr w'
theorem gD (w:World) (hr:Ws w w.heap.size A r) (sz code:Int):
  (Eo o 59 sz→EG o at' op rd A cap r sz code 2 1→i6 o at' op rd A cap r 132 141 sz code w)∧
  (Eo o 60 sz→EG o at' op rd A cap r sz code 2 1→i6 o at' op rd A cap r 133 142 sz code w)∧
  (Eo o 61 sz→EG o at' op rd A cap r sz code 2 1→i6 o at' op rd A cap r 134 143 sz code w)∧
  (Eo o 62 sz→EG o at' op rd A cap r sz code 2 1→i6 o at' op rd A cap r 135 144 sz code w)∧
  (Eo o 63 sz→EG o at' op rd A cap r sz code 2 1→i6 o at' op rd A cap r 136 145 sz code w)∧
  (Eo o 64 sz→EG o at' op rd A cap r sz code 3 4→i6 o at' op rd A cap r 137 146 sz code w):=by
 have hn:=RowB.new w (af o) 26;have hB:=bt w (.cells (af o) 26);have HR:=hid (hr.below hB hB.size);obtain⟨n,ie⟩:∃ n,w.heap.size=n:=⟨_,rfl⟩;unfold Eo EG i6;rw[ie] at hn hB ⊢;have HN:=hid hn;have HB:=hid hB;clear hn hB hr;unfold af at HN HB HR;unfold af;refine⟨fun bK rX=>?_,fun bK rX=>?_,fun bK rX=>?_,fun bK rX=>?_,fun bK rX=>?_,fun bK rX=>?_⟩;go_enter Tryz.func132,Tryz.ntmps132;rotate_left;go_enter Tryz.func133,Tryz.ntmps133;rotate_left;go_enter Tryz.func134,Tryz.ntmps134;rotate_left;go_enter Tryz.func135,Tryz.ntmps135;rotate_left;go_enter Tryz.func136,Tryz.ntmps136;rotate_left;go_enter Tryz.func137,Tryz.ntmps137;rotate_left
 all_goals
  have Cq:=hid bK;have II:=hid rX;clear bK rX;go_wp2_with fail;obtain⟨w1,dy⟩:∃ x,w.alloc (.cells #[.int .i64 o.k,.int .i64 o.wd,.int .i64 o.s,.int .i64 o.c,.int .u32 o.st,.slice o.I o.ni o.ci,.int .i64 o.wr,.slice o.R o.nr o.cr] 26)=x:=⟨_,rfl⟩;have hn:=HN.out;have hB:=HB.out;have bZ:w1.heap.size=n+1:=by rw[← dy,World.size_alloc,ie]
  have KY:Ws w1 w1.heap.size A r:=by rw[← dy];exact HR.out
  rw[dy] at hn hB ⊢;have JL:=hid KY;clear HN HB HR dy KY;have iR:n<w1.heap.size:=by omega
  have ct:SbG w1 n o w1.drew:=.of (Below.refl _ w1).drew (hn.kept (Below.refl _ w1).drew);refine sN (fun x:Nat × Array Value × Value=>{ tmps:=#[.agg #[.int .i64 o.k,.int .i64 o.wd,.int .i64 o.s,.int .i64 o.c,.int .u32 o.st,.slice o.I o.ni o.ci,.int .i64 o.wr,.slice o.R o.nr o.cr],.int .i64 at',.int .i64 op,.int .i64 rd,.slice A r.length cap,.pointer (some ⟨n,0,none⟩),undef,undef,undef,undef,.pointer none,.int .i64 0,.pointer (some ⟨x.1,0,none⟩),.int .i64 code,.tuple #[.agg x.2.1,.int .i64 code],.agg #[.int .i64 o.k,.int .i64 o.wd,.int .i64 o.s,.int .i64 o.c,.int .u32 o.st,.slice o.I o.ni o.ci,.int .i64 o.wr,.slice o.R o.nr o.cr],.agg #[.int .i64 o.k,.int .i64 o.wd,.int .i64 o.s,.int .i64 o.c,.int .u32 o.st,.slice o.I o.ni o.ci,.int .i64 o.wr,.slice o.R o.nr o.cr],.int .i64 sz,.int .i64 at',.int .i64 op,.int .i64 rd,.slice A r.length cap,x.2.2,.tuple #[.agg x.2.1,.int .i64 code],.agg x.2.1,.int .i64 code,undef,undef,undef,undef,undef,undef],defers:=[] }) (fun x w=>w1.heap.size≤x.1∧RowB w x.1 x.2.1 139∧Below w1.heap.size w1 w∧kX o sz at' op rd r code w1.heap.size x.1 w x.2.1) ?_ ?_
  ·refine wp_region_held_drew (S:=fun w'=>Below w1.heap.size w1 w'∧w'.cell? ⟨n,0,none⟩=some (.int .i64 o.k)∧w'.cell? ⟨n,1,none⟩=some (.int .i64 o.wd)∧w'.cell? ⟨n,2,none⟩=some (.int .i64 o.s)∧w'.cell? ⟨n,3,none⟩=some (.int .i64 o.c)∧w'.cell? ⟨n,4,none⟩=some (.int .u32 o.st)∧w'.cell? ⟨n,5,none⟩=some (.slice o.I o.ni o.ci)∧w'.cell? ⟨n,6,none⟩=some (.int .i64 o.wr)∧w'.cell? ⟨n,7,none⟩=some (.slice o.R o.nr o.cr)) (by kernel_rfl) ct (fun hHeld=>?_);generalize w1.drew=wd at hHeld ⊢;have hHeld:SbG w1 n o wd:=hHeld;refine ap 0 1 3 4 ?_;refine bw 5 6 ?_;refine aF 7 ?_;refine jX [2,12] ?_;refine gN (fun K hK=>?_) ?_
   ·go_simp;refine(Cq.out _).mono ?_;rintro ex wx ⟨rfl,br⟩;have aN:=SbG.below (w1:=w1) (n:=n) (o:=o) hHeld br;refine kH hK aN fun hHeld=>?_
    clear hK K;refine jX [8,12] ?_;refine gN (fun K hK=>?_) ?_
    ·go_simp;refine(II.out _ (JL.out.below hHeld.1 hHeld.1.size)).mono ?_;rintro ex wx ⟨CA,rfl,fq,oW,br,F6⟩;have aN:=SbG.below (w1:=w1) (n:=n) (o:=o) hHeld br;have hG:kX o sz at' op rd r code w1.heap.size wx.heap.size wx CA:=⟨fq,oW,fun h0=>(F6 h0).elim fun v ⟨v5,mL⟩=>⟨v,v5,⟨mL.1.mono (hHeld.1.size),mL.2⟩,fun e=>by have:=World.ownsRow.lt mL.1 _ e;omega⟩⟩;refine kH hK aN fun hHeld=>?_
     clear hK K;refine bw 9 10 ?_;refine aF 11 ?_;refine aJ 12 (fun K hK=>?_);go_simp;have bL:=RowB.new (wx) #[.int .i64 0,.int .i64 0,.int .i64 0,.int .i64 0,.int .u32 0,.slice none 0 0,.int .i64 0,.slice none 0 0,.int .i64 0,.int .i64 0,.int .i64 0,.int .i64 0,.int .i64 0,.int .u32 0,.int .u32 0,.int .u64 0,.slice none 0 0,.pointer none,.int .i64 0,.int .i64 0,.int .i64 0,.int .i64 0,.bool false] 139;have bK:=hHeld.1.size;have ck:=(Below.refl _ (wx)).alloc (Nat.le_refl _) (.cells #[.int .i64 0,.int .i64 0,.int .i64 0,.int .i64 0,.int .u32 0,.slice none 0 0,.int .i64 0,.slice none 0 0,.int .i64 0,.int .i64 0,.int .i64 0,.int .i64 0,.int .i64 0,.int .u32 0,.int .u32 0,.int .u64 0,.slice none 0 0,.pointer none,.int .i64 0,.int .i64 0,.int .i64 0,.int .i64 0,.bool false] 139);have aN:=SbG.below (w1:=w1) (n:=n) (o:=o) hHeld ck;have hG:kX o sz at' op rd r code w1.heap.size (wx).heap.size _ CA:=⟨hG.1,hG.2.1,fun h0=>(hG.2.2 h0).elim fun v ⟨v5,mL,z8⟩=>⟨v,v5,⟨aG (T:=fun _=>False) mL.1 (Tch.of_below _ ck) (fun _ _ h=>h),mL.2⟩,z8⟩⟩;refine kH hK aN fun hHeld=>?_
     clear hK K;obtain⟨wa,wF⟩:∃ x,(wx).alloc (.cells #[.int .i64 0,.int .i64 0,.int .i64 0,.int .i64 0,.int .u32 0,.slice none 0 0,.int .i64 0,.slice none 0 0,.int .i64 0,.int .i64 0,.int .i64 0,.int .i64 0,.int .i64 0,.int .u32 0,.int .u32 0,.int .u64 0,.slice none 0 0,.pointer none,.int .i64 0,.int .i64 0,.int .i64 0,.int .i64 0,.bool false] 139)=x:=⟨_,rfl⟩;obtain⟨nb,fU⟩:∃ x,(wx).heap.size=x:=⟨_,rfl⟩;have bm:RowB wa nb #[.int .i64 0,.int .i64 0,.int .i64 0,.int .i64 0,.int .u32 0,.slice none 0 0,.int .i64 0,.slice none 0 0,.int .i64 0,.int .i64 0,.int .i64 0,.int .i64 0,.int .i64 0,.int .u32 0,.int .u32 0,.int .u64 0,.slice none 0 0,.pointer none,.int .i64 0,.int .i64 0,.int .i64 0,.int .i64 0,.bool false] 139:=by rw[← wF,← fU];exact bL
     rw[wF] at hHeld hG ⊢;rw[fU] at bK hG ⊢;clear wF fU bL;refine jX [13] ?_;refine gN (fun K hK=>?_) AllReadyH.nil;refine dE rfl 139 (.tmp 12) (.tmp 24) rfl nb CA rfl rfl 139 _ bm (by rw[hG.1];kernel_rfl) (by rw[hG.1];rfl) hG.2.1 ?_;have hr:=RowB.row (cells:=CA) bm;have aN:=SbG.row (w1:=w1) (n:=n) (o:=o) (nb:=nb) hHeld bK iR CA;have pg:kX o sz at' op rd r code w1.heap.size nb _ CA:=⟨hG.1,hG.2.1,fun h0=>(hG.2.2 h0).elim fun v ⟨v5,mL,z8⟩=>⟨v,v5,⟨aG (T:=fun b=>b=nb) mL.1 ((Tch.refl (fun b=>b=nb) _).row (b:=nb) rfl CA) (fun b hb e=>z8 (by rw[hb,e])),mL.2⟩,z8⟩⟩;refine hK.out _ _ aN (fun hHeld=>?_);clear hK K;try simp only[Act.put]
     refine aF 14 ?_;refine bh ?_;exact⟨rfl,(nb,CA,_),rfl,bK,hr,hHeld.1,pg⟩
    ·refine gN (fun K hK=>?_) AllReadyH.nil
     ·go_simp;have bL:=RowB.new (wx) #[.int .i64 0,.int .i64 0,.int .i64 0,.int .i64 0,.int .u32 0,.slice none 0 0,.int .i64 0,.slice none 0 0,.int .i64 0,.int .i64 0,.int .i64 0,.int .i64 0,.int .i64 0,.int .u32 0,.int .u32 0,.int .u64 0,.slice none 0 0,.pointer none,.int .i64 0,.int .i64 0,.int .i64 0,.int .i64 0,.bool false] 139;have bK:=hHeld.1.size;have ck:=(Below.refl _ (wx)).alloc (Nat.le_refl _) (.cells #[.int .i64 0,.int .i64 0,.int .i64 0,.int .i64 0,.int .u32 0,.slice none 0 0,.int .i64 0,.slice none 0 0,.int .i64 0,.int .i64 0,.int .i64 0,.int .i64 0,.int .i64 0,.int .u32 0,.int .u32 0,.int .u64 0,.slice none 0 0,.pointer none,.int .i64 0,.int .i64 0,.int .i64 0,.int .i64 0,.bool false] 139);have aN:=SbG.below (w1:=w1) (n:=n) (o:=o) hHeld ck;refine kH hK aN fun hHeld=>?_
      clear hK K;obtain⟨wa,wF⟩:∃ x,(wx).alloc (.cells #[.int .i64 0,.int .i64 0,.int .i64 0,.int .i64 0,.int .u32 0,.slice none 0 0,.int .i64 0,.slice none 0 0,.int .i64 0,.int .i64 0,.int .i64 0,.int .i64 0,.int .i64 0,.int .u32 0,.int .u32 0,.int .u64 0,.slice none 0 0,.pointer none,.int .i64 0,.int .i64 0,.int .i64 0,.int .i64 0,.bool false] 139)=x:=⟨_,rfl⟩;obtain⟨nb,fU⟩:∃ x,(wx).heap.size=x:=⟨_,rfl⟩;have bm:RowB wa nb #[.int .i64 0,.int .i64 0,.int .i64 0,.int .i64 0,.int .u32 0,.slice none 0 0,.int .i64 0,.slice none 0 0,.int .i64 0,.int .i64 0,.int .i64 0,.int .i64 0,.int .i64 0,.int .u32 0,.int .u32 0,.int .u64 0,.slice none 0 0,.pointer none,.int .i64 0,.int .i64 0,.int .i64 0,.int .i64 0,.bool false] 139:=by rw[← wF,← fU];exact bL
      rw[wF] at hHeld ⊢;rw[fU] at bK ⊢;clear wF fU bL;refine jX [8] ?_;refine gN (fun K hK=>?_) AllReadyH.nil
      ·go_simp;refine(II.out _ (JL.out.below hHeld.1 hHeld.1.size)).mono ?_;rintro ex wx ⟨CA,rfl,fq,oW,br,F6⟩;have aN:=SbG.below (w1:=w1) (n:=n) (o:=o) hHeld br;have IQ:=bm.lt;have hG:kX o sz at' op rd r code w1.heap.size nb wx CA:=⟨fq,oW,fun h0=>(F6 h0).elim fun v ⟨v5,mL⟩=>⟨v,v5,⟨mL.1.mono (hHeld.1.size),mL.2⟩,fun e=>by have:=World.ownsRow.lt mL.1 nb e;omega⟩⟩;have bm:=bm.kept br;refine kH hK aN fun hHeld=>?_
       clear hK K;refine bw 9 10 ?_;refine aF 11 ?_;refine jX [13] ?_;refine gN (fun K hK=>?_) AllReadyH.nil;refine dE rfl 139 (.tmp 12) (.tmp 24) rfl nb CA rfl rfl 139 _ bm (by rw[hG.1];kernel_rfl) (by rw[hG.1];rfl) hG.2.1 ?_;have hr:=RowB.row (cells:=CA) bm;have aN:=SbG.row (w1:=w1) (n:=n) (o:=o) (nb:=nb) hHeld bK iR CA;have pg:kX o sz at' op rd r code w1.heap.size nb _ CA:=⟨hG.1,hG.2.1,fun h0=>(hG.2.2 h0).elim fun v ⟨v5,mL,z8⟩=>⟨v,v5,⟨aG (T:=fun b=>b=nb) mL.1 ((Tch.refl (fun b=>b=nb) _).row (b:=nb) rfl CA) (fun b hb e=>z8 (by rw[hb,e])),mL.2⟩,z8⟩⟩;refine hK.out _ _ aN (fun hHeld=>?_);clear hK K;try simp only[Act.put]
       refine aF 14 ?_;refine bh ?_;exact⟨rfl,(nb,CA,_),rfl,bK,hr,hHeld.1,pg⟩
   ·refine gN (fun K hK=>?_) AllReadyH.nil
    ·go_simp;have bL:=RowB.new (wd) #[.int .i64 0,.int .i64 0,.int .i64 0,.int .i64 0,.int .u32 0,.slice none 0 0,.int .i64 0,.slice none 0 0,.int .i64 0,.int .i64 0,.int .i64 0,.int .i64 0,.int .i64 0,.int .u32 0,.int .u32 0,.int .u64 0,.slice none 0 0,.pointer none,.int .i64 0,.int .i64 0,.int .i64 0,.int .i64 0,.bool false] 139;have bK:=hHeld.1.size;have ck:=(Below.refl _ (wd)).alloc (Nat.le_refl _) (.cells #[.int .i64 0,.int .i64 0,.int .i64 0,.int .i64 0,.int .u32 0,.slice none 0 0,.int .i64 0,.slice none 0 0,.int .i64 0,.int .i64 0,.int .i64 0,.int .i64 0,.int .i64 0,.int .u32 0,.int .u32 0,.int .u64 0,.slice none 0 0,.pointer none,.int .i64 0,.int .i64 0,.int .i64 0,.int .i64 0,.bool false] 139);have aN:=SbG.below (w1:=w1) (n:=n) (o:=o) hHeld ck;refine kH hK aN fun hHeld=>?_
     clear hK K;obtain⟨wa,wF⟩:∃ x,(wd).alloc (.cells #[.int .i64 0,.int .i64 0,.int .i64 0,.int .i64 0,.int .u32 0,.slice none 0 0,.int .i64 0,.slice none 0 0,.int .i64 0,.int .i64 0,.int .i64 0,.int .i64 0,.int .i64 0,.int .u32 0,.int .u32 0,.int .u64 0,.slice none 0 0,.pointer none,.int .i64 0,.int .i64 0,.int .i64 0,.int .i64 0,.bool false] 139)=x:=⟨_,rfl⟩;obtain⟨nb,fU⟩:∃ x,(wd).heap.size=x:=⟨_,rfl⟩;have bm:RowB wa nb #[.int .i64 0,.int .i64 0,.int .i64 0,.int .i64 0,.int .u32 0,.slice none 0 0,.int .i64 0,.slice none 0 0,.int .i64 0,.int .i64 0,.int .i64 0,.int .i64 0,.int .i64 0,.int .u32 0,.int .u32 0,.int .u64 0,.slice none 0 0,.pointer none,.int .i64 0,.int .i64 0,.int .i64 0,.int .i64 0,.bool false] 139:=by rw[← wF,← fU];exact bL
     rw[wF] at hHeld ⊢;rw[fU] at bK ⊢;clear wF fU bL;refine jX [2] ?_;refine gN (fun K hK=>?_) AllReadyH.nil
     ·go_simp;refine(Cq.out _).mono ?_;rintro ex wx ⟨rfl,br⟩;have aN:=SbG.below (w1:=w1) (n:=n) (o:=o) hHeld br;have bm:=bm.kept br;refine kH hK aN fun hHeld=>?_
      clear hK K;refine jX [8] ?_;refine gN (fun K hK=>?_) AllReadyH.nil
      ·go_simp;refine(II.out _ (JL.out.below hHeld.1 hHeld.1.size)).mono ?_;rintro ex wx ⟨CA,rfl,fq,oW,br,F6⟩;have aN:=SbG.below (w1:=w1) (n:=n) (o:=o) hHeld br;have IQ:=bm.lt;have hG:kX o sz at' op rd r code w1.heap.size nb wx CA:=⟨fq,oW,fun h0=>(F6 h0).elim fun v ⟨v5,mL⟩=>⟨v,v5,⟨mL.1.mono (hHeld.1.size),mL.2⟩,fun e=>by have:=World.ownsRow.lt mL.1 nb e;omega⟩⟩;have bm:=bm.kept br;refine kH hK aN fun hHeld=>?_
       clear hK K;refine bw 9 10 ?_;refine aF 11 ?_;refine jX [13] ?_;refine gN (fun K hK=>?_) AllReadyH.nil;refine dE rfl 139 (.tmp 12) (.tmp 24) rfl nb CA rfl rfl 139 _ bm (by rw[hG.1];kernel_rfl) (by rw[hG.1];rfl) hG.2.1 ?_;have hr:=RowB.row (cells:=CA) bm;have aN:=SbG.row (w1:=w1) (n:=n) (o:=o) (nb:=nb) hHeld bK iR CA;have pg:kX o sz at' op rd r code w1.heap.size nb _ CA:=⟨hG.1,hG.2.1,fun h0=>(hG.2.2 h0).elim fun v ⟨v5,mL,z8⟩=>⟨v,v5,⟨aG (T:=fun b=>b=nb) mL.1 ((Tch.refl (fun b=>b=nb) _).row (b:=nb) rfl CA) (fun b hb e=>z8 (by rw[hb,e])),mL.2⟩,z8⟩⟩;refine hK.out _ _ aN (fun hHeld=>?_);clear hK K;try simp only[Act.put]
       refine aF 14 ?_;refine bh ?_;exact⟨rfl,(nb,CA,_),rfl,bK,hr,hHeld.1,pg⟩
  rintro⟨nb,CA,VV⟩ w2 ⟨fU,hr,bu,hG⟩;try dsimp only
  dsimp only at fU hr hG;have bz:=hB.trans (bu.mono (by omega));clear ct bu hB hn;have HG:=hid hG;have KH:=hid hr;have cw:=hid bz;clear hG hr bz
  by_cases h0:code=0
  ·have d0:(code != 0)=false:=by simpa using h0
   obtain⟨v,MF,hv,Ff⟩:=HG.out.2.2 h0;obtain⟨A9,M9,c9,rfl⟩:=aR hv.1;have HV:=hid (And.intro hv Ff);have H0:=hid h0;subst MF;clear h0 hv Ff HG;unfold bR at KH ⊢;obtain⟨N,hN⟩:∃ N,w2.heap.size=N:=⟨_,rfl⟩
   go_wp2_with (first
    | (refine wpList_load_row rfl 139 (.tmp 12) rfl nb rfl 139 #[.int .i64 o.k,.int .i64 o.wd,.int .i64 o.s,.int .i64 o.c,.int .u32 o.st,.slice o.I o.ni o.ci,.int .i64 o.wr,.slice o.R o.nr o.cr,.int .i64 op,.int .i64 rd,.int .i64 0,.int .i64 0,.int .i64 0,.int .u32 0,.int .u32 0,.int .u64 0,.slice A9 M9 c9,.pointer none,.int .i64 at',.int .i64 sz,.int .i64 0,.int .i64 0,.bool false] (0,0) _ KH.out Tryz.underlying139 rfl (by kernel_rfl) ?_
       refine wpList_build rfl _ _ rfl (by kernel_rfl) ?_;refine Great.wpList_boxTo rfl _ (.tmp 30) rfl (some 31) rfl N hN #[.int .i64 o.k,.int .i64 o.wd,.int .i64 o.s,.int .i64 o.c,.int .u32 o.st,.slice o.I o.ni o.ci,.int .i64 o.wr,.slice o.R o.nr o.cr,.int .i64 op,.int .i64 rd,.int .i64 0,.int .i64 0,.int .i64 0,.int .u32 0,.int .u32 0,.int .u64 0,.slice A9 M9 c9,.pointer none,.int .i64 at',.int .i64 sz,.int .i64 0,.int .i64 0,.bool false] (by kernel_rfl) ?_))
   go_ret2;refine⟨some ⟨N,0,none⟩,(by rw[H0.out];rfl),cw.out.alloc (by have:=cw.out.size;omega) _,fun h=>absurd H0.out h,fun _=>⟨N,.slice A9 M9 c9,rfl,by have:=cw.out.size;omega,?_,⟨(aG (T:=fun _=>False) HV.out.1.1 (Tch.of_below _ ((Below.refl _ _).alloc (Nat.le_refl _) _)) (fun _ _ h=>h)).mono (by omega),HV.out.1.2⟩,fun e=>?_⟩⟩
   ·rw[← hN];exact RowB.new w2 _ _
   ·have:=World.ownsRow.lt HV.out.1.1 N e;omega
  ·have d0:(code != 0)=true:=by simpa using h0
   have H0:=hid h0;clear h0;go_wp2_with fail;go_ret2;exact⟨none,rfl,cw.out,fun _=>rfl,fun h=>absurd h H0.out⟩
theorem qY (ho:o.Ok) (hk:o.k=1) (w:World) (hl:r.length≤1000000) (hr:Ws w w.heap.size A r):i6 o at' op rd A cap r 132 141 (av o) (lz o (av o) at' op rd r.length 2 1) w:=
 (gD o at' op rd A cap r w hr _ _).1 (fun W=>jj o ho hk W) (fun W hr=>eV o (av o) at' op rd A cap r 2 1 W hl hr)
theorem qC (ho:o.Ok) (hk:o.k=2) (w:World) (hl:r.length≤1000000) (hr:Ws w w.heap.size A r):i6 o at' op rd A cap r 133 142 (av o) (lz o (av o) at' op rd r.length 2 1) w:=
 (gD o at' op rd A cap r w hr _ _).2.1 (fun W=>jx o ho hk W) (fun W hr=>eV o (av o) at' op rd A cap r 2 1 W hl hr)
theorem t6 (ho:o.Ok) (hk:o.k=3) (w:World) (hl:r.length≤1000000) (hr:Ws w w.heap.size A r):i6 o at' op rd A cap r 134 143 (av o) (lz o (av o) at' op rd r.length 2 1) w:=
 (gD o at' op rd A cap r w hr _ _).2.2.1 (fun W=>ov o ho hk W) (fun W hr=>eV o (av o) at' op rd A cap r 2 1 W hl hr)
theorem qs (ho:o.Ok) (hk:o.k=4) (w:World) (hl:r.length≤1000000) (hr:Ws w w.heap.size A r):i6 o at' op rd A cap r 135 144 (av o) (lz o (av o) at' op rd r.length 2 1) w:=
 (gD o at' op rd A cap r w hr _ _).2.2.2.1 (fun W=>jw o ho hk W) (fun W hr=>eV o (av o) at' op rd A cap r 2 1 W hl hr)
theorem sC (ho:o.Ok) (hk:o.k=5) (w:World) (hl:r.length≤1000000) (hr:Ws w w.heap.size A r):i6 o at' op rd A cap r 136 145 (av o) (lz o (av o) at' op rd r.length 2 1) w:=
 (gD o at' op rd A cap r w hr _ _).2.2.2.2.1 (fun W=>kx o ho hk W) (fun W hr=>eV o (av o) at' op rd A cap r 2 1 W hl hr)
theorem re (ho:o.Ok) (hk:¬ o.k=1∧¬ o.k=2∧¬ o.k=3∧¬ o.k=4∧¬ o.k=5) (w:World) (hl:r.length≤1000000) (hr:Ws w w.heap.size A r):i6 o at' op rd A cap r 137 146 (av o) (lz o (av o) at' op rd r.length 3 4) w:=
 (gD o at' op rd A cap r w hr _ _).2.2.2.2.2 (fun W=>ju o ho hk W) (fun W hr=>eV o (av o) at' op rd A cap r 3 4 W hl hr)
end
end Go.Proofs.YtolmpehgeinlkaaGreatDoor
