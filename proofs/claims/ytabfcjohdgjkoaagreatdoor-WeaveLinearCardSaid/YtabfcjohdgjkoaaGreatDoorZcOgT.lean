/- The statement ObjectEnds: an operation ends within its bound, whatever others do. -/
import Derived.Test.YtabfcjohdgjkoaaGreatDoorZcOgS
namespace Go.Proofs.YtabfcjohdgjkoaaGreatDoor
open Go.RowKit
open Go.Lib (hid)
attribute [local go_sem] Oper.semAt_some
set_option maxHeartbeats 1000000
set_option maxRecDepth 100000
def us (l:List Int):Array Value:=(l.map fun z=>Value.int .u32 z).toArray
theorem IP {w:World} {g:Nat} {l:List Int} (h:RowB w g (us l) 22) (hl:l.length≤maxLen):Own (bn .u32) 22 0 w (.slice (some ⟨g,0,none⟩) l.length l.length) l:=by
 have eS:(bn .u32).all l=l.map (Value.int .u32):=iI _ _ l;unfold Own;rw[eS];have hs:(bn .u32).size=1:=rfl;rw[hs];refine⟨by simp,.inr ⟨g,l.length,us l,rfl,Nat.zero_le _,h,Nat.le_refl _,hl,by simp[us],?_⟩⟩;simp only[us,Nat.mul_one];exact List.take_of_length_le (by simp)
theorem TP (N:Nat) (h:N≤100000) (w:World):(Instr.makeSlice 23 (.int .i64 (N:Int)) (.int .i64 (N:Int))).run Tryz.prog w=.ok (.slice (some ⟨w.heap.size,0,none⟩) N N) (w.alloc (.cells (us (List.replicate N 0)) 22)):=by
 obtain⟨i,hi,h1,h2,h3⟩:=info_parts (P:=Tryz.prog) (e:=22) (z:=.int .u32 0) (size:=1) (bytes:=4) (by kernel_rfl);have hr:=run_make (P:=Tryz.prog) w 23 22 i (.int .u32 0) Tryz.underlying23 hi h1 .i64 .i64 (N:Int) (N:Int) (by omega) (by omega) (by rw[h3];omega) (by omega);rw[hr,h2]
 have e:madeCells (Value.int .u32 0).cells ((N:Int).toNat*1)=us (List.replicate N 0):=by
  apply Array.ext';rw[show(Value.int .u32 0).cells=#[.int .u32 0] from rfl,toList_madeCells_one];simp[us]
 rw[e];rfl
theorem IJ (N:Nat) (h:N≤4096) (w:World):Calls Tryz.prog 48 #[.int .i64 (N:Int)] w fun e w'=>e=.returned (.tuple #[.pointer (some ⟨w.heap.size+1,0,none⟩),.int .i64 0])∧w'=(w.alloc (.cells (us (List.replicate N 0)) 22)).alloc (.cells #[.slice (some ⟨w.heap.size,0,none⟩) N N,.int .i64 0] 126):=by
 have d0:decide ((N:Int)<0)=false:=decide_eq_false (by omega);have d1:decide ((4096:Int)<(N:Int))=false:=decide_eq_false (by omega);have vS:=TP N (by omega);obtain⟨U,hU⟩:∃ x,us (List.replicate N 0)=x:=⟨_,rfl⟩;rw[hU] at vS ⊢;clear hU h;go_enter Tryz.func48,Tryz.ntmps48;go_wp2_with fail;go_ret2;exact⟨rfl,rfl⟩
theorem Ev (w:World) {N:Nat} (h:N≤4096):MemG ((w.alloc (.cells (us (List.replicate N 0)) 22)).alloc (.cells #[.slice (some ⟨w.heap.size,0,none⟩) N N,.int .i64 0] 126)) (w.heap.size+1) w.heap.size (List.replicate N 0):=by
 have hr:=RowB.new w (us (List.replicate N 0)) 22;have hb:=(Below.refl _ (w.alloc (.cells (us (List.replicate N 0)) 22))).alloc (Nat.le_refl _) (.cells #[.slice (some ⟨w.heap.size,0,none⟩) N N,.int .i64 0] 126);have hm:=RowB.new (w.alloc (.cells (us (List.replicate N 0)) 22)) #[.slice (some ⟨w.heap.size,0,none⟩) N N,.int .i64 0] 126;rw[World.size_alloc] at hm;have ho:=IP (hr.kept hb) (by simp[maxLen];omega);refine⟨0,N,?_,?_,by omega,by simp;omega,fun z hz=>?_⟩
 ·rw[List.length_replicate];exact hm
 ·rw[List.length_replicate] at ho ⊢;exact ho
 ·rw[List.mem_replicate] at hz;rw[hz.2];omega
theorem Eu {w:World} {mb lb:Nat} {l l':List Int} (h:MemG w mb lb l) (hl:l'.length=l.length) (hw:W32 l') {cur:Array Value} (hr:RowB w lb cur 22):MemG (w.setRow lb ((cur.toList.take 0++l'.map (Value.int .u32)++cur.toList.drop (0+(l'.map (Value.int .u32)).length)).toArray)) mb lb l':=by
 obtain⟨k,c,hm,ho,hn,hb,_⟩:=h;have eS:∀ l:List Int,(bn .u32).all l=l.map (Value.int .u32):=fun l=>iI _ _ l
 refine⟨k,c,by rw[hl];exact hm.far (fun e=>hn e.symm),?_,hn,by omega,hw⟩;have h1:=ho.1;unfold Own at ho ⊢;rw[eS] at ho ⊢;have bN:(bn .u32).size=1:=rfl;rw[bN] at ho ⊢;refine⟨by simp,?_⟩
 rcases ho.2 with ⟨h2,_⟩ | ⟨g',cap,cur',hv,hg,hh,ic,sE,bY,JH⟩
 ·cases h2
 ·injection hv with hA i6 hc
  injection hA with hA
  injection hA with hA
  subst hA hc
  have Hq:cur'=cur:=by
   have h3:w.heap[lb]?=some (.cells cur 22 (0,0)):=hr;rw[hh] at h3
   injection h3 with h3
   injection h3
  subst Hq;refine .inr ⟨lb,c,_,by rw[hl],hg,RowB.row (w:=w) (n:=lb) hh,by omega,sE,?_,?_⟩
  ·simp;omega
  ·simp
theorem Ew (mb lb:Nat) (l l':List Int) (A:Option Addr) (cap:Nat) (w:World) (hm:MemG w mb lb l) (hl:l'.length=l.length) (hr:Ws w w.heap.size A l'):
  Calls Tryz.prog 50 #[.pointer (some ⟨mb,0,none⟩),.int .i64 0,.slice A l'.length cap] w fun e w'=>e=.returned (.int .i64 0)∧MemG w' mb lb l'∧Tch (fun b=>b=lb) w w':=by
 have bf:=hm.len;have HI:=hid fun W=>sM (l.length:Int) 0 (l'.length:Int) W (by omega) (by omega) (by omega) (by omega) (by omega)
 have hin:decide ((0:Int)≤(l.length:Int)∧(l'.length:Int)≤(l.length:Int) - 0)=true:=decide_eq_true (by omega);rw[hin] at HI;have HM:=hid hm;have HR:=hid hr;have HL:=hid hl;obtain⟨k,c,Rn,ho,eZ,_,hw⟩:=hm;have c0:=Rn.at 0 (.slice (some ⟨lb,0,none⟩) l.length c)
 obtain⟨pw,oe⟩:l.length≤c∧c≤maxLen:=by
  obtain⟨_,_,hv,h2,_⟩:=ho.sl
  injection hv with h3 h4 h5
  rw[h5];exact h2
 unfold maxLen at oe;clear hr Rn ho hw hin hl;go_enter Tryz.func50,Tryz.ntmps50;go_wp2_with fail;refine(HI.out _).mono ?_;rintro e w1 ⟨rfl,hb⟩;have fY:=HM.out.belo hb;have bV:=HR.out.below hb hb.size;have Ou:=fY;obtain⟨k1,c1,Lh,bZ,_,_,_⟩:=Ou;have d0:w1.cell? ⟨mb,0,none⟩=some (.slice (some ⟨lb,0,none⟩) l.length c):=(hb.cell (p:=⟨mb,0,none⟩) (aM c0)).trans c0;have Ro:Nat.min l'.length l.length=l'.length:=Nat.min_eq_left (by have:=HL.out;omega)
 by_cases h0:l'=[]
 ·subst h0;have uo:l=[]:=List.eq_nil_of_length_eq_zero (by have:=HL.out;simpa using this.symm);subst uo
  have vO:(Builtin.copy_ #[23,23] 3 #[.slice (some ⟨lb,0,none⟩) 0 c,.slice A 0 cap]).run Tryz.prog w1=.ok (.int .i64 0) w1:=
   run_copy_none (P:=Tryz.prog) w1 23 23 3 22 (some ⟨lb,0,none⟩) A 0 c 0 cap Tryz.underlying23 (by kernel_rfl) rfl
  have aT:=hid fY;have HB:=hid hb;clear hb fY bV Lh bZ;simp only[List.length_nil] at *;go_wp2_with fail;go_ret;exact⟨rfl,aT.out,Tch.of_below _ HB.out⟩
 ·obtain⟨x,hx⟩:∃ x,l'[0]?=some x:=by
   cases l' with
   | nil=>exact absurd rfl h0
   | cons x t=>exact⟨x,rfl⟩
  obtain⟨_,sb,so,hA,_,_⟩:=bV.get hx;subst hA;obtain⟨cur,xk⟩:=nw bZ
  have lJ:cur.size=c1:=by
   rcases bZ.2 with ⟨h2,_⟩ | ⟨g',cap',cur',hv,hg,hh,ic,sE,bY,JH⟩
   ·cases h2
   ·injection hv with hA i6 hc
    injection hA with hA
    injection hA with hA
    subst hA hc;have h3:w1.heap[lb]?=some (.cells cur 22 (0,0)):=xk;rw[hh] at h3
    injection h3 with h3
    injection h3 with h3
    rw[← h3,bY];exact Nat.mul_one _
  have o8:l.length≤c1:=by
   obtain⟨_,_,hv,h2,_⟩:=bZ.sl
   injection hv with h3 h4 h5
   rw[h5];exact h2.1
  have vO:(Builtin.copy_ #[23,23] 3 #[.slice (some ⟨lb,0,none⟩) l.length c,.slice (some ⟨sb,so,none⟩) l'.length cap]).run Tryz.prog w1=.ok (.int .i64 (l'.length:Int)) (w1.setRow lb ((cur.toList.take 0++l'.map (Value.int .u32)++cur.toList.drop (0+(l'.map (Value.int .u32)).length)).toArray)):=by
   have:=run_copy_row (P:=Tryz.prog) w1 23 23 3 22 lb 0 l.length c ⟨sb,so,none⟩ l'.length cap cur 22 (l'.map (Value.int .u32)) Tryz.underlying23 (by kernel_rfl) xk (by rw[List.length_map];exact Ro.symm) (fun j v hv=>by
    rw[List.getElem?_map] at hv;cases hq:l'[j]? with
    | none=>rw[hq] at hv;cases hv
    | some z=>
     rw[hq] at hv
     injection hv with hv
     subst hv;obtain⟨_,b2,o2,he,_,hc⟩:=bV.get hq
     injection he with he
     injection he with e1 e2 e3
     subst e1 e2;rw[Addr.add_lit];exact hc) (by rw[List.length_map];have:=HL.out;omega) (fun v hv=>by
    rw[List.mem_map] at hv;obtain⟨z,_,rfl⟩:=hv;rfl)
   rw[this,List.length_map];rfl
  have dN:=Eu fY HL.out (jD bV) xk;have ht:=(Tch.of_below (fun b=>b=lb) hb).row (b:=lb) rfl ((cur.toList.take 0++l'.map (Value.int .u32)++cur.toList.drop (0+(l'.map (Value.int .u32)).length)).toArray);obtain⟨CU,Qx⟩:∃ x,(cur.toList.take 0++l'.map (Value.int .u32)++cur.toList.drop (0+(l'.map (Value.int .u32)).length)).toArray=x:=⟨_,rfl⟩;rw[Qx] at vO dN ht;have HF:=hid dN;have HT:=hid ht;clear hb fY bV Lh bZ xk lJ o8 dN ht Qx hx h0 Ro;go_wp2_with fail;go_ret;exact⟨rfl,HF.out,HT.out⟩
structure Pk where
 t:Int
 a:Int
 w:Int
def MO:Enc Pk:=⟨fun p=>[.int .i64 p.t,.int .i64 p.a,.int .u32 p.w],3,fun _=>rfl,fun p u hu=>by simp at hu;rcases hu with rfl | rfl | rfl <;> rfl,by omega⟩
def Pks (w:World) (B:Nat) (A:Option Addr) (l:List Pk):Prop:=SlOf MO w B A l∧∀ p ∈ l,0≤p.w∧p.w<4294967296
def L4 (turn:Int) (l:List Int) (p:Pk):List Int:=if p.t=turn∧0≤p.a∧p.a<l.length then l.set p.a.toNat p.w else l
def RP (turn:Int) (ps:List Pk) (l:List Int):List Int:=ps.foldl (L4 turn) l
theorem Pks.get {w:World} {B:Nat} {A:Option Addr} {l:List Pk} (h:Pks w B A l) {k:Nat} {p:Pk} (hk:l[k]?=some p):∃ b off,A=some ⟨b,off,none⟩∧b<B∧w.cell? ⟨b,off+k*3,none⟩=some (.int .i64 p.t)∧w.cell? ⟨b,off+k*3+1,none⟩=some (.int .i64 p.a)∧w.cell? ⟨b,off+k*3+2,none⟩=some (.int .u32 p.w):=by
 obtain⟨b,off,hA,aJ,hc⟩:=h.1 k p hk;have h0:=hc 0 _ rfl;have h1:=hc 1 _ rfl;have h2:=hc 2 _ rfl;refine⟨b,off,hA,aJ,?_,?_,?_⟩
 ·simpa [MO] using h0
 ·simpa [MO,Nat.add_assoc] using h1
 ·simpa [MO,Nat.add_assoc] using h2
theorem Pks.below {w w':World} {B B':Nat} {A:Option Addr} {l:List Pk} (h:Pks w B A l) (hb:Below B w w') (hB:B≤B'):Pks w' B' A l:=⟨h.1.below hb hB,h.2⟩
structure Cs where
 o:Ob
 a:Int
 op:Int
 rd:Int
 RA:Option Addr
 rn:Nat
 rc:Nat
 LA:Option Addr
 ln:Nat
 lc:Nat
 PA:Option Addr
 pn:Nat
 pc:Nat
def TZ (c:Cs):Array Value:=#[.int .i64 c.o.k,.int .i64 c.o.wd,.int .i64 c.o.s,.int .i64 c.o.c,.int .u32 c.o.st,.slice c.o.I c.o.ni c.o.ci,.int .i64 c.o.wr,.slice c.o.R c.o.nr c.o.cr,.int .i64 c.a,.int .i64 c.op,.int .i64 c.rd,.slice c.RA c.rn c.rc,.slice c.LA c.ln c.lc,.slice c.PA c.pn c.pc]
structure Bo (w:World) (mb lb l2:Nat) (cap:Nat) (lm l:List Int):Prop where
 mem:MemG w mb lb lm
 own:Own (bn .u32) 22 0 w (.slice (some ⟨l2,0,none⟩) l.length cap) l
 len:lm.length=l.length
 n1:l2≠mb
 n2:l2≠lb
theorem Bo.tch {w w':World} {mb lb l2 cap:Nat} {lm l:List Int} {T:Nat→Prop} (h:Bo w mb lb l2 cap lm l) (hk:Tch T w w') (h1:¬ T mb) (h2:¬ T lb) (h3:¬ T l2):Bo w' mb lb l2 cap lm l:=
 ⟨h.mem.tch hk h1 h2,bl h.own hk (fun b hb=>by have:l2=b:=Option.some.inj hb;rw[← this];exact h3),h.len,h.n1,h.n2⟩
theorem Bo.belo {w w':World} {mb lb l2 cap:Nat} {lm l:List Int} (h:Bo w mb lb l2 cap lm l) (hb:Below w.heap.size w w'):Bo w' mb lb l2 cap lm l:=h.tch (T:=fun _=>False) (Tch.of_below _ hb) (fun h=>h) (fun h=>h) (fun h=>h)
def Tb (mb lb l2:Nat) (b:Nat):Prop:=b=mb∨b=lb∨b=l2
def o1 (n:Nat):Ob:=⟨3,1,0,1,0,some ⟨n,0,none⟩,1,1,0,some ⟨n+1,0,none⟩,1,1⟩
def Sz:Nat:=0
set_option maxHeartbeats 1000000
set_option maxRecDepth 100000
def fQ (o:Ob):Prop:=o.ni≤100∧o.nr≤100
def AK (c:Cs):Prop:=c.o.ni≤100∧c.o.nr≤100∧c.rn≤100∧c.ln≤400∧c.pn≤100
theorem EW (o:Ob) (w:World) (h1:decide ((o.ni:Int)≤100)=true) (h2:decide ((o.nr:Int)≤100)=true):Calls Tryz.prog 27 #[.agg (af o)] w fun e w'=>e=.returned (.bool true)∧Below w.heap.size w w':=by
 have hB:=hid (bK w (.cells (af o) 26));have k1:decide (o.ni≤100)=true:=by rw[← h1,decide_eq_decide];omega
 have k2:decide (o.nr≤100)=true:=by rw[← h2,decide_eq_decide];omega
 unfold af at hB;unfold af;go_enter Tryz.func27,Tryz.ntmps27;go_wp2_with fail;go_ret;exact⟨rfl,hB.out⟩
theorem EX (o:Ob) (w:World) (h1:decide ((o.ni:Int)≤100)=true) (h2:decide ((o.nr:Int)≤100)=false):Calls Tryz.prog 27 #[.agg (af o)] w fun e w'=>e=.returned (.bool false)∧Below w.heap.size w w':=by
 have hB:=hid (bK w (.cells (af o) 26));have k1:decide (o.ni≤100)=true:=by rw[← h1,decide_eq_decide];omega
 have k2:decide (o.nr≤100)=false:=by rw[← h2,decide_eq_decide];omega
 unfold af at hB;unfold af;go_enter Tryz.func27,Tryz.ntmps27;go_wp2_with fail;go_ret;exact⟨rfl,hB.out⟩
theorem EY (o:Ob) (w:World) (h1:decide ((o.ni:Int)≤100)=false):Calls Tryz.prog 27 #[.agg (af o)] w fun e w'=>e=.returned (.bool false)∧Below w.heap.size w w':=by
 have hB:=hid (bK w (.cells (af o) 26));have k1:decide (o.ni≤100)=false:=by rw[← h1,decide_eq_decide];omega
 unfold af at hB;unfold af;go_enter Tryz.func27,Tryz.ntmps27;go_wp2_with fail;go_ret;exact⟨rfl,hB.out⟩
instance (o:Ob):Decidable (fQ o):=by unfold fQ;infer_instance
instance (c:Cs):Decidable (AK c):=by unfold AK;infer_instance
theorem nA (o:Ob) (w:World):Calls Tryz.prog 27 #[.agg (af o)] w fun e w'=>e=.returned (.bool (decide (fQ o)))∧Below w.heap.size w w':=by
 by_cases h1:o.ni≤100
 ·by_cases h2:o.nr≤100
  ·rw[decide_eq_true (show fQ o from⟨h1,h2⟩)];exact EW o w (decide_eq_true (by omega)) (decide_eq_true (by omega))
  ·rw[decide_eq_false (fun h:fQ o=>h2 h.2)];exact EX o w (decide_eq_true (by omega)) (decide_eq_false (by omega))
 ·rw[decide_eq_false (fun h:fQ o=>h1 h.1)];exact EY o w (decide_eq_false (by omega))
set_option maxRecDepth 100000
structure CsOk (c:Cs) (r l:List Int) (ps:List Pk) (W:World):Prop where
 rn:c.rn=r.length
 ln:c.ln=l.length
 pn:c.pn=ps.length
 r:Ws W W.heap.size c.RA r
 l:Ws W W.heap.size c.LA l
 p:Pks W W.heap.size c.PA ps
 a0:-9223372036854775808≤c.a
 a1:c.a<9223372036854775808
 tab:Tab64 W
 g:Sz<W.heap.size
section
variable {W:World} {c:Cs} {L M xb mb lb l2 cap k:Nat} {wr w':World}
end
end Go.Proofs.YtabfcjohdgjkoaaGreatDoor
