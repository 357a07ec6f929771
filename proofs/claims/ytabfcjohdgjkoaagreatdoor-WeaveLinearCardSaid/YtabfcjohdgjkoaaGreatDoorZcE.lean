/- A step is opened, or none can be made; what an operation tells. -/
import Derived.Test.YtabfcjohdgjkoaaGreatDoorZcD
import Derived.Lib.TrailingZeros
namespace Go.Proofs.YtabfcjohdgjkoaaGreatDoor
open Go.RowKit
open Go.Lib (hid)
attribute [local go_sem] Oper.semAt_some
set_option maxHeartbeats 1000000
set_option maxRecDepth 100000
theorem Kx (k:Nat) (h:k≤20) (w:World):Calls Tryz.prog 272 #[.int .i64 (k:Int)] w fun e w'=>e=.returned (.int .u64 ((2 ^ k:Nat):Int))∧w'=w:=by
 have h1:decide ((k:Int)<0)=false:=decide_eq_false (by omega);have h2:decide ((63:Int)<(k:Int))=false:=decide_eq_false (by omega)
 have h3:IntKind.u64.wrap (2 ^ k)=((2 ^ k:Nat):Int):=by
  have:2 ^ k≤2 ^ 20:=Nat.pow_le_pow_right (by omega) h;rw[IntKind.wrap_u64,Int.emod_eq_of_lt]
  ·simp
  ·exact Int.le_of_lt (Int.pow_pos (by omega))
  ·have h4:((2 ^ k:Nat):Int)=(2:Int) ^ k:=by simp
   rw[← h4];omega
 go_enter Tryz.func272,Tryz.ntmps272;go_wp2_with fail;go_ret;exact⟨rm (by simp),rfl⟩
theorem L5 (u k:Nat) (hu:u<18446744073709551616) (h:k≤20) (w:World):Calls Tryz.prog 268 #[.int .u64 (u:Int),.int .i64 (k:Int)] w fun e w'=>e=.returned (.int .u64 ((u ||| 2 ^ k:Nat):Int))∧w'=w:=by
 have h1:=hid fun W=>Kx k h W
 have h2:bits BinOp.or IntKind.u64 (u:Int) ((2 ^ k:Nat):Int)=((u ||| 2 ^ k:Nat):Int):=bits_or_u64_nat u (2 ^ k) hu (by have:2 ^ k≤2 ^ 20:=Nat.pow_le_pow_right (by omega) h;omega);obtain⟨p,hp⟩:∃ x,2 ^ k=x:=⟨_,rfl⟩;rw[hp] at h1 h2 ⊢;go_enter Tryz.func268,Tryz.ntmps268;go_wp2_with fail;refine(h1.out _).mono ?_;rintro e w1 ⟨rfl,rfl⟩;go_wp2_with fail;go_ret;exact⟨rfl,rfl⟩
theorem BG {u:Int} {f:Nat→Bool} (h:lW u f) (k:Nat) (hk:k≤20):lW ((u.toNat ||| 2 ^ k:Nat):Int) fun j=>f j || decide (j=k):=by
 obtain⟨h0,h1,h2⟩:=h;have hp:2 ^ k<2 ^ 64:=Nat.pow_lt_pow_right (by omega) (by omega);have aJ:u.toNat ||| 2 ^ k<2 ^ 64:=Nat.or_lt_two_pow (by omega) hp
 refine⟨by omega,by omega,fun j=>?_⟩;rw[Int.toNat_natCast,Nat.testBit_or,h2,Nat.testBit_two_pow]
 congr 1
 by_cases e:k=j
 ·subst e;simp
 ·simp[e];exact fun h=>e h.symm
def Tab64 (w:World):Prop:=∀ j,j<Lib.deBruijn64tab.length→w.cell? ⟨0,j,none⟩=some (.int .u8 (Lib.deBruijn64tab.getD j 0))
theorem Tab64.tch {w w':World} {T:Nat→Prop} (h:Tab64 w) (hk:Tch T w w') (hn:¬ T 0):Tab64 w':=fun j hj=>hk.cell (h j hj) hn
theorem I3 (x a:Nat) (hx:x<18446744073709551616) (kx:x≠0) (iW:x&&& (18446744073709551616 - x)=a):
  IntKind.u64.wrap (bits BinOp.and IntKind.u64 (x:Int) (IntKind.u64.wrap (-(x:Int)))*285870213051353865) / 288230376151711744=((a*285870213051353865%18446744073709551616 / 288230376151711744:Nat):Int):=by
 have e1:IntKind.u64.wrap (-(x:Int))=((18446744073709551616 - x:Nat):Int):=by rw[IntKind.wrap_u64];omega
 rw[e1,bits_and_u64_nat x _ hx (by omega),iW,IntKind.wrap_u64];omega
theorem E7 (x k idx:Nat) (w:World) (kx:((x:Int)==0)=false)
  (key:IntKind.u64.wrap (bits BinOp.and IntKind.u64 (x:Int) (IntKind.u64.wrap (-(x:Int)))*285870213051353865) / 288230376151711744=(idx:Int))
  (hi:idx<64) (hk:k<64) (cJ:w.cell? ⟨0,idx,none⟩=some (.int .u8 k)):
  Calls Tryz.prog 273 #[.int .u64 x] w fun e w'=>e=.returned (.int .i64 k)∧w'=w:=by
 go_enter Tryz.func273,Tryz.ntmps273;go_wp2_with (simp only[key]);go_ret;exact⟨rfl,rfl⟩
theorem Px (x:Nat) (hx:x<18446744073709551616) (kx:x≠0) (w:World) (hT:Tab64 w):
  Calls Tryz.prog 273 #[.int .u64 x] w fun e w'=>e=.returned (.int .i64 (Lib.ctz 64 x:Nat))∧w'=w:=by
 obtain⟨iW,hk⟩:=Lib.lowest_bit 64 x kx hx;obtain⟨hi,pB⟩:=Lib.deBruijn64_at _ hk;have cJ:=hT _ hi;rw[pB] at cJ;exact E7 x _ _ w (by simp;omega) (I3 x _ hx kx iW) hi hk cJ
theorem zc {x:Nat} (hx:x<18446744073709551616) (kx:x≠0):(List.range 64).find? (fun k=>x.testBit k)=some (Lib.ctz 64 x):=by
 obtain⟨m,hm,hf⟩:=Lib.ctzFrom_spec 64 x (by omega) (by simpa using hx);have hc:Lib.ctz 64 x=Lib.ctzFrom 64 x:=by unfold Lib.ctz;rw[if_neg kx]
 rw[hc];generalize Lib.ctzFrom 64 x=k at hm hf;rw[List.find?_range_eq_some];subst hm;refine⟨?_,by simpa using hf,fun j hj=>?_⟩
 ·rw[Nat.testBit_two_pow_mul];simp
 ·rw[Nat.testBit_two_pow_mul];simp;omega
theorem Dt (x:Nat) (hx:x<18446744073709551616) (w:World) (hT:Tab64 w):
  Calls Tryz.prog 269 #[.int .u64 x] w fun e w'=>∃ b,e=.returned (.tuple #[.int .i64 (((List.range 64).find? (fun k=>x.testBit k)).getD 0:Nat),.bool b])∧w'=w:=by
 by_cases kx:x=0
 ·subst kx
  have h0:((List.range 64).find? (fun k=>(0:Nat).testBit k)).getD 0=0:=by
   have:(List.range 64).find? (fun k=>(0:Nat).testBit k)=none:=by simp[List.find?_eq_none]
   rw[this];rfl
  rw[h0];go_enter Tryz.func269,Tryz.ntmps269;go_wp2_with fail;go_ret2;exact⟨_,rfl,rfl⟩
 ·rw[zc hx kx];have h0:((x:Int)==0)=false:=by simp;omega
  have HC:=hid (Px x hx kx w hT);clear hx kx hT;go_enter Tryz.func269,Tryz.ntmps269;go_wp2_with fail;refine HC.out.mono ?_;rintro e w1 ⟨rfl,rfl⟩;go_wp2_with fail;go_ret2;exact⟨_,rfl,rfl⟩
section
variable (sb mb lb:Nat) (ty:TypeId) (o:Ob) (c:Kc) (rv:Value) (l:List Int)
theorem ky (s:Int) (w:World) (h:St w sb mb lb ty o c rv l) (hs:0≤s∧s<4294967296):Calls Tryz.prog 250 #[.pointer (some ⟨sb,0,none⟩),.int .u32 s] w (mS sb mb lb ty o w rv (c.mark s) l (.tuple #[])):=by
 obtain⟨u,hu,hr⟩:=h.op.row;have bC:=hu.1;have iz:=hu.2.1;have c15:=hr.at 15 (.int .u64 u);have f15:=hr.frozen 15;obtain⟨k,hk,eW⟩:∃ k:Nat,min s 20=(k:Int)∧k≤20:=⟨(min s 20).toNat,by omega,by omega⟩;have o9:=BG hu k eW
 have hm:c.mark s={ c with used:=fun j=>c.used j || decide (j=k) }:=by
  unfold Kc.mark;rw[hk];have:∀ j:Nat,decide ((j:Int)=(k:Int))=decide (j=k):=fun j=>by rw[decide_eq_decide];omega
  simp only[this]
 rw[hm];have av:=hr.set 15 (.int .u64 ((u.toNat ||| 2 ^ k:Nat):Int));have ht:=(Tch.refl (fun b=>b=sb) w).set (b:=sb) rfl 15 (.int .u64 ((u.toNat ||| 2 ^ k:Nat):Int));have hf:=h.op.fits;have HS:=hid (h.upd (c':={ c with used:=fun j=>c.used j || decide (j=k) }) (rv':=rv) ht o9 av ⟨hf.kd,hf.wd,hf.sl,hf.cap,hf.nr,hf.wd1,hf.nr1,hf.sl1,hf.cap1,hf.rd1,hf.base1,hf.size1,hf.i1,hf.tr1,hf.st1,hf.A0,hf.A1,hf.B0,hf.B1⟩ (.inl ⟨rfl,rfl⟩));have HT:=hid ht;have Ls:=fun W (m:Int) (hm:m=(k:Int))=>(by subst hm;rw[show u=((u.toNat:Nat):Int) by omega];exact L5 u.toNat k (by omega) eW W:Calls Tryz.prog 268 #[.int .u64 u,.int .i64 m] W fun e w'=>e=.returned (.int .u64 ((u.toNat ||| 2 ^ k:Nat):Int))∧w'=W)
 have HP:=hid Ls;have rR:=hs.1;have bN:=hs.2;have HK:=hid hk;clear hr hu o9 av ht hf h hm Ls bC iz hk hs;obtain⟨Q,hQ⟩:∃ x,((u.toNat ||| 2 ^ k:Nat):Int)=x:=⟨_,rfl⟩;rw[hQ] at HS HT HP;clear hQ;go_enter Tryz.func250,Tryz.ntmps250;go_wp2_with fail
 all_goals
  refine(HP.out _ _ (by have:=HK.out;omega)).mono ?_;rintro e w1 ⟨rfl,rfl⟩;go_wp2_with fail
  go_end0
  exact⟨rfl,HS.out,Mv.own HT.out (.inl rfl)⟩
theorem Ft {u:Int} (h0:0≤u) (h1:u<18446744073709551616):bits BinOp.xor IntKind.u64 IntKind.u64.max u=18446744073709551615 - u:=by
 have hm:IntKind.u64.max=((18446744073709551615:Nat):Int):=rfl;have hu:u=((u.toNat:Nat):Int):=by omega
 have hx:(18446744073709551615:Nat) ^^^ u.toNat=18446744073709551615 - u.toNat:=by
  apply Nat.eq_of_testBit_eq;intro i;rw[Nat.testBit_xor,show(18446744073709551615:Nat)=2 ^ 64 - 1 by rfl,Nat.testBit_two_pow_sub_one,show 2 ^ 64 - 1 - u.toNat=2 ^ 64 - (u.toNat+1) by omega,Nat.testBit_two_pow_sub_succ (by omega)]
  by_cases hi:i<64
  ·simp[hi]
  ·have:u.toNat.testBit i=false:=Nat.testBit_lt_two_pow (Nat.lt_of_lt_of_le (show u.toNat<2 ^ 64 by omega) (Nat.pow_le_pow_right (by omega) (by omega)));simp[hi,this]
 rw[hm,hu,bits_xor_u64_nat _ _ (by omega) (by omega),hx];omega
theorem nj (c:Kc):0≤c.free∧c.free≤63:=by
 unfold Kc.free;cases h:(List.range 64).find? fun k=>!c.used k with
 | none=>simp
 | some x=>
  have:=List.mem_range.1 (List.mem_of_find?_eq_some h);simp;omega
theorem free_is {u:Int} {c:Kc} (h:lW u c.used):((((List.range 64).find? (fun k=>(18446744073709551615 - u.toNat).testBit k)).getD 0:Nat):Int)=c.free:=by
 obtain⟨h0,h1,h2⟩:=h;unfold Kc.free
 have e:∀ k,k ∈ List.range 64→(18446744073709551615 - u.toNat).testBit k=!c.used k:=fun k hk=>by
  rw[show 18446744073709551615 - u.toNat=2 ^ 64 - (u.toNat+1) by omega,Nat.testBit_two_pow_sub_succ (by omega),h2];simp[List.mem_range.1 hk]
 have:∀ (l:List Nat),(∀ k ∈ l,(18446744073709551615 - u.toNat).testBit k=!c.used k)→l.find? (fun k=>(18446744073709551615 - u.toNat).testBit k)=l.find? fun k=>!c.used k:=fun l=>by
  induction l with
  | nil=>intro _;rfl
  | cons x l ih=>
   intro h;rw[List.find?_cons,List.find?_cons,h x (by simp),ih fun k hk=>h k (by simp[hk])]
 rw[this _ e]
theorem t9 (w:World) (h:St w sb mb lb ty o c rv l) (hT:Tab64 w):Calls Tryz.prog 251 #[.pointer (some ⟨sb,0,none⟩)] w fun e w'=>e=.returned (.int .u32 c.free)∧w'=w:=by
 obtain⟨u,hu,hr⟩:=h.op.row;have c15:=hr.at 15 (.int .u64 u);have bC:=hu.1;have iz:=hu.2.1;have hF:=Dt (18446744073709551615 - u.toNat) (by omega) w hT;rw[show((18446744073709551615 - u.toNat:Nat):Int)=18446744073709551615 - u by omega] at hF;rw[free_is hu] at hF;have HF:=hid hF;have hb:=nj c;have jU:=hb.1;have aq:=hb.2;have HX:=hid (Ft bC iz);clear hr hF hu h hb hT;obtain⟨Q,hQ⟩:∃ x,c.free=x:=⟨_,rfl⟩;rw[hQ] at HF jU aq ⊢;clear hQ;go_enter Tryz.func251,Tryz.ntmps251;go_wp2_with fail;rw[HX.out];refine HF.out.mono ?_;rintro e w1 ⟨b,rfl,rfl⟩;go_wp2_with fail;go_ret;exact⟨rfl,rfl⟩
end
set_option maxHeartbeats 1000000
set_option maxRecDepth 100000
abbrev yI (a0:World) (a1:Nat) (a2:Kc) (w':World):Prop:=Below a0.heap.size a0 w'∧w'.cell? ⟨a1,22,none⟩=some (.bool false)∧w'.cell? ⟨a1,18,none⟩=some (.int .i64 (a2.base:Int))∧w'.cell? ⟨a1,19,none⟩=some (.int .i64 (a2.size:Int))
theorem Bn (a b:Int) (w:World) (ha:0≤a) (hb:0≤b):Calls Tryz.prog 147 #[.agg #[.int .i64 a,.int .i64 b]] w fun e w'=>e=.returned (.bool true)∧Below w.heap.size w w':=by
 have t1:decide (0≤a)=true:=decide_eq_true ha;have t2:decide (0≤b)=true:=decide_eq_true hb;go_enter Tryz.func147,Tryz.ntmps147;go_wp2_with fail;go_ret;exact⟨rfl,(Below.refl _ w).alloc (Nat.le_refl _) _⟩
theorem sM (n a b:Int) (w:World) (hn:0≤n) (Tm:n≤1000000000) (ha:0≤a) (UJ:a<9223372036854775808) (hb:0≤b):Calls Tryz.prog 83 #[.int .i64 n,.agg #[.int .i64 a,.int .i64 b]] w fun e w'=>e=.returned (.bool (decide (a≤n∧b≤n - a)))∧Below w.heap.size w w':=by
 have hr:=hid fun W=>Bn a b W ha hb
 have hB:=bK w (.cells #[.int .i64 a,.int .i64 b] 129);have i6:=RowB.new w #[.int .i64 a,.int .i64 b] 129;obtain⟨m,hm⟩:∃ m,w.heap.size=m:=⟨_,rfl⟩;rw[hm] at i6;have HN:=hid i6;have HB:=hid hB;clear i6 hB
 by_cases h1:a≤n
 ·by_cases h2:b≤n - a
  ·rw[decide_eq_true (And.intro h1 h2)];have d1:decide (a≤n)=true:=decide_eq_true h1;have d2:decide (b≤n - a)=true:=decide_eq_true h2;go_enter Tryz.func83,Tryz.ntmps83;go_wp2_with fail;refine(hr.out _).mono ?_;rintro e w1 ⟨rfl,aq⟩;have hk:=HN.out.kept aq;have c0:w1.cell? ⟨m,0,none⟩=some (.int .i64 a):=hk.cell 0;have c1:w1.cell? ⟨m,1,none⟩=some (.int .i64 b):=hk.cell 1;clear hk;go_wp2_with fail;go_ret;exact⟨rfl,HB.out.trans (aq.mono HB.out.size)⟩
  ·rw[decide_eq_false (fun h=>h2 h.2)];have d1:decide (a≤n)=true:=decide_eq_true h1;have d2:decide (b≤n - a)=false:=decide_eq_false h2;clear h2;go_enter Tryz.func83,Tryz.ntmps83;go_wp2_with fail;refine(hr.out _).mono ?_;rintro e w1 ⟨rfl,aq⟩;have hk:=HN.out.kept aq;have c0:w1.cell? ⟨m,0,none⟩=some (.int .i64 a):=hk.cell 0;have c1:w1.cell? ⟨m,1,none⟩=some (.int .i64 b):=hk.cell 1;clear hk;go_wp2_with fail;go_ret;exact⟨rfl,HB.out.trans (aq.mono HB.out.size)⟩
 ·rw[decide_eq_false (fun h=>h1 h.1)];have d1:decide (a≤n)=false:=decide_eq_false h1;clear h1;go_enter Tryz.func83,Tryz.ntmps83;go_wp2_with fail;refine(hr.out _).mono ?_;rintro e w1 ⟨rfl,aq⟩;have hk:=HN.out.kept aq;have c0:w1.cell? ⟨m,0,none⟩=some (.int .i64 a):=hk.cell 0;have c1:w1.cell? ⟨m,1,none⟩=some (.int .i64 b):=hk.cell 1;clear hk;go_wp2_with fail;go_ret;exact⟨rfl,HB.out.trans (aq.mono HB.out.size)⟩
section
variable (sb mb lb:Nat) (ty:TypeId) (o:Ob) (c:Kc) (rv mp:Value) (l:List Int)
theorem OpS.belo {w w':World} {sb:Nat} {ty:TypeId} {o:Ob} {c:Kc} {rv mp:Value} (h:OpS w sb ty o c rv mp) (hb:Below w.heap.size w w'):OpS w' sb ty o c rv mp:=h.tch (T:=fun _=>False) (Tch.of_below _ hb) (fun h=>h) (fun _ _ h=>h)
theorem MemG.belo {w w':World} {mb lb:Nat} {l:List Int} (h:MemG w mb lb l) (hb:Below w.heap.size w w'):MemG w' mb lb l:=h.tch (T:=fun _=>False) (Tch.of_below _ hb) (fun h=>h) (fun h=>h)
theorem Hb (c:Kc) (l:List Int) (h:c.over=false):c.can l=decide ((c.base:Int)≤(l.length:Int)∧(c.size:Int)≤(l.length:Int) - (c.base:Int)):=by
 unfold Kc.can;rw[h,Bool.not_false,Bool.true_and,decide_eq_decide];omega
theorem im (w:World) (h:OpS w sb ty o c rv mp) (hm:MemG w mb lb l) (hp:∃ q,mp=.pointer q) (hx:c.steps<1000000) (eq:c.can l=true) (s1:sb≠mb) (s2:sb≠lb) (s3:rv.ownBlock≠some mb) (s4:rv.ownBlock≠some lb):Calls Tryz.prog 159 #[.pointer (some ⟨sb,0,none⟩),.pointer (some ⟨mb,0,none⟩)] w fun e w'=>mS sb mb lb ty o w rv { c with steps:=c.steps+1 } l (.bool true) e w':=by
 obtain⟨q,rfl⟩:=hp;have qT:=(Below.refl w.heap.size w).drew;have hd:=h.belo qT;have JD:=hm.belo qT;obtain⟨u,hu,hr⟩:=hd.row;obtain⟨u0,bC,ak⟩:=h.row;have c22:=hr.at 22 (.bool c.over);have c18:=hr.at 18 (.int .i64 (c.base:Int));have c19:=hr.at 19 (.int .i64 (c.size:Int));have JB:=hm.len;have aq:=h.fits.base1;have d8:=h.fits.size1;have HL:=hid fun W (hm:MemG W mb lb l)=>II mb lb l W hm
 have HI:=hid fun W=>sM (l.length:Int) (c.base:Int) (c.size:Int) W (by omega) (by omega) (by omega) (by omega) (by omega)
 have HO:=hid hd;have HM:=hid JD;have HB:=hid qT;have HX:=hid hx
 have dg:c.over=false:=by
  unfold Kc.can at eq;cases ho:c.over with
  | false=>rfl
  | true=>rw[ho] at eq;cases eq
 have hin:decide ((c.base:Int)≤(l.length:Int)∧(c.size:Int)≤(l.length:Int) - (c.base:Int))=true:=by rw[← Hb c l dg];exact eq
 rw[dg] at c22;rw[hin] at HI;clear hr hu ak bC h hm hd JD qT eq JB aq d8 hx dg hin;go_enter Tryz.func159,Tryz.ntmps159;go_wp2_with fail;refine fg (S:=(yI w sb c)) ⟨HB.out,c22,c18,c19⟩ fun wd bq hHeld=>?_
 rw[bq] at HO HM HB;clear bq;refine ai 0 1 2 3 ?_;refine ai 4 5 7 8 ?_;refine ai 9 10 11 12 ?_;refine bv 13 14 ?_;refine aX 15 ?_;refine aV 6 (fun K hK=>?_);go_simp;refine(HL.out _ HM.out).mono ?_;rintro ex wx ⟨rfl,rfl⟩;have aw:(yI w sb c) _:=hHeld;refine kH hK aw fun hHeld=>?_
 clear hK K;refine aV 16 (fun K hK=>?_);go_simp;refine(HI.out _).mono ?_;rintro ex wy ⟨rfl,ar⟩;have aw:(yI w sb c) wy:=⟨hHeld.1.trans (ar.mono hHeld.1.size),(ar.cell (p:=⟨sb,22,none⟩) (aM hHeld.2.1)).trans hHeld.2.1,(ar.cell (p:=⟨sb,18,none⟩) (aM hHeld.2.2.1)).trans hHeld.2.2.1,(ar.cell (p:=⟨sb,19,none⟩) (aM hHeld.2.2.2)).trans hHeld.2.2.2⟩;refine kH hK aw fun hHeld=>?_
 clear hK K;refine bv 17 18 ?_;refine aY ?_;have fl:=hHeld.1;have bZ:=HO.out;have Ho:Below wx.heap.size wx wy:=ar;have fk:=bZ.belo Ho;have rO:=HM.out.belo Ho;obtain⟨u,hu,hr⟩:=fk.row;have c17:=hr.at 17 (.pointer q);have f17:=hr.frozen 17;have f21:=hr.frozen 21;have c21:=hr.at 21 (.int .i64 (c.steps:Int));have av:=(hr.set 17 (.pointer (some ⟨mb,0,none⟩))).set 21 (.int .i64 ((c.steps:Int)+1));have ht:Tch (fun b=>b=sb) wy ((wy.setCell ⟨sb,17,none⟩ (.pointer (some ⟨mb,0,none⟩))).setCell ⟨sb,21,none⟩ (.int .i64 ((c.steps:Int)+1))):=((Tch.refl (fun b=>b=sb) wy).set (b:=sb) rfl 17 _).set (b:=sb) rfl 21 _;have hf:=fk.fits;have du:(0:Int)≤(c.steps:Int):=by omega
 have TB:(c.steps:Int)≤1000000:=by have:=HX.out;omega
 have HS:Hid (St ((wy.setCell ⟨sb,17,none⟩ (.pointer (some ⟨mb,0,none⟩))).setCell ⟨sb,21,none⟩ (.int .i64 ((c.steps:Int)+1))) sb mb lb ty o { c with steps:=c.steps+1 } rv l):=hid ⟨⟨⟨u,hu,av⟩,bl fk.rc ht (fun b hb e=>fk.sep (by rw[hb,e])),fk.w32,⟨hf.kd,hf.wd,hf.sl,hf.cap,hf.nr,hf.wd1,hf.nr1,hf.sl1,hf.cap1,hf.rd1,hf.base1,hf.size1,hf.i1,hf.tr1,(by have:=HX.out;show c.steps+1≤1000000;omega),hf.A0,hf.A1,hf.B0,hf.B1⟩,fk.sep⟩,rO.tch ht (fun e=>s1 e.symm) (fun e=>s2 e.symm),s1,s2,s3,s4⟩;have HT:=hid ((Mv.below (sb:=sb) (mb:=mb) (lb:=lb) fl rv).trans (Mv.own ht (.inl rfl)));clear hHeld aw fl bZ Ho fk rO hr hu av ht hf ar HX;go_wp2_with fail;go_ret;exact⟨rfl,HS.out,HT.out⟩
end
end Go.Proofs.YtabfcjohdgjkoaaGreatDoor
