/- The document's operation: fail, note, choose. -/
import Derived.Test.YtolmpehgeinlkaaGreatDoorZcShF
import Derived.Test.YtolmpehgeinlkaaGreatDoorZcG
namespace Go.Proofs.YtolmpehgeinlkaaGreatDoor
open Go.RowKit
attribute [local go_sem] Oper.semAt_some
def vn (o:Ob) (c:Kc) (rv:Value):Array Value:=#[.int .i64 o.k,.int .i64 o.wd,.int .i64 o.s,.int .i64 o.c,.int .u32 o.st,.slice o.I o.ni o.ci,.int .i64 o.wr,.slice o.R o.nr o.cr,.int .i64 (c.base:Int),.int .i64 c.op,.int .i64 (c.rd:Int),.int .i64 (c.ph:Int),.int .i64 (c.i:Int),.int .i64 (c.tr:Int),.int .i64 c.code,.int .i64 (c.steps:Int),.int .u32 c.A,.int .u32 c.B,.bool (c.used 0),.bool (c.used 1),.bool (c.used 2),.bool (c.used 3),.bool (c.used 4),.bool (c.used 5),.bool (c.used 6),.bool (c.used 7),.bool (c.used 8),.bool (c.used 9),.bool (c.used 10),.bool (c.used 11),.bool (c.used 12),.bool (c.used 13),.bool (c.used 14),.bool (c.used 15),.bool (c.used 16),.bool (c.used 17),.bool (c.used 18),.bool (c.used 19),rv,.bool c.over]
structure SR (w:World) (yb lb cap:Nat) (o:Ob) (c:Kc) (rv:Value) (l:List Int):Prop where
 row:RowB w yb (vn o c rv) 84
 rc:Own (bB .u32) 22 0 w rv c.rc
 w32r:W32 c.rc
 fits:Fits o c
 mem:Own (bB .u32) 22 0 w (.slice (some ⟨lb,0,none⟩) l.length cap) l
 w32:W32 l
 len:l.length≤1000000
 s1:yb≠lb
 s2:rv.ownBlock≠some yb
 s3:rv.ownBlock≠some lb
 opk:(c.op==if o.k=6 then 3 else 2)=c.wr
section
variable {yb lb cap:Nat} {w w' w'':World} {rv rv' rv'':Value} {o:Ob} {c c':Kc} {l l':List Int}
theorem SR.tch {T:Nat→Prop} (h:SR w yb lb cap o c rv l) (hk:Tch T w w') (h1:¬ T yb) (h2:∀ b,rv.ownBlock=some b→¬ T b) (h3:¬ T lb):SR w' yb lb cap o c rv l:=
 ⟨h.row.tch hk h1,aG h.rc hk h2,h.w32r,h.fits,aG h.mem hk (fun b hb=>by have:lb=b:=Option.some.inj hb;rw[← this];exact h3),h.w32,h.len,h.s1,h.s2,h.s3,h.opk⟩
theorem SR.below (h:SR w yb lb cap o c rv l) (hb:Below w.heap.size w w'):SR w' yb lb cap o c rv l:=h.tch (T:=fun _=>False) (Tch.of_below _ hb) (fun h=>h) (fun _ _ h=>h) (fun h=>h)
theorem SR.drew (h:SR w yb lb cap o c rv l):SR w.drew yb lb cap o c rv l:=h.tch (T:=fun _=>False) (Tch.refl _ w).drew (fun h=>h) (fun _ _ h=>h) (fun h=>h)
theorem SR.upd (h:SR w yb lb cap o c rv l) (hk:Tch (fun b=>b=yb) w w') (hr:RowB w' yb (vn o c' rv') 84) (hf:Fits o c') (ho:c'.op=c.op) (hv:rv'=rv∧c'.rc=c.rc∨rv'=.slice none 0 0∧c'.rc=[]):SR w' yb lb cap o c' rv' l:=by
 have hm:=aG h.mem hk (fun b hb e=>h.s1 (by have:lb=b:=Option.some.inj hb;rw[this,e]))
 have aA:(c'.op==if o.k=6 then 3 else 2)=c'.wr:=by
  have:=h.opk;unfold Kc.wr at this ⊢;rw[ho];exact this
 rcases hv with ⟨rfl,hc⟩ | ⟨rfl,hc⟩
 ·exact⟨hr,by rw[hc];exact aG h.rc hk (fun b hb e=>h.s2 (by rw[hb,e])),by rw[hc];exact h.w32r,hf,hm,h.w32,h.len,h.s1,h.s2,h.s3,aA⟩
 ·exact⟨hr,by rw[hc];exact Own.nil _ _,by rw[hc];exact(fun _ h=>by cases h),hf,hm,h.w32,h.len,h.s1,(fun e=>by cases e),(fun e=>by cases e),aA⟩
theorem gM (h:Tch (fun b=>b=yb) w w'):Mv yb lb lb w w' rv rv:=Mv.own h (.inl rfl)
theorem SR.setA (h:SR w yb lb cap o c rv l) (v:Int) (hv:0≤v∧v<4294967296):SR (w.setCell ⟨yb,16,none⟩ (.int .u32 v)) yb lb cap o { c with A:=v } rv l∧Mv yb lb lb w (w.setCell ⟨yb,16,none⟩ (.int .u32 v)) rv rv:=by
 have ht:=(Tch.refl (fun b=>b=yb) w).set (b:=yb) rfl 16 (.int .u32 v);have hf:=h.fits;exact⟨h.upd ht (h.row.set 16 _) ⟨hf.kd,hf.wd,hf.sl,hf.cap,hf.nr,hf.wd1,hf.nr1,hf.sl1,hf.cap1,hf.rd1,hf.base1,hf.size1,hf.i1,hf.tr1,hf.st1,hv.1,hv.2,hf.B0,hf.B1⟩ rfl (.inl ⟨rfl,rfl⟩),gM ht⟩
theorem SR.setB (h:SR w yb lb cap o c rv l) (v:Int) (hv:0≤v∧v<4294967296):SR (w.setCell ⟨yb,17,none⟩ (.int .u32 v)) yb lb cap o { c with B:=v } rv l∧Mv yb lb lb w (w.setCell ⟨yb,17,none⟩ (.int .u32 v)) rv rv:=by
 have ht:=(Tch.refl (fun b=>b=yb) w).set (b:=yb) rfl 17 (.int .u32 v);have hf:=h.fits;exact⟨h.upd ht (h.row.set 17 _) ⟨hf.kd,hf.wd,hf.sl,hf.cap,hf.nr,hf.wd1,hf.nr1,hf.sl1,hf.cap1,hf.rd1,hf.base1,hf.size1,hf.i1,hf.tr1,hf.st1,hf.A0,hf.A1,hv.1,hv.2⟩ rfl (.inl ⟨rfl,rfl⟩),gM ht⟩
theorem SR.setI (h:SR w yb lb cap o c rv l) (hi:c.i<1000):SR (w.setCell ⟨yb,12,none⟩ (.int .i64 ((c.i:Int)+1))) yb lb cap o { c with i:=c.i+1 } rv l∧Mv yb lb lb w (w.setCell ⟨yb,12,none⟩ (.int .i64 ((c.i:Int)+1))) rv rv:=by
 have ht:=(Tch.refl (fun b=>b=yb) w).set (b:=yb) rfl 12 (.int .i64 ((c.i:Int)+1));have hf:=h.fits;exact⟨h.upd ht (h.row.set 12 _) ⟨hf.kd,hf.wd,hf.sl,hf.cap,hf.nr,hf.wd1,hf.nr1,hf.sl1,hf.cap1,hf.rd1,hf.base1,hf.size1,by show c.i+1≤1000;omega,hf.tr1,hf.st1,hf.A0,hf.A1,hf.B0,hf.B1⟩ rfl (.inl ⟨rfl,rfl⟩),gM ht⟩
theorem SR.setSt (h:SR w yb lb cap o c rv l) (hi:c.steps<1000000):SR (w.setCell ⟨yb,15,none⟩ (.int .i64 ((c.steps:Int)+1))) yb lb cap o { c with steps:=c.steps+1 } rv l∧Mv yb lb lb w (w.setCell ⟨yb,15,none⟩ (.int .i64 ((c.steps:Int)+1))) rv rv:=by
 have ht:=(Tch.refl (fun b=>b=yb) w).set (b:=yb) rfl 15 (.int .i64 ((c.steps:Int)+1));have hf:=h.fits;exact⟨h.upd ht (h.row.set 15 _) ⟨hf.kd,hf.wd,hf.sl,hf.cap,hf.nr,hf.wd1,hf.nr1,hf.sl1,hf.cap1,hf.rd1,hf.base1,hf.size1,hf.i1,hf.tr1,by show c.steps+1≤1000000;omega,hf.A0,hf.A1,hf.B0,hf.B1⟩ rfl (.inl ⟨rfl,rfl⟩),gM ht⟩
theorem SR.put (h:SR w yb lb cap o c rv l) (j:Nat) (hj:c.base+j<l.length) (v:Int) (hv:0≤v∧v<4294967296):SR (w.setCell ⟨lb,c.base+j,none⟩ (.int .u32 v)) yb lb cap o c rv (c.wrm l j v)∧Mv yb lb lb w (w.setCell ⟨lb,c.base+j,none⟩ (.int .u32 v)) rv rv:=by
 have ht:=(Tch.refl (fun b=>b=lb) w).set (b:=lb) rfl (c.base+j) (.int .u32 v);have hm:=uH h.mem hj v;have hl:(c.wrm l j v).length=l.length:=List.length_set;refine⟨⟨h.row.tch ht h.s1,aG h.rc ht (fun b hb e=>h.s3 (by rw[hb,e])),h.w32r,h.fits,?_,h.w32.set _ hv,by rw[hl];exact h.len,h.s1,h.s2,h.s3,h.opk⟩,⟨ht.mono fun _ _ h=>.inr (.inl h),fun _ h=>.inl h⟩⟩;rw[hl];exact hm
theorem SR.cell (h:SR w yb lb cap o c rv l) (j:Nat) (hj:c.base+j<l.length):w.cell? ⟨lb,c.base+j,none⟩=some (.int .u32 (c.rdm l j))∧w.frozen? ⟨lb,c.base+j,none⟩=false∧0≤c.rdm l j∧c.rdm l j<4294967296:=by
 have hb:=cR hj h.w32;exact⟨qQ h.mem (j0 hj),cj h.mem _,hb.1,hb.2⟩
theorem yh (o:Ob) (c:Kc) (rv:Value) (s:Nat) (hs:s<20) (f:Nat→Bool) (hf:∀ k,f k=(c.used k || decide (k=s))):(vn o c rv).setIfInBounds (18+s) (.bool true)=vn o { c with used:=f } rv:=by
 have e:∀ k,k≠s→f k=c.used k:=fun k hk=>by rw[hf,decide_eq_false hk,Bool.or_false]
 have e1:f s=true:=by rw[hf,decide_eq_true rfl,Bool.or_true]
 unfold vn;simp only
 match s,hs,e,e1 with
 | 0,_,e,e1=>rw[e1,e 1 (by decide),e 2 (by decide),e 3 (by decide),e 4 (by decide),e 5 (by decide),e 6 (by decide),e 7 (by decide),e 8 (by decide),e 9 (by decide),e 10 (by decide),e 11 (by decide),e 12 (by decide),e 13 (by decide),e 14 (by decide),e 15 (by decide),e 16 (by decide),e 17 (by decide),e 18 (by decide),e 19 (by decide)];rfl
 | 1,_,e,e1=>rw[e1,e 0 (by decide),e 2 (by decide),e 3 (by decide),e 4 (by decide),e 5 (by decide),e 6 (by decide),e 7 (by decide),e 8 (by decide),e 9 (by decide),e 10 (by decide),e 11 (by decide),e 12 (by decide),e 13 (by decide),e 14 (by decide),e 15 (by decide),e 16 (by decide),e 17 (by decide),e 18 (by decide),e 19 (by decide)];rfl
 | 2,_,e,e1=>rw[e1,e 0 (by decide),e 1 (by decide),e 3 (by decide),e 4 (by decide),e 5 (by decide),e 6 (by decide),e 7 (by decide),e 8 (by decide),e 9 (by decide),e 10 (by decide),e 11 (by decide),e 12 (by decide),e 13 (by decide),e 14 (by decide),e 15 (by decide),e 16 (by decide),e 17 (by decide),e 18 (by decide),e 19 (by decide)];rfl
 | 3,_,e,e1=>rw[e1,e 0 (by decide),e 1 (by decide),e 2 (by decide),e 4 (by decide),e 5 (by decide),e 6 (by decide),e 7 (by decide),e 8 (by decide),e 9 (by decide),e 10 (by decide),e 11 (by decide),e 12 (by decide),e 13 (by decide),e 14 (by decide),e 15 (by decide),e 16 (by decide),e 17 (by decide),e 18 (by decide),e 19 (by decide)];rfl
 | 4,_,e,e1=>rw[e1,e 0 (by decide),e 1 (by decide),e 2 (by decide),e 3 (by decide),e 5 (by decide),e 6 (by decide),e 7 (by decide),e 8 (by decide),e 9 (by decide),e 10 (by decide),e 11 (by decide),e 12 (by decide),e 13 (by decide),e 14 (by decide),e 15 (by decide),e 16 (by decide),e 17 (by decide),e 18 (by decide),e 19 (by decide)];rfl
 | 5,_,e,e1=>rw[e1,e 0 (by decide),e 1 (by decide),e 2 (by decide),e 3 (by decide),e 4 (by decide),e 6 (by decide),e 7 (by decide),e 8 (by decide),e 9 (by decide),e 10 (by decide),e 11 (by decide),e 12 (by decide),e 13 (by decide),e 14 (by decide),e 15 (by decide),e 16 (by decide),e 17 (by decide),e 18 (by decide),e 19 (by decide)];rfl
 | 6,_,e,e1=>rw[e1,e 0 (by decide),e 1 (by decide),e 2 (by decide),e 3 (by decide),e 4 (by decide),e 5 (by decide),e 7 (by decide),e 8 (by decide),e 9 (by decide),e 10 (by decide),e 11 (by decide),e 12 (by decide),e 13 (by decide),e 14 (by decide),e 15 (by decide),e 16 (by decide),e 17 (by decide),e 18 (by decide),e 19 (by decide)];rfl
 | 7,_,e,e1=>rw[e1,e 0 (by decide),e 1 (by decide),e 2 (by decide),e 3 (by decide),e 4 (by decide),e 5 (by decide),e 6 (by decide),e 8 (by decide),e 9 (by decide),e 10 (by decide),e 11 (by decide),e 12 (by decide),e 13 (by decide),e 14 (by decide),e 15 (by decide),e 16 (by decide),e 17 (by decide),e 18 (by decide),e 19 (by decide)];rfl
 | 8,_,e,e1=>rw[e1,e 0 (by decide),e 1 (by decide),e 2 (by decide),e 3 (by decide),e 4 (by decide),e 5 (by decide),e 6 (by decide),e 7 (by decide),e 9 (by decide),e 10 (by decide),e 11 (by decide),e 12 (by decide),e 13 (by decide),e 14 (by decide),e 15 (by decide),e 16 (by decide),e 17 (by decide),e 18 (by decide),e 19 (by decide)];rfl
 | 9,_,e,e1=>rw[e1,e 0 (by decide),e 1 (by decide),e 2 (by decide),e 3 (by decide),e 4 (by decide),e 5 (by decide),e 6 (by decide),e 7 (by decide),e 8 (by decide),e 10 (by decide),e 11 (by decide),e 12 (by decide),e 13 (by decide),e 14 (by decide),e 15 (by decide),e 16 (by decide),e 17 (by decide),e 18 (by decide),e 19 (by decide)];rfl
 | 10,_,e,e1=>rw[e1,e 0 (by decide),e 1 (by decide),e 2 (by decide),e 3 (by decide),e 4 (by decide),e 5 (by decide),e 6 (by decide),e 7 (by decide),e 8 (by decide),e 9 (by decide),e 11 (by decide),e 12 (by decide),e 13 (by decide),e 14 (by decide),e 15 (by decide),e 16 (by decide),e 17 (by decide),e 18 (by decide),e 19 (by decide)];rfl
 | 11,_,e,e1=>rw[e1,e 0 (by decide),e 1 (by decide),e 2 (by decide),e 3 (by decide),e 4 (by decide),e 5 (by decide),e 6 (by decide),e 7 (by decide),e 8 (by decide),e 9 (by decide),e 10 (by decide),e 12 (by decide),e 13 (by decide),e 14 (by decide),e 15 (by decide),e 16 (by decide),e 17 (by decide),e 18 (by decide),e 19 (by decide)];rfl
 | 12,_,e,e1=>rw[e1,e 0 (by decide),e 1 (by decide),e 2 (by decide),e 3 (by decide),e 4 (by decide),e 5 (by decide),e 6 (by decide),e 7 (by decide),e 8 (by decide),e 9 (by decide),e 10 (by decide),e 11 (by decide),e 13 (by decide),e 14 (by decide),e 15 (by decide),e 16 (by decide),e 17 (by decide),e 18 (by decide),e 19 (by decide)];rfl
 | 13,_,e,e1=>rw[e1,e 0 (by decide),e 1 (by decide),e 2 (by decide),e 3 (by decide),e 4 (by decide),e 5 (by decide),e 6 (by decide),e 7 (by decide),e 8 (by decide),e 9 (by decide),e 10 (by decide),e 11 (by decide),e 12 (by decide),e 14 (by decide),e 15 (by decide),e 16 (by decide),e 17 (by decide),e 18 (by decide),e 19 (by decide)];rfl
 | 14,_,e,e1=>rw[e1,e 0 (by decide),e 1 (by decide),e 2 (by decide),e 3 (by decide),e 4 (by decide),e 5 (by decide),e 6 (by decide),e 7 (by decide),e 8 (by decide),e 9 (by decide),e 10 (by decide),e 11 (by decide),e 12 (by decide),e 13 (by decide),e 15 (by decide),e 16 (by decide),e 17 (by decide),e 18 (by decide),e 19 (by decide)];rfl
 | 15,_,e,e1=>rw[e1,e 0 (by decide),e 1 (by decide),e 2 (by decide),e 3 (by decide),e 4 (by decide),e 5 (by decide),e 6 (by decide),e 7 (by decide),e 8 (by decide),e 9 (by decide),e 10 (by decide),e 11 (by decide),e 12 (by decide),e 13 (by decide),e 14 (by decide),e 16 (by decide),e 17 (by decide),e 18 (by decide),e 19 (by decide)];rfl
 | 16,_,e,e1=>rw[e1,e 0 (by decide),e 1 (by decide),e 2 (by decide),e 3 (by decide),e 4 (by decide),e 5 (by decide),e 6 (by decide),e 7 (by decide),e 8 (by decide),e 9 (by decide),e 10 (by decide),e 11 (by decide),e 12 (by decide),e 13 (by decide),e 14 (by decide),e 15 (by decide),e 17 (by decide),e 18 (by decide),e 19 (by decide)];rfl
 | 17,_,e,e1=>rw[e1,e 0 (by decide),e 1 (by decide),e 2 (by decide),e 3 (by decide),e 4 (by decide),e 5 (by decide),e 6 (by decide),e 7 (by decide),e 8 (by decide),e 9 (by decide),e 10 (by decide),e 11 (by decide),e 12 (by decide),e 13 (by decide),e 14 (by decide),e 15 (by decide),e 16 (by decide),e 18 (by decide),e 19 (by decide)];rfl
 | 18,_,e,e1=>rw[e1,e 0 (by decide),e 1 (by decide),e 2 (by decide),e 3 (by decide),e 4 (by decide),e 5 (by decide),e 6 (by decide),e 7 (by decide),e 8 (by decide),e 9 (by decide),e 10 (by decide),e 11 (by decide),e 12 (by decide),e 13 (by decide),e 14 (by decide),e 15 (by decide),e 16 (by decide),e 17 (by decide),e 19 (by decide)];rfl
 | 19,_,e,e1=>rw[e1,e 0 (by decide),e 1 (by decide),e 2 (by decide),e 3 (by decide),e 4 (by decide),e 5 (by decide),e 6 (by decide),e 7 (by decide),e 8 (by decide),e 9 (by decide),e 10 (by decide),e 11 (by decide),e 12 (by decide),e 13 (by decide),e 14 (by decide),e 15 (by decide),e 16 (by decide),e 17 (by decide),e 18 (by decide)];rfl
 | n+20,h,_,_=>exact absurd h (by omega)
theorem nW (h:RowB w yb (vn o c rv) 84) (s:Nat) (hs:s<20):w.cell? ⟨yb,18+s,none⟩=some (.bool (c.used s)):=by
 rw[h.cell]
 match s,hs with
 | 0,_=>rfl
 | 1,_=>rfl
 | 2,_=>rfl
 | 3,_=>rfl
 | 4,_=>rfl
 | 5,_=>rfl
 | 6,_=>rfl
 | 7,_=>rfl
 | 8,_=>rfl
 | 9,_=>rfl
 | 10,_=>rfl
 | 11,_=>rfl
 | 12,_=>rfl
 | 13,_=>rfl
 | 14,_=>rfl
 | 15,_=>rfl
 | 16,_=>rfl
 | 17,_=>rfl
 | 18,_=>rfl
 | 19,_=>rfl
 | n+20,h=>exact absurd h (by omega)
theorem SR.note (h:SR w yb lb cap o c rv l) (s:Nat) (hs:s<20) (f:Nat→Bool) (hf:∀ k,f k=(c.used k || decide (k=s))):SR (w.setCell ⟨yb,18+s,none⟩ (.bool true)) yb lb cap o { c with used:=f } rv l∧Mv yb lb lb w (w.setCell ⟨yb,18+s,none⟩ (.bool true)) rv rv:=by
 have ht:=(Tch.refl (fun b=>b=yb) w).set (b:=yb) rfl (18+s) (.bool true);have hF:=h.fits;have hr:=h.row.set (18+s) (.bool true);rw[yh o c rv s hs f hf] at hr;exact⟨h.upd ht hr ⟨hF.kd,hF.wd,hF.sl,hF.cap,hF.nr,hF.wd1,hF.nr1,hF.sl1,hF.cap1,hF.rd1,hF.base1,hF.size1,hF.i1,hF.tr1,hF.st1,hF.A0,hF.A1,hF.B0,hF.B1⟩ rfl (.inl ⟨rfl,rfl⟩),gM ht⟩
end
def aU (yb lb cap:Nat) (o:Ob) (w:World) (rv:Value) (c':Kc) (l':List Int) (v:Value) (e:Ending) (w':World):Prop:=∃ rv',e=.returned v∧SR w' yb lb cap o c' rv' l'∧Mv yb lb lb w w' rv rv'
def uA (yb lb cap:Nat) (o:Ob) (w:World) (rv:Value) (c':Kc) (l':List Int) (v:Value) (e:Ending) (w':World):Prop:=e=.returned v∧SR w' yb lb cap o c' rv l'∧Mv yb lb lb w w' rv rv
theorem SR.start {w:World} {yb lb cap:Nat} {o:Ob} {c:Kc} {rv:Value} {l:List Int} (h:SR w yb lb cap o c rv l):Go.RowKit.Hid (SR w yb lb cap o c rv l)∧Go.RowKit.Hid (Mv yb lb lb w w rv rv)∧Fits o c∧Go.RowKit.Hid (Fits o c)∧Go.RowKit.Hid (o.wd=(c.wd:Int))∧Go.RowKit.Hid (o.s=(c.sl:Int))∧Go.RowKit.Hid (o.c=(c.cap:Int))∧Go.RowKit.Hid (o.nr=c.nr):=⟨h,Mv.refl _ _,h.fits,h.fits,h.fits.wd,h.fits.sl,h.fits.cap,h.fits.nr⟩
theorem kj {P:Program} {id:Nat} {ops:Array Oper} {Q:Exit→Act→World→Prop} {S:World→Prop} {a:Act} {w w0:World} {yb lb cap a0 b0 d0:Nat} {o:Ob} {c:Kc} {rv r0:Value} {l:List Int} (H:Go.RowKit.Hid (SR w yb lb cap o c rv l)) (M:Go.RowKit.Hid (Mv a0 b0 d0 w0 w r0 rv)) (hS:Go.RowKit.Hid (SR w.drew yb lb cap o c rv l)→S w.drew) (h:∀ w',Go.RowKit.Hid (SR w' yb lb cap o c rv l)→Go.RowKit.Hid (Mv a0 b0 d0 w0 w' r0 rv)→S w'→wpAnyH P .any ops Q S ops.size (Array.replicate ops.size false) a w') (hm:P.follows .mixedOrders=true:=by kernel_rfl):(Code.region id ops true).wp P Q a w:=wp_region_held_drew hm (hS H.out.drew) (h _ H.out.drew (M.out.trans (Mv.drew w _)))
theorem uj {a b d yb lb cap:Nat} {o:Ob} {c:Kc} {rv r0 r1 r2:Value} {l:List Int} {w0 w:World} (W:World) (h:SR W yb lb cap o c rv l∧Mv a b d w W r1 r2) (H:Go.RowKit.Hid (Mv a b d w0 w r0 r1)):Go.RowKit.Hid (SR W yb lb cap o c rv l)∧Go.RowKit.Hid (Mv a b d w0 W r0 r2):=⟨h.1,H.out.trans h.2⟩
open Go.Lib (hid)
set_option maxHeartbeats 1000000
set_option maxRecDepth 100000
abbrev uM (a0:Nat) (a1:Kc) (a2:Ob) (w':World):Prop:=w'.cell? ⟨a0,9,none⟩=some (.int .i64 a1.op)∧w'.cell? ⟨a0,0,none⟩=some (.int .i64 a2.k)
section
variable (yb lb cap:Nat) (o:Ob) (c:Kc) (rv:Value) (l:List Int)
theorem dO (p:Int) (q:Nat) (w:World) (h:SR w yb lb cap o c rv l) (hp:p=(q:Int)):Calls Tryz.prog 124 #[.pointer (some ⟨yb,0,none⟩),.int .i64 p] w (uA yb lb cap o w rv (c.go q) l (.tuple #[])):=by
 subst hp;have hr:=h.row;have c11:=(hr.cell 11).trans rfl;have c12:=(hr.cell 12).trans rfl;have f11:=hr.frozen 11;have f12:=hr.frozen 12;have aC:=(hr.set 11 (.int .i64 (q:Int))).set 12 (.int .i64 0);have ht:=((Tch.refl (fun b=>b=yb) w).set (b:=yb) rfl 11 (.int .i64 (q:Int))).set (b:=yb) rfl 12 (.int .i64 0);have hf:=h.fits;have HS:=hid (h.upd (c':=c.go q) (rv':=rv) ht aC ⟨hf.kd,hf.wd,hf.sl,hf.cap,hf.nr,hf.wd1,hf.nr1,hf.sl1,hf.cap1,hf.rd1,hf.base1,hf.size1,Nat.zero_le _,hf.tr1,hf.st1,hf.A0,hf.A1,hf.B0,hf.B1⟩ rfl (.inl ⟨rfl,rfl⟩));have HT:=hid ht;clear hr aC ht hf h;go_enter Tryz.func124,Tryz.ntmps124;go_wp2_with fail
 go_end0
 exact⟨rfl,HS.out,gM HT.out⟩
theorem oy {o:Ob} {c:Kc} (hk:bG o.k=true) (h:(c.op==if o.k=6 then 3 else 2)=c.wr):(c.op==oA o.k)=c.wr:=by
 unfold oA;rw[if_pos hk];exact h
theorem tq {w w':World} {rv:Value} (h:Tch (fun b=>b=yb) w w'):Mv yb lb lb w w' rv (.slice none 0 0):=Mv.own h (.inr rfl)
theorem tB (k:Int) (w:World) (h:SR w yb lb cap o c rv l) (hk:bG o.k=true) (vO:(k != 0)=true):Calls Tryz.prog 126 #[.pointer (some ⟨yb,0,none⟩),.int .i64 k] w (aU yb lb cap o w rv (c.fin k) l (.tuple #[])):=by
 obtain⟨aj,ay,ah,HF,bp,aS,bx,bj⟩:=h.start;clear ah;have aA:=oy hk h.opk;have hr:=h.row;have hf:=h.fits;have c39:=(hr.cell 39).trans rfl;have c14:=(hr.cell 14).trans rfl;have f39:=hr.frozen 39;have f14:=hr.frozen 14;have aC:=(hr.set 39 (.bool true)).set 14 (.int .i64 k);have ht:=((Tch.refl (fun b=>b=yb) w).set (b:=yb) rfl 39 (.bool true)).set (b:=yb) rfl 14 (.int .i64 k);have wB:Fits o { c with over:=true,code:=k }:=⟨hf.kd,hf.wd,hf.sl,hf.cap,hf.nr,hf.wd1,hf.nr1,hf.sl1,hf.cap1,hf.rd1,hf.base1,hf.size1,hf.i1,hf.tr1,hf.st1,hf.A0,hf.A1,hf.B0,hf.B1⟩;have ai:=hid (h.upd (c':={ c with over:=true,code:=k }) (rv':=rv) ht aC wB rfl (.inl ⟨rfl,rfl⟩));have au:=hid (gM (rv:=rv) (lb:=lb) ht);have ig:=hid fun W=>bc o.k W hk
 clear hr aC ht hf wB h aA;have jr:(c.fin k).rc=[]:=by unfold Kc.fin;rw[if_pos (by rw[vO,Bool.true_or])]
 have Ah:=hid jr;clear jr;go_enter Tryz.func126,Tryz.ntmps126;go_wp2_with fail;have bi:=ai.out.drew.row;have ct:(fun _:World=>True) ((w.setCell ⟨yb,39,none⟩ (.bool true)).setCell ⟨yb,14,none⟩ (.int .i64 k)).drew:=trivial;have ar:=hid ai.out.drew;have aE:=hid (au.out.trans (Mv.drew ((w.setCell ⟨yb,39,none⟩ (.bool true)).setCell ⟨yb,14,none⟩ (.int .i64 k)) _));clear bi;refine dR (S:=(fun _:World=>True)) ct fun w2 aW hHeld=>?_
 rw[aW] at ar aE;clear aW ct;refine bw 0 1 ?_;refine aF 2 ?_;refine nZ 3 4 5 6 ?_;refine nZ 7 8 9 10 ?_;refine qI 11 12 ?_;refine lG 13 ?_;refine aF 14 ?_;refine bh ?_;clear hHeld;have aC:=ar.out.row;have c38_2:=aC.at 38 (rv);have f38_2:=aC.frozen 38;clear aC;have hs:=ar.out;have HS:=hid (hs.upd (c':=c.fin k) (rv':=.slice none 0 0) ((Tch.refl (fun b=>b=yb) w2).set (b:=yb) rfl 38 (.slice none 0 0)) (hs.row.set 38 (.slice none 0 0)) ⟨hs.fits.kd,hs.fits.wd,hs.fits.sl,hs.fits.cap,hs.fits.nr,hs.fits.wd1,hs.fits.nr1,hs.fits.sl1,hs.fits.cap1,hs.fits.rd1,hs.fits.base1,hs.fits.size1,hs.fits.i1,hs.fits.tr1,hs.fits.st1,hs.fits.A0,hs.fits.A1,hs.fits.B0,hs.fits.B1⟩ rfl (.inr ⟨rfl,Ah.out⟩));have HM:=hid (aE.out.trans (tq (lb:=lb) (rv:=rv) yb ((Tch.refl (fun b=>b=yb) w2).set (b:=yb) rfl 38 (.slice none 0 0))));clear hs;go_wp2_with fail
 go_end0
 exact⟨_,rfl,HS.out,HM.out⟩
theorem qo (k:Int) (w:World) (h:SR w yb lb cap o c rv l) (hk:bG o.k=true) (vO:(k != 0)=false) (bM:c.wr=true):Calls Tryz.prog 126 #[.pointer (some ⟨yb,0,none⟩),.int .i64 k] w (aU yb lb cap o w rv (c.fin k) l (.tuple #[])):=by
 obtain⟨aj,ay,ah,HF,bp,aS,bx,bj⟩:=h.start;clear ah;have aA:=oy hk h.opk;have hr:=h.row;have hf:=h.fits;have c39:=(hr.cell 39).trans rfl;have c14:=(hr.cell 14).trans rfl;have f39:=hr.frozen 39;have f14:=hr.frozen 14;have aC:=(hr.set 39 (.bool true)).set 14 (.int .i64 k);have ht:=((Tch.refl (fun b=>b=yb) w).set (b:=yb) rfl 39 (.bool true)).set (b:=yb) rfl 14 (.int .i64 k);have wB:Fits o { c with over:=true,code:=k }:=⟨hf.kd,hf.wd,hf.sl,hf.cap,hf.nr,hf.wd1,hf.nr1,hf.sl1,hf.cap1,hf.rd1,hf.base1,hf.size1,hf.i1,hf.tr1,hf.st1,hf.A0,hf.A1,hf.B0,hf.B1⟩;have ai:=hid (h.upd (c':={ c with over:=true,code:=k }) (rv':=rv) ht aC wB rfl (.inl ⟨rfl,rfl⟩));have au:=hid (gM (rv:=rv) (lb:=lb) ht);have ig:=hid fun W=>bc o.k W hk
 rw[bM] at aA;have sj:=hid aA;clear hr aC ht hf wB h aA;clear hk;have jr:(c.fin k).rc=[]:=by unfold Kc.fin;rw[if_pos (by rw[vO,bM];rfl)]
 have Ah:=hid jr;clear jr;clear bM;go_enter Tryz.func126,Tryz.ntmps126;go_wp2_with fail;have hd:=sj.out;have bi:=ai.out.drew.row;have ct:(uM yb c o) ((w.setCell ⟨yb,39,none⟩ (.bool true)).setCell ⟨yb,14,none⟩ (.int .i64 k)).drew:=⟨(bi.cell 9).trans rfl,(bi.cell 0).trans rfl⟩;have ar:=hid ai.out.drew;have aE:=hid (au.out.trans (Mv.drew ((w.setCell ⟨yb,39,none⟩ (.bool true)).setCell ⟨yb,14,none⟩ (.int .i64 k)) _));clear bi;refine dR ct fun w2 aW hHeld=>?_
 rw[aW] at ar aE;clear aW ct;refine ap 0 1 2 3 ?_;refine ap 4 5 6 7 ?_;refine ap 8 9 10 11 ?_;refine aJ 12 (fun K hK=>?_)
 ·go_simp;refine(ig.out _).mono ?_;rintro ex w3 ⟨rfl,rfl⟩;have aM:=ar;have bf:=aE;have bC:=aM.out.row;have aQ:(uM yb c o) w3:=⟨(bC.cell 9).trans rfl,(bC.cell 0).trans rfl⟩;clear bC;refine kH hK aQ fun hHeld=>?_
  clear hK K;refine bw 13 14 ?_;refine bh ?_;clear hHeld aQ;have bC:=aM.out.row;have c38_3:=bC.at 38 (rv);have f38_3:=bC.frozen 38;clear bC;have hs:=aM.out;have HS:=hid (hs.upd (c':=c.fin k) (rv':=.slice none 0 0) ((Tch.refl (fun b=>b=yb) w3).set (b:=yb) rfl 38 (.slice none 0 0)) (hs.row.set 38 (.slice none 0 0)) ⟨hs.fits.kd,hs.fits.wd,hs.fits.sl,hs.fits.cap,hs.fits.nr,hs.fits.wd1,hs.fits.nr1,hs.fits.sl1,hs.fits.cap1,hs.fits.rd1,hs.fits.base1,hs.fits.size1,hs.fits.i1,hs.fits.tr1,hs.fits.st1,hs.fits.A0,hs.fits.A1,hs.fits.B0,hs.fits.B1⟩ rfl (.inr ⟨rfl,Ah.out⟩));have HM:=hid (bf.out.trans (tq (lb:=lb) (rv:=rv) yb ((Tch.refl (fun b=>b=yb) w3).set (b:=yb) rfl 38 (.slice none 0 0))));clear hs;go_wp2_with fail
  go_end0
  exact⟨_,rfl,HS.out,HM.out⟩
theorem tR (k:Int) (w:World) (h:SR w yb lb cap o c rv l) (hk:bG o.k=true) (vO:(k != 0)=false) (bM:c.wr=false):Calls Tryz.prog 126 #[.pointer (some ⟨yb,0,none⟩),.int .i64 k] w (aU yb lb cap o w rv (c.fin k) l (.tuple #[])):=by
 obtain⟨aj,ay,ah,HF,bp,aS,bx,bj⟩:=h.start;clear ah;have aA:=oy hk h.opk;have hr:=h.row;have hf:=h.fits;have c39:=(hr.cell 39).trans rfl;have c14:=(hr.cell 14).trans rfl;have f39:=hr.frozen 39;have f14:=hr.frozen 14;have aC:=(hr.set 39 (.bool true)).set 14 (.int .i64 k);have ht:=((Tch.refl (fun b=>b=yb) w).set (b:=yb) rfl 39 (.bool true)).set (b:=yb) rfl 14 (.int .i64 k);have wB:Fits o { c with over:=true,code:=k }:=⟨hf.kd,hf.wd,hf.sl,hf.cap,hf.nr,hf.wd1,hf.nr1,hf.sl1,hf.cap1,hf.rd1,hf.base1,hf.size1,hf.i1,hf.tr1,hf.st1,hf.A0,hf.A1,hf.B0,hf.B1⟩;have ai:=hid (h.upd (c':={ c with over:=true,code:=k }) (rv':=rv) ht aC wB rfl (.inl ⟨rfl,rfl⟩));have au:=hid (gM (rv:=rv) (lb:=lb) ht);have ig:=hid fun W=>bc o.k W hk
 rw[bM] at aA;have sj:=hid aA;clear hr aC ht hf wB h aA;clear hk;have jr:(c.fin k).rc=c.rc:=by unfold Kc.fin;rw[if_neg (by rw[vO,bM];decide)]
 have Ah:=hid jr;clear jr;clear bM;go_enter Tryz.func126,Tryz.ntmps126;go_wp2_with fail;have hd:=sj.out;have bi:=ai.out.drew.row;have ct:(uM yb c o) ((w.setCell ⟨yb,39,none⟩ (.bool true)).setCell ⟨yb,14,none⟩ (.int .i64 k)).drew:=⟨(bi.cell 9).trans rfl,(bi.cell 0).trans rfl⟩;have ar:=hid ai.out.drew;have aE:=hid (au.out.trans (Mv.drew ((w.setCell ⟨yb,39,none⟩ (.bool true)).setCell ⟨yb,14,none⟩ (.int .i64 k)) _));clear bi;refine dR ct fun w2 aW hHeld=>?_
 rw[aW] at ar aE;clear aW ct;refine ap 0 1 2 3 ?_;refine ap 4 5 6 7 ?_;refine ap 8 9 10 11 ?_;refine aJ 12 (fun K hK=>?_)
 ·go_simp;refine(ig.out _).mono ?_;rintro ex w3 ⟨rfl,rfl⟩;have aM:=ar;have bf:=aE;have bC:=aM.out.row;have aQ:(uM yb c o) w3:=⟨(bC.cell 9).trans rfl,(bC.cell 0).trans rfl⟩;clear bC;refine kH hK aQ fun hHeld=>?_
  clear hK K;refine bw 13 14 ?_;refine bh ?_;clear hHeld aQ;go_wp2_with fail;have hs:=aM.out;have hm:=bf.out;have gl:SR w3 yb lb cap o (c.fin k) rv l:=⟨hs.row,by rw[Ah.out];exact hs.rc,by rw[Ah.out];exact hs.w32r,⟨hs.fits.kd,hs.fits.wd,hs.fits.sl,hs.fits.cap,hs.fits.nr,hs.fits.wd1,hs.fits.nr1,hs.fits.sl1,hs.fits.cap1,hs.fits.rd1,hs.fits.base1,hs.fits.size1,hs.fits.i1,hs.fits.tr1,hs.fits.st1,hs.fits.A0,hs.fits.A1,hs.fits.B0,hs.fits.B1⟩,hs.mem,hs.w32,hs.len,hs.s1,hs.s2,hs.s3,hs.opk⟩
  go_end0
  exact⟨_,rfl,gl,hm⟩
theorem eu (k:Int) (w:World) (h:SR w yb lb cap o c rv l) (hk:bG o.k=true):Calls Tryz.prog 126 #[.pointer (some ⟨yb,0,none⟩),.int .i64 k] w (aU yb lb cap o w rv (c.fin k) l (.tuple #[])):=by
 rcases h0:(k != 0) with _ | _
 ·rcases h1:c.wr with _ | _
  ·exact tR yb lb cap o c rv l k w h hk h0 h1
  ·exact qo yb lb cap o c rv l k w h hk h0 h1
 ·exact tB yb lb cap o c rv l k w h hk h0
end
set_option maxHeartbeats 1000000
set_option maxRecDepth 100000
section
variable (yb lb cap:Nat) (o:Ob) (c:Kc) (rv:Value) (l:List Int)
theorem iD (w:World) (h:SR w yb lb cap o c rv l) (ht:c.tr<1000):Calls Tryz.prog 129 #[.pointer (some ⟨yb,0,none⟩)] w (aU yb lb cap o w rv { c with tr:=c.tr+1,rc:=[],ph:=0,i:=0 } l (.bool (decide ((c.cap:Int)≤(c.tr:Int)+1)))):=by
 obtain⟨aj,ay,ah,HF,bp,aS,bx,bj⟩:=h.start;clear ah;have hr:=h.row;have hf:=h.fits;have c13:=hr.at 13 (.int .i64 (c.tr:Int));have c38:w.cell? ⟨yb,38,none⟩=some rv:=(hr.cell 38).trans rfl;have f13:=hr.frozen 13;have f38:=hr.frozen 38;have aC:=(hr.set 13 (.int .i64 ((c.tr:Int)+1))).set 38 (.slice none 0 0);have Eh:=((Tch.refl (fun b=>b=yb) w).set (b:=yb) rfl 13 (.int .i64 ((c.tr:Int)+1))).set (b:=yb) rfl 38 (.slice none 0 0);have ai:=hid (h.upd (c':={ c with tr:=c.tr+1,rc:=[] }) (rv':=.slice none 0 0) Eh aC ⟨hf.kd,hf.wd,hf.sl,hf.cap,hf.nr,hf.wd1,hf.nr1,hf.sl1,hf.cap1,hf.rd1,hf.base1,hf.size1,hf.i1,by show c.tr+1≤1000;omega,hf.st1,hf.A0,hf.A1,hf.B0,hf.B1⟩ rfl (.inr ⟨rfl,rfl⟩));have au:=hid (tq (lb:=lb) (rv:=rv) yb Eh);have pP:(0:Int)≤(c.tr:Int):=by omega
 have rN:(c.tr:Int)≤1000:=by omega
 obtain⟨I,hI⟩:∃ x:Int,(c.tr:Int)=x:=⟨_,rfl⟩;rw[hI] at c13 pP rN ai au ⊢;have HI:=hid hI;clear hI hr aC Eh hf h ht;go_enter Tryz.func129,Tryz.ntmps129;go_wp2_with fail;refine(dO yb lb cap o _ _ _ (0) 0 _ ai.out rfl).mono (bF au fun w2 ar aE=>?_);have hr:=ar.out.row;have e13:=hr.at 13 (.int .i64 ((c.tr+1:Nat):Int));rw[show((c.tr+1:Nat):Int)=I+1 by rw[← HI.out];rfl] at e13;have e3:=hr.at 3 (.int .i64 (c.cap:Int)) (by rw[← bx.out];rfl);have tU:=hid ar.out.drew;have xh:=hid (aE.out.trans (Mv.drew w2 _));clear hr;go_wp2_with fail;refine dR (S:=(fun w':World=>w'.cell? ⟨yb,13,none⟩=some (.int .i64 (I+1))∧w'.cell? ⟨yb,3,none⟩=some (.int .i64 (c.cap:Int)))) ⟨e13,e3⟩ fun wd aW hHeld=>?_
 rw[aW] at tU xh;clear aW;refine ap 0 1 2 3 ?_;refine ap 4 5 6 7 ?_;refine bw 8 9 ?_;refine aF 10 ?_;refine bh ?_;go_wp2_with fail;go_ret;exact⟨_,rfl,tU.out,xh.out⟩
theorem wO {v:Nat→Bool} {k:Nat} (hk:k<20) (h:∀ j,j<k→v j=true) (hv:v k=false):Kc.chooseR v=(k:Int):=by
 unfold Kc.chooseR
 have:(List.range 20).find? (fun j=>!v j)=some k:=by
  rw[List.find?_range_eq_some];refine⟨by rw[hv];rfl,by simpa using hk,fun j hj=>?_⟩;rw[h j hj];rfl
 rw[this];rfl
theorem qy {v:Nat→Bool} (h:∀ j,j<20→v j=true):Kc.chooseR v=0:=by
 unfold Kc.chooseR
 have:(List.range 20).find? (fun j=>!v j)=none:=by
  rw[List.find?_eq_none];intro j hj;rw[h j (by simpa using hj)];simp
 rw[this];rfl
theorem lU (w:World) (h:SR w yb lb cap o c rv l):Calls Tryz.prog 128 #[.pointer (some ⟨yb,0,none⟩)] w fun e w'=>e=.returned (.int .u32 (Kc.chooseR c.used))∧w'=w:=by
 obtain⟨aj,ay,ah,HF,bp,aS,bx,bj⟩:=h.start;clear ah h;have HR:=hid aj.out.row;go_enter Tryz.func128,Tryz.ntmps128;go_wp2_with fail
 go_loopw [4] (fun v wr=>wr=w∧∃ k:Nat,k≤20∧v=.int .i64 (k:Int)∧∀ j,j<k→c.used j=true) (fun v _=>20 - (intOf v).toNat)
 case atStart=>exact⟨rfl,0,by omega,rfl,fun j hj=>absurd hj (by omega)⟩
 case round=>
  obtain⟨rfl,k,hk,rfl,hu⟩:=hrel
  by_cases aZ:k<20
  ·have hd:decide ((k:Int)<20)=true:=decide_eq_true (by omega);have hc:=nW HR.out k aZ;have dU:(0:Int)≤(k:Int):=by omega
   have dA:(k:Int)<20:=by omega
   have hw:IntKind.u32.wrap (k:Int)=(k:Int):=aa (by omega) (by omega);cases hv:c.used k
   ·rw[hv] at hc;have HU:=hid (wO aZ hu hv);clear hu hv;go_wp2_with fail;go_ret;exact⟨by rw[HU.out];rfl,rfl⟩
   ·rw[hv] at hc;have HU:=hid hu;have HV:=hid hv;clear hu hv;go_wp2_with fail;go_roundw
    case rel=>exact⟨trivial,k+1,by omega,by go_num,fun j hj=>by rcases Nat.lt_or_ge j k with q | q;exact HU.out j q;rw[show j=k by omega];exact HV.out⟩
    case measure=>simp[intOf];omega
  ·have hd:decide ((k:Int)<20)=false:=decide_eq_false (by omega);have HU:=hid (qy (fun j hj=>hu j (by omega)));clear hu;go_wp2_with fail;go_ret;exact⟨by rw[HU.out];rfl,rfl⟩
end
end Go.Proofs.YtolmpehgeinlkaaGreatDoor
