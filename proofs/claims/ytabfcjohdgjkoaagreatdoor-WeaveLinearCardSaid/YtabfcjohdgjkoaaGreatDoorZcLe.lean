/- A queue: the order of its calls, all ends. -/
import Derived.Test.YtabfcjohdgjkoaaGreatDoorZcLc
import Derived.Lib.SlicesCompact
namespace Go.Proofs.YtabfcjohdgjkoaaGreatDoor
open Go.RowKit
def ez (x:Cl):Bool:=decide (x.e<0)
def sx (x:Cl):Bool:=!ez x&&x.c==2
def nh (x:Cl):Bool:=!ez x&&x.c==3
def nW (x:Cl):Bool:=!ez x&&x.c==0
def pe (x:Cl):Bool:=x.q==3&&(ez x || x.c==0 || x.c==2) || x.q==4&&(ez x || x.c==0 || x.c==3)
def dr (l:List Cl):Bool:=eu l&&l.all pe&&l.all fun x=>l.all fun y=>!(x.q==y.q) || x.p==y.p
structure Sp where
 a:Nat
 b:Nat
 i:Nat
 o:Nat
 deriving DecidableEq
def jx (c:Cl):List Cl→Bool
 | []=>true
 | d::_=>!dx d c
def bM (P:List Cl):List (List Int):=(P.filter fun c=>ez c || c.c==0).map (·.r)
def bR (n:Int) (P T:List Cl) (s:Sp):Option Sp:=
 match P[s.a]? with
 | none=>none
 | some c=>if jx c (T.drop s.b) then
   if sx c then (if (s.i:Int) - s.o=n then some { s with a:=s.a+1 } else none)
   else if (s.i:Int) - s.o<n then some { s with a:=s.a+1,i:=s.i+1 } else none
  else none
def bO (P T:List Cl) (s:Sp):Option Sp:=
 match T[s.b]? with
 | none=>none
 | some c=>if jx c (P.drop s.a) then
   if nh c then (if s.i=s.o then some { s with b:=s.b+1 } else none)
   else if s.i=s.o then (if ez c then some { s with b:=s.b+1 } else none)
   else if ez c || (bM P)[s.o]?==some c.r then some { s with b:=s.b+1,o:=s.o+1 } else none
  else none
def dd (l:List Cl):Bool:=l.all ez
def ji (P T:List Cl) (s:Sp):Bool:=dd (P.drop s.a)&&dd (T.drop s.b)
def yo (s:Sp):Int:=(s.i:Int) - s.o
def begun (P T:List Cl) (s:Sp) (st:List Sp × List Int):List Sp × List Int:=(s::st.1,if ji P T s then st.2++[yo s] else st.2)
def pC {α:Type} (g:Sp→α→α):Option Sp→α→α
 | some t,st=>g t st
 | none,st=>st
def m4 (n:Int) (P T:List Cl):Nat→Sp→List Sp × List Int→List Sp × List Int
 | 0,_,st=>st
 | f+1,s,st=>
  if s ∈ st.1 then st else
  pC (m4 n P T f) (bO P T s) (pC (m4 n P T f) (bR n P T s) (begun P T s st))
theorem vG {n:Int} {P T:List Cl} {I:Sp→Prop} (hP:∀ s t,I s→bR n P T s=some t→I t) (hT:∀ s t,I s→bO P T s=some t→I t):
  ∀ (f:Nat) (s:Sp) (st:List Sp × List Int),I s→∀ k ∈ (m4 n P T f s st).2,k ∈ st.2∨∃ t,I t∧ji P T t=true∧k=yo t:=by
 intro f
 induction f with
 | zero=>intro s st _ k hk;exact Or.inl hk
 | succ f ih=>
  intro s st hs k hk
  have h0:∀ k ∈ (begun P T s st).2,k ∈ st.2∨∃ t,I t∧ji P T t=true∧k=yo t:=by
   intro k hk;unfold begun at hk
   by_cases hf:ji P T s=true
   ·simp only[hf,if_true,List.mem_append,List.mem_singleton] at hk
    rcases hk with hk | rfl
    ·exact Or.inl hk
    ·exact Or.inr ⟨s,hs,hf,rfl⟩
   ·simp only[Bool.not_eq_true _ ▸ hf] at hk;exact Or.inl hk
  rw[m4] at hk
  by_cases hin:s ∈ st.1
  ·rw[if_pos hin] at hk;exact Or.inl hk
  ·rw[if_neg hin] at hk
   have h1:∀ k ∈ (pC (m4 n P T f) (bR n P T s) (begun P T s st)).2,k ∈ st.2∨∃ t,I t∧ji P T t=true∧k=yo t:=by
    intro k hk;cases hp:bR n P T s with
    | none=>rw[hp] at hk;exact h0 k hk
    | some t=>
     rw[hp] at hk
     rcases ih t _ (hP s t hs hp) k hk with h | h
     ·exact h0 k h
     ·exact Or.inr h
   generalize pC (m4 n P T f) (bR n P T s) (begun P T s st)=st1 at hk h1;cases ht:bO P T s with
   | none=>rw[ht] at hk;exact h1 k hk
   | some t=>
    rw[ht] at hk
    rcases ih t _ (hT s t hs ht) k hk with h | h
    ·exact h1 k h
    ·exact Or.inr h
structure Inv (n:Int) (P T:List Cl) (s:Sp):Prop where
 a:s.a≤P.length
 b:s.b≤T.length
 i:s.i=(P.take s.a).countP fun c=>!sx c
 oi:s.o≤s.i
 top:(s.i:Int) - s.o≤max n 0
 lo:(T.take s.b).countP (fun c=>!ez c&&!nh c)≤s.o
 hi:s.o≤(T.take s.b).countP (fun c=>!nh c)
theorem mP {l:List Cl} {k:Nat} {c:Cl} (h:l[k]?=some c):k<l.length:=(List.getElem?_eq_some_iff.1 h).1
theorem Inv.zero (n:Int) (P T:List Cl):Inv n P T ⟨0,0,0,0⟩:=⟨by simp,by simp,by simp,by simp,by simp;omega,by simp,by simp⟩
theorem Inv.put {n:Int} {P T:List Cl} {s t:Sp} (h:Inv n P T s) (ht:bR n P T s=some t):Inv n P T t:=by
 unfold bR at ht;cases hc:P[s.a]? with
 | none=>rw[hc] at ht;cases ht
 | some c=>
  rw[hc] at ht;simp only at ht;have hl:=mP hc
  split at ht
  ·split at ht
   ·rename_i hf
    split at ht
    ·cases ht;exact⟨hl,h.b,by simp only[bp hc,List.countP_append,h.i];simp[hf],h.oi,h.top,h.lo,h.hi⟩
    ·cases ht
   ·rename_i hf
    split at ht
    ·rename_i hn;cases ht;refine⟨hl,h.b,by simp only[bp hc,List.countP_append,h.i];simp[hf],by have:=h.oi;simp only;omega,?_,h.lo,h.hi⟩;have:=h.oi;simp only[Int.natCast_add];omega
    ·cases ht
  ·cases ht
theorem Inv.take {n:Int} {P T:List Cl} {s t:Sp} (h:Inv n P T s) (ht:bO P T s=some t):Inv n P T t:=by
 unfold bO at ht;cases hc:T[s.b]? with
 | none=>rw[hc] at ht;cases ht
 | some c=>
  rw[hc] at ht;simp only at ht;have hl:=mP hc;have h1:=h.lo;have h2:=h.hi;have h3:=h.oi;have h4:=h.top
  split at ht
  ·split at ht
   ·rename_i hf
    split at ht
    ·cases ht;exact⟨h.a,hl,h.i,h3,h4,by simp only[bp hc,List.countP_append];simp[hf];exact h1,by simp only[bp hc,List.countP_append];simp[hf];exact h2⟩
    ·cases ht
   ·rename_i hf
    split at ht
    ·split at ht
     ·rename_i ho;cases ht;exact⟨h.a,hl,h.i,h3,h4,by simp only[bp hc,List.countP_append];simp[ho];exact h1,by simp only[bp hc,List.countP_append];simp[hf];omega⟩
     ·cases ht
    ·rename_i eZ
     split at ht
     ·cases ht;refine⟨h.a,hl,h.i,by simp only;omega,by simp only[Int.natCast_add];omega,?_,?_⟩
      ·simp only[bp hc,List.countP_append];have:List.countP (fun c=>!ez c&&!nh c) [c]≤1:=List.countP_le_length;omega
      ·simp only[bp hc,List.countP_append];simp[hf];exact h2
     ·cases ht
  ·cases ht
theorem qK {l:List Cl} (h:dr l=true):∀ x ∈ l,pe x=true:=by
 unfold dr at h;simp only[Bool.and_eq_true] at h;exact List.all_eq_true.1 h.1.2
theorem yW (p:Cl→Bool) (l:List Cl) (k:Nat):(l.take k).countP p≤l.countP p:=(List.take_sublist k l).countP_le
def aR (S:List Cl):List Cl:=S.filter fun c=>c.q==3
def aH (S:List Cl):List Cl:=S.filter fun c=>!(c.q==3)
def TQ (l:List Cl):Int:=((aR l).countP nW:Int) - ((aH l).countP nW:Int)
theorem jy {l:List Cl} {x:Cl}:x ∈ aR l↔x ∈ l∧x.q=3:=by simp[aR,List.mem_filter]
theorem il {l:List Cl} {x:Cl}:x ∈ aH l↔x ∈ l∧x.q≠3:=by simp[aH,List.mem_filter]
theorem BE {l:List Cl} (h:∀ x ∈ l,pe x=true):∀ x ∈ aH l,(nW x=(!ez x&&!nh x))∧((!nh x)=(nW x || ez x)∧(nW x&&ez x)=false):=by
 intro x hx;obtain⟨h1,h2⟩:=il.1 hx;have h3:=h x h1;unfold pe at h3;have h4:(x.q==3)=false:=by simpa using h2
 rw[h4] at h3;unfold nh nW;cases ho:ez x
 ·rw[ho] at h3;simp at h3 ⊢
  rcases h3.2 with h3 | h3 <;> rw[h3] <;> decide
 ·simp
theorem zb {P T:List Cl} {s:Sp} (h:ji P T s=true):(∀ x ∈ P.drop s.a,ez x=true)∧∀ x ∈ T.drop s.b,ez x=true:=by
 unfold ji dd at h;rw[Bool.and_eq_true] at h;exact⟨List.all_eq_true.1 h.1,List.all_eq_true.1 h.2⟩
theorem qP {x:Cl} (h:ez x=true):nW x=false:=by simp[nW,h]
def bE (T:List Cl):List (List Int):=(T.filter nW).map (·.r)
def KC (l S:List Cl):Bool:=dr l&&(bE (aH S)).isPrefixOf (bM (aR S))
theorem ti {l:List Cl} (h:eu l=true):(∀ x ∈ l,Dg x=true)∧l.Pairwise fun x y=>fU x y=true:=by
 have h0:=of_decide_eq_true h;refine⟨fun x hx=>?_,?_⟩
 ·obtain⟨k,hk⟩:=List.getElem?_of_mem hx;exact(h0 k (mP hk) x hk).1
 ·rw[List.pairwise_iff_getElem];intro i j hi hj Eb;rw[kA];exact(h0 j hj _ (List.getElem?_eq_getElem hj)).2 i _ Eb (List.getElem?_eq_getElem hi)
theorem pX {l:List Cl} (h:dr l=true):∀ x ∈ l,∀ y ∈ l,x.q=y.q→x.p=y.p:=by
 unfold dr at h;simp only[Bool.and_eq_true] at h;intro x hx y hy hq;have:=List.all_eq_true.1 (List.all_eq_true.1 h.2 x hx) y hy;rw[hq] at this
 simpa using this
theorem AZ {l S R:List Cl} (hf:dr l=true) (hS:S.Perm l) (hs:S.Pairwise fun x y=>x.b≤y.b) (hR:R.Sublist S) (hq:∀ x ∈ R,∀ y ∈ R,x.q=y.q) {j:Nat} {c:Cl} (hc:R[j]?=some c) (ho:ez c=true):j+1=R.length:=by
 have hr:eu l=true:=by unfold dr at hf;simp only[Bool.and_eq_true] at hf;exact hf.1.1
 obtain⟨h1,h2⟩:=ti hr;have h3:S.Pairwise fun x y=>fU x y=true:=(hS.pairwise_iff fun {x y} h=>by rw[kA];exact h).2 h2
 have h4:=List.pairwise_iff_getElem.1 (h3.sublist hR);have h5:=List.pairwise_iff_getElem.1 (hs.sublist hR);have hl:=mP hc;refine Nat.le_antisymm hl (Nat.le_of_not_lt fun aJ=>?_);have hm:∀ x ∈ R,x ∈ l:=fun x hx=>hS.mem_iff.1 (hR.subset hx)
 have e1:R[j]=c:=by rw[List.getElem?_eq_getElem hl] at hc;exact Option.some.inj hc
 have g4:=h4 j (j+1) hl aJ (by omega);have g5:=h5 j (j+1) hl aJ (by omega);rw[e1] at g4 g5;have m1:c ∈ R:=List.mem_of_getElem? hc;have m2:R[j+1] ∈ R:=List.getElem_mem aJ;generalize R[j+1]=d at g4 g5 m2;have hp:=pX hf c (hm c m1) d (hm d m2) (hq c m1 d m2);have iw:=h1 d (hm d m2);unfold ez at ho;unfold Dg xt at iw
 have g6:dx c d=true∨dx d c=true:=by
  revert g4;unfold fU;rw[hp];cases dx c d <;> cases dx d c <;> simp
 unfold dx at g6;simp only[Bool.or_eq_true,Bool.and_eq_true,decide_eq_true_eq,beq_iff_eq] at g6 iw ho;omega
structure InvF (P T:List Cl) (s:Sp):Prop where
 pre:bE (T.take s.b)<+:bM P
 same:(∀ x ∈ T.take s.b,ez x=false)→bE (T.take s.b)=(bM P).take s.o
theorem InvF.zero (P T:List Cl):InvF P T ⟨0,0,0,0⟩:=⟨by simp[bE],fun _=>by simp[bE]⟩
theorem mC {T:List Cl} {k:Nat} {c:Cl} (h:T[k]?=some c) (hg:nW c=true):bE (T.take (k+1))=bE (T.take k)++[c.r]:=by
 unfold bE;rw[bp h,List.filter_append,List.map_append];simp[hg]
theorem iv {T:List Cl} {k:Nat} {c:Cl} (h:T[k]?=some c) (hg:nW c=false):bE (T.take (k+1))=bE (T.take k):=by
 unfold bE;rw[bp h,List.filter_append,List.map_append];simp[hg]
theorem InvF.put {n:Int} {P T:List Cl} {s t:Sp} (h:InvF P T s) (ht:bR n P T s=some t):InvF P T t:=by
 unfold bR at ht;cases hc:P[s.a]? with
 | none=>rw[hc] at ht;cases ht
 | some c=>
  rw[hc] at ht;simp only at ht
  split at ht <;> (try cases ht) <;> split at ht <;> split at ht <;> cases ht <;> exact⟨h.pre,h.same⟩
theorem InvF.take {P T:List Cl} (hO:∀ (j:Nat) (c:Cl),T[j]?=some c→ez c=true→j+1=T.length) (hT:∀ x ∈ T,nW x=(!ez x&&!nh x)) {s t:Sp} (h:InvF P T s) (ht:bO P T s=some t):InvF P T t:=by
 unfold bO at ht;cases hc:T[s.b]? with
 | none=>rw[hc] at ht;cases ht
 | some c=>
  rw[hc] at ht;simp only at ht;have hl:=mP hc;have Q2:=hT c (List.mem_of_getElem? hc)
  have eS:∀ x ∈ T.take s.b,ez x=false:=fun x hx=>by
   obtain⟨k,hk⟩:=List.getElem?_of_mem hx;have dU:=mP hk;rw[List.length_take] at dU;rw[List.getElem?_take_of_lt (by omega)] at hk;cases ho:ez x with
   | false=>rfl
   | true=>have:=hO k x hk ho;omega
  have iP:=h.same eS;have ah:(∀ x ∈ T.take (s.b+1),ez x=false)→ez c=false:=fun hh=>hh c (by rw[bp hc];simp)
  split at ht
  ·split at ht
   ·rename_i hf;have hg:nW c=false:=by rw[Q2,hf];simp
    split at ht
    ·cases ht;exact⟨by simp only[iv hc hg];exact h.pre,fun _=>by simp only[iv hc hg];exact iP⟩
    ·cases ht
   ·rename_i hf
    split at ht
    ·split at ht
     ·rename_i ho;cases ht;have hg:nW c=false:=qP ho;exact⟨by simp only[iv hc hg];exact h.pre,fun _=>by simp only[iv hc hg];exact iP⟩
     ·cases ht
    ·split at ht
     ·rename_i hor;cases ht;cases ho:ez c with
      | true=>
       have hg:nW c=false:=qP ho;exact⟨by simp only[iv hc hg];exact h.pre,fun hh=>by rw[ah hh] at ho;cases ho⟩
      | false=>
       rw[ho] at hor;simp only[Bool.false_or,beq_iff_eq] at hor;have hg:nW c=true:=by rw[Q2,ho];simp[hf]
       have Ru:bE (T.take (s.b+1))=(bM P).take (s.o+1):=by rw[mC hc hg,iP,List.take_add_one,hor];rfl
       exact⟨by simp only[Ru];exact List.take_prefix _ _,fun _=>Ru⟩
     ·cases ht
  ·cases ht
theorem InvF.fin {P T:List Cl} {s:Sp} (h:InvF P T s) (hd:ji P T s=true):bE T<+:bM P:=by
 have:bE T=bE (T.take s.b):=by
  unfold bE
  conv=>lhs;rw[← List.take_append_drop s.b T]
  rw[List.filter_append,List.filter_eq_nil_iff (l:=T.drop s.b) |>.2 (fun x hx=>by rw[qP ((zb hd).2 x hx)];simp),List.append_nil]
 rw[this];exact h.pre
section
variable {n:Int} {P T:List Cl}
inductive Reach (n:Int) (P T:List Cl):Sp→Sp→Prop where
 | refl (s:Sp):Reach n P T s s
 | put {s t u:Sp}:bR n P T s=some t→Reach n P T t u→Reach n P T s u
 | take {s t u:Sp}:bO P T s=some t→Reach n P T t u→Reach n P T s u
def left (P T:List Cl) (s:Sp):Nat:=(P.length - s.a)+(T.length - s.b)
theorem E3 {s t:Sp} (h:bR n P T s=some t):t.a=s.a+1∧t.b=s.b∧s.a<P.length:=by
 unfold bR at h;cases hc:P[s.a]? with
 | none=>rw[hc] at h;cases h
 | some c=>
  rw[hc] at h;simp only at h;have hl:=mP hc
  split at h
  ·split at h <;> split at h <;> cases h <;> exact⟨rfl,rfl,hl⟩
  ·cases h
theorem E4 {s t:Sp} (h:bO P T s=some t):t.b=s.b+1∧t.a=s.a∧s.b<T.length:=by
 unfold bO at h;cases hc:T[s.b]? with
 | none=>rw[hc] at h;cases h
 | some c=>
  rw[hc] at h;simp only at h;have hl:=mP hc
  split at h
  ·split at h
   ·split at h <;> cases h;exact⟨rfl,rfl,hl⟩
   ·split at h
    ·split at h <;> cases h;exact⟨rfl,rfl,hl⟩
    ·split at h <;> cases h;exact⟨rfl,rfl,hl⟩
  ·cases h
theorem sP {s t:Sp} (h:bR n P T s=some t):left P T t<left P T s:=by
 obtain⟨h1,h2,h3⟩:=E3 h;unfold left;rw[h1,h2];omega
theorem qj {s t:Sp} (h:bO P T s=some t):left P T t<left P T s:=by
 obtain⟨h1,h2,h3⟩:=E4 h;unfold left;rw[h1,h2];omega
structure Grown (n:Int) (P T:List Cl) (st st':List Sp × List Int):Prop where
 seen:∀ x ∈ st.1,x ∈ st'.1
 ends:∀ k ∈ st.2,k ∈ st'.2
 on:∀ x ∈ st'.1,x ∈ st.1∨((∀ t,bR n P T x=some t→t ∈ st'.1)∧(∀ t,bO P T x=some t→t ∈ st'.1)∧(ji P T x=true→yo x ∈ st'.2))
theorem Grown.refl (st:List Sp × List Int):Grown n P T st st:=⟨fun _ h=>h,fun _ h=>h,fun _ h=>Or.inl h⟩
theorem Grown.trans {st st1 st2:List Sp × List Int} (h1:Grown n P T st st1) (h2:Grown n P T st1 st2):Grown n P T st st2:=
 ⟨fun x h=>h2.seen x (h1.seen x h),fun k h=>h2.ends k (h1.ends k h),fun x h=>by
  rcases h2.on x h with h3 | h3
  ·rcases h1.on x h3 with h4 | ⟨h4,h5,h6⟩
   ·exact Or.inl h4
   ·exact Or.inr ⟨fun t ht=>h2.seen t (h4 t ht),fun t ht=>h2.seen t (h5 t ht),fun hf=>h2.ends _ (h6 hf)⟩
  ·exact Or.inr h3⟩
theorem wR:∀ (f:Nat) (s:Sp) (st:List Sp × List Int),left P T s<f→Grown n P T st (m4 n P T f s st)∧s ∈ (m4 n P T f s st).1:=by
 intro f
 induction f with
 | zero=>intro s st h;omega
 | succ f ih=>
  intro s st aJ;rw[m4]
  by_cases hin:s ∈ st.1
  ·rw[if_pos hin];exact⟨Grown.refl st,hin⟩
  ·rw[if_neg hin];have aq:s ∈ (begun P T s st).1:=List.mem_cons_self ..;have eE:∀ x ∈ (begun P T s st).1,x=s∨x ∈ st.1:=fun x hx=>List.mem_cons.1 hx
   have F1:∀ k ∈ st.2,k ∈ (begun P T s st).2:=fun k hk=>by
    unfold begun;by_cases hf:ji P T s=true
    ·simp only[hf,if_true];exact List.mem_append_left _ hk
    ·rw[Bool.not_eq_true] at hf;simp only[hf];exact hk
   have SS:ji P T s=true→yo s ∈ (begun P T s st).2:=fun hf=>by
    unfold begun;simp only[hf,if_true];exact List.mem_append_right _ (List.mem_singleton.2 rfl)
   have m1:∃ st1,pC (m4 n P T f) (bR n P T s) (begun P T s st)=st1∧Grown n P T (begun P T s st) st1∧∀ t,bR n P T s=some t→t ∈ st1.1:=by
    cases hp:bR n P T s with
    | none=>exact⟨_,rfl,Grown.refl _,fun t ht=>by cases ht⟩
    | some t=>
     have:=ih t (begun P T s st) (by have:=sP hp;omega);exact⟨_,rfl,this.1,fun t' ht=>by cases ht;exact this.2⟩
   obtain⟨st1,e1,g1,c1⟩:=m1;rw[e1]
   have m2:∃ st2,pC (m4 n P T f) (bO P T s) st1=st2∧Grown n P T st1 st2∧∀ t,bO P T s=some t→t ∈ st2.1:=by
    cases hp:bO P T s with
    | none=>exact⟨_,rfl,Grown.refl _,fun t ht=>by cases ht⟩
    | some t=>
     have:=ih t st1 (by have:=qj hp;omega);exact⟨_,rfl,this.1,fun t' ht=>by cases ht;exact this.2⟩
   obtain⟨st2,e2,g2,c2⟩:=m2;rw[e2];have g:=g1.trans g2;refine⟨⟨fun x hx=>g.seen x (List.mem_cons_of_mem _ hx),fun k hk=>g.ends k (F1 k hk),fun x hx=>?_⟩,g.seen s aq⟩
   rcases g.on x hx with h | h
   ·rcases eE x h with rfl | h
    ·exact Or.inr ⟨fun t ht=>g2.seen t (c1 t ht),c2,fun hf=>g.ends _ (SS hf)⟩
    ·exact Or.inl h
   ·exact Or.inr h
theorem uH {st:List Sp × List Int} (h:Grown n P T ([],[]) st):∀ {s t:Sp},Reach n P T s t→s ∈ st.1→t ∈ st.1:=by
 intro s t hr
 induction hr with
 | refl s=>exact fun h=>h
 | put hs _ ih=>
  intro hm
  rcases h.on _ hm with h1 | h1
  ·cases h1
  ·exact ih (h1.1 _ hs)
 | take hs _ ih=>
  intro hm
  rcases h.on _ hm with h1 | h1
  ·cases h1
  ·exact ih (h1.2.1 _ hs)
theorem Reach.snocP {s t u:Sp} (h:Reach n P T s t) (hs:bR n P T t=some u):Reach n P T s u:=by
 induction h with
 | refl s=>exact .put hs (.refl _)
 | put h1 _ ih=>exact .put h1 (ih hs)
 | take h1 _ ih=>exact .take h1 (ih hs)
theorem Reach.snocT {s t u:Sp} (h:Reach n P T s t) (hs:bO P T t=some u):Reach n P T s u:=by
 induction h with
 | refl s=>exact .take hs (.refl _)
 | put h1 _ ih=>exact .put h1 (ih hs)
 | take h1 _ ih=>exact .take h1 (ih hs)
theorem y8 {f:Nat} {s:Sp} (hf:left P T s<f) (k:Int):k ∈ (m4 n P T f s ([],[])).2↔∃ t,Reach n P T s t∧ji P T t=true∧k=yo t:=by
 constructor
 ·intro hk
  rcases vG (I:=Reach n P T s) (fun a b h=>h.snocP) (fun a b h=>h.snocT) f s ([],[]) (.refl s) k hk with h | h
  ·cases h
  ·exact h
 ·rintro⟨t,h1,h2,rfl⟩;obtain⟨g,hs⟩:=wR (n:=n) f s ([],[]) hf
  rcases g.on t (uH g h1 hs) with h | h
  ·cases h
  ·exact h.2.2 h2
end
def Hc (rest:List Cl) (c:Cl):Bool:=rest.all fun d=>!dx d c
def LW (n:Int) (c:Cl) (q:List (List Int)):Option (List (List Int)):=
 if c.q==3 then (if sx c then (if (q.length:Int)=n then some q else none) else if (q.length:Int)<n then some (q++[c.r]) else none)
 else if nh c then (if q.length=0 then some q else none)
 else match q with
  | []=>if ez c then some [] else none
  | x::t=>if ez c || x==c.r then some t else none
def Kz (rest:List Cl) (q:List (List Int)):List Int:=if dd rest then [(q.length:Int)] else []
def EG (n:Int):Nat→List Cl→List (List Int)→List Int
 | 0,rest,q=>Kz rest q
 | f+1,rest,q=>((List.range rest.length).flatMap fun i=>match rest[i]? with
   | none=>[]
   | some c=>if Hc rest c then (match LW n c q with
     | some q'=>EG n f (rest.eraseIdx i) q'
     | none=>[]) else [])++Kz rest q
def Mz (R:List Cl):Prop:=R.Pairwise fun x y=>dx x y=true∧dx y x=false
structure Rel (P T:List Cl) (s:Sp) (rest:List Cl) (q:List (List Int)):Prop where
 perm:rest.Perm (P.drop s.a++T.drop s.b)
 i:s.i=(P.take s.a).countP fun c=>!sx c
 oi:s.o≤s.i
 q:q=((bM P).take s.i).drop s.o
theorem Bf {P:List Cl} (hP:∀ x ∈ P,pe x=true∧x.q=3):bM P=(P.filter fun c=>!sx c).map (·.r):=by
 unfold bM
 congr 1
 refine List.filter_congr fun x hx=>?_
 obtain⟨h1,h2⟩:=hP x hx;unfold pe at h1;rw[h2] at h1;unfold sx;cases ho:ez x
 ·rw[ho] at h1;simp at h1 ⊢
  rcases h1 with h1 | h1 <;> rw[h1] <;> decide
 ·simp
theorem sZ {P:List Cl} (hP:∀ x ∈ P,pe x=true∧x.q=3) (k:Nat):(P.take k).countP (fun c=>!sx c)≤(bM P).length:=by
 rw[Bf hP,List.length_map,← List.countP_eq_length_filter];exact yW _ _ _
section
variable {n:Int} {P T:List Cl}
theorem Rel.len (hP:∀ x ∈ P,pe x=true∧x.q=3) {s:Sp} {rest:List Cl} {q:List (List Int)} (h:Rel P T s rest q):q.length=s.i - s.o:=by
 rw[h.q,List.length_drop,List.length_take,Nat.min_eq_left (by rw[h.i];exact sZ hP _)]
theorem Rel.k (hP:∀ x ∈ P,pe x=true∧x.q=3) {s:Sp} {rest:List Cl} {q:List (List Int)} (h:Rel P T s rest q):(q.length:Int)=yo s:=by
 have:=h.len hP;have:=h.oi;unfold yo;omega
theorem Rel.fin {s:Sp} {rest:List Cl} {q:List (List Int)} (h:Rel P T s rest q):dd rest=ji P T s:=by
 unfold ji dd;rw[← List.all_append,Bool.eq_iff_iff,List.all_eq_true,List.all_eq_true];exact⟨fun g x hx=>g x (h.perm.mem_iff.2 hx),fun g x hx=>g x (h.perm.mem_iff.1 hx)⟩
end
def jS (u:Int) (x:Cl):Bool:=decide (0≤x.e)&&decide (x.e<u)
def l8 (u:Int) (x:Cl):Bool:=jS u x&&x.c==0
def Rows (l:List Cl):Prop:=∀ (i j:Nat) (x y:Cl),i<j→l[i]?=some x→l[j]?=some y→0≤x.e∧x.e<y.b∧(y.e=-1∨y.b≤y.e)
theorem nM {l:List Cl} {i:Nat} {p:Cl→Bool} {q:Cl→Bool} (h1:∀ (j:Nat) (y:Cl),j<i→l[j]?=some y→p y=q y) (h2:∀ (j:Nat) (y:Cl),i≤j→l[j]?=some y→p y=false):l.countP p=(l.take i).countP q:=by
 conv=>lhs;rw[← List.take_append_drop i l]
 rw[List.countP_append]
 have e2:(l.drop i).countP p=0:=by
  rw[List.countP_eq_zero];intro y hy;obtain⟨j,hj⟩:=List.getElem?_of_mem hy;rw[List.getElem?_drop] at hj;rw[h2 (i+j) y (by omega) hj]
  decide
 rw[e2,Nat.add_zero];apply List.countP_congr;intro y hy;obtain⟨j,hj⟩:=List.getElem?_of_mem hy;rw[List.getElem?_take] at hj
 split at hj
 ·rename_i aJ;rw[h1 j y aJ hj]
 ·cases hj
theorem nN {l:List Cl} {i:Nat} (hi:i≤l.length):(l.take i).countP (fun _=>true)=i:=by
 rw[List.countP_true,List.length_take];omega
section
variable {l:List Cl} (hl:Rows l) {i:Nat} {x:Cl} (hx:l[i]?=some x) (he:0≤x.e) (hb:x.b≤x.e)
include hl hx he hb
theorem FT:l.countP (jS x.e)=i∧l.countP (jS (x.e+1))=i+1:=by
 have hi:=(List.getElem?_eq_some_iff.1 hx).1
 constructor
 ·rw[nM (i:=i) (q:=fun _=>true) (fun j y hj hy=>?_) (fun j y hj hy=>?_),nN (by omega)]
  ·have:=hl j i y x hj hy hx;unfold jS;simp only[Bool.and_eq_true,decide_eq_true_eq];omega
  ·unfold jS
   by_cases e:j=i
   ·subst e;rw[hx] at hy;obtain rfl:=Option.some.inj hy;simp
   ·have:=hl i j x y (by omega) hx hy;have:¬ (0≤y.e∧y.e<x.e):=by omega
    simpa [Bool.and_eq_false_iff] using fun h=>by omega
 ·rw[nM (i:=i+1) (q:=fun _=>true) (fun j y hj hy=>?_) (fun j y hj hy=>?_),nN (by omega)]
  ·unfold jS;simp only[Bool.and_eq_true,decide_eq_true_eq]
   by_cases e:j=i
   ·subst e;rw[hx] at hy;obtain rfl:=Option.some.inj hy;omega
   ·have:=hl j i y x (by omega) hy hx;omega
  ·unfold jS;have:=hl i j x y (by omega) hx hy
   simpa [Bool.and_eq_false_iff] using fun h=>by omega
theorem zo:l.countP (l8 x.e)=(l.take i).countP (fun y=>y.c==0)∧l.countP (l8 (x.e+1))=l.countP (l8 x.e)+if x.c=0 then 1 else 0:=by
 have h1:l.countP (l8 x.e)=(l.take i).countP (fun y=>y.c==0):=by
  refine nM (fun j y hj hy=>?_) (fun j y hj hy=>?_)
  ·have:=hl j i y x hj hy hx;unfold l8 jS;rw[decide_eq_true this.1,decide_eq_true (show y.e<x.e by omega)];rfl
  ·unfold l8 jS
   by_cases e:j=i
   ·subst e;rw[hx] at hy;obtain rfl:=Option.some.inj hy;simp
   ·have:=hl i j x y (by omega) hx hy;have hn:(decide (0≤y.e)&&decide (y.e<x.e))=false:=by simpa [Bool.and_eq_false_iff] using fun h=>by omega
    rw[hn];rfl
 refine⟨h1,?_⟩;rw[h1,nM (i:=i+1) (q:=fun y=>y.c==0) (fun j y hj hy=>?_) (fun j y hj hy=>?_)]
 ·rw[bp hx,List.countP_append]
  congr 1
  by_cases e:x.c=0 <;> simp[e]
 ·have hn:(decide (0≤y.e)&&decide (y.e<x.e+1))=true:=by
   simp only[Bool.and_eq_true,decide_eq_true_eq]
   by_cases e:j=i
   ·subst e;rw[hx] at hy;obtain rfl:=Option.some.inj hy;omega
   ·have:=hl j i y x (by omega) hy hx;omega
  unfold l8 jS;rw[hn];rfl
 ·have:=hl i j x y (by omega) hx hy;have hn:(decide (0≤y.e)&&decide (y.e<x.e+1))=false:=by simpa [Bool.and_eq_false_iff] using fun h=>by omega
  unfold l8 jS;rw[hn];rfl
end
theorem kW {l:List Cl} {u:Int} (h:∀ y ∈ l,y.e≠u):l.countP (jS (u+1))=l.countP (jS u)∧l.countP (l8 (u+1))=l.countP (l8 u):=by
 have h1:∀ y ∈ l,jS (u+1) y=jS u y:=fun y hy=>by
  have:=h y hy;unfold jS
  congr 1
  rw[decide_eq_decide];omega
 exact⟨List.countP_congr fun y hy=>by rw[h1 y hy],List.countP_congr fun y hy=>by unfold l8;rw[h1 y hy]⟩
theorem tq {l:List Cl} (hl:Rows l) {u:Int} {j:Nat} {d:Cl} (hj:l.countP (jS u)≤j) (hd:l[j]?=some d):¬ (0≤d.e∧d.e<u):=fun ⟨h0,h1⟩=>by
 have aJ:=(List.getElem?_eq_some_iff.1 hd).1
 have h2:(l.take (j+1)).countP (jS u)=(l.take (j+1)).countP (fun _=>true):=by
  apply List.countP_congr;intro y hy;obtain⟨i,hi⟩:=List.getElem?_of_mem hy;rw[List.getElem?_take] at hi
  split at hi
  ·rename_i Eb;unfold jS
   have:0≤y.e∧y.e<u:=by
    by_cases e:i=j
    ·subst e;rw[hd] at hi;obtain rfl:=Option.some.inj hi;exact⟨h0,h1⟩
    ·have:=hl i j y d (by omega) hi hd;omega
   simp[this.1,this.2]
  ·cases hi
 rw[nN (by omega)] at h2;have h3:(l.take (j+1)).countP (jS u)≤l.countP (jS u):=(List.take_sublist _ _).countP_le;omega
theorem AO {l:List Cl} (hl:Rows l) {x:Cl} (hx:x.b≤x.e):jx x (l.drop (l.countP (jS x.e)))=true:=by
 cases h:l.drop (l.countP (jS x.e)) with
 | nil=>rfl
 | cons d t=>
  have hd:l[l.countP (jS x.e)]?=some d:=by
   have:=congrArg (fun z:List Cl=>z[0]?) h
   simpa using this
  have:=tq hl (Nat.le_refl _) hd;show(!dx d x)=true;cases hb:dx d x with
  | false=>rfl
  | true=>
   obtain⟨q1,q2⟩:=qy hb;exact absurd ⟨q1,by omega⟩ this
section
variable {P:Par} {L:Lm} {R:Nat→List Int} (hQ:LQue P L R) (hT:LRt L)
include hQ
theorem EM {i:Nat} {x:Cl} (hx:L.calls[i]?=some x):x.q=3↔x.p=0:=by
 constructor
 ·intro e;apply Classical.byContradiction;intro hp;have:=(hQ.take i x hx hp).2.1;omega
 ·intro e;exact(hQ.put i x hx e).1
theorem nV (u:Int):gN true L.calls u=(aR L.calls).countP (l8 u):=by
 unfold gN aR;rw[List.countP_filter]
 have:∀ l:List Cl,(∀ x ∈ l,x.q=3↔x.p=0)→(l.map (dW true u)).sum=l.countP fun a=>l8 u a&&(a.q==3):=fun l=>by
  induction l with
  | nil=>intro _;rfl
  | cons a l ih=>
   intro h;rw[List.map_cons,List.sum_cons,ih fun x hx=>h x (List.mem_cons_of_mem _ hx),List.countP_cons];have ha:=h a List.mem_cons_self;unfold dW l8 jS
   by_cases q:a.p=0
   ·have q3:=ha.2 q
    by_cases z:0≤a.e∧a.e<u∧a.c=0
    ·simp[q,q3,z.1,z.2.1,z.2.2];omega
    ·have:(decide (0≤a.e)&&decide (a.e<u)&&a.c==0)=false:=by
      simp only[Bool.and_eq_false_iff,decide_eq_false_iff_not,beq_eq_false_iff_ne];omega
     simp[q,q3,this,z]
   ·have q3:¬ a.q=3:=fun e=>q (ha.1 e)
    simp[q,q3]
 exact this _ fun x hx=>by
  obtain⟨i,hi⟩:=List.getElem?_of_mem hx;exact EM hQ hi
theorem nk (u:Int):gN false L.calls u=(aH L.calls).countP (l8 u):=by
 unfold gN aH;rw[List.countP_filter]
 have:∀ l:List Cl,(∀ x ∈ l,x.q=3↔x.p=0)→(l.map (dW false u)).sum=l.countP fun a=>l8 u a&&!(a.q==3):=fun l=>by
  induction l with
  | nil=>intro _;rfl
  | cons a l ih=>
   intro h;rw[List.map_cons,List.sum_cons,ih fun x hx=>h x (List.mem_cons_of_mem _ hx),List.countP_cons];have ha:=h a List.mem_cons_self;unfold dW l8 jS
   by_cases q:a.p=0
   ·have q3:=ha.2 q;simp[q,q3]
   ·have q3:¬ a.q=3:=fun e=>q (ha.1 e)
    by_cases z:0≤a.e∧a.e<u∧a.c=0
    ·simp[q,q3,z.1,z.2.1,z.2.2];omega
    ·have:(decide (0≤a.e)&&decide (a.e<u)&&a.c==0)=false:=by
      simp only[Bool.and_eq_false_iff,decide_eq_false_iff_not,beq_eq_false_iff_ne];omega
     simp[q,this,z]
 exact this _ fun x hx=>by
  obtain⟨i,hi⟩:=List.getElem?_of_mem hx;exact EM hQ hi
include hT
omit hQ in
theorem ww {f:Cl→Bool} (hf:∀ x ∈ L.calls,∀ y ∈ L.calls,f x=true→f y=true→x.p=y.p):Rows (L.calls.filter f):=fun i j x y Eb hx hy=>by
 obtain⟨i',a1,a2,a3⟩:=dS hx;obtain⟨j',b1,b2,b3⟩:=dS hy
 have aJ:i'<j':=by
  apply Classical.byContradiction;intro h;have:((L.calls.take j').filter f).length≤((L.calls.take i').filter f).length:=((List.take_sublist_take_left (by omega)).filter f).length_le;omega
 obtain⟨c1,c2⟩:=hT.pr i' j' x y aJ a1 b1 (hf x (List.mem_of_getElem? a1) y (List.mem_of_getElem? b1) a2 b2);exact⟨c1,c2,(hT.tm j' y b1).2.2.1.imp id And.left⟩
theorem oS:Rows (aR L.calls):=ww hT fun x hx y hy e1 e2=>by
 obtain⟨i,hi⟩:=List.getElem?_of_mem hx;obtain⟨j,hj⟩:=List.getElem?_of_mem hy;rw[(EM hQ hi).1 (by simpa using e1),(EM hQ hj).1 (by simpa using e2)]
theorem qn:Rows (aH L.calls):=ww hT fun x hx y hy e1 e2=>by
 obtain⟨i,hi⟩:=List.getElem?_of_mem hx;obtain⟨j,hj⟩:=List.getElem?_of_mem hy;have h1:x.p≠0:=fun e=>by rw[(EM hQ hi).2 e] at e1;exact absurd e1 (by decide)
 have h2:y.p≠0:=fun e=>by rw[(EM hQ hj).2 e] at e2;exact absurd e2 (by decide)
 rw[(hQ.take i x hi h1).1,(hQ.take j y hj h2).1]
theorem Bg {j:Nat} (hj:j<gN true L.calls L.now):(bM (aR L.calls))[j]?=some (R j):=by
 have hr:=oS hQ hT;rw[nV hQ] at hj;unfold bM
 have bf:j<((aR L.calls).filter fun c=>ez c || c.c==0).length:=by
  rw[← List.countP_eq_length_filter];refine Nat.lt_of_lt_of_le hj (List.countP_mono_left fun x _ h=>?_);unfold l8 at h;simp only[Bool.and_eq_true] at h;rw[h.2];simp
 obtain⟨y,hy⟩:∃ y,((aR L.calls).filter fun c=>ez c || c.c==0)[j]?=some y:=⟨_,List.getElem?_eq_getElem bf⟩;rw[List.getElem?_map,hy];obtain⟨i,h1,h2,h3⟩:=dS hy;obtain⟨i',g1,g2,_⟩:=dS (show(L.calls.filter fun c=>c.q==3)[i]?=some y from h1);have dh:=(EM hQ g1).1 (by simpa using g2);obtain⟨_,ow⟩:=hQ.put i' y g1 dh;have UW:=(hT.tm i' y g1).2.2.1
 rcases ow with ⟨he,_⟩ | ⟨he,kJ⟩
 ·exfalso
  have SX:(aR L.calls).countP (l8 L.now)=((aR L.calls).take i).countP (l8 L.now):=by
   refine nM (fun _ _ _ _=>rfl) (fun k z hk hz=>?_)
   by_cases e:k=i
   ·subst e;rw[h1] at hz;obtain rfl:=Option.some.inj hz;unfold l8 jS;rw[he];rfl
   ·have:=hr i k y z (by omega) h1 hz;omega
  have h4:((aR L.calls).take i).countP (l8 L.now)≤(((aR L.calls).take i).filter fun c=>ez c || c.c==0).length:=by
   rw[← List.countP_eq_length_filter];refine List.countP_mono_left fun x _ h=>?_
   unfold l8 at h;simp only[Bool.and_eq_true] at h;rw[h.2];simp
  omega
 ·have hb:y.b≤y.e:=by omega
  have dl:y.c=0:=by
   have FV:(ez y || y.c==0)=true:=h2;have:ez y=false:=decide_eq_false (by omega);rw[this] at FV
   simpa using FV
  rcases kJ with ⟨df,_⟩ | ⟨_,_,sJ⟩
  ·omega
  ·rw[nV hQ,(zo hr h1 he hb).1] at sJ;show some y.r=some (R j);rw[sJ]
   congr 2
   rw[← h3,← List.countP_eq_length_filter];apply List.countP_congr;intro z hz;obtain⟨k,hk⟩:=List.getElem?_of_mem hz;rw[List.getElem?_take] at hk
   split at hk
   ·rename_i qd;have:=hr k i z y qd hk h1;have:ez z=false:=decide_eq_false (by omega);rw[this];simp
   ·cases hk
theorem xQ:∀ u:Nat,u≤L.now→Reach (P.sl:Int) (aR L.calls) (aH L.calls) ⟨0,0,0,0⟩ ⟨(aR L.calls).countP (jS u),(aH L.calls).countP (jS u),(aR L.calls).countP (l8 u),(aH L.calls).countP (l8 u)⟩:=by
 have OQ:=oS hQ hT;have yn:=qn hQ hT
 have F1:∀ x ∈ L.calls,x.b≤x.e∨x.e=-1:=fun x hx=>by
  obtain⟨i,hi⟩:=List.getElem?_of_mem hx
  rcases (hT.tm i x hi).2.2.1 with h | h
  ·exact .inr h
  ·exact .inl h.1
 have Oy:∀ y ∈ aR L.calls,y ∈ L.calls∧y.q=3:=fun y hy=>jy.1 hy
 have Oz:∀ y ∈ aH L.calls,y ∈ L.calls∧y.q≠3:=fun y hy=>il.1 hy
 intro u
 induction u with
 | zero=>
  intro _
  have h0:∀ (l:List Cl),l.countP (jS ((0:Nat):Int))=0∧l.countP (l8 ((0:Nat):Int))=0:=fun l=>by
   have:∀ y:Cl,jS ((0:Nat):Int) y=false:=fun y=>by
    unfold jS;simp only[Bool.and_eq_false_iff,decide_eq_false_iff_not];omega
   constructor
   ·rw[List.countP_eq_zero];intro y _;rw[this];decide
   ·rw[List.countP_eq_zero];intro y _;unfold l8;rw[this];simp
  rw[(h0 _).1,(h0 _).1,(h0 _).2,(h0 _).2];exact .refl _
 | succ u ih=>
  intro hu;have ih:=ih (by omega);have KW:((u+1:Nat):Int)=(u:Int)+1:=by omega
  rw[KW]
  by_cases Hx:∃ x ∈ L.calls,x.e=(u:Int)
  ·obtain⟨x,MM,Em⟩:=Hx;obtain⟨i0,px⟩:=List.getElem?_of_mem MM;have JK:x.b≤x.e:=by rcases F1 x MM with h | h <;> omega
   have KY:0≤x.e:=by omega
   have Gl:∀ y ∈ L.calls,y.e=(u:Int)→y=x:=fun y hy e=>by
    obtain⟨j,hj⟩:=List.getElem?_of_mem hy;have:=hT.ed i0 j x y px hj KY (by omega);subst this;exact Option.some.inj (hj.symm.trans px)
   by_cases vX:x.q=3
   ·
    have sF:x ∈ aR L.calls:=jy.2 ⟨MM,vX⟩;obtain⟨i,hi⟩:=List.getElem?_of_mem sF;obtain⟨e1,e2⟩:=FT OQ hi KY JK;obtain⟨_,e3⟩:=zo OQ hi KY JK;obtain⟨e4,e5⟩:=kW (l:=aH L.calls) (u:=(u:Int)) fun y hy e=>(Oz y hy).2 (by rw[Gl y (Oz y hy).1 e];exact vX)
    rw[Em] at e1 e2 e3;rw[e2,e3,e4,e5];rw[e1] at ih;have kJ:=(hQ.put i0 x px ((EM hQ px).1 vX)).2;have ch:=AO yn JK;rw[Em] at ch;refine ih.snocP ?_;unfold bR;dsimp only;rw[hi];dsimp only;rw[if_pos ch];have Ad:ez x=false:=decide_eq_false (by omega)
    rcases kJ with ⟨h,_⟩ | ⟨_,h⟩
    ·omega
    ·unfold lu at h;rw[nV hQ,nk hQ,Em] at h
     rcases h with ⟨h1,h2⟩ | ⟨h1,h2,_⟩
     ·have H8:sx x=true:=by unfold sx;rw[Ad,h1];rfl
      rw[if_pos H8,if_pos (by omega),if_neg (by omega)];rfl
     ·have H8:¬ sx x=true:=by unfold sx;rw[Ad,h1];decide
      rw[if_neg H8,if_pos (by omega),if_pos h1]
   ·
    have sF:x ∈ aH L.calls:=il.2 ⟨MM,vX⟩;obtain⟨i,hi⟩:=List.getElem?_of_mem sF;obtain⟨e1,e2⟩:=FT yn hi KY JK;obtain⟨_,e3⟩:=zo yn hi KY JK;obtain⟨e4,e5⟩:=kW (l:=aR L.calls) (u:=(u:Int)) fun y hy e=>vX (by rw[← Gl y (Oy y hy).1 e];exact(Oy y hy).2)
    rw[Em] at e1 e2 e3;rw[e2,e3,e4,e5];rw[e1] at ih;have dh:x.p≠0:=fun e=>vX ((EM hQ px).2 e)
    have kJ:=(hQ.take i0 x px dh).2.2;have ch:=AO OQ JK;rw[Em] at ch;refine ih.snocT ?_;unfold bO;dsimp only;rw[hi];dsimp only;rw[if_pos ch];have Ad:ez x=false:=decide_eq_false (by omega)
    rcases kJ with ⟨h,_⟩ | ⟨_,h⟩
    ·omega
    ·unfold jC at h
     rcases h with ⟨h1,h2⟩ | ⟨h1,h2,h3⟩
     ·rw[nV hQ,nk hQ,Em] at h2;have Hu:nh x=true:=by unfold nh;rw[Ad,h1];rfl
      rw[if_pos Hu,if_pos h2,if_neg (by omega)];rfl
     ·have Ry:=Bg hQ hT (j:=gN false L.calls x.e) (Nat.lt_of_lt_of_le h2 (FU (by omega)));rw[nV hQ,nk hQ,Em] at h2;rw[nk hQ,Em] at Ry h3;have Hu:¬ nh x=true:=by unfold nh;rw[Ad,h1];decide
      rw[if_neg Hu,if_neg (by omega),Ry,← h3,if_pos (by simp),if_pos h1]
  ·have rQ:∀ y ∈ L.calls,y.e≠(u:Int):=fun y hy e=>Hx ⟨y,hy,e⟩
   obtain⟨e1,e2⟩:=kW (l:=aR L.calls) (u:=(u:Int)) fun y hy=>rQ y (Oy y hy).1
   obtain⟨e3,e4⟩:=kW (l:=aH L.calls) (u:=(u:Int)) fun y hy=>rQ y (Oz y hy).1
   rw[e1,e2,e3,e4];exact ih
theorem Bh:∃ t,Reach (P.sl:Int) (aR L.calls) (aH L.calls) ⟨0,0,0,0⟩ t∧ji (aR L.calls) (aH L.calls) t=true:=by
 refine⟨_,xQ hQ hT L.now (Nat.le_refl _),?_⟩
 have key:∀ l:List Cl,Rows l→(∀ y ∈ l,y ∈ L.calls)→dd (l.drop (l.countP (jS L.now)))=true:=fun l hr hm=>by
  unfold dd;rw[List.all_eq_true];intro y hy;obtain⟨j,hj⟩:=List.getElem?_of_mem hy;rw[List.getElem?_drop] at hj;have TM:=hm y (List.mem_of_getElem? hj);have h1:=tq hr (u:=(L.now:Int)) (by omega) hj;obtain⟨i,hi⟩:=List.getElem?_of_mem TM;have h2:=hQ.en i y hi;unfold ez;exact decide_eq_true (by omega)
 unfold ji;dsimp only;rw[key _ (oS hQ hT) (fun y hy=>(jy.1 hy).1),key _ (qn hQ hT) fun y hy=>(il.1 hy).1];rfl
end
theorem nO:∀ m (d:Array Int),0<m→0<(Lib.compactUpTo d m).length
 | 0,_,h=>absurd h (by omega)
 | 1,d,_=>by rw[Lib.compactUpTo_succ,if_pos (by simp[Lib.keeps]),List.length_append];simp
 | m+2,d,_=>by
  have:=nO (m+1) d (by omega);rw[Lib.compactUpTo_succ,List.length_append];omega
section
variable {P:Par} {L:Lm} {R:Nat→List Int} (hQ:LQue P L R) (hT:LRt L)
include hQ
theorem s8 (hr:eu L.calls=true):dr L.calls=true:=by
 have key:∀ x ∈ L.calls,pe x=true∧(x.q=3∧x.p=0∨x.q=4∧x.p=1):=fun x hx=>by
  obtain⟨i,hi⟩:=List.getElem?_of_mem hx
  by_cases hp:x.p=0
  ·obtain⟨a,b⟩:=hQ.put i x hi hp;refine⟨?_,.inl ⟨a,hp⟩⟩;unfold pe ez
   rcases b with ⟨b,_⟩ | ⟨_,b⟩
   ·simp[a,b]
   ·rcases b with ⟨b,_⟩ | ⟨b,_⟩ <;> simp[a,b]
  ·obtain⟨a0,a,b⟩:=hQ.take i x hi hp;refine⟨?_,.inr ⟨a,a0⟩⟩;unfold pe ez
   rcases b with ⟨b,_⟩ | ⟨_,b⟩
   ·simp[a,b]
   ·rcases b with ⟨b,_⟩ | ⟨b,_⟩ <;> simp[a,b]
 unfold dr;rw[hr,Bool.true_and,Bool.and_eq_true];refine⟨List.all_eq_true.2 fun x hx=>(key x hx).1,List.all_eq_true.2 fun x hx=>List.all_eq_true.2 fun y hy=>?_⟩
 rcases (key x hx).2 with ⟨a,b⟩ | ⟨a,b⟩ <;> rcases (key y hy).2 with ⟨c,d⟩ | ⟨c,d⟩ <;> simp[a,b,c,d]
include hT
theorem wt:∃ k,k ∈ (m4 (P.sl:Int) (aR L.calls) (aH L.calls) (L.calls.length+1) ⟨0,0,0,0⟩ ([],[])).2:=by
 obtain⟨t,h1,h2⟩:=Bh hQ hT;refine⟨yo t,(y8 ?_ _).2 ⟨t,h1,h2,rfl⟩⟩
 have:(aR L.calls).length+(aH L.calls).length=L.calls.length:=by
  unfold aR aH
  induction L.calls with
  | nil=>rfl
  | cons a l ih=>cases h:(a.q==3) <;> simp[h] <;> omega
 show(aR L.calls).length - 0+((aH L.calls).length - 0)<L.calls.length+1;omega
theorem s9 (hr:eu L.calls=true) (hu:L.calls.Pairwise fun x y=>x.b<y.b):(bE (aH L.calls)).isPrefixOf (bM (aR L.calls))=true:=by
 have hf:=s8 hQ hr;obtain⟨k,h3⟩:=wt hQ hT;have Rj:=qK hf
 have Aj:∀ x ∈ aH L.calls,x.q=4:=fun x hx=>by
  obtain⟨m1,m2⟩:=il.1 hx;have h:=Rj x m1;unfold pe at h;simp only[Bool.or_eq_true,Bool.and_eq_true,beq_iff_eq] at h;omega
 have hO:∀ (j:Nat) (c:Cl),(aH L.calls)[j]?=some c→ez c=true→j+1=(aH L.calls).length:=fun j c hc ho=>AZ hf (List.Perm.refl _) (hu.imp fun h=>by omega) List.filter_sublist (fun x hx y hy=>(Aj x hx).trans (Aj y hy).symm) hc ho
 have hT:∀ x ∈ aH L.calls,nW x=(!ez x&&!nh x):=fun x hx=>(BE Rj x hx).1
 rcases vG (I:=InvF (aR L.calls) (aH L.calls)) (fun s t h ht=>h.put ht) (fun s t h ht=>h.take hO hT ht) _ _ _ (InvF.zero _ _) k h3 with h | ⟨t,h,hd,rfl⟩
 ·cases h
 ·exact List.isPrefixOf_iff_prefix.2 (h.fin hd)
end
end Go.Proofs.YtabfcjohdgjkoaaGreatDoor
