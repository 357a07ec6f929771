/- A call of a history: of no program. -/
import Derived.Test.YtabfcjohdgjkoaaGreatDoorRows
import Derived.WalkSpells
import Derived.WalkLawsBesides
import Derived.Lib.Hide
import Derived.BigQuiet
import Derived.Deep.RegionHeld3
namespace Go.Proofs.YtabfcjohdgjkoaaGreatDoor
open Go.RowKit
theorem bp {α:Type} {l:List α} {k:Nat} {e:α} (h:l[k]?=some e):l.take (k+1)=l.take k++[e]:=by
 rw[List.take_add_one,h];rfl
theorem bu {α:Type} {l:List α} {k:Nat} (h:k<l.length):∃ e,l[k]?=some e:=⟨_,List.getElem?_eq_getElem h⟩
theorem bQ {α:Type} {l:List α} {k:Nat} {e:α} (h:l[k]?=some e):k<l.length:=(List.getElem?_eq_some_iff.1 h).1
theorem rm {k:IntKind} {a b:Int} (h:a=b):Ending.returned (.int k a)=.returned (.int k b):=by rw[h]
theorem az {a b:Bool} (h:a=b):Ending.returned (.bool a)=.returned (.bool b):=by rw[h]
structure Enc (α:Type) where
 cells:α→List Value
 size:Nat
 len:∀ x,(cells x).length=size
 one:∀ x,∀ u ∈ cells x,u.oneCell'=true
 pos:0<size
def Enc.all {α:Type} (E:Enc α) (l:List α):List Value:=l.flatMap E.cells
theorem Enc.all_snoc {α:Type} (E:Enc α) (l:List α) (x:α):E.all (l++[x])=E.all l++E.cells x:=by simp[Enc.all]
theorem Enc.all_len {α:Type} (E:Enc α):∀ l:List α,(E.all l).length=l.length*E.size
 | []=>by simp[Enc.all]
 | x::l=>by
  have h:(E.all (x::l)).length=(E.cells x).length+(E.all l).length:=by simp[Enc.all]
  rw[h,E.all_len l,E.len,List.length_cons,Nat.add_mul];omega
theorem Enc.all_get {α:Type} (E:Enc α):∀ (l:List α) (k:Nat) (x:α),l[k]?=some x→∀ j,j<E.size→(E.all l)[k*E.size+j]?=(E.cells x)[j]?
 | y::l,0,x,h,j,hj=>by
  simp at h;subst h;simp only[Enc.all,List.flatMap_cons];rw[List.getElem?_append_left (by rw[E.len];omega)]
  congr 1;omega
 | y::l,k+1,x,h,j,hj=>by
  have ih:=E.all_get l k x (by simpa using h) j hj;simp only[Enc.all,List.flatMap_cons] at ih ⊢;rw[List.getElem?_append_right (by rw[E.len,Nat.add_mul];omega),E.len,← ih]
  congr 1;rw[Nat.add_mul];omega
theorem Enc.all_one {α:Type} (E:Enc α) (l:List α):∀ u ∈ E.all l,u.oneCell'=true:=by
 intro u hu;obtain⟨x,_,hx⟩:=List.mem_flatMap.1 hu;exact E.one x u hx
def Enc.of1 {α:Type} (f:α→Value) (h:∀ x,(f x).oneCell'=true):Enc α:=⟨fun x=>[f x],1,fun _=>rfl,fun x u hu=>by simp at hu;subst hu;exact h x,by omega⟩
def bn (q:IntKind):Enc Int:=Enc.of1 (Value.int q) fun _=>rfl
def TW:Enc ByteArray:=Enc.of1 Value.string fun _=>rfl
theorem iI {α:Type} (f:α→Value) (h:∀ x,(f x).oneCell'=true) (l:List α):(Enc.of1 f h).all l=l.map f:=by
 induction l with
 | nil=>rfl
 | cons x l ih=>simpa [Enc.all,Enc.of1] using ih
def SlOf {α:Type} (E:Enc α) (w:World) (B:Nat) (A:Option Addr) (l:List α):Prop:=
 ∀ k x,l[k]?=some x→∃ b off,A=some ⟨b,off,none⟩∧b<B∧∀ j u,(E.cells x)[j]?=some u→w.cell? ⟨b,off+(k*E.size+j),none⟩=some u
section
variable {α:Type} {E:Enc α} {w w':World} {B B':Nat} {A:Option Addr} {l:List α}
theorem SlOf.below (h:SlOf E w B A l) (hb:Below B w w') (hB:B≤B'):SlOf E w' B' A l:=by
 intro k x hk;obtain⟨b,off,hA,aJ,hc⟩:=h k x hk;exact⟨b,off,hA,by omega,fun j u hu=>(hb.cell (p:=⟨b,_,none⟩) aJ).trans (hc j u hu)⟩
theorem SlOf.nil:SlOf E w B A []:=fun k x h=>by simp at h
theorem SlOf.take (h:SlOf E w B A l) (n:Nat):SlOf E w B A (l.take n):=fun k x hk=>by
 have um:k<n:=by
  have:=bQ hk;simp at this;omega
 exact h k x (by rw[List.getElem?_take_of_lt um] at hk;exact hk)
theorem SlOf.drop (h:SlOf E w B A l) {n cap:Nat} (hn:n≤l.length) (hc:l.length≤cap):SlOf E w B (if cap=n then A else A.map (·.add (n*E.size))) (l.drop n):=by
 intro k x hk;rw[List.getElem?_drop] at hk;obtain⟨b,off,hA,aJ,iw⟩:=h _ x hk;have:=bQ hk;rw[if_neg (by omega),hA];refine⟨b,off+n*E.size,by simp[Addr.add_lit],aJ,fun j u hu=>?_⟩;have h1:off+n*E.size+(k*E.size+j)=off+((n+k)*E.size+j):=by rw[Nat.add_mul];omega
 rw[h1];exact iw j u hu
def Own (E:Enc α) (t:TypeId) (base:Nat) (w:World) (v:Value) (l:List α):Prop:=w.ownsRow base t E.size v l.length (E.all l)
theorem Own.nil (t:TypeId) (base:Nat):Own E t base w (.slice none 0 0) []:=World.ownsRow_nil _ _ _ _
theorem Own.sl {t:TypeId} {base:Nat} {v:Value} (h:Own E t base w v l):∃ A c,v=.slice A l.length c∧(l.length≤c∧c≤maxLen)∧(l=[]∨A≠none)∧SlOf E w w.heap.size A l:=by
 rcases h.2 with ⟨rfl,h0⟩ | ⟨g,cap,cur,rfl,hg,hh,ic,sE,r⟩
 ·have:=List.eq_nil_of_length_eq_zero h0;subst this;exact⟨none,0,rfl,⟨by simp,by simp[maxLen]⟩,.inl rfl,SlOf.nil⟩
 ·refine⟨_,cap,rfl,⟨ic,sE⟩,.inr (by simp),fun k x hx=>⟨g,0,rfl,(Array.getElem?_eq_some_iff.1 hh).1,fun j u hu=>?_⟩⟩;have hc:=h.cells (g:=g) rfl;have hj:j<E.size:=by rw[← E.len x];exact bQ hu
  have:=hc (k*E.size+j) u (by rw[E.all_get l k x hx j hj,hu]);rw[Addr.add_lit] at this;exact this
theorem Own.below {t:TypeId} {base:Nat} {v:Value} (h:Own E t base w v l) (hb:Below B w w') (hB:w.heap.size≤B):Own E t base w' v l:=by
 refine⟨h.1,?_⟩
 rcases h.2 with h2 | ⟨g,cap,cur,hv,hg,hh,r⟩
 ·exact .inl h2
 ·exact .inr ⟨g,cap,cur,hv,hg,(hb.block g (by have:=(Array.getElem?_eq_some_iff.1 hh).1;omega)).trans hh,r⟩
theorem Own.alloc {t:TypeId} {base:Nat} {v:Value} (h:Own E t base w v l) (o:Obj):Own E t base (w.alloc o) v l:=World.ownsRow.alloc h o
theorem Own.mono {t:TypeId} {base base':Nat} {v:Value} (h:Own E t base w v l) (hb:base'≤base):Own E t base' w v l:=by
 refine⟨h.1,?_⟩
 rcases h.2 with h2 | ⟨g,cap,cur,hv,hg,r⟩
 ·exact .inl h2
 ·exact .inr ⟨g,cap,cur,hv,by omega,r⟩
end
theorem wN (w:World) (cs:Array Value) (t:TypeId) (j:Nat):(w.alloc (.cells cs t)).cell? ((⟨w.heap.size,0,none⟩:Addr).add j)=cs[j]?:=by
 rw[Addr.add_lit,cell_of_row _ _ _ cs t (0,0) (heap_alloc_new w _)];simp
theorem cE (w:World) (l:List Value) (cs:Array Value) (t:TypeId) (h:cs.toList=l):∀ (j:Nat) (u:Value),l[j]?=some u→(w.alloc (.cells cs t)).cell? ((⟨w.heap.size,0,none⟩:Addr).add j)=some u:=by
 intro j u hu;rw[wN,← Array.getElem?_toList,h,hu]
theorem SlOf.new {α:Type} {E:Enc α} (w:World) (cs:Array Value) (t:TypeId) (l:List α) (h:cs.toList=E.all l):SlOf E (w.alloc (.cells cs t)) (w.heap.size+1) (some ⟨w.heap.size,0,none⟩) l:=by
 intro k x hk;refine⟨_,_,rfl,by omega,fun j u hu=>?_⟩;have hj:j<E.size:=by rw[← E.len x];exact bQ hu
 have:=cE w (E.all l) cs t h (k*E.size+j) u (by rw[E.all_get l k x hk j hj,hu]);rw[Addr.add_lit] at this;exact this
theorem aM {w:World} {a:Addr} {u:Value} (h:w.cell? a=some u):a.block<w.heap.size:=by
 rcases Nat.lt_or_ge a.block w.heap.size with aJ | S4
 ·exact aJ
 ·unfold World.cell? at h;rw[Array.getElem?_eq_none S4] at h;cases h
theorem pR (a:Addr) (n:Nat):(a.add n).block=a.block:=by unfold Addr.add;split <;> rfl
theorem yP (a:Addr) (i j:Nat):(a.add i).add j=a.add (i+j):=by
 unfold Addr.add
 by_cases hi:i=0 <;> by_cases hj:j=0 <;> simp[hi,hj,Nat.add_assoc]
structure ElemTy (P:Program) (t e:TypeId) (size bytes:Nat):Prop where
 ht:P.underlying t=some (.slice e)
 hi:∃ i z,P.info? e=some i∧i.zero=some z∧i.size=size∧i.bytes=bytes∧z.cells.size=size∧0<size
theorem ElemTy.of {P:Program} {t e:TypeId} {size bytes:Nat} {z:Value} (ht:P.underlying t=some (.slice e)) (h:(P.info? e).map (fun i=>(i.zero,i.size,i.bytes))=some (some z,size,bytes)) (hz:z.cells.size=size) (hp:0<size):ElemTy P t e size bytes:=by
 obtain⟨i,hi,h1,h2,h3⟩:=info_parts h;exact⟨ht,i,z,hi,h1,h2,h3,hz,hp⟩
theorem gI {w w1:World} {base B:Nat} {t:TypeId} {size n:Nat} {v:Value} {xs:List Value} (bU:w.ownsRow base t size v n xs) (hg:w.grownBy w1 v.ownBlock) (hB:B≤base) (hs:base≤w.heap.size):Below B w w1:=
 (Below.refl B w).grown hg (by omega) (fun k hk=>by have:=(bU.lt k hk).1;omega)
theorem Own.app {α:Type} {E:Enc α} {t:TypeId} {base:Nat} {w:World} {v:Value} {l:List α} {x:α} {cs:List Value} (h:w.ownsRow base t E.size v (l.length+1) (E.all l++cs)) (hc:cs=E.cells x):Own E t base w v (l++[x]):=by
 subst hc;unfold Own;rw[E.all_snoc,List.length_append];exact h
theorem pS (l:List Value) (e:List Deferred) (k:Nat) (v:Value):(Act.mk l.toArray e).put (some k) v=⟨(l.set k v).toArray,e⟩:=by simp[Act.put]
theorem pN (a:Act) (v:Value):a.put none v=a:=rfl
theorem aX {P:Program} {ops:Array Oper} {Q:Exit→Act→World→Prop} {md:Region.Mode} {S:World→Prop} (i:Nat) {oi:Oper} {v:Value} {fuel:Nat} {listed:Array Bool} {a a':Act} {w:World}
  (h:wpAnyH P md ops Q S fuel (listed.setIfInBounds i true) a' w)
  (hi:ops[i]?=some oi:=by((simp only[List.getElem?_toArray,List.getElem?_cons_succ,List.getElem?_cons_zero]);rfl))
  (hs:Region.noSelect ops=true:=by kernel_rfl) (hf:Region.free md ops listed i=true:=by kernel_rfl) (hr:(Region.ready md ops listed).contains i=true:=by kernel_rfl)
  (hQ:∀ c a w,Q (.panic c) (a.put oi.dst v) w→Q (.panic c) a w:=by first | exact fun _ _ _ h=>h | exact fun _ _ _ h=>by cases h.1)
  (hy:YieldsIf P ops S oi v a:=by(refine Or.inl ⟨rfl,?_⟩;(intro wq cw;(try dsimp only at cw);(try have cw:_∧_:=cw);go_simp);(try with_reducible rfl))) (hS:S w:=by assumption)
  (ha:a.put oi.dst v=a':=by(try first | simp only[pS,List.set] | simp only[pN]);rfl):wpAnyH P md ops Q S (fuel+1) listed a w:=
 wpAnyH_take hi hs hf hr hQ hy hS (by rw[ha];exact h)
theorem dp {P:Program} {ops:Array Oper} {Q:Exit→Act→World→Prop} {md:Region.Mode} {S:World→Prop} {fuel:Nat} {listed:Array Bool} {a:Act} {w:World} {i:Nat} {o:Oper} {rs:List Nat}
  (h:∀ K':Act→World→Prop,Shut (∀ a w,S w→(S w→wpAnyH P md ops Q S fuel (listed.setIfInBounds i true) a w)→K' a w)→if Region.wanted o (yielded ops a.tmps)=true then Oper.wp P o a w K' Q else K' (a.put o.dst undef) w)
  (hs:AllReadyH P md ops Q S fuel listed a w rs) (ho:ops[i]?=some o:=by((simp only[List.getElem?_toArray,List.getElem?_cons_succ,List.getElem?_cons_zero]);rfl)):AllReadyH P md ops Q S fuel listed a w (i::rs):=
 AllReadyH.cons ho h hs
theorem aV {P:Program} {ops:Array Oper} {Q:Exit→Act→World→Prop} {md:Region.Mode} {S:World→Prop} (i:Nat) {fuel:Nat} {listed:Array Bool} {a:Act} {w:World} {o:Oper}
  (h:∀ K':Act→World→Prop,Shut (∀ a w,S w→(S w→wpAnyH P md ops Q S fuel (listed.setIfInBounds i true) a w)→K' a w)→if Region.wanted o (yielded ops a.tmps)=true then Oper.wp P o a w K' Q else K' (a.put o.dst undef) w)
  (hr:Region.ready md ops listed=[i]:=by kernel_rfl) (ho:ops[i]?=some o:=by((simp only[List.getElem?_toArray,List.getElem?_cons_succ,List.getElem?_cons_zero]);rfl)):wpAnyH P md ops Q S (fuel+1) listed a w:=
 wpAnyH_ready hr (by simp) (AllReadyH.cons ho h AllReadyH.nil)
theorem mQ {P:Program} {ops:Array Oper} {Q:Exit→Act→World→Prop} {md:Region.Mode} {S:World→Prop} (i:Nat) {oi:Oper} {fuel:Nat} {listed:Array Bool} {a a':Act} {w:World} (h:wpAnyH P md ops Q S fuel (listed.setIfInBounds i true) a' w) (hi:ops[i]?=some oi:=by((simp only[List.getElem?_toArray,List.getElem?_cons_succ,List.getElem?_cons_zero]);rfl)) (hs:Region.noSelect ops=true:=by kernel_rfl) (hf:Region.free md ops listed i=true:=by kernel_rfl) (hr:(Region.ready md ops listed).contains i=true:=by kernel_rfl) (hQ:∀ c a w,Q (.panic c) (a.put oi.dst undef) w→Q (.panic c) a w:=by first | exact fun _ _ _ h=>h | exact fun _ _ _ h=>by cases h.1) (hy:Region.wanted oi (yielded ops a.tmps)=false:=by rfl) (hS:S w:=by assumption) (ha:a.put oi.dst undef=a':=by(try first | simp only[pS,List.set] | simp only[pN]);rfl):wpAnyH P md ops Q S (fuel+1) listed a w:=
 wpAnyH_take hi hs hf hr hQ (.inr ⟨hy,rfl⟩) hS (by rw[ha];exact h)
theorem dG {P:Program} {ops:Array Oper} {Q:Exit→Act→World→Prop} {md:Region.Mode} {S:World→Prop} (rs:List Nat) {fuel:Nat} {listed:Array Bool} {a:Act} {w:World} (h:AllReadyH P md ops Q S fuel listed a w rs) (hr:Region.ready md ops listed=rs:=by kernel_rfl) (eZ:rs≠[]:=by simp):wpAnyH P md ops Q S (fuel+1) listed a w:=wpAnyH_ready hr eZ h
theorem kH {P:Program} {ops:Array Oper} {Q:Exit→Act→World→Prop} {md:Region.Mode} {S:World→Prop} {fuel:Nat} {listed:Array Bool} {a a':Act} {w:World} {K:Act→World→Prop} (hK:Shut (∀ a w,S w→(S w→wpAnyH P md ops Q S fuel listed a w)→K a w)) (hS:S w) (h:S w→wpAnyH P md ops Q S fuel listed a' w) (ha:a=a':=by(try first | simp only[pS,List.set] | simp only[pN]);rfl):K a w:=hK.out _ _ hS (by rw[ha];exact h)
theorem aY {P:Program} {ops:Array Oper} {Q:Exit→Act→World→Prop} {md:Region.Mode} {S:World→Prop} {fuel:Nat} {listed:Array Bool} {a:Act} {w:World} (h:Q .normal a w) (hr:Region.ready md ops listed=[]:=by kernel_rfl):wpAnyH P md ops Q S fuel listed a w:=wpAnyH_done hr h _
theorem fg {P:Program} {id:Nat} {ops:Array Oper} {Q:Exit→Act→World→Prop} {S:World→Prop} {a:Act} {w:World} (hS:S w.drew) (h:∀ w',w.drew=w'→S w'→wpAnyH P .any ops Q S ops.size (Array.replicate ops.size false) a w') (hm:P.follows .mixedOrders=true:=by kernel_rfl):(Code.region id ops true).wp P Q a w:=wp_region_held_drew hm hS (h _ rfl)
theorem bv {P:Program} {ops:Array Oper} {Q:Exit→Act→World→Prop} {md:Region.Mode} {S:World→Prop} (i1 i2:Nat) {o1 o2:Oper} {fuel:Nat} {listed:Array Bool} {a0 a1 a2:Act} {w:World} {v1 v2:Value} (h:wpAnyH P md ops Q S fuel ((listed.setIfInBounds i1 true).setIfInBounds i2 true) a2 w) (h1:ops[i1]?=some o1:=by((simp only[List.getElem?_toArray,List.getElem?_cons_succ,List.getElem?_cons_zero]);rfl)) (hs:Region.noSelect ops=true:=by kernel_rfl) (f1:Region.free md ops listed i1=true:=by kernel_rfl) (r1:(Region.ready md ops listed).contains i1=true:=by kernel_rfl) (q1:∀ c a w,Q (.panic c) (a.put o1.dst v1) w→Q (.panic c) a w:=by first | exact fun _ _ _ h=>h | exact fun _ _ _ h=>by cases h.1) (y1:YieldsIf P ops S o1 v1 a0:=by(refine Or.inl ⟨rfl,?_⟩;(intro wq cw;(try dsimp only at cw);(try have cw:_∧_:=cw);go_simp);(try with_reducible rfl))) (hS:S w:=by assumption) (e1:a0.put o1.dst v1=a1:=by(try first | simp only[pS,List.set] | simp only[pN]);rfl) (h2:ops[i2]?=some o2:=by((simp only[List.getElem?_toArray,List.getElem?_cons_succ,List.getElem?_cons_zero]);rfl)) (f2:Region.free md ops (listed.setIfInBounds i1 true) i2=true:=by kernel_rfl) (r2:(Region.ready md ops (listed.setIfInBounds i1 true)).contains i2=true:=by kernel_rfl) (q2:∀ c a w,Q (.panic c) (a.put o2.dst v2) w→Q (.panic c) a w:=by first | exact fun _ _ _ h=>h | exact fun _ _ _ h=>by cases h.1) (y2:YieldsIf P ops S o2 v2 a1:=by(refine Or.inl ⟨rfl,?_⟩;(intro wq cw;(try dsimp only at cw);(try have cw:_∧_:=cw);go_simp);(try with_reducible rfl))) (e2:a1.put o2.dst v2=a2:=by(try first | simp only[pS,List.set] | simp only[pN]);rfl):wpAnyH P md ops Q S (fuel+1+1) listed a0 w:=
 aX i1 (aX i2 h h2 hs f2 r2 q2 y2 hS e2) h1 hs f1 r1 q1 y1 hS e1
theorem ai {P:Program} {ops:Array Oper} {Q:Exit→Act→World→Prop} {md:Region.Mode} {S:World→Prop} (i1 i2 i3 i4:Nat) {o1 o2 o3 o4:Oper} {fuel:Nat} {listed:Array Bool} {a0 a1 a2 a3 a4:Act} {w:World} {v1 v2 v3 v4:Value} (h:wpAnyH P md ops Q S fuel ((((listed.setIfInBounds i1 true).setIfInBounds i2 true).setIfInBounds i3 true).setIfInBounds i4 true) a4 w) (h1:ops[i1]?=some o1:=by((simp only[List.getElem?_toArray,List.getElem?_cons_succ,List.getElem?_cons_zero]);rfl)) (hs:Region.noSelect ops=true:=by kernel_rfl) (f1:Region.free md ops listed i1=true:=by kernel_rfl) (r1:(Region.ready md ops listed).contains i1=true:=by kernel_rfl) (q1:∀ c a w,Q (.panic c) (a.put o1.dst v1) w→Q (.panic c) a w:=by first | exact fun _ _ _ h=>h | exact fun _ _ _ h=>by cases h.1) (y1:YieldsIf P ops S o1 v1 a0:=by(refine Or.inl ⟨rfl,?_⟩;(intro wq cw;(try dsimp only at cw);(try have cw:_∧_:=cw);go_simp);(try with_reducible rfl))) (hS:S w:=by assumption) (e1:a0.put o1.dst v1=a1:=by(try first | simp only[pS,List.set] | simp only[pN]);rfl) (h2:ops[i2]?=some o2:=by((simp only[List.getElem?_toArray,List.getElem?_cons_succ,List.getElem?_cons_zero]);rfl)) (f2:Region.free md ops (listed.setIfInBounds i1 true) i2=true:=by kernel_rfl) (r2:(Region.ready md ops (listed.setIfInBounds i1 true)).contains i2=true:=by kernel_rfl) (q2:∀ c a w,Q (.panic c) (a.put o2.dst v2) w→Q (.panic c) a w:=by first | exact fun _ _ _ h=>h | exact fun _ _ _ h=>by cases h.1) (y2:YieldsIf P ops S o2 v2 a1:=by(refine Or.inl ⟨rfl,?_⟩;(intro wq cw;(try dsimp only at cw);(try have cw:_∧_:=cw);go_simp);(try with_reducible rfl))) (e2:a1.put o2.dst v2=a2:=by(try first | simp only[pS,List.set] | simp only[pN]);rfl) (h3:ops[i3]?=some o3:=by((simp only[List.getElem?_toArray,List.getElem?_cons_succ,List.getElem?_cons_zero]);rfl)) (f3:Region.free md ops ((listed.setIfInBounds i1 true).setIfInBounds i2 true) i3=true:=by kernel_rfl) (r3:(Region.ready md ops ((listed.setIfInBounds i1 true).setIfInBounds i2 true)).contains i3=true:=by kernel_rfl) (q3:∀ c a w,Q (.panic c) (a.put o3.dst v3) w→Q (.panic c) a w:=by first | exact fun _ _ _ h=>h | exact fun _ _ _ h=>by cases h.1) (y3:YieldsIf P ops S o3 v3 a2:=by(refine Or.inl ⟨rfl,?_⟩;(intro wq cw;(try dsimp only at cw);(try have cw:_∧_:=cw);go_simp);(try with_reducible rfl))) (e3:a2.put o3.dst v3=a3:=by(try first | simp only[pS,List.set] | simp only[pN]);rfl) (h4:ops[i4]?=some o4:=by((simp only[List.getElem?_toArray,List.getElem?_cons_succ,List.getElem?_cons_zero]);rfl)) (f4:Region.free md ops (((listed.setIfInBounds i1 true).setIfInBounds i2 true).setIfInBounds i3 true) i4=true:=by kernel_rfl) (r4:(Region.ready md ops (((listed.setIfInBounds i1 true).setIfInBounds i2 true).setIfInBounds i3 true)).contains i4=true:=by kernel_rfl) (q4:∀ c a w,Q (.panic c) (a.put o4.dst v4) w→Q (.panic c) a w:=by first | exact fun _ _ _ h=>h | exact fun _ _ _ h=>by cases h.1) (y4:YieldsIf P ops S o4 v4 a3:=by(refine Or.inl ⟨rfl,?_⟩;(intro wq cw;(try dsimp only at cw);(try have cw:_∧_:=cw);go_simp);(try with_reducible rfl))) (e4:a3.put o4.dst v4=a4:=by(try first | simp only[pS,List.set] | simp only[pN]);rfl):wpAnyH P md ops Q S (fuel+1+1+1+1) listed a0 w:=
 aX i1 (aX i2 (aX i3 (aX i4 h h4 hs f4 r4 q4 y4 hS e4) h3 hs f3 r3 q3 y3 hS e3) h2 hs f2 r2 q2 y2 hS e2) h1 hs f1 r1 q1 y1 hS e1
theorem tD {P:Program} {ops:Array Oper} {Q:Exit→Act→World→Prop} {md:Region.Mode} {S:World→Prop} (i1 i2:Nat) {o1 o2:Oper} {fuel:Nat} {listed:Array Bool} {a0 a1 a2:Act} {w:World} (h:wpAnyH P md ops Q S fuel ((listed.setIfInBounds i1 true).setIfInBounds i2 true) a2 w) (h1:ops[i1]?=some o1:=by((simp only[List.getElem?_toArray,List.getElem?_cons_succ,List.getElem?_cons_zero]);rfl)) (hs:Region.noSelect ops=true:=by kernel_rfl) (f1:Region.free md ops listed i1=true:=by kernel_rfl) (r1:(Region.ready md ops listed).contains i1=true:=by kernel_rfl) (q1:∀ c a w,Q (.panic c) (a.put o1.dst undef) w→Q (.panic c) a w:=by first | exact fun _ _ _ h=>h | exact fun _ _ _ h=>by cases h.1) (y1:Region.wanted o1 (yielded ops a0.tmps)=false:=by rfl) (hS:S w:=by assumption) (e1:a0.put o1.dst undef=a1:=by(try first | simp only[pS,List.set] | simp only[pN]);rfl) (h2:ops[i2]?=some o2:=by((simp only[List.getElem?_toArray,List.getElem?_cons_succ,List.getElem?_cons_zero]);rfl)) (f2:Region.free md ops (listed.setIfInBounds i1 true) i2=true:=by kernel_rfl) (r2:(Region.ready md ops (listed.setIfInBounds i1 true)).contains i2=true:=by kernel_rfl) (q2:∀ c a w,Q (.panic c) (a.put o2.dst undef) w→Q (.panic c) a w:=by first | exact fun _ _ _ h=>h | exact fun _ _ _ h=>by cases h.1) (y2:Region.wanted o2 (yielded ops a1.tmps)=false:=by rfl) (e2:a1.put o2.dst undef=a2:=by(try first | simp only[pS,List.set] | simp only[pN]);rfl):wpAnyH P md ops Q S (fuel+1+1) listed a0 w:=
 mQ i1 (mQ i2 h h2 hs f2 r2 q2 y2 hS e2) h1 hs f1 r1 q1 y1 hS e1
theorem jZ {P:Program} {ops:Array Oper} {Q:Exit→Act→World→Prop} {md:Region.Mode} {S:World→Prop} (i1 i2 i3 i4:Nat) {o1 o2 o3 o4:Oper} {fuel:Nat} {listed:Array Bool} {a0 a1 a2 a3 a4:Act} {w:World} (h:wpAnyH P md ops Q S fuel ((((listed.setIfInBounds i1 true).setIfInBounds i2 true).setIfInBounds i3 true).setIfInBounds i4 true) a4 w) (h1:ops[i1]?=some o1:=by((simp only[List.getElem?_toArray,List.getElem?_cons_succ,List.getElem?_cons_zero]);rfl)) (hs:Region.noSelect ops=true:=by kernel_rfl) (f1:Region.free md ops listed i1=true:=by kernel_rfl) (r1:(Region.ready md ops listed).contains i1=true:=by kernel_rfl) (q1:∀ c a w,Q (.panic c) (a.put o1.dst undef) w→Q (.panic c) a w:=by first | exact fun _ _ _ h=>h | exact fun _ _ _ h=>by cases h.1) (y1:Region.wanted o1 (yielded ops a0.tmps)=false:=by rfl) (hS:S w:=by assumption) (e1:a0.put o1.dst undef=a1:=by(try first | simp only[pS,List.set] | simp only[pN]);rfl) (h2:ops[i2]?=some o2:=by((simp only[List.getElem?_toArray,List.getElem?_cons_succ,List.getElem?_cons_zero]);rfl)) (f2:Region.free md ops (listed.setIfInBounds i1 true) i2=true:=by kernel_rfl) (r2:(Region.ready md ops (listed.setIfInBounds i1 true)).contains i2=true:=by kernel_rfl) (q2:∀ c a w,Q (.panic c) (a.put o2.dst undef) w→Q (.panic c) a w:=by first | exact fun _ _ _ h=>h | exact fun _ _ _ h=>by cases h.1) (y2:Region.wanted o2 (yielded ops a1.tmps)=false:=by rfl) (e2:a1.put o2.dst undef=a2:=by(try first | simp only[pS,List.set] | simp only[pN]);rfl) (h3:ops[i3]?=some o3:=by((simp only[List.getElem?_toArray,List.getElem?_cons_succ,List.getElem?_cons_zero]);rfl)) (f3:Region.free md ops ((listed.setIfInBounds i1 true).setIfInBounds i2 true) i3=true:=by kernel_rfl) (r3:(Region.ready md ops ((listed.setIfInBounds i1 true).setIfInBounds i2 true)).contains i3=true:=by kernel_rfl) (q3:∀ c a w,Q (.panic c) (a.put o3.dst undef) w→Q (.panic c) a w:=by first | exact fun _ _ _ h=>h | exact fun _ _ _ h=>by cases h.1) (y3:Region.wanted o3 (yielded ops a2.tmps)=false:=by rfl) (e3:a2.put o3.dst undef=a3:=by(try first | simp only[pS,List.set] | simp only[pN]);rfl) (h4:ops[i4]?=some o4:=by((simp only[List.getElem?_toArray,List.getElem?_cons_succ,List.getElem?_cons_zero]);rfl)) (f4:Region.free md ops (((listed.setIfInBounds i1 true).setIfInBounds i2 true).setIfInBounds i3 true) i4=true:=by kernel_rfl) (r4:(Region.ready md ops (((listed.setIfInBounds i1 true).setIfInBounds i2 true).setIfInBounds i3 true)).contains i4=true:=by kernel_rfl) (q4:∀ c a w,Q (.panic c) (a.put o4.dst undef) w→Q (.panic c) a w:=by first | exact fun _ _ _ h=>h | exact fun _ _ _ h=>by cases h.1) (y4:Region.wanted o4 (yielded ops a3.tmps)=false:=by rfl) (e4:a3.put o4.dst undef=a4:=by(try first | simp only[pS,List.set] | simp only[pN]);rfl):wpAnyH P md ops Q S (fuel+1+1+1+1) listed a0 w:=
 mQ i1 (mQ i2 (mQ i3 (mQ i4 h h4 hs f4 r4 q4 y4 hS e4) h3 hs f3 r3 q3 y3 hS e3) h2 hs f2 r2 q2 y2 hS e2) h1 hs f1 r1 q1 y1 hS e1
attribute [local go_sem] Oper.semAt_some
theorem dX {P:Program} {w:World} {ops:Array Oper} {o:Oper} {a:Act} {K:Act→World→Prop} {Q:Exit→Act→World→Prop} {E:Prop} (mg:o.guard=none) (ty:TypeId) (x y:Operand) (ho:o.op=.store ty x y)
  (g:Nat) (cells:Array Value) (hx:a.eval x=.pointer (some ⟨g,0,none⟩)) (hy:a.eval y=.agg cells)
  (t:TypeId) (old:Array Value) (hg:w.heap[g]?=some (.cells old t (0,0))) (hi:(P.info? ty).map (·.size)=some cells.size)
  (m8:old.size=cells.size) (h1:cells.all (·.oneCell')=true)
  (h:K (a.put o.dst undef) (w.setRow g cells)):if Region.wanted o (yielded ops a.tmps)=true then Oper.wp P o a w K Q else E:=by
 have hw:Region.wanted o (yielded ops a.tmps)=true:=by simp[Region.wanted,mg]
 rw[if_pos hw];exact wp_store_row ty x y ho g cells hx hy t old hg hi m8 h1 h
theorem bc {N:Nat} {W W':World} (h:Below N W W') (g:Nat) (cs:Array Value) (hg:N≤g):Below N W (W'.setRow g cs):=
 ⟨h.1,h.2,h.3,by rw[setRow_size];exact h.size,fun i hi=>(setRow_other _ _ _ _ (by omega)).trans (h.block i hi)⟩
def RowB (w:World) (n:Nat) (arr:Array Value) (t:TypeId):Prop:=w.heap[n]?=some (.cells arr t (0,0))
theorem RowB.lt {w:World} {n:Nat} {arr:Array Value} {t:TypeId} (h:RowB w n arr t):n<w.heap.size:=(Array.getElem?_eq_some_iff.1 h).1
theorem RowB.new (w:World) (arr:Array Value) (t:TypeId):RowB (w.alloc (.cells arr t)) w.heap.size arr t:=heap_alloc_new w _
theorem RowB.kept {w w':World} {n:Nat} {arr:Array Value} {t:TypeId} (h:RowB w n arr t) (hb:Below w.heap.size w w'):RowB w' n arr t:=(hb.block n h.lt).trans h
theorem RowB.below {w w':World} {n N:Nat} {arr:Array Value} {t:TypeId} (h:RowB w n arr t) (hb:Below N w w') (hn:n<N):RowB w' n arr t:=(hb.block n hn).trans h
theorem RowB.row {w:World} {n:Nat} {arr cells:Array Value} {t:TypeId} (h:RowB w n arr t):RowB (w.setRow n cells) n cells t:=setRow_heap w n arr cells t _ h
theorem RowB.far {w:World} {n g:Nat} {arr cells:Array Value} {t:TypeId} (h:RowB w n arr t) (hn:n≠g):RowB (w.setRow g cells) n arr t:=(setRow_other _ _ _ _ hn).trans h
theorem RowB.cell {w:World} {n:Nat} {arr:Array Value} {t:TypeId} (h:RowB w n arr t) (j:Nat):w.cell? ⟨n,j,none⟩=arr[j]?:=by simp[World.cell?,show w.heap[n]?=_ from h]
theorem RowB.frozen {w:World} {n:Nat} {arr:Array Value} {t:TypeId} (h:RowB w n arr t) (j:Nat):w.frozen? ⟨n,j,none⟩=false:=by simp[World.frozen?,show w.heap[n]?=_ from h]
theorem RowB.set {w:World} {n:Nat} {arr:Array Value} {t:TypeId} (h:RowB w n arr t) (j:Nat) (v:Value):RowB (w.setCell ⟨n,j,none⟩ v) n (arr.setIfInBounds j v) t:=by
 unfold RowB;rw[setCell_eq_setRow w n j _ _ _ _ h];exact setRow_heap _ n _ _ _ _ h
theorem ie (W:World) (b j:Nat) (v:Value) (n:Nat) (h:n≠b):(W.setCell ⟨b,j,none⟩ v).heap[n]?=W.heap[n]?:=by
 show(W.heap.modify b _)[n]?=_;rw[Array.getElem?_modify,if_neg (fun e=>h e.symm)]
theorem tC (W:World) (b j:Nat) (v:Value):(W.setCell ⟨b,j,none⟩ v).heap.size=W.heap.size:=by
 show(W.heap.modify b _).size=_;rw[Array.size_modify]
theorem RowB.other {w:World} {n:Nat} {arr:Array Value} {t:TypeId} (h:RowB w n arr t) (b j:Nat) (v:Value) (hn:n≠b):RowB (w.setCell ⟨b,j,none⟩ v) n arr t:=(ie w b j v n hn).trans h
theorem eG {N:Nat} {W W':World} (h:Below N W W') (B j:Nat) (hB:N≤B) (v:Value):Below N W (W'.setCell ⟨B,j,none⟩ v):=h.setCell (p:=⟨B,j,none⟩) hB v
theorem RowB.at {w:World} {n:Nat} {arr:Array Value} {t:TypeId} (h:RowB w n arr t) (j:Nat) (v:Value) (e:arr[j]?=some v:=by rfl):w.cell? ⟨n,j,none⟩=some v:=(h.cell j).trans e
theorem RowB.c {w:World} {n:Nat} {arr:Array Value} {t:TypeId} {j:Nat} {v:Value} (h:RowB w n arr t) (e:arr[j]?=some v):w.cell? ⟨n,j,none⟩=some v:=(h.cell j).trans e
def Ws (w:World) (B:Nat) (A:Option Addr) (l:List Int):Prop:=SlOf (bn .u32) w B A l∧∀ z ∈ l,(Lit.int .u32 z).wf=true
theorem Ws.below {w w':World} {B B':Nat} {A:Option Addr} {l:List Int} (h:Ws w B A l) (hb:Below B w w') (hB:B≤B'):Ws w' B' A l:=⟨h.1.below hb hB,h.2⟩
theorem Ws.get {w:World} {B:Nat} {A:Option Addr} {l:List Int} (h:Ws w B A l) {k:Nat} {z:Int} (hk:l[k]?=some z):((Lit.int .u32 z).wf=true∧0≤z∧z<4294967296)∧∃ b off,A=some ⟨b,off,none⟩∧b<B∧
  w.cell? ⟨b,off+k,none⟩=some (.int .u32 z):=by
 obtain⟨b,off,hA,aJ,hc⟩:=h.1 k z hk;have hw:=h.2 z (List.mem_of_getElem? hk);have:=hc 0 _ rfl;refine⟨⟨hw,?_⟩,b,off,hA,aJ,by simpa [bn,Enc.of1] using this⟩;simp[Lit.wf,IntKind.min,IntKind.max,IntKind.signed,IntKind.bits] at hw;omega
theorem u32Ty:ElemTy Tryz.prog 23 22 1 4:=ElemTy.of (z:=.int .u32 0) Tryz.underlying23 (by kernel_rfl) rfl (by omega)
def OwnW (base:Nat) (w:World) (v:Value) (l:List Int):Prop:=Own (bn .u32) 22 base w v l∧∀ z ∈ l,(Lit.int .u32 z).wf=true
theorem OwnW.ws {base:Nat} {w:World} {v:Value} {l:List Int} (h:OwnW base w v l):∃ A c,v=.slice A l.length c∧(l.length≤c∧c≤maxLen)∧Ws w w.heap.size A l:=by
 obtain⟨A,c,h1,h2,_,h3⟩:=h.1.sl;exact⟨A,c,h1,⟨h2.1,h2.2⟩,h3,h.2⟩
theorem OwnW.below {base B:Nat} {w w':World} {v:Value} {l:List Int} (h:OwnW base w v l) (hb:Below B w w') (hB:w.heap.size≤B):OwnW base w' v l:=⟨h.1.below hb hB,h.2⟩
set_option maxHeartbeats 1000000
set_option maxRecDepth 100000
structure Tch (T:Nat→Prop) (w w':World):Prop where
 os:w'.os=w.os
 tape:w'.tape=w.tape
 output:w'.output=w.output
 size:w.heap.size≤w'.heap.size
 block:∀ k,k<w.heap.size→¬ T k→w'.heap[k]?=w.heap[k]?
section
variable {T T':Nat→Prop} {a w w':World}
theorem Tch.refl (T:Nat→Prop) (w:World):Tch T w w:=⟨rfl,rfl,rfl,Nat.le_refl _,fun _ _ _=>rfl⟩
theorem Tch.trans (h:Tch T a w) (k:Tch T w w'):Tch T a w':=⟨k.os.trans h.os,k.tape.trans h.tape,k.output.trans h.output,Nat.le_trans h.size k.size,fun i hi hn=>(k.block i (Nat.lt_of_lt_of_le hi h.size) hn).trans (h.block i hi hn)⟩
theorem Tch.mono (h:Tch T a w) (hT:∀ k,k<a.heap.size→T k→T' k):Tch T' a w:=⟨h.os,h.tape,h.output,h.size,fun i hi hn=>h.block i hi fun ht=>hn (hT i hi ht)⟩
theorem Tch.new (h:Tch T a w) (k:Tch T' w w') (hT:∀ k,k<a.heap.size→T' k→T k):Tch T a w':=⟨k.os.trans h.os,k.tape.trans h.tape,k.output.trans h.output,Nat.le_trans h.size k.size,fun i hi hn=>(k.block i (Nat.lt_of_lt_of_le hi h.size) fun ht=>hn (hT i hi ht)).trans (h.block i hi hn)⟩
theorem Tch.of_below (T:Nat→Prop) (h:Below w.heap.size w w'):Tch T w w':=⟨h.os,h.tape,h.output,h.size,fun k hk _=>h.block k hk⟩
theorem Tch.below (h:Tch T w w') {N:Nat} (hN:N≤w.heap.size) (hT:∀ k,k<w.heap.size→T k→N≤k):Below N w w':=⟨h.os,h.tape,h.output,h.size,fun k hk=>h.block k (Nat.lt_of_lt_of_le hk hN) fun ht=>absurd (hT k (Nat.lt_of_lt_of_le hk hN) ht) (by omega)⟩
theorem Tch.drew (h:Tch T a w):Tch T a w.drew:=⟨h.os,h.tape,h.output,h.size,h.block⟩
theorem Tch.drewN (h:Tch T a w) (n:Nat):Tch T a (w.drewN n):=⟨h.os,h.tape,h.output,h.size,h.block⟩
theorem Tch.alloc (h:Tch T a w) (o:Obj):Tch T a (w.alloc o):=h.trans (Tch.of_below T ((Below.refl _ w).alloc (Nat.le_refl _) o))
theorem Tch.set (h:Tch T a w) {b:Nat} (hb:T b) (j:Nat) (v:Value):Tch T a (w.setCell ⟨b,j,none⟩ v):=⟨h.os,h.tape,h.output,by rw[tC];exact h.size,fun k hk hn=>(ie w b j v k fun e=>hn (by rw[e];exact hb)).trans (h.block k hk hn)⟩
theorem Tch.row (h:Tch T a w) {b:Nat} (hb:T b) (cs:Array Value):Tch T a (w.setRow b cs):=⟨h.os,h.tape,h.output,by rw[setRow_size];exact h.size,fun k hk hn=>(setRow_other _ _ _ _ (fun e=>hn (by rw[e];exact hb))).trans (h.block k hk hn)⟩
theorem RowB.tch {n:Nat} {arr:Array Value} {t:TypeId} (h:RowB w n arr t) (hk:Tch T w w') (hn:¬ T n):RowB w' n arr t:=(hk.block n h.lt hn).trans h
theorem Tch.cell (hk:Tch T w w') {b o:Nat} {v:Value} (h:w.cell? ⟨b,o,none⟩=some v) (hn:¬ T b):w'.cell? ⟨b,o,none⟩=some v:=by
 have hl:=aM h;unfold World.cell? at *;rw[hk.block b hl hn];exact h
theorem bl {α:Type} {E:Enc α} {t:TypeId} {base:Nat} {v:Value} {l:List α} (h:Own E t base w v l) (hk:Tch T w w') (hn:∀ b,v.ownBlock=some b→¬ T b):Own E t base w' v l:=by
 refine⟨h.1,?_⟩
 rcases h.2 with h2 | ⟨g,cap,cur,hv,hg,hh,r⟩
 ·exact .inl h2
 ·exact .inr ⟨g,cap,cur,hv,hg,(hk.block g (Array.getElem?_eq_some_iff.1 hh).1 (hn g (by rw[hv];rfl))).trans hh,r⟩
theorem l9 {row:Option Nat} (hg:w.grownBy w' row) (hT:∀ k,row=some k→T k):Tch T w w':=⟨hg.os,hg.tape,hg.output,hg.size,fun k hk hn=>hg.block k hk (fun e=>hn (hT k e.symm))⟩
end
theorem EI {q:IntKind} {t:TypeId} {base g n c:Nat} {w:World} {l:List Int} (h:Own (bn q) t base w (.slice (some ⟨g,0,none⟩) n c) l) {i:Nat} (_hi:i<l.length) (z:Int):Own (bn q) t base (w.setCell ⟨g,i,none⟩ (.int q z)) (.slice (some ⟨g,0,none⟩) n c) (l.set i z):=by
 have eS:∀ l:List Int,(bn q).all l=l.map (Value.int q):=fun l=>iI _ _ l
 have h1:=h.1;unfold Own at *;rw[eS] at h1 ⊢;rw[eS] at h;refine⟨by simp[bn,Enc.of1],?_⟩
 rcases h.2 with ⟨h2,_⟩ | ⟨g',cap,cur,hv,hg,hh,ic,sE,bY,JH⟩
 ·cases h2
 ·injection hv with hA hn hc
  injection hA with hA
  injection hA with hA
  subst hA hn hc;refine .inr ⟨g,c,cur.setIfInBounds i (.int q z),by simp,hg,RowB.set (w:=w) (n:=g) (arr:=cur) (t:=t) hh i _,by simpa using ic,sE,by simpa using bY,?_⟩;have bN:(bn q).size=1:=rfl;rw[bN,Nat.mul_one] at JH;have fJ:=JH;rw[bN,Nat.mul_one,List.length_set,Array.toList_setIfInBounds,List.take_set,fJ,List.map_set]
def W32 (l:List Int):Prop:=∀ z ∈ l,0≤z∧z<4294967296
theorem W32.set {l:List Int} (h:W32 l) (i:Nat) {z:Int} (hz:0≤z∧z<4294967296):W32 (l.set i z):=fun x hx=>by
 rcases List.mem_or_eq_of_mem_set hx with q | q
 ·exact h x q
 ·rw[q];exact hz
theorem W32.get {l:List Int} (h:W32 l) {i:Nat} {z:Int} (hz:l[i]?=some z):0≤z∧z<4294967296:=h z (List.mem_of_getElem? hz)
theorem W32.wf {l:List Int} (h:W32 l):∀ z ∈ l,(Lit.int .u32 z).wf=true:=fun z hz=>by
 have:=h z hz;simp[Lit.wf,IntKind.min,IntKind.max,IntKind.signed,IntKind.bits];omega
def MemG (w:World) (mb lb:Nat) (l:List Int):Prop:=∃ (k:Int) (c:Nat),RowB w mb #[.slice (some ⟨lb,0,none⟩) l.length c,.int .i64 k] 126∧Own (bn .u32) 22 0 w (.slice (some ⟨lb,0,none⟩) l.length c) l∧lb≠mb∧l.length≤1000000∧W32 l
theorem MemG.w32 {w:World} {mb lb:Nat} {l:List Int} (h:MemG w mb lb l):W32 l:=by
 obtain⟨_,_,_,_,_,_,h⟩:=h;exact h
theorem MemG.len {w:World} {mb lb:Nat} {l:List Int} (h:MemG w mb lb l):l.length≤1000000:=by
 obtain⟨_,_,_,_,_,h,_⟩:=h;exact h
theorem MemG.tch {T:Nat→Prop} {w w':World} {mb lb:Nat} {l:List Int} (h:MemG w mb lb l) (hk:Tch T w w') (h1:¬ T mb) (h2:¬ T lb):MemG w' mb lb l:=by
 obtain⟨k,c,hr,ho,hn,hl,hz⟩:=h;exact⟨k,c,hr.tch hk h1,bl ho hk (fun b hb=>by have:lb=b:=Option.some.inj hb;rw[← this];exact h2),hn,hl,hz⟩
theorem Bb {q:IntKind} {t:TypeId} {base g n c:Nat} {w:World} {l:List Int} (h:Own (bn q) t base w (.slice (some ⟨g,0,none⟩) n c) l) {i:Nat} {z:Int} (hz:l[i]?=some z):w.cell? ⟨g,i,none⟩=some (.int q z):=by
 obtain⟨A,c',hv,_,_,aj⟩:=h.sl
 injection hv with hA _ _
 obtain⟨b,off,dZ,_,hc⟩:=aj i z hz;have:=hc 0 _ rfl;rw[← hA] at dZ
 injection dZ with dZ
 injection dZ with h1 h2
 subst h1 h2
 simpa [bn,Enc.of1] using this
theorem nw {α:Type} {E:Enc α} {t:TypeId} {base g n c:Nat} {w:World} {l:List α} (h:Own E t base w (.slice (some ⟨g,0,none⟩) n c) l):∃ cur,RowB w g cur t:=by
 rcases h.2 with ⟨h2,_⟩ | ⟨g',cap,cur,hv,hg,hh,_⟩
 ·cases h2
 ·injection hv with hA _ _
  injection hA with hA
  injection hA with hA
  subst hA;exact⟨cur,hh⟩
theorem eK {α:Type} {E:Enc α} {t:TypeId} {base g n c:Nat} {w:World} {l:List α} (h:Own E t base w (.slice (some ⟨g,0,none⟩) n c) l) (i:Nat):w.frozen? ⟨g,i,none⟩=false:=by
 obtain⟨cur,hr⟩:=nw h;exact hr.frozen i
theorem I7 (mb n c:Nat) (A:Nat) (k:Int) (at':Int) (w:World) (hm:RowB w mb #[.slice (some ⟨A,0,none⟩) n c,.int .i64 k] 126) (_hl:n≤1000000) (h0:0≤at') (h1:at'<n):
  Calls Tryz.prog 267 #[.pointer (some ⟨mb,0,none⟩),.int .i64 at'] w fun e w'=>e=.returned (.tuple #[.pointer (some ⟨A,at'.toNat,none⟩),.int .i64 0])∧w'=w.setCell ⟨mb,1,none⟩ (.int .i64 (IntKind.i64.wrap (k+1))):=by
 have c0:=(hm.cell 0).trans rfl;have c1:=(hm.cell 1).trans rfl;have cf:=hm.frozen 1;have d0:decide (at'<0)=false:=decide_eq_false (by omega);have d1:decide ((n:Int)≤at')=false:=decide_eq_false (by omega);clear hm;obtain⟨k',um⟩:∃ x,IntKind.i64.wrap (k+1)=x:=⟨_,rfl⟩;rw[um];go_enter Tryz.func267,Tryz.ntmps267;go_wp2_with fail;go_ret2;exact⟨rfl,rfl⟩
structure Ob where
 k:Int
 wd:Int
 s:Int
 c:Int
 st:Int
 I:Option Addr
 ni:Nat
 ci:Nat
 wr:Int
 R:Option Addr
 nr:Nat
 cr:Nat
def af (o:Ob):Array Value:=#[.int .i64 o.k,.int .i64 o.wd,.int .i64 o.s,.int .i64 o.c,.int .u32 o.st,.slice o.I o.ni o.ci,.int .i64 o.wr,.slice o.R o.nr o.cr]
def ObX (w:World) (n:Nat) (o:Ob):Prop:=w.heap[n]?=some (.cells (af o) 26 (0,0))
theorem ObX.cells {w:World} {n:Nat} {o:Ob} (h:ObX w n o):w.cell? ⟨n,0,none⟩=some (.int .i64 o.k)∧w.cell? ⟨n,1,none⟩=some (.int .i64 o.wd)∧w.cell? ⟨n,2,none⟩=some (.int .i64 o.s)∧w.cell? ⟨n,3,none⟩=some (.int .i64 o.c)∧w.cell? ⟨n,4,none⟩=some (.int .u32 o.st)∧w.cell? ⟨n,5,none⟩=some (.slice o.I o.ni o.ci)∧w.cell? ⟨n,6,none⟩=some (.int .i64 o.wr)∧w.cell? ⟨n,7,none⟩=some (.slice o.R o.nr o.cr):=by
 refine⟨?_,?_,?_,?_,?_,?_,?_,?_⟩ <;> simp[World.cell?,show w.heap[n]?=_ from h,af]
theorem ObX.lt {w:World} {n:Nat} {o:Ob} (h:ObX w n o):n<w.heap.size:=(Array.getElem?_eq_some_iff.1 h).1
theorem ObX.kept {w w':World} {n:Nat} {o:Ob} (h:ObX w n o) (hb:Below w.heap.size w w'):ObX w' n o:=(hb.block n h.lt).trans h
theorem ObX.new (w:World) (o:Ob):ObX (w.alloc (.cells (af o) 26)) w.heap.size o:=heap_alloc_new w _
structure Ob.Ok (o:Ob):Prop where
 st0:0≤o.st
 st1:o.st<4294967296
 ni1:o.ni≤1000000
 nr1:o.nr≤1000000
def ax (o:Ob) (kind init:Int):Prop:=o.k=kind∧1≤o.wd∧o.wd≤8∧(o.ni:Int)=init∧1≤o.nr∧o.nr≤4
def dB (o:Ob):Prop:=1≤o.c∧o.c≤16
def cG (o:Ob):Prop:=ax o 1 o.wd∧o.s=0∧o.c=0∧o.st=0∧o.nr=1
def cF (o:Ob):Prop:=ax o 2 o.wd∧o.s=0∧o.c=0∧o.st=0
def ee (o:Ob):Prop:=ax o 3 o.wd∧o.s=0∧dB o∧o.st%2=0
def ce (o:Ob):Prop:=ax o 4 o.wd∧2≤o.s∧o.s≤16∧dB o∧o.st<o.s*1048576
def eh (o:Ob):Prop:=ax o 5 o.wd∧(o.nr:Int)+2≤o.s∧o.s≤16∧dB o∧o.st=0
def bL (o:Ob):Prop:=ax o 6 0∧1≤o.s∧o.s≤16∧o.c=0∧o.st<2*o.s∧o.nr=1
instance (o:Ob) (a b:Int):Decidable (ax o a b):=by unfold ax;infer_instance
instance (o:Ob):Decidable (dB o):=by unfold dB;infer_instance
instance (o:Ob):Decidable (cG o):=by unfold cG;infer_instance
instance (o:Ob):Decidable (cF o):=by unfold cF;infer_instance
instance (o:Ob):Decidable (ee o):=by unfold ee;infer_instance
instance (o:Ob):Decidable (ce o):=by unfold ce;infer_instance
instance (o:Ob):Decidable (eh o):=by unfold eh;infer_instance
instance (o:Ob):Decidable (bL o):=by unfold bL;infer_instance
def bD (o:Ob):Prop:=cG o∨cF o∨ee o∨ce o∨eh o∨bL o
instance (o:Ob):Decidable (bD o):=by unfold bD;infer_instance
def aB (o:Ob):Int:=
 if cG o then 4+4*o.wd else if cF o then 1+o.nr+((o.nr:Int)+2)*o.wd else if ee o then 1+o.wd else if ce o then 1+o.s*o.wd else if eh o then 1+o.nr+o.s*o.wd else if bL o then 2+o.s*o.wd else 0
def eH (o:Ob) (op:Int):Int:=
 if cG o then (if op=2 then o.wd+4 else if op=1 then o.wd+3 else 0)
 else if cF o then (if op=2 then o.wd+2*o.nr+2 else if op=1 then o.wd+4 else 0)
 else if ee o then (if op=2 then o.wd+3 else if op=1 then o.c*(o.wd+2) else 0)
 else if ce o then (if op=2 then o.wd+2 else if op=1 then o.c*(o.wd+2) else 0)
 else if eh o then (if op=2 then o.wd+o.nr+2 else if op=1 then 3*o.c+o.wd+1 else 0)
 else if bL o then (if op=3∨op=4 then o.wd+3 else 0) else 0
theorem cm {o:Ob}:(cG o→o.k=1)∧(cF o→o.k=2)∧(ee o→o.k=3)∧(ce o→o.k=4)∧(eh o→o.k=5)∧(bL o→o.k=6):=by
 unfold cG cF ee ce eh bL ax;exact⟨fun h=>h.1.1,fun h=>h.1.1,fun h=>h.1.1,fun h=>h.1.1,fun h=>h.1.1,fun h=>h.1.1⟩
theorem ag {x:Int} (h0:-9223372036854775808≤x) (h:x<9223372036854775808):IntKind.i64.wrap x=x:=by
 simp[IntKind.wrap,IntKind.signed,IntKind.bits];omega
theorem aK {x:Int} (h0:0≤x) (h:x<4294967296):IntKind.u32.wrap x=x:=by
 simp[IntKind.wrap,IntKind.signed,IntKind.bits];omega
structure Cl where
 p:Int
 o:Int
 q:Int
 r:List Int
 c:Int
 b:Int
 e:Int
 deriving DecidableEq
theorem bK (w:World) (o:Obj):Below w.heap.size w (w.alloc o):=(Below.refl w.heap.size w).alloc (Nat.le_refl _) o
theorem eC {N:Nat} {w W V:World} (h:Below N w W) (k:Below W.heap.size W V) (hN:N≤w.heap.size:=by omega):Below N w V:=h.trans (k.mono (Nat.le_trans hN h.size))
theorem RowB.c8 {w:World} {n:Nat} {a0 a1 a2 a3 a4 a5 a6 a7:Value} {t:TypeId} (h:RowB w n #[a0,a1,a2,a3,a4,a5,a6,a7] t):w.cell? ⟨n,0,none⟩=some a0∧w.cell? ⟨n,1,none⟩=some a1∧w.cell? ⟨n,2,none⟩=some a2∧w.cell? ⟨n,3,none⟩=some a3∧w.cell? ⟨n,4,none⟩=some a4∧w.cell? ⟨n,5,none⟩=some a5∧w.cell? ⟨n,6,none⟩=some a6∧w.cell? ⟨n,7,none⟩=some a7:=(by and_intros <;> exact h.c rfl)
theorem RowB.c10 {w:World} {n:Nat} {a0 a1 a2 a3 a4 a5 a6 a7 a8 a9:Value} {t:TypeId} (h:RowB w n #[a0,a1,a2,a3,a4,a5,a6,a7,a8,a9] t):w.cell? ⟨n,0,none⟩=some a0∧w.cell? ⟨n,1,none⟩=some a1∧w.cell? ⟨n,2,none⟩=some a2∧w.cell? ⟨n,3,none⟩=some a3∧w.cell? ⟨n,4,none⟩=some a4∧w.cell? ⟨n,5,none⟩=some a5∧w.cell? ⟨n,6,none⟩=some a6∧w.cell? ⟨n,7,none⟩=some a7∧w.cell? ⟨n,8,none⟩=some a8∧w.cell? ⟨n,9,none⟩=some a9:=(by and_intros <;> exact h.c rfl)
end Go.Proofs.YtabfcjohdgjkoaaGreatDoor
