/- The statement ObjectSteps: neither steps; the start. -/
import Derived.Test.YtolmpehgeinlkaaGreatDoorZcOrL
import Derived.Test.YtolmpehgeinlkaaGreatDoorZcOrS
import Derived.Test.YtolmpehgeinlkaaGreatDoorZcOgT
namespace Go.Proofs.YtolmpehgeinlkaaGreatDoor
open Go.RowKit
attribute [local go_sem] Oper.semAt_some
section
variable (sb:Nat) (ty:TypeId) (o:Ob) (c:Kc) (rv mp:Value)
end
def ClK (k j:Int) (t:TypeId) (o:Ob) (c:Kc) (mp:Value) (W w:World) (q:Option Addr):Prop:=(k=j→∃ x,q=some ⟨x,0,none⟩∧W.heap.size≤x∧∃ rv,OpS w x t o c rv mp∧∀ b,rv.ownBlock=some b→W.heap.size≤b)∧(k≠j→q=none)
def Acc (k:Int) (o:Ob) (c:Kc) (mp:Value) (W w:World) (L:List (Int × TypeId × Option Addr)):Prop:=Below W.heap.size W w∧∀ x ∈ L,ClK k x.1 x.2.1 o c mp W w x.2.2
section
variable {k:Int} {o:Ob} {c:Kc} {mp:Value} {W w w':World} {L:List (Int × TypeId × Option Addr)}
theorem ClK.mono {j:Int} {t:TypeId} {q:Option Addr} (h:ClK k j t o c mp W w q) (hb:Below w.heap.size w w'):ClK k j t o c mp W w' q:=
 ⟨fun e=>let ⟨x,h1,h2,rv,h3,h4⟩:=h.1 e;⟨x,h1,h2,rv,h3.tch (T:=fun _=>False) (Tch.of_below _ hb) (fun h=>h) (fun _ _ h=>h),h4⟩,h.2⟩
theorem Acc.below (h:Acc k o c mp W w L) (hb:Below w.heap.size w w'):Acc k o c mp W w' L:=⟨h.1.trans (hb.mono h.1.size),fun x hx=>(h.2 x hx).mono hb⟩
theorem Acc.step {j:Int} {t:TypeId} {q:Option Addr} (h:Acc k o c mp W w L) (hb:Below w.heap.size w w') (hc:ClK k j t o c mp w w' q):Acc k o c mp W w' ((j,t,q)::L):=by
 refine⟨h.1.trans (hb.mono h.1.size),fun x hx=>?_⟩
 rcases List.mem_cons.1 hx with rfl | hx
 ·exact⟨fun e=>let ⟨x,h1,h2,rv,h3,h4⟩:=hc.1 e;⟨x,h1,Nat.le_trans h.1.size h2,rv,h3,fun b hb=>Nat.le_trans h.1.size (h4 b hb)⟩,hc.2⟩
 ·exact(h.2 x hx).mono hb
end
section
variable (xb sb:Nat) (ty:TypeId) (o:Ob) (c:Kc) (rv mp:Value)
end
end Go.Proofs.YtolmpehgeinlkaaGreatDoor
namespace Go.Proofs.YtolmpehgeinlkaaGreatDoor
open Go.RowKit
attribute [local go_sem] Oper.semAt_some
def NT (v:Value) (b:Nat):Prop:=v.ownBlock≠some b
section
variable {W:World} {c:Cs} {xb yb mb lb l2 cap sb:Nat} {ty:TypeId} {cx d:Kc} {rv mp ry:Value} {lm:List Int} {wr w1 w2:World}
def Tw (sb mb lb yb l2:Nat) (rv ry:Value) (b:Nat):Prop:=fp sb mb lb rv b∨fp yb l2 l2 ry b
end
section
variable (yb lb cap:Nat) (o:Ob) (c d:Kc) (rv:Value) (l:List Int)
end
theorem sQ {c:Kc} (h:Kc.Sta c):Kc.Fit c:=⟨h.kd,h.nr1,h.nr4,fun q=>by
  rcases q with q | q | q
  ·have:=h.sl4 q;omega
  ·have:=h.sl5 q;have:=h.nr1;omega
  ·have:=h.sl6 q;omega,fun q=>⟨h.sl5 q,h.sl16⟩⟩
section
variable {W:World} {c:Cs} {xb yb mb lb l2 cap sb:Nat} {ty:TypeId} {cx d:Kc} {rv mp ry:Value} {lm:List Int} {wr:World}
end
end Go.Proofs.YtolmpehgeinlkaaGreatDoor
