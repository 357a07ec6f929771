/- The statement ObjectSteps: neither steps; the start. -/
import Derived.Test.YtolmpehgeinlkaaGreatDoorZcA
import Derived.Deep.QuietTactic
import Derived.BigQuiet
import Derived.Test.YtolmpehgeinlkaaGreatDoorZcOgT
import Derived.Test.YtolmpehgeinlkaaGreatDoorZcOrL
import Derived.Test.YtolmpehgeinlkaaGreatDoorZcOrP
import Derived.Test.YtolmpehgeinlkaaGreatDoorZcOrS
namespace Go.Proofs.YtolmpehgeinlkaaGreatDoor
open Go.RowKit
end Go.Proofs.YtolmpehgeinlkaaGreatDoor

namespace Go.Proofs.YtolmpehgeinlkaaGreatDoor
open Go.RowKit
attribute [local go_sem] Oper.semAt_some
end Go.Proofs.YtolmpehgeinlkaaGreatDoor

namespace Go.Proofs.YtolmpehgeinlkaaGreatDoor
open Go.RowKit
def Far (v:Value) (b:Nat):Prop:=v.ownBlock≠some b
section
variable {W:World} {c:Cs} {xb yb mb lb l2 cap sb:Nat} {ty:TypeId} {cx d:Kc} {rv mp ry:Value} {lm:List Int} {wr w1 w2:World}
def Tw (sb mb lb yb l2:Nat) (rv ry:Value) (b:Nat):Prop:=fp sb mb lb rv b∨fp yb l2 l2 ry b
end
end Go.Proofs.YtolmpehgeinlkaaGreatDoor

namespace Go.Proofs.YtolmpehgeinlkaaGreatDoor
open Go.RowKit
section
variable (yb lb cap:Nat) (o:Ob) (c d:Kc) (rv:Value) (l:List Int)
end
theorem fit_of {c:Kc} (h:Kc.Sta c):Kc.Fit c:=⟨h.kd,h.nr1,h.nr4,fun q=>by
  rcases q with q | q | q
  ·have:=h.sl4 q;omega
  ·have:=h.sl5 q;have:=h.nr1;omega
  ·have:=h.sl6 q;omega,fun q=>⟨h.sl5 q,h.sl16⟩⟩
section
variable {W:World} {c:Cs} {xb yb mb lb l2 cap sb:Nat} {ty:TypeId} {cx d:Kc} {rv mp ry:Value} {lm:List Int} {wr:World}
end
end Go.Proofs.YtolmpehgeinlkaaGreatDoor
