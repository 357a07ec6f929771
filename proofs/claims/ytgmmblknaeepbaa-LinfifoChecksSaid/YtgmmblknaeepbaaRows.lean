/-
  No cell of these rows narrows 'for every input' (looked for: loops, veiled, ifaces, maps, wideKeys, modest, calm, conditions, laid).
  DERIVED. THE GIVEN ROWS OF THIS SEAT. 3 by the template 'for every input the law returns true; each argument reads behind the call as it read before'; 0 by the template 'total and deterministic' (their statements: YtgmmblknaeepbaaTotals.lean).
  GIVEN WITH THE SEED: the statements are not yours to turn. If you find one false, say at which input.
  Laid BY PROGRAM, IN A SANDBOX (cutbox-rows.mjs): the forced cells as the released guide's own fill.sh prints them over the translation d7605ed69cbbdd37… (all of the seat's roots in one cut). By AI agents, Wed Nov 11 2026. No macro, syntax, notation, axiom, sorry.
-/
import Derived.Test.YtgmmblknaeepbaaChecked
import GoSem.Claim
import GoSem.ClaimJoined
import GoSem.ClaimMapViews
import Derived.JoinedTies
import Derived.KernelRfl
namespace Go.Proofs.Ytgmmblknaeepbaa
/- THE CELL 'sum', in the pinned program and in every row, IS THE sha256 OF THE DUMP (.gsa) THAT YtgmmblknaeepbaaProg.lean LOADS. Nothing in Lean hashes anything: it is a label: what it is worth is what the hold of that sum in a sandbox is worth. -/
noncomputable def Try.pinned : Pinned := { name := "ytgmmblknaeepbaa", sum := "d7605ed69cbbdd37031828bca95f8573192228dabd996b90276bf44ff0d4f1d9", checked := Try.checked }
namespace Rows
def none {H : Type} : Left H := { results := [], args := [] }

/-- 'coxswainlaw23.LinfifoChecks': WHATEVER THE INPUT: true; the input reads as it did. -/
def linfifoChecksSpec : ChangeSpec := { name := "linfifoChecks", fn := fun _ => fun
  | [d1, d2] => { results := [.lit (.bool true)], args := [d1, d2] }
  | _ => none }
def linfifoChecksRow : OpenClaim := { program := "ytgmmblknaeepbaa", sum := "d7605ed69cbbdd37031828bca95f8573192228dabd996b90276bf44ff0d4f1d9", func := "coxswain/coxswainlaw23.LinfifoChecks", spec := "linfifoChecks", unfollowed := true, recurses := true, plainKeys := false, apart := false }
def LinfifoChecksSaid : Prop := linfifoChecksRow.holds Try.pinned (OpenSpec.ofChange linfifoChecksSpec)

/-- ITS FALSE NEIGHBOUR: 'it returns false'. Refute it at one input. -/
def linfifoChecksWrong : ChangeSpec := { name := "linfifoChecks", fn := fun _ => fun
  | [d1, d2] => { results := [.lit (.bool false)], args := [d1, d2] }
  | _ => none }
def LinfifoChecksWrongFalsely : Prop := linfifoChecksRow.holds Try.pinned (OpenSpec.ofChange linfifoChecksWrong)

/-- 'coxswainlaw23.LinfifoBounds': WHATEVER THE INPUT: true; the input reads as it did. -/
def linfifoBoundsSpec : ChangeSpec := { name := "linfifoBounds", fn := fun _ => fun
  | [d1, d2] => { results := [.lit (.bool true)], args := [d1, d2] }
  | _ => none }
def linfifoBoundsRow : OpenClaim := { program := "ytgmmblknaeepbaa", sum := "d7605ed69cbbdd37031828bca95f8573192228dabd996b90276bf44ff0d4f1d9", func := "coxswain/coxswainlaw23.LinfifoBounds", spec := "linfifoBounds", unfollowed := true, recurses := true, plainKeys := false, apart := false }
def LinfifoBoundsSaid : Prop := linfifoBoundsRow.holds Try.pinned (OpenSpec.ofChange linfifoBoundsSpec)

/-- ITS FALSE NEIGHBOUR: 'it returns false'. Refute it at one input. -/
def linfifoBoundsWrong : ChangeSpec := { name := "linfifoBounds", fn := fun _ => fun
  | [d1, d2] => { results := [.lit (.bool false)], args := [d1, d2] }
  | _ => none }
def LinfifoBoundsWrongFalsely : Prop := linfifoBoundsRow.holds Try.pinned (OpenSpec.ofChange linfifoBoundsWrong)

/-- 'coxswainlaw23.LinfifoFollows': WHATEVER THE INPUT: true; the input reads as it did. -/
def linfifoFollowsSpec : ChangeSpec := { name := "linfifoFollows", fn := fun _ => fun
  | [d1, d2] => { results := [.lit (.bool true)], args := [d1, d2] }
  | _ => none }
def linfifoFollowsRow : OpenClaim := { program := "ytgmmblknaeepbaa", sum := "d7605ed69cbbdd37031828bca95f8573192228dabd996b90276bf44ff0d4f1d9", func := "coxswain/coxswainlaw23.LinfifoFollows", spec := "linfifoFollows", unfollowed := true, recurses := true, plainKeys := false, apart := false }
def LinfifoFollowsSaid : Prop := linfifoFollowsRow.holds Try.pinned (OpenSpec.ofChange linfifoFollowsSpec)

/-- ITS FALSE NEIGHBOUR: 'it returns false'. Refute it at one input. -/
def linfifoFollowsWrong : ChangeSpec := { name := "linfifoFollows", fn := fun _ => fun
  | [d1, d2] => { results := [.lit (.bool false)], args := [d1, d2] }
  | _ => none }
def LinfifoFollowsWrongFalsely : Prop := linfifoFollowsRow.holds Try.pinned (OpenSpec.ofChange linfifoFollowsWrong)

/- THE SECOND FORM. 'bulk': how many values and letters a reading holds, each counted each time it is reached (what is shared counts as often as it is met; a slice's spare places count too). A statement '..UptoSaid' is the law's where the arguments, and the package variables that the reading takes, are together of bulk at most 1048576: NARROWER than '..Said'. Prove '..Said' where nothing that the law and all that it calls make is longer than what came in: it says more and counts as full. Else prove '..UptoSaid'. A law counts once. -/
mutual
def uptoBulk {H : Type} : DataW H → Nat
  | .lit (.string bytes) => bytes.length + 1
  | .lit _ => 1
  | .nil => 1
  | .ptr d => uptoBulk d + 1
  | .slice elems spare => uptoBulkAll elems + uptoBulkAll spare + 1
  | .agg parts => uptoBulkAll parts + 1
  | .iface _ d => uptoBulk d + 1
  | .map entries => uptoBulkEntries entries + 1
  | .held _ => 1
def uptoBulkAll {H : Type} : List (DataW H) → Nat
  | [] => 0
  | d :: r => uptoBulk d + uptoBulkAll r
def uptoBulkEntries {H : Type} : List (Lit × DataW H) → Nat
  | [] => 0
  | x :: r => uptoBulkEntry x + uptoBulkEntries r
def uptoBulkEntry {H : Type} : Lit × DataW H → Nat
  | (.string bytes, d) => bytes.length + uptoBulk d + 1
  | (_, d) => uptoBulk d + 1
 end
def uptoSmall : (H : Type) → List (DataW H) → Bool := fun _ ds => decide (uptoBulkAll ds ≤ 1048576)
def OpenSpec.upto (s : _root_.Go.ChangeSpec) : _root_.Go.OpenSpec := { _root_.Go.OpenSpec.ofChange s with cond := some uptoSmall }

/-- 'coxswainlaw23.LinfifoChecks', WHERE WHAT IT READS IS OF BULK AT MOST 1048576: true; the input reads as it did. -/
def linfifoChecksUptoRow : OpenClaim := { program := "ytgmmblknaeepbaa", sum := "d7605ed69cbbdd37031828bca95f8573192228dabd996b90276bf44ff0d4f1d9", func := "coxswain/coxswainlaw23.LinfifoChecks", spec := "linfifoChecks", unfollowed := true, recurses := true, plainKeys := false, apart := false, narrowed := true }
def LinfifoChecksUptoSaid : Prop := linfifoChecksUptoRow.holds Try.pinned (OpenSpec.upto linfifoChecksSpec)

/-- 'coxswainlaw23.LinfifoBounds', WHERE WHAT IT READS IS OF BULK AT MOST 1048576: true; the input reads as it did. -/
def linfifoBoundsUptoRow : OpenClaim := { program := "ytgmmblknaeepbaa", sum := "d7605ed69cbbdd37031828bca95f8573192228dabd996b90276bf44ff0d4f1d9", func := "coxswain/coxswainlaw23.LinfifoBounds", spec := "linfifoBounds", unfollowed := true, recurses := true, plainKeys := false, apart := false, narrowed := true }
def LinfifoBoundsUptoSaid : Prop := linfifoBoundsUptoRow.holds Try.pinned (OpenSpec.upto linfifoBoundsSpec)

/-- 'coxswainlaw23.LinfifoFollows', WHERE WHAT IT READS IS OF BULK AT MOST 1048576: true; the input reads as it did. -/
def linfifoFollowsUptoRow : OpenClaim := { program := "ytgmmblknaeepbaa", sum := "d7605ed69cbbdd37031828bca95f8573192228dabd996b90276bf44ff0d4f1d9", func := "coxswain/coxswainlaw23.LinfifoFollows", spec := "linfifoFollows", unfollowed := true, recurses := true, plainKeys := false, apart := false, narrowed := true }
def LinfifoFollowsUptoSaid : Prop := linfifoFollowsUptoRow.holds Try.pinned (OpenSpec.upto linfifoFollowsSpec)

end Rows
end Go.Proofs.Ytgmmblknaeepbaa
