/-
  No cell of these rows narrows 'for every input' (looked for: loops, veiled, ifaces, maps, wideKeys, modest, calm, conditions, laid).
  DERIVED. THE GIVEN ROWS OF THIS SEAT. 2 by the template 'for every input the law returns true; each argument reads behind the call as it read before'; 0 by the template 'total and deterministic' (their statements: YmwhayTotals.lean).
  GIVEN WITH THE SEED: the statements are not yours to turn. If you find one false, say at which input.
  Laid BY PROGRAM, IN A SANDBOX (cutbox-rows.mjs): the forced cells as the released guide's own fill.sh prints them over the translation 00e89eeff3845bf6… (all of the seat's roots in one cut). By AI agents, Wed Nov 11 2026. No macro, syntax, notation, axiom, sorry.
-/
import Derived.Test.YmwhayChecked
import GoSem.Claim
import GoSem.ClaimJoined
import GoSem.ClaimMapViews
import Derived.JoinedTies
import Derived.KernelRfl
namespace Go.Proofs.Ymwhay
/- THE CELL 'sum', in the pinned program and in every row, IS THE sha256 OF THE DUMP (.gsa) THAT YmwhayProg.lean LOADS. Nothing in Lean hashes anything: it is a label: what it is worth is what the hold of that sum in a sandbox is worth. -/
noncomputable def Yayv.pinned : Pinned := { name := "ymwhay", sum := "00e89eeff3845bf6455dff1ef531201f3a3c03565bc3251ab81cdb63a8f9e82e", checked := Yayv.checked }
namespace Rows
def none {H : Type} : Left H := { results := [], args := [] }

/-- 'expr.LawS930015QAAWhole': WHATEVER THE INPUT: true; the input reads as it did. -/
def lawS930015QAAWholeSpec : ChangeSpec := { name := "lawS930015QAAWhole", fn := fun _ => fun
  | [d1, d2] => { results := [.lit (.bool true)], args := [d1, d2] }
  | _ => none }
def lawS930015QAAWholeRow : OpenClaim := { program := "ymwhay", sum := "00e89eeff3845bf6455dff1ef531201f3a3c03565bc3251ab81cdb63a8f9e82e", func := "example.com/own/expr.LawS930015QAAWhole", spec := "lawS930015QAAWhole", apart := false }
def LawS930015QAAWholeSaid : Prop := lawS930015QAAWholeRow.holds Yayv.pinned (OpenSpec.ofChange lawS930015QAAWholeSpec)

/-- ITS FALSE NEIGHBOUR: 'it returns false'. Refute it at one input. -/
def lawS930015QAAWholeWrong : ChangeSpec := { name := "lawS930015QAAWhole", fn := fun _ => fun
  | [d1, d2] => { results := [.lit (.bool false)], args := [d1, d2] }
  | _ => none }
def LawS930015QAAWholeWrongFalsely : Prop := lawS930015QAAWholeRow.holds Yayv.pinned (OpenSpec.ofChange lawS930015QAAWholeWrong)

/-- 'expr.LawS930015QABWhole': WHATEVER THE INPUT: true; the input reads as it did. -/
def lawS930015QABWholeSpec : ChangeSpec := { name := "lawS930015QABWhole", fn := fun _ => fun
  | [d] => { results := [.lit (.bool true)], args := [d] }
  | _ => none }
def lawS930015QABWholeRow : OpenClaim := { program := "ymwhay", sum := "00e89eeff3845bf6455dff1ef531201f3a3c03565bc3251ab81cdb63a8f9e82e", func := "example.com/own/expr.LawS930015QABWhole", spec := "lawS930015QABWhole", apart := false }
def LawS930015QABWholeSaid : Prop := lawS930015QABWholeRow.holds Yayv.pinned (OpenSpec.ofChange lawS930015QABWholeSpec)

/-- ITS FALSE NEIGHBOUR: 'it returns false'. Refute it at one input. -/
def lawS930015QABWholeWrong : ChangeSpec := { name := "lawS930015QABWhole", fn := fun _ => fun
  | [d] => { results := [.lit (.bool false)], args := [d] }
  | _ => none }
def LawS930015QABWholeWrongFalsely : Prop := lawS930015QABWholeRow.holds Yayv.pinned (OpenSpec.ofChange lawS930015QABWholeWrong)

end Rows
end Go.Proofs.Ymwhay
