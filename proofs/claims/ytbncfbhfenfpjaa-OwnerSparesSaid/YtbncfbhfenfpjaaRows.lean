/-
  No cell of these rows narrows 'for every input' (looked for: loops, veiled, ifaces, maps, wideKeys, modest, calm, conditions, laid).
  DERIVED. THE GIVEN ROWS OF THIS SEAT. 4 by the template 'for every input the law returns true; each argument reads behind the call as it read before'; 0 by the template 'total and deterministic' (their statements: YtbncfbhfenfpjaaTotals.lean).
  GIVEN WITH THE SEED: the statements are not yours to turn. If you find one false, say at which input.
  Laid BY PROGRAM, IN A SANDBOX (cutbox-rows.mjs): the forced cells as the released guide's own fill.sh prints them over the translation 5a7ca72dd9f5a4c0… (all of the seat's roots in one cut). By AI agents, Wed Nov 11 2026. No macro, syntax, notation, axiom, sorry.
-/
import Derived.Test.YtbncfbhfenfpjaaChecked
import GoSem.Claim
import GoSem.ClaimJoined
import GoSem.ClaimMapViews
import Derived.JoinedTies
import Derived.KernelRfl
namespace Go.Proofs.Ytbncfbhfenfpjaa
/- THE CELL 'sum', in the pinned program and in every row, IS THE sha256 OF THE DUMP (.gsa) THAT YtbncfbhfenfpjaaProg.lean LOADS. Nothing in Lean hashes anything: it is a label: what it is worth is what the hold of that sum in a sandbox is worth. -/
noncomputable def Try.pinned : Pinned := { name := "ytbncfbhfenfpjaa", sum := "5a7ca72dd9f5a4c05646588b6fb4c945ce3da39337c3503c62cf6a4ec4807db8", checked := Try.checked }
namespace Rows
def none {H : Type} : Left H := { results := [], args := [] }

/-- 'garderobelaw19.OwnerJoins': WHATEVER THE INPUT: true; the input reads as it did. -/
def ownerJoinsSpec : ChangeSpec := { name := "ownerJoins", fn := fun _ => fun
  | [d1, d2] => { results := [.lit (.bool true)], args := [d1, d2] }
  | _ => none }
def ownerJoinsRow : OpenClaim := { program := "ytbncfbhfenfpjaa", sum := "5a7ca72dd9f5a4c05646588b6fb4c945ce3da39337c3503c62cf6a4ec4807db8", func := "garderobe/garderobelaw19.OwnerJoins", spec := "ownerJoins", apart := false }
def OwnerJoinsSaid : Prop := ownerJoinsRow.holds Try.pinned (OpenSpec.ofChange ownerJoinsSpec)

/-- ITS FALSE NEIGHBOUR: 'it returns false'. Refute it at one input. -/
def ownerJoinsWrong : ChangeSpec := { name := "ownerJoins", fn := fun _ => fun
  | [d1, d2] => { results := [.lit (.bool false)], args := [d1, d2] }
  | _ => none }
def OwnerJoinsWrongFalsely : Prop := ownerJoinsRow.holds Try.pinned (OpenSpec.ofChange ownerJoinsWrong)

/-- 'garderobelaw19.OwnerOrder': WHATEVER THE INPUT: true; the input reads as it did. -/
def ownerOrderSpec : ChangeSpec := { name := "ownerOrder", fn := fun _ => fun
  | [d1, d2, d3] => { results := [.lit (.bool true)], args := [d1, d2, d3] }
  | _ => none }
def ownerOrderRow : OpenClaim := { program := "ytbncfbhfenfpjaa", sum := "5a7ca72dd9f5a4c05646588b6fb4c945ce3da39337c3503c62cf6a4ec4807db8", func := "garderobe/garderobelaw19.OwnerOrder", spec := "ownerOrder", apart := false }
def OwnerOrderSaid : Prop := ownerOrderRow.holds Try.pinned (OpenSpec.ofChange ownerOrderSpec)

/-- ITS FALSE NEIGHBOUR: 'it returns false'. Refute it at one input. -/
def ownerOrderWrong : ChangeSpec := { name := "ownerOrder", fn := fun _ => fun
  | [d1, d2, d3] => { results := [.lit (.bool false)], args := [d1, d2, d3] }
  | _ => none }
def OwnerOrderWrongFalsely : Prop := ownerOrderRow.holds Try.pinned (OpenSpec.ofChange ownerOrderWrong)

/-- 'garderobelaw19.OwnerDown': WHATEVER THE INPUT: true; the input reads as it did. -/
def ownerDownSpec : ChangeSpec := { name := "ownerDown", fn := fun _ => fun
  | [d1, d2, d3] => { results := [.lit (.bool true)], args := [d1, d2, d3] }
  | _ => none }
def ownerDownRow : OpenClaim := { program := "ytbncfbhfenfpjaa", sum := "5a7ca72dd9f5a4c05646588b6fb4c945ce3da39337c3503c62cf6a4ec4807db8", func := "garderobe/garderobelaw19.OwnerDown", spec := "ownerDown", apart := false }
def OwnerDownSaid : Prop := ownerDownRow.holds Try.pinned (OpenSpec.ofChange ownerDownSpec)

/-- ITS FALSE NEIGHBOUR: 'it returns false'. Refute it at one input. -/
def ownerDownWrong : ChangeSpec := { name := "ownerDown", fn := fun _ => fun
  | [d1, d2, d3] => { results := [.lit (.bool false)], args := [d1, d2, d3] }
  | _ => none }
def OwnerDownWrongFalsely : Prop := ownerDownRow.holds Try.pinned (OpenSpec.ofChange ownerDownWrong)

/-- 'garderobelaw19.OwnerSpares': WHATEVER THE INPUT: true; the input reads as it did. -/
def ownerSparesSpec : ChangeSpec := { name := "ownerSpares", fn := fun _ => fun
  | [d1, d2] => { results := [.lit (.bool true)], args := [d1, d2] }
  | _ => none }
def ownerSparesRow : OpenClaim := { program := "ytbncfbhfenfpjaa", sum := "5a7ca72dd9f5a4c05646588b6fb4c945ce3da39337c3503c62cf6a4ec4807db8", func := "garderobe/garderobelaw19.OwnerSpares", spec := "ownerSpares", apart := false }
def OwnerSparesSaid : Prop := ownerSparesRow.holds Try.pinned (OpenSpec.ofChange ownerSparesSpec)

/-- ITS FALSE NEIGHBOUR: 'it returns false'. Refute it at one input. -/
def ownerSparesWrong : ChangeSpec := { name := "ownerSpares", fn := fun _ => fun
  | [d1, d2] => { results := [.lit (.bool false)], args := [d1, d2] }
  | _ => none }
def OwnerSparesWrongFalsely : Prop := ownerSparesRow.holds Try.pinned (OpenSpec.ofChange ownerSparesWrong)

/- THE SECOND FORM. 'bulk': how many values and letters a reading holds, each counted each time it is reached (what is shared counts as often as it is met; a slice's spare places count too). A statement '..UptoSaid' is the law's where the arguments, and the package variables that the reading takes, are together of bulk at most 1048576: NARROWER than '..Said'. Prove '..Said' where nothing that the law and all that it calls make is longer than what came in: it says more and counts as full. Else prove '..UptoSaid'. A law counts once. -/
mutual
def uptoBulk {H : Type} : DataW H → Nat
  | .lit (.string bytes) => bytes.length + 1
  | .lit _ => 1
  | .nil => 1
  | .ptr d => uptoBulk d + 1
  | .slice elems spare => uptoBulkAll elems + uptoBulkAll spare + 1
  | .agg parts => uptoBulkAll parts + 1
  | .iface _ d => uptoBulk d + 1
  | .map entries => uptoBulkEntries entries + 1
  | .held _ => 1
def uptoBulkAll {H : Type} : List (DataW H) → Nat
  | [] => 0
  | d :: r => uptoBulk d + uptoBulkAll r
def uptoBulkEntries {H : Type} : List (Lit × DataW H) → Nat
  | [] => 0
  | x :: r => uptoBulkEntry x + uptoBulkEntries r
def uptoBulkEntry {H : Type} : Lit × DataW H → Nat
  | (.string bytes, d) => bytes.length + uptoBulk d + 1
  | (_, d) => uptoBulk d + 1
 end
def uptoSmall : (H : Type) → List (DataW H) → Bool := fun _ ds => decide (uptoBulkAll ds ≤ 1048576)
def OpenSpec.upto (s : _root_.Go.ChangeSpec) : _root_.Go.OpenSpec := { _root_.Go.OpenSpec.ofChange s with cond := some uptoSmall }

/-- 'garderobelaw19.OwnerJoins', WHERE WHAT IT READS IS OF BULK AT MOST 1048576: true; the input reads as it did. -/
def ownerJoinsUptoRow : OpenClaim := { program := "ytbncfbhfenfpjaa", sum := "5a7ca72dd9f5a4c05646588b6fb4c945ce3da39337c3503c62cf6a4ec4807db8", func := "garderobe/garderobelaw19.OwnerJoins", spec := "ownerJoins", apart := false, narrowed := true }
def OwnerJoinsUptoSaid : Prop := ownerJoinsUptoRow.holds Try.pinned (OpenSpec.upto ownerJoinsSpec)

/-- 'garderobelaw19.OwnerOrder', WHERE WHAT IT READS IS OF BULK AT MOST 1048576: true; the input reads as it did. -/
def ownerOrderUptoRow : OpenClaim := { program := "ytbncfbhfenfpjaa", sum := "5a7ca72dd9f5a4c05646588b6fb4c945ce3da39337c3503c62cf6a4ec4807db8", func := "garderobe/garderobelaw19.OwnerOrder", spec := "ownerOrder", apart := false, narrowed := true }
def OwnerOrderUptoSaid : Prop := ownerOrderUptoRow.holds Try.pinned (OpenSpec.upto ownerOrderSpec)

/-- 'garderobelaw19.OwnerDown', WHERE WHAT IT READS IS OF BULK AT MOST 1048576: true; the input reads as it did. -/
def ownerDownUptoRow : OpenClaim := { program := "ytbncfbhfenfpjaa", sum := "5a7ca72dd9f5a4c05646588b6fb4c945ce3da39337c3503c62cf6a4ec4807db8", func := "garderobe/garderobelaw19.OwnerDown", spec := "ownerDown", apart := false, narrowed := true }
def OwnerDownUptoSaid : Prop := ownerDownUptoRow.holds Try.pinned (OpenSpec.upto ownerDownSpec)

/-- 'garderobelaw19.OwnerSpares', WHERE WHAT IT READS IS OF BULK AT MOST 1048576: true; the input reads as it did. -/
def ownerSparesUptoRow : OpenClaim := { program := "ytbncfbhfenfpjaa", sum := "5a7ca72dd9f5a4c05646588b6fb4c945ce3da39337c3503c62cf6a4ec4807db8", func := "garderobe/garderobelaw19.OwnerSpares", spec := "ownerSpares", apart := false, narrowed := true }
def OwnerSparesUptoSaid : Prop := ownerSparesUptoRow.holds Try.pinned (OpenSpec.upto ownerSparesSpec)

end Rows
end Go.Proofs.Ytbncfbhfenfpjaa
