/-
  No cell of these rows narrows 'for every input' (looked for: loops, veiled, ifaces, maps, wideKeys, modest, calm, conditions, laid).
  DERIVED. THE GIVEN ROWS OF THIS SEAT. 3 by the template 'for every input the law returns true; each argument reads behind the call as it read before'; 0 by the template 'total and deterministic' (their statements: YtkfaimhjdfpjhaaTotals.lean).
  GIVEN WITH THE SEED: the statements are not yours to turn. If you find one false, say at which input.
  Laid BY PROGRAM, IN A SANDBOX (cutbox-rows.mjs): the forced cells as the released guide's own fill.sh prints them over the translation 700af34a2f4fd86d… (all of the seat's roots in one cut). By AI agents, Wed Nov 11 2026. No macro, syntax, notation, axiom, sorry.
-/
import Derived.Test.YtkfaimhjdfpjhaaChecked
import GoSem.Claim
import GoSem.ClaimJoined
import GoSem.ClaimMapViews
import Derived.JoinedTies
import Derived.KernelRfl
namespace Go.Proofs.Ytkfaimhjdfpjhaa
/- THE CELL 'sum', in the pinned program and in every row, IS THE sha256 OF THE DUMP (.gsa) THAT YtkfaimhjdfpjhaaProg.lean LOADS. Nothing in Lean hashes anything: it is a label: what it is worth is what the hold of that sum in a sandbox is worth. -/
noncomputable def Try.pinned : Pinned := { name := "ytkfaimhjdfpjhaa", sum := "700af34a2f4fd86df90fce41784cb15a011c601c16e81d3ea7243721be05236c", checked := Try.checked }
namespace Rows
def none {H : Type} : Left H := { results := [], args := [] }

/-- 'garderobelaw29.ChansPlay': WHATEVER THE INPUT: true; the input reads as it did. -/
def chansPlaySpec : ChangeSpec := { name := "chansPlay", fn := fun _ => fun
  | [d] => { results := [.lit (.bool true)], args := [d] }
  | _ => none }
def chansPlayRow : OpenClaim := { program := "ytkfaimhjdfpjhaa", sum := "700af34a2f4fd86df90fce41784cb15a011c601c16e81d3ea7243721be05236c", func := "garderobe/garderobelaw29.ChansPlay", spec := "chansPlay", apart := false }
def ChansPlaySaid : Prop := chansPlayRow.holds Try.pinned (OpenSpec.ofChange chansPlaySpec)

/-- ITS FALSE NEIGHBOUR: 'it returns false'. Refute it at one input. -/
def chansPlayWrong : ChangeSpec := { name := "chansPlay", fn := fun _ => fun
  | [d] => { results := [.lit (.bool false)], args := [d] }
  | _ => none }
def ChansPlayWrongFalsely : Prop := chansPlayRow.holds Try.pinned (OpenSpec.ofChange chansPlayWrong)

/-- 'garderobelaw29.ChansOne': WHATEVER THE INPUT: true; the input reads as it did. -/
def chansOneSpec : ChangeSpec := { name := "chansOne", fn := fun _ => fun
  | [d] => { results := [.lit (.bool true)], args := [d] }
  | _ => none }
def chansOneRow : OpenClaim := { program := "ytkfaimhjdfpjhaa", sum := "700af34a2f4fd86df90fce41784cb15a011c601c16e81d3ea7243721be05236c", func := "garderobe/garderobelaw29.ChansOne", spec := "chansOne", apart := false }
def ChansOneSaid : Prop := chansOneRow.holds Try.pinned (OpenSpec.ofChange chansOneSpec)

/-- ITS FALSE NEIGHBOUR: 'it returns false'. Refute it at one input. -/
def chansOneWrong : ChangeSpec := { name := "chansOne", fn := fun _ => fun
  | [d] => { results := [.lit (.bool false)], args := [d] }
  | _ => none }
def ChansOneWrongFalsely : Prop := chansOneRow.holds Try.pinned (OpenSpec.ofChange chansOneWrong)

/-- 'garderobelaw29.ChansNil': WHATEVER THE INPUT: true; the input reads as it did. -/
def chansNilSpec : ChangeSpec := { name := "chansNil", fn := fun _ => fun
  | [d1, d2, d3] => { results := [.lit (.bool true)], args := [d1, d2, d3] }
  | _ => none }
def chansNilRow : OpenClaim := { program := "ytkfaimhjdfpjhaa", sum := "700af34a2f4fd86df90fce41784cb15a011c601c16e81d3ea7243721be05236c", func := "garderobe/garderobelaw29.ChansNil", spec := "chansNil", apart := false }
def ChansNilSaid : Prop := chansNilRow.holds Try.pinned (OpenSpec.ofChange chansNilSpec)

/-- ITS FALSE NEIGHBOUR: 'it returns false'. Refute it at one input. -/
def chansNilWrong : ChangeSpec := { name := "chansNil", fn := fun _ => fun
  | [d1, d2, d3] => { results := [.lit (.bool false)], args := [d1, d2, d3] }
  | _ => none }
def ChansNilWrongFalsely : Prop := chansNilRow.holds Try.pinned (OpenSpec.ofChange chansNilWrong)

/- THE SECOND FORM. 'bulk': how many values and letters a reading holds, each counted each time it is reached (what is shared counts as often as it is met; a slice's spare places count too). A statement '..UptoSaid' is the law's where the arguments, and the package variables that the reading takes, are together of bulk at most 1048576: NARROWER than '..Said'. Prove '..Said' where nothing that the law and all that it calls make is longer than what came in: it says more and counts as full. Else prove '..UptoSaid'. A law counts once. -/
mutual
def uptoBulk {H : Type} : DataW H → Nat
  | .lit (.string bytes) => bytes.length + 1
  | .lit _ => 1
  | .nil => 1
  | .ptr d => uptoBulk d + 1
  | .slice elems spare => uptoBulkAll elems + uptoBulkAll spare + 1
  | .agg parts => uptoBulkAll parts + 1
  | .iface _ d => uptoBulk d + 1
  | .map entries => uptoBulkEntries entries + 1
  | .held _ => 1
def uptoBulkAll {H : Type} : List (DataW H) → Nat
  | [] => 0
  | d :: r => uptoBulk d + uptoBulkAll r
def uptoBulkEntries {H : Type} : List (Lit × DataW H) → Nat
  | [] => 0
  | x :: r => uptoBulkEntry x + uptoBulkEntries r
def uptoBulkEntry {H : Type} : Lit × DataW H → Nat
  | (.string bytes, d) => bytes.length + uptoBulk d + 1
  | (_, d) => uptoBulk d + 1
 end
def uptoSmall : (H : Type) → List (DataW H) → Bool := fun _ ds => decide (uptoBulkAll ds ≤ 1048576)
def OpenSpec.upto (s : _root_.Go.ChangeSpec) : _root_.Go.OpenSpec := { _root_.Go.OpenSpec.ofChange s with cond := some uptoSmall }

/-- 'garderobelaw29.ChansPlay', WHERE WHAT IT READS IS OF BULK AT MOST 1048576: true; the input reads as it did. -/
def chansPlayUptoRow : OpenClaim := { program := "ytkfaimhjdfpjhaa", sum := "700af34a2f4fd86df90fce41784cb15a011c601c16e81d3ea7243721be05236c", func := "garderobe/garderobelaw29.ChansPlay", spec := "chansPlay", apart := false, narrowed := true }
def ChansPlayUptoSaid : Prop := chansPlayUptoRow.holds Try.pinned (OpenSpec.upto chansPlaySpec)

/-- 'garderobelaw29.ChansOne', WHERE WHAT IT READS IS OF BULK AT MOST 1048576: true; the input reads as it did. -/
def chansOneUptoRow : OpenClaim := { program := "ytkfaimhjdfpjhaa", sum := "700af34a2f4fd86df90fce41784cb15a011c601c16e81d3ea7243721be05236c", func := "garderobe/garderobelaw29.ChansOne", spec := "chansOne", apart := false, narrowed := true }
def ChansOneUptoSaid : Prop := chansOneUptoRow.holds Try.pinned (OpenSpec.upto chansOneSpec)

/-- 'garderobelaw29.ChansNil', WHERE WHAT IT READS IS OF BULK AT MOST 1048576: true; the input reads as it did. -/
def chansNilUptoRow : OpenClaim := { program := "ytkfaimhjdfpjhaa", sum := "700af34a2f4fd86df90fce41784cb15a011c601c16e81d3ea7243721be05236c", func := "garderobe/garderobelaw29.ChansNil", spec := "chansNil", apart := false, narrowed := true }
def ChansNilUptoSaid : Prop := chansNilUptoRow.holds Try.pinned (OpenSpec.upto chansNilSpec)

end Rows
end Go.Proofs.Ytkfaimhjdfpjhaa
