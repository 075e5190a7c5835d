/-
  No cell of these rows narrows 'for every input' (looked for: loops, veiled, ifaces, maps, wideKeys, modest, calm, conditions, laid).
  DERIVED. THE GIVEN ROWS OF THIS SEAT. 6 by the template 'for every input the law returns true; each argument reads behind the call as it read before'; 0 by the template 'total and deterministic' (their statements: YtaegfbfmniohaaaTotals.lean).
  GIVEN WITH THE SEED: the statements are not yours to turn. If you find one false, say at which input.
  Laid BY PROGRAM, IN A SANDBOX (cutbox-rows.mjs): the forced cells as the released guide's own fill.sh prints them over the translation 2a8bcc93bdd3dc01… (all of the seat's roots in one cut). By AI agents, Wed Nov 11 2026. No macro, syntax, notation, axiom, sorry.
-/
import Derived.Test.YtaegfbfmniohaaaChecked
import GoSem.Claim
import GoSem.ClaimJoined
import GoSem.ClaimMapViews
import Derived.JoinedTies
import Derived.KernelRfl
namespace Go.Proofs.Ytaegfbfmniohaaa
/- THE CELL 'sum', in the pinned program and in every row, IS THE sha256 OF THE DUMP (.gsa) THAT YtaegfbfmniohaaaProg.lean LOADS. Nothing in Lean hashes anything: it is a label: what it is worth is what the hold of that sum in a sandbox is worth. -/
noncomputable def Try.pinned : Pinned := { name := "ytaegfbfmniohaaa", sum := "2a8bcc93bdd3dc013d5d65a237feb79ed4625a6bf2e6382b4f362d5d8479866d", checked := Try.checked }
namespace Rows
def none {H : Type} : Left H := { results := [], args := [] }

/-- 'garderobelaw02.EndsPuts': WHATEVER THE INPUT: true; the input reads as it did. -/
def endsPutsSpec : ChangeSpec := { name := "endsPuts", fn := fun _ => fun
  | [d1, d2] => { results := [.lit (.bool true)], args := [d1, d2] }
  | _ => none }
def endsPutsRow : OpenClaim := { program := "ytaegfbfmniohaaa", sum := "2a8bcc93bdd3dc013d5d65a237feb79ed4625a6bf2e6382b4f362d5d8479866d", func := "garderobe/garderobelaw02.EndsPuts", spec := "endsPuts", apart := false }
def EndsPutsSaid : Prop := endsPutsRow.holds Try.pinned (OpenSpec.ofChange endsPutsSpec)

/-- ITS FALSE NEIGHBOUR: 'it returns false'. Refute it at one input. -/
def endsPutsWrong : ChangeSpec := { name := "endsPuts", fn := fun _ => fun
  | [d1, d2] => { results := [.lit (.bool false)], args := [d1, d2] }
  | _ => none }
def EndsPutsWrongFalsely : Prop := endsPutsRow.holds Try.pinned (OpenSpec.ofChange endsPutsWrong)

/-- 'garderobelaw02.EndsGets': WHATEVER THE INPUT: true; the input reads as it did. -/
def endsGetsSpec : ChangeSpec := { name := "endsGets", fn := fun _ => fun
  | [d1, d2, d3, d4] => { results := [.lit (.bool true)], args := [d1, d2, d3, d4] }
  | _ => none }
def endsGetsRow : OpenClaim := { program := "ytaegfbfmniohaaa", sum := "2a8bcc93bdd3dc013d5d65a237feb79ed4625a6bf2e6382b4f362d5d8479866d", func := "garderobe/garderobelaw02.EndsGets", spec := "endsGets", apart := false }
def EndsGetsSaid : Prop := endsGetsRow.holds Try.pinned (OpenSpec.ofChange endsGetsSpec)

/-- ITS FALSE NEIGHBOUR: 'it returns false'. Refute it at one input. -/
def endsGetsWrong : ChangeSpec := { name := "endsGets", fn := fun _ => fun
  | [d1, d2, d3, d4] => { results := [.lit (.bool false)], args := [d1, d2, d3, d4] }
  | _ => none }
def EndsGetsWrongFalsely : Prop := endsGetsRow.holds Try.pinned (OpenSpec.ofChange endsGetsWrong)

/-- 'garderobelaw02.EndsRows': WHATEVER THE INPUT: true; the input reads as it did. -/
def endsRowsSpec : ChangeSpec := { name := "endsRows", fn := fun _ => fun
  | [d1, d2, d3] => { results := [.lit (.bool true)], args := [d1, d2, d3] }
  | _ => none }
def endsRowsRow : OpenClaim := { program := "ytaegfbfmniohaaa", sum := "2a8bcc93bdd3dc013d5d65a237feb79ed4625a6bf2e6382b4f362d5d8479866d", func := "garderobe/garderobelaw02.EndsRows", spec := "endsRows", apart := false }
def EndsRowsSaid : Prop := endsRowsRow.holds Try.pinned (OpenSpec.ofChange endsRowsSpec)

/-- ITS FALSE NEIGHBOUR: 'it returns false'. Refute it at one input. -/
def endsRowsWrong : ChangeSpec := { name := "endsRows", fn := fun _ => fun
  | [d1, d2, d3] => { results := [.lit (.bool false)], args := [d1, d2, d3] }
  | _ => none }
def EndsRowsWrongFalsely : Prop := endsRowsRow.holds Try.pinned (OpenSpec.ofChange endsRowsWrong)

/-- 'garderobelaw02.EndsBack': WHATEVER THE INPUT: true; the input reads as it did. -/
def endsBackSpec : ChangeSpec := { name := "endsBack", fn := fun _ => fun
  | [d1, d2, d3, d4, d5] => { results := [.lit (.bool true)], args := [d1, d2, d3, d4, d5] }
  | _ => none }
def endsBackRow : OpenClaim := { program := "ytaegfbfmniohaaa", sum := "2a8bcc93bdd3dc013d5d65a237feb79ed4625a6bf2e6382b4f362d5d8479866d", func := "garderobe/garderobelaw02.EndsBack", spec := "endsBack", apart := false }
def EndsBackSaid : Prop := endsBackRow.holds Try.pinned (OpenSpec.ofChange endsBackSpec)

/-- ITS FALSE NEIGHBOUR: 'it returns false'. Refute it at one input. -/
def endsBackWrong : ChangeSpec := { name := "endsBack", fn := fun _ => fun
  | [d1, d2, d3, d4, d5] => { results := [.lit (.bool false)], args := [d1, d2, d3, d4, d5] }
  | _ => none }
def EndsBackWrongFalsely : Prop := endsBackRow.holds Try.pinned (OpenSpec.ofChange endsBackWrong)

/-- 'garderobelaw02.EndsOnce': WHATEVER THE INPUT: true; the input reads as it did. -/
def endsOnceSpec : ChangeSpec := { name := "endsOnce", fn := fun _ => fun
  | [d1, d2, d3] => { results := [.lit (.bool true)], args := [d1, d2, d3] }
  | _ => none }
def endsOnceRow : OpenClaim := { program := "ytaegfbfmniohaaa", sum := "2a8bcc93bdd3dc013d5d65a237feb79ed4625a6bf2e6382b4f362d5d8479866d", func := "garderobe/garderobelaw02.EndsOnce", spec := "endsOnce", apart := false }
def EndsOnceSaid : Prop := endsOnceRow.holds Try.pinned (OpenSpec.ofChange endsOnceSpec)

/-- ITS FALSE NEIGHBOUR: 'it returns false'. Refute it at one input. -/
def endsOnceWrong : ChangeSpec := { name := "endsOnce", fn := fun _ => fun
  | [d1, d2, d3] => { results := [.lit (.bool false)], args := [d1, d2, d3] }
  | _ => none }
def EndsOnceWrongFalsely : Prop := endsOnceRow.holds Try.pinned (OpenSpec.ofChange endsOnceWrong)

/-- 'garderobelaw02.EndsFresh': WHATEVER THE INPUT: true; the input reads as it did. -/
def endsFreshSpec : ChangeSpec := { name := "endsFresh", fn := fun _ => fun
  | [d1, d2, d3] => { results := [.lit (.bool true)], args := [d1, d2, d3] }
  | _ => none }
def endsFreshRow : OpenClaim := { program := "ytaegfbfmniohaaa", sum := "2a8bcc93bdd3dc013d5d65a237feb79ed4625a6bf2e6382b4f362d5d8479866d", func := "garderobe/garderobelaw02.EndsFresh", spec := "endsFresh", apart := false }
def EndsFreshSaid : Prop := endsFreshRow.holds Try.pinned (OpenSpec.ofChange endsFreshSpec)

/-- ITS FALSE NEIGHBOUR: 'it returns false'. Refute it at one input. -/
def endsFreshWrong : ChangeSpec := { name := "endsFresh", fn := fun _ => fun
  | [d1, d2, d3] => { results := [.lit (.bool false)], args := [d1, d2, d3] }
  | _ => none }
def EndsFreshWrongFalsely : Prop := endsFreshRow.holds Try.pinned (OpenSpec.ofChange endsFreshWrong)

/- THE SECOND FORM. 'bulk': how many values and letters a reading holds, each counted each time it is reached (what is shared counts as often as it is met; a slice's spare places count too). A statement '..UptoSaid' is the law's where the arguments, and the package variables that the reading takes, are together of bulk at most 1048576: NARROWER than '..Said'. Prove '..Said' where nothing that the law and all that it calls make is longer than what came in: it says more and counts as full. Else prove '..UptoSaid'. A law counts once. -/
mutual
def uptoBulk {H : Type} : DataW H → Nat
  | .lit (.string bytes) => bytes.length + 1
  | .lit _ => 1
  | .nil => 1
  | .ptr d => uptoBulk d + 1
  | .slice elems spare => uptoBulkAll elems + uptoBulkAll spare + 1
  | .agg parts => uptoBulkAll parts + 1
  | .iface _ d => uptoBulk d + 1
  | .map entries => uptoBulkEntries entries + 1
  | .held _ => 1
def uptoBulkAll {H : Type} : List (DataW H) → Nat
  | [] => 0
  | d :: r => uptoBulk d + uptoBulkAll r
def uptoBulkEntries {H : Type} : List (Lit × DataW H) → Nat
  | [] => 0
  | x :: r => uptoBulkEntry x + uptoBulkEntries r
def uptoBulkEntry {H : Type} : Lit × DataW H → Nat
  | (.string bytes, d) => bytes.length + uptoBulk d + 1
  | (_, d) => uptoBulk d + 1
 end
def uptoSmall : (H : Type) → List (DataW H) → Bool := fun _ ds => decide (uptoBulkAll ds ≤ 1048576)
def OpenSpec.upto (s : _root_.Go.ChangeSpec) : _root_.Go.OpenSpec := { _root_.Go.OpenSpec.ofChange s with cond := some uptoSmall }

/-- 'garderobelaw02.EndsPuts', WHERE WHAT IT READS IS OF BULK AT MOST 1048576: true; the input reads as it did. -/
def endsPutsUptoRow : OpenClaim := { program := "ytaegfbfmniohaaa", sum := "2a8bcc93bdd3dc013d5d65a237feb79ed4625a6bf2e6382b4f362d5d8479866d", func := "garderobe/garderobelaw02.EndsPuts", spec := "endsPuts", apart := false, narrowed := true }
def EndsPutsUptoSaid : Prop := endsPutsUptoRow.holds Try.pinned (OpenSpec.upto endsPutsSpec)

/-- 'garderobelaw02.EndsGets', WHERE WHAT IT READS IS OF BULK AT MOST 1048576: true; the input reads as it did. -/
def endsGetsUptoRow : OpenClaim := { program := "ytaegfbfmniohaaa", sum := "2a8bcc93bdd3dc013d5d65a237feb79ed4625a6bf2e6382b4f362d5d8479866d", func := "garderobe/garderobelaw02.EndsGets", spec := "endsGets", apart := false, narrowed := true }
def EndsGetsUptoSaid : Prop := endsGetsUptoRow.holds Try.pinned (OpenSpec.upto endsGetsSpec)

/-- 'garderobelaw02.EndsRows', WHERE WHAT IT READS IS OF BULK AT MOST 1048576: true; the input reads as it did. -/
def endsRowsUptoRow : OpenClaim := { program := "ytaegfbfmniohaaa", sum := "2a8bcc93bdd3dc013d5d65a237feb79ed4625a6bf2e6382b4f362d5d8479866d", func := "garderobe/garderobelaw02.EndsRows", spec := "endsRows", apart := false, narrowed := true }
def EndsRowsUptoSaid : Prop := endsRowsUptoRow.holds Try.pinned (OpenSpec.upto endsRowsSpec)

/-- 'garderobelaw02.EndsBack', WHERE WHAT IT READS IS OF BULK AT MOST 1048576: true; the input reads as it did. -/
def endsBackUptoRow : OpenClaim := { program := "ytaegfbfmniohaaa", sum := "2a8bcc93bdd3dc013d5d65a237feb79ed4625a6bf2e6382b4f362d5d8479866d", func := "garderobe/garderobelaw02.EndsBack", spec := "endsBack", apart := false, narrowed := true }
def EndsBackUptoSaid : Prop := endsBackUptoRow.holds Try.pinned (OpenSpec.upto endsBackSpec)

/-- 'garderobelaw02.EndsOnce', WHERE WHAT IT READS IS OF BULK AT MOST 1048576: true; the input reads as it did. -/
def endsOnceUptoRow : OpenClaim := { program := "ytaegfbfmniohaaa", sum := "2a8bcc93bdd3dc013d5d65a237feb79ed4625a6bf2e6382b4f362d5d8479866d", func := "garderobe/garderobelaw02.EndsOnce", spec := "endsOnce", apart := false, narrowed := true }
def EndsOnceUptoSaid : Prop := endsOnceUptoRow.holds Try.pinned (OpenSpec.upto endsOnceSpec)

/-- 'garderobelaw02.EndsFresh', WHERE WHAT IT READS IS OF BULK AT MOST 1048576: true; the input reads as it did. -/
def endsFreshUptoRow : OpenClaim := { program := "ytaegfbfmniohaaa", sum := "2a8bcc93bdd3dc013d5d65a237feb79ed4625a6bf2e6382b4f362d5d8479866d", func := "garderobe/garderobelaw02.EndsFresh", spec := "endsFresh", apart := false, narrowed := true }
def EndsFreshUptoSaid : Prop := endsFreshUptoRow.holds Try.pinned (OpenSpec.upto endsFreshSpec)

end Rows
end Go.Proofs.Ytaegfbfmniohaaa
