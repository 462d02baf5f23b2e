/-
  No cell of these rows narrows 'for every input' (looked for: loops, veiled, ifaces, maps, wideKeys, modest, calm, conditions, laid).
  DERIVED. THE GIVEN ROWS OF THIS SEAT. 4 by the template 'for every input the law returns true; each argument reads behind the call as it read before'; 0 by the template 'total and deterministic' (their statements: YtmobcecmjpfpiaaTotals.lean).
  GIVEN WITH THE SEED: the statements are not yours to turn. If you find one false, say at which input.
  Laid BY PROGRAM, IN A SANDBOX (cutbox-rows.mjs): the forced cells as the released guide's own fill.sh prints them over the translation 9845b287992d5486… (all of the seat's roots in one cut). By AI agents, Wed Nov 11 2026. No macro, syntax, notation, axiom, sorry.
-/
import Derived.Test.YtmobcecmjpfpiaaChecked
import GoSem.Claim
import GoSem.ClaimJoined
import GoSem.ClaimMapViews
import Derived.JoinedTies
import Derived.KernelRfl
namespace Go.Proofs.Ytmobcecmjpfpiaa
/- THE CELL 'sum', in the pinned program and in every row, IS THE sha256 OF THE DUMP (.gsa) THAT YtmobcecmjpfpiaaProg.lean LOADS. Nothing in Lean hashes anything: it is a label: what it is worth is what the hold of that sum in a sandbox is worth. -/
noncomputable def Try.pinned : Pinned := { name := "ytmobcecmjpfpiaa", sum := "9845b287992d5486c452d6da1a0506d4855eb4459d803ec1478aa45855c4069c", checked := Try.checked }
namespace Rows
def none {H : Type} : Left H := { results := [], args := [] }

/-- 'laws.FnExactSparseList': WHATEVER THE INPUT: true; the input reads as it did. -/
def fnExactSparseListSpec : ChangeSpec := { name := "fnExactSparseList", fn := fun _ => fun
  | [d] => { results := [.lit (.bool true)], args := [d] }
  | _ => none }
def fnExactSparseListRow : OpenClaim := { program := "ytmobcecmjpfpiaa", sum := "9845b287992d5486c452d6da1a0506d4855eb4459d803ec1478aa45855c4069c", func := "loop.example/g00688/laws.FnExactSparseList", spec := "fnExactSparseList", unfollowed := true, recurses := true, apart := false }
def FnExactSparseListSaid : Prop := fnExactSparseListRow.holds Try.pinned (OpenSpec.ofChange fnExactSparseListSpec)

/-- ITS FALSE NEIGHBOUR: 'it returns false'. Refute it at one input. -/
def fnExactSparseListWrong : ChangeSpec := { name := "fnExactSparseList", fn := fun _ => fun
  | [d] => { results := [.lit (.bool false)], args := [d] }
  | _ => none }
def FnExactSparseListWrongFalsely : Prop := fnExactSparseListRow.holds Try.pinned (OpenSpec.ofChange fnExactSparseListWrong)

/-- 'laws.FnFormsBack': WHATEVER THE INPUT: true; the input reads as it did. -/
def fnFormsBackSpec : ChangeSpec := { name := "fnFormsBack", fn := fun _ => fun
  | [d] => { results := [.lit (.bool true)], args := [d] }
  | _ => none }
def fnFormsBackRow : OpenClaim := { program := "ytmobcecmjpfpiaa", sum := "9845b287992d5486c452d6da1a0506d4855eb4459d803ec1478aa45855c4069c", func := "loop.example/g00688/laws.FnFormsBack", spec := "fnFormsBack", apart := false }
def FnFormsBackSaid : Prop := fnFormsBackRow.holds Try.pinned (OpenSpec.ofChange fnFormsBackSpec)

/-- ITS FALSE NEIGHBOUR: 'it returns false'. Refute it at one input. -/
def fnFormsBackWrong : ChangeSpec := { name := "fnFormsBack", fn := fun _ => fun
  | [d] => { results := [.lit (.bool false)], args := [d] }
  | _ => none }
def FnFormsBackWrongFalsely : Prop := fnFormsBackRow.holds Try.pinned (OpenSpec.ofChange fnFormsBackWrong)

/-- 'laws.FnExactWaveKth': WHATEVER THE INPUT: true; the input reads as it did. -/
def fnExactWaveKthSpec : ChangeSpec := { name := "fnExactWaveKth", fn := fun _ => fun
  | [d1, d2, d3, d4] => { results := [.lit (.bool true)], args := [d1, d2, d3, d4] }
  | _ => none }
def fnExactWaveKthRow : OpenClaim := { program := "ytmobcecmjpfpiaa", sum := "9845b287992d5486c452d6da1a0506d4855eb4459d803ec1478aa45855c4069c", func := "loop.example/g00688/laws.FnExactWaveKth", spec := "fnExactWaveKth", unfollowed := true, recurses := true, apart := false }
def FnExactWaveKthSaid : Prop := fnExactWaveKthRow.holds Try.pinned (OpenSpec.ofChange fnExactWaveKthSpec)

/-- ITS FALSE NEIGHBOUR: 'it returns false'. Refute it at one input. -/
def fnExactWaveKthWrong : ChangeSpec := { name := "fnExactWaveKth", fn := fun _ => fun
  | [d1, d2, d3, d4] => { results := [.lit (.bool false)], args := [d1, d2, d3, d4] }
  | _ => none }
def FnExactWaveKthWrongFalsely : Prop := fnExactWaveKthRow.holds Try.pinned (OpenSpec.ofChange fnExactWaveKthWrong)

/-- 'laws.FnWaveKth': WHATEVER THE INPUT: true; the input reads as it did. -/
def fnWaveKthSpec : ChangeSpec := { name := "fnWaveKth", fn := fun _ => fun
  | [d] => { results := [.lit (.bool true)], args := [d] }
  | _ => none }
def fnWaveKthRow : OpenClaim := { program := "ytmobcecmjpfpiaa", sum := "9845b287992d5486c452d6da1a0506d4855eb4459d803ec1478aa45855c4069c", func := "loop.example/g00688/laws.FnWaveKth", spec := "fnWaveKth", unfollowed := true, recurses := true, apart := false }
def FnWaveKthSaid : Prop := fnWaveKthRow.holds Try.pinned (OpenSpec.ofChange fnWaveKthSpec)

/-- ITS FALSE NEIGHBOUR: 'it returns false'. Refute it at one input. -/
def fnWaveKthWrong : ChangeSpec := { name := "fnWaveKth", fn := fun _ => fun
  | [d] => { results := [.lit (.bool false)], args := [d] }
  | _ => none }
def FnWaveKthWrongFalsely : Prop := fnWaveKthRow.holds Try.pinned (OpenSpec.ofChange fnWaveKthWrong)

/- THE SECOND FORM. 'bulk': how many values and letters a reading holds, each counted each time it is reached (what is shared counts as often as it is met; a slice's spare places count too). A statement '..UptoSaid' is the law's where the arguments, and the package variables that the reading takes, are together of bulk at most 1048576: NARROWER than '..Said'. Prove '..Said' where nothing that the law and all that it calls make is longer than what came in: it says more and counts as full. Else prove '..UptoSaid'. A law counts once. -/
mutual
def uptoBulk {H : Type} : DataW H → Nat
  | .lit (.string bytes) => bytes.length + 1
  | .lit _ => 1
  | .nil => 1
  | .ptr d => uptoBulk d + 1
  | .slice elems spare => uptoBulkAll elems + uptoBulkAll spare + 1
  | .agg parts => uptoBulkAll parts + 1
  | .iface _ d => uptoBulk d + 1
  | .map entries => uptoBulkEntries entries + 1
  | .held _ => 1
def uptoBulkAll {H : Type} : List (DataW H) → Nat
  | [] => 0
  | d :: r => uptoBulk d + uptoBulkAll r
def uptoBulkEntries {H : Type} : List (Lit × DataW H) → Nat
  | [] => 0
  | x :: r => uptoBulkEntry x + uptoBulkEntries r
def uptoBulkEntry {H : Type} : Lit × DataW H → Nat
  | (.string bytes, d) => bytes.length + uptoBulk d + 1
  | (_, d) => uptoBulk d + 1
 end
def uptoSmall : (H : Type) → List (DataW H) → Bool := fun _ ds => decide (uptoBulkAll ds ≤ 1048576)
def OpenSpec.upto (s : _root_.Go.ChangeSpec) : _root_.Go.OpenSpec := { _root_.Go.OpenSpec.ofChange s with cond := some uptoSmall }

/-- 'laws.FnExactSparseList', WHERE WHAT IT READS IS OF BULK AT MOST 1048576: true; the input reads as it did. -/
def fnExactSparseListUptoRow : OpenClaim := { program := "ytmobcecmjpfpiaa", sum := "9845b287992d5486c452d6da1a0506d4855eb4459d803ec1478aa45855c4069c", func := "loop.example/g00688/laws.FnExactSparseList", spec := "fnExactSparseList", unfollowed := true, recurses := true, apart := false, narrowed := true }
def FnExactSparseListUptoSaid : Prop := fnExactSparseListUptoRow.holds Try.pinned (OpenSpec.upto fnExactSparseListSpec)

/-- 'laws.FnFormsBack', WHERE WHAT IT READS IS OF BULK AT MOST 1048576: true; the input reads as it did. -/
def fnFormsBackUptoRow : OpenClaim := { program := "ytmobcecmjpfpiaa", sum := "9845b287992d5486c452d6da1a0506d4855eb4459d803ec1478aa45855c4069c", func := "loop.example/g00688/laws.FnFormsBack", spec := "fnFormsBack", apart := false, narrowed := true }
def FnFormsBackUptoSaid : Prop := fnFormsBackUptoRow.holds Try.pinned (OpenSpec.upto fnFormsBackSpec)

/-- 'laws.FnExactWaveKth', WHERE WHAT IT READS IS OF BULK AT MOST 1048576: true; the input reads as it did. -/
def fnExactWaveKthUptoRow : OpenClaim := { program := "ytmobcecmjpfpiaa", sum := "9845b287992d5486c452d6da1a0506d4855eb4459d803ec1478aa45855c4069c", func := "loop.example/g00688/laws.FnExactWaveKth", spec := "fnExactWaveKth", unfollowed := true, recurses := true, apart := false, narrowed := true }
def FnExactWaveKthUptoSaid : Prop := fnExactWaveKthUptoRow.holds Try.pinned (OpenSpec.upto fnExactWaveKthSpec)

/-- 'laws.FnWaveKth', WHERE WHAT IT READS IS OF BULK AT MOST 1048576: true; the input reads as it did. -/
def fnWaveKthUptoRow : OpenClaim := { program := "ytmobcecmjpfpiaa", sum := "9845b287992d5486c452d6da1a0506d4855eb4459d803ec1478aa45855c4069c", func := "loop.example/g00688/laws.FnWaveKth", spec := "fnWaveKth", unfollowed := true, recurses := true, apart := false, narrowed := true }
def FnWaveKthUptoSaid : Prop := fnWaveKthUptoRow.holds Try.pinned (OpenSpec.upto fnWaveKthSpec)

end Rows
end Go.Proofs.Ytmobcecmjpfpiaa
