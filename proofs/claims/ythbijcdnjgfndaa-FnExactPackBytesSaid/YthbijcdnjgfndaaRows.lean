/-
  No cell of these rows narrows 'for every input' (looked for: loops, veiled, ifaces, maps, wideKeys, modest, calm, conditions, laid).
  DERIVED. THE GIVEN ROWS OF THIS SEAT. 12 by the template 'for every input the law returns true; each argument reads behind the call as it read before'; 0 by the template 'total and deterministic' (their statements: YthbijcdnjgfndaaTotals.lean).
  GIVEN WITH THE SEED: the statements are not yours to turn. If you find one false, say at which input.
  Laid BY PROGRAM, IN A SANDBOX (cutbox-rows.mjs): the forced cells as the released guide's own fill.sh prints them over the translation a79e954b758d2034… (all of the seat's roots in one cut). By AI agents, Wed Nov 11 2026. No macro, syntax, notation, axiom, sorry.
-/
import Derived.Test.YthbijcdnjgfndaaChecked
import GoSem.Claim
import GoSem.ClaimJoined
import GoSem.ClaimMapViews
import Derived.JoinedTies
import Derived.KernelRfl
namespace Go.Proofs.Ythbijcdnjgfndaa
/- THE CELL 'sum', in the pinned program and in every row, IS THE sha256 OF THE DUMP (.gsa) THAT YthbijcdnjgfndaaProg.lean LOADS. Nothing in Lean hashes anything: it is a label: what it is worth is what the hold of that sum in a sandbox is worth. -/
noncomputable def Try.pinned : Pinned := { name := "ythbijcdnjgfndaa", sum := "a79e954b758d2034c415042b66480aff2f7d5e3fccc0992ec2e4dabf2a8589b0", checked := Try.checked }
namespace Rows
def none {H : Type} : Left H := { results := [], args := [] }

/-- 'laws.FnExactUndelta': WHATEVER THE INPUT: true; the input reads as it did. -/
def fnExactUndeltaSpec : ChangeSpec := { name := "fnExactUndelta", fn := fun _ => fun
  | [d] => { results := [.lit (.bool true)], args := [d] }
  | _ => none }
def fnExactUndeltaRow : OpenClaim := { program := "ythbijcdnjgfndaa", sum := "a79e954b758d2034c415042b66480aff2f7d5e3fccc0992ec2e4dabf2a8589b0", func := "loop.example/g00688/laws.FnExactUndelta", spec := "fnExactUndelta", unfollowed := true, recurses := true, apart := false }
def FnExactUndeltaSaid : Prop := fnExactUndeltaRow.holds Try.pinned (OpenSpec.ofChange fnExactUndeltaSpec)

/-- ITS FALSE NEIGHBOUR: 'it returns false'. Refute it at one input. -/
def fnExactUndeltaWrong : ChangeSpec := { name := "fnExactUndelta", fn := fun _ => fun
  | [d] => { results := [.lit (.bool false)], args := [d] }
  | _ => none }
def FnExactUndeltaWrongFalsely : Prop := fnExactUndeltaRow.holds Try.pinned (OpenSpec.ofChange fnExactUndeltaWrong)

/-- 'laws.FnExactDeltas': WHATEVER THE INPUT: true; the input reads as it did. -/
def fnExactDeltasSpec : ChangeSpec := { name := "fnExactDeltas", fn := fun _ => fun
  | [d] => { results := [.lit (.bool true)], args := [d] }
  | _ => none }
def fnExactDeltasRow : OpenClaim := { program := "ythbijcdnjgfndaa", sum := "a79e954b758d2034c415042b66480aff2f7d5e3fccc0992ec2e4dabf2a8589b0", func := "loop.example/g00688/laws.FnExactDeltas", spec := "fnExactDeltas", unfollowed := true, recurses := true, apart := false }
def FnExactDeltasSaid : Prop := fnExactDeltasRow.holds Try.pinned (OpenSpec.ofChange fnExactDeltasSpec)

/-- ITS FALSE NEIGHBOUR: 'it returns false'. Refute it at one input. -/
def fnExactDeltasWrong : ChangeSpec := { name := "fnExactDeltas", fn := fun _ => fun
  | [d] => { results := [.lit (.bool false)], args := [d] }
  | _ => none }
def FnExactDeltasWrongFalsely : Prop := fnExactDeltasRow.holds Try.pinned (OpenSpec.ofChange fnExactDeltasWrong)

/-- 'laws.FnExactCopyAt': WHATEVER THE INPUT: true; the input reads as it did. -/
def fnExactCopyAtSpec : ChangeSpec := { name := "fnExactCopyAt", fn := fun _ => fun
  | [d1, d2, d3] => { results := [.lit (.bool true)], args := [d1, d2, d3] }
  | _ => none }
def fnExactCopyAtRow : OpenClaim := { program := "ythbijcdnjgfndaa", sum := "a79e954b758d2034c415042b66480aff2f7d5e3fccc0992ec2e4dabf2a8589b0", func := "loop.example/g00688/laws.FnExactCopyAt", spec := "fnExactCopyAt", unfollowed := true, recurses := true, apart := false }
def FnExactCopyAtSaid : Prop := fnExactCopyAtRow.holds Try.pinned (OpenSpec.ofChange fnExactCopyAtSpec)

/-- ITS FALSE NEIGHBOUR: 'it returns false'. Refute it at one input. -/
def fnExactCopyAtWrong : ChangeSpec := { name := "fnExactCopyAt", fn := fun _ => fun
  | [d1, d2, d3] => { results := [.lit (.bool false)], args := [d1, d2, d3] }
  | _ => none }
def FnExactCopyAtWrongFalsely : Prop := fnExactCopyAtRow.holds Try.pinned (OpenSpec.ofChange fnExactCopyAtWrong)

/-- 'laws.FnExactCopyDo': WHATEVER THE INPUT: true; the input reads as it did. -/
def fnExactCopyDoSpec : ChangeSpec := { name := "fnExactCopyDo", fn := fun _ => fun
  | [d1, d2] => { results := [.lit (.bool true)], args := [d1, d2] }
  | _ => none }
def fnExactCopyDoRow : OpenClaim := { program := "ythbijcdnjgfndaa", sum := "a79e954b758d2034c415042b66480aff2f7d5e3fccc0992ec2e4dabf2a8589b0", func := "loop.example/g00688/laws.FnExactCopyDo", spec := "fnExactCopyDo", unfollowed := true, recurses := true, apart := false }
def FnExactCopyDoSaid : Prop := fnExactCopyDoRow.holds Try.pinned (OpenSpec.ofChange fnExactCopyDoSpec)

/-- ITS FALSE NEIGHBOUR: 'it returns false'. Refute it at one input. -/
def fnExactCopyDoWrong : ChangeSpec := { name := "fnExactCopyDo", fn := fun _ => fun
  | [d1, d2] => { results := [.lit (.bool false)], args := [d1, d2] }
  | _ => none }
def FnExactCopyDoWrongFalsely : Prop := fnExactCopyDoRow.holds Try.pinned (OpenSpec.ofChange fnExactCopyDoWrong)

/-- 'laws.FnExactCopyOf': WHATEVER THE INPUT: true; the input reads as it did. -/
def fnExactCopyOfSpec : ChangeSpec := { name := "fnExactCopyOf", fn := fun _ => fun
  | [d1, d2] => { results := [.lit (.bool true)], args := [d1, d2] }
  | _ => none }
def fnExactCopyOfRow : OpenClaim := { program := "ythbijcdnjgfndaa", sum := "a79e954b758d2034c415042b66480aff2f7d5e3fccc0992ec2e4dabf2a8589b0", func := "loop.example/g00688/laws.FnExactCopyOf", spec := "fnExactCopyOf", unfollowed := true, recurses := true, apart := false }
def FnExactCopyOfSaid : Prop := fnExactCopyOfRow.holds Try.pinned (OpenSpec.ofChange fnExactCopyOfSpec)

/-- ITS FALSE NEIGHBOUR: 'it returns false'. Refute it at one input. -/
def fnExactCopyOfWrong : ChangeSpec := { name := "fnExactCopyOf", fn := fun _ => fun
  | [d1, d2] => { results := [.lit (.bool false)], args := [d1, d2] }
  | _ => none }
def FnExactCopyOfWrongFalsely : Prop := fnExactCopyOfRow.holds Try.pinned (OpenSpec.ofChange fnExactCopyOfWrong)

/-- 'laws.FnDeltas': WHATEVER THE INPUT: true; the input reads as it did. -/
def fnDeltasSpec : ChangeSpec := { name := "fnDeltas", fn := fun _ => fun
  | [d] => { results := [.lit (.bool true)], args := [d] }
  | _ => none }
def fnDeltasRow : OpenClaim := { program := "ythbijcdnjgfndaa", sum := "a79e954b758d2034c415042b66480aff2f7d5e3fccc0992ec2e4dabf2a8589b0", func := "loop.example/g00688/laws.FnDeltas", spec := "fnDeltas", unfollowed := true, recurses := true, apart := false }
def FnDeltasSaid : Prop := fnDeltasRow.holds Try.pinned (OpenSpec.ofChange fnDeltasSpec)

/-- ITS FALSE NEIGHBOUR: 'it returns false'. Refute it at one input. -/
def fnDeltasWrong : ChangeSpec := { name := "fnDeltas", fn := fun _ => fun
  | [d] => { results := [.lit (.bool false)], args := [d] }
  | _ => none }
def FnDeltasWrongFalsely : Prop := fnDeltasRow.holds Try.pinned (OpenSpec.ofChange fnDeltasWrong)

/-- 'laws.FnExactBitsBytes': WHATEVER THE INPUT: true; the input reads as it did. -/
def fnExactBitsBytesSpec : ChangeSpec := { name := "fnExactBitsBytes", fn := fun _ => fun
  | [d] => { results := [.lit (.bool true)], args := [d] }
  | _ => none }
def fnExactBitsBytesRow : OpenClaim := { program := "ythbijcdnjgfndaa", sum := "a79e954b758d2034c415042b66480aff2f7d5e3fccc0992ec2e4dabf2a8589b0", func := "loop.example/g00688/laws.FnExactBitsBytes", spec := "fnExactBitsBytes", apart := false }
def FnExactBitsBytesSaid : Prop := fnExactBitsBytesRow.holds Try.pinned (OpenSpec.ofChange fnExactBitsBytesSpec)

/-- ITS FALSE NEIGHBOUR: 'it returns false'. Refute it at one input. -/
def fnExactBitsBytesWrong : ChangeSpec := { name := "fnExactBitsBytes", fn := fun _ => fun
  | [d] => { results := [.lit (.bool false)], args := [d] }
  | _ => none }
def FnExactBitsBytesWrongFalsely : Prop := fnExactBitsBytesRow.holds Try.pinned (OpenSpec.ofChange fnExactBitsBytesWrong)

/-- 'laws.FnCopyBack': WHATEVER THE INPUT: true; the input reads as it did. -/
def fnCopyBackSpec : ChangeSpec := { name := "fnCopyBack", fn := fun _ => fun
  | [d] => { results := [.lit (.bool true)], args := [d] }
  | _ => none }
def fnCopyBackRow : OpenClaim := { program := "ythbijcdnjgfndaa", sum := "a79e954b758d2034c415042b66480aff2f7d5e3fccc0992ec2e4dabf2a8589b0", func := "loop.example/g00688/laws.FnCopyBack", spec := "fnCopyBack", unfollowed := true, recurses := true, apart := false }
def FnCopyBackSaid : Prop := fnCopyBackRow.holds Try.pinned (OpenSpec.ofChange fnCopyBackSpec)

/-- ITS FALSE NEIGHBOUR: 'it returns false'. Refute it at one input. -/
def fnCopyBackWrong : ChangeSpec := { name := "fnCopyBack", fn := fun _ => fun
  | [d] => { results := [.lit (.bool false)], args := [d] }
  | _ => none }
def FnCopyBackWrongFalsely : Prop := fnCopyBackRow.holds Try.pinned (OpenSpec.ofChange fnCopyBackWrong)

/-- 'laws.FnCopyFew': WHATEVER THE INPUT: true; the input reads as it did. -/
def fnCopyFewSpec : ChangeSpec := { name := "fnCopyFew", fn := fun _ => fun
  | [d] => { results := [.lit (.bool true)], args := [d] }
  | _ => none }
def fnCopyFewRow : OpenClaim := { program := "ythbijcdnjgfndaa", sum := "a79e954b758d2034c415042b66480aff2f7d5e3fccc0992ec2e4dabf2a8589b0", func := "loop.example/g00688/laws.FnCopyFew", spec := "fnCopyFew", unfollowed := true, recurses := true, apart := false }
def FnCopyFewSaid : Prop := fnCopyFewRow.holds Try.pinned (OpenSpec.ofChange fnCopyFewSpec)

/-- ITS FALSE NEIGHBOUR: 'it returns false'. Refute it at one input. -/
def fnCopyFewWrong : ChangeSpec := { name := "fnCopyFew", fn := fun _ => fun
  | [d] => { results := [.lit (.bool false)], args := [d] }
  | _ => none }
def FnCopyFewWrongFalsely : Prop := fnCopyFewRow.holds Try.pinned (OpenSpec.ofChange fnCopyFewWrong)

/-- 'laws.FnExactBitsRead': WHATEVER THE INPUT: true; the input reads as it did. -/
def fnExactBitsReadSpec : ChangeSpec := { name := "fnExactBitsRead", fn := fun _ => fun
  | [d1, d2] => { results := [.lit (.bool true)], args := [d1, d2] }
  | _ => none }
def fnExactBitsReadRow : OpenClaim := { program := "ythbijcdnjgfndaa", sum := "a79e954b758d2034c415042b66480aff2f7d5e3fccc0992ec2e4dabf2a8589b0", func := "loop.example/g00688/laws.FnExactBitsRead", spec := "fnExactBitsRead", apart := false }
def FnExactBitsReadSaid : Prop := fnExactBitsReadRow.holds Try.pinned (OpenSpec.ofChange fnExactBitsReadSpec)

/-- ITS FALSE NEIGHBOUR: 'it returns false'. Refute it at one input. -/
def fnExactBitsReadWrong : ChangeSpec := { name := "fnExactBitsRead", fn := fun _ => fun
  | [d1, d2] => { results := [.lit (.bool false)], args := [d1, d2] }
  | _ => none }
def FnExactBitsReadWrongFalsely : Prop := fnExactBitsReadRow.holds Try.pinned (OpenSpec.ofChange fnExactBitsReadWrong)

/-- 'laws.FnExactPackBytes': WHATEVER THE INPUT: true; the input reads as it did. -/
def fnExactPackBytesSpec : ChangeSpec := { name := "fnExactPackBytes", fn := fun _ => fun
  | [d] => { results := [.lit (.bool true)], args := [d] }
  | _ => none }
def fnExactPackBytesRow : OpenClaim := { program := "ythbijcdnjgfndaa", sum := "a79e954b758d2034c415042b66480aff2f7d5e3fccc0992ec2e4dabf2a8589b0", func := "loop.example/g00688/laws.FnExactPackBytes", spec := "fnExactPackBytes", apart := false }
def FnExactPackBytesSaid : Prop := fnExactPackBytesRow.holds Try.pinned (OpenSpec.ofChange fnExactPackBytesSpec)

/-- ITS FALSE NEIGHBOUR: 'it returns false'. Refute it at one input. -/
def fnExactPackBytesWrong : ChangeSpec := { name := "fnExactPackBytes", fn := fun _ => fun
  | [d] => { results := [.lit (.bool false)], args := [d] }
  | _ => none }
def FnExactPackBytesWrongFalsely : Prop := fnExactPackBytesRow.holds Try.pinned (OpenSpec.ofChange fnExactPackBytesWrong)

/-- 'laws.FnExactPackRead': WHATEVER THE INPUT: true; the input reads as it did. -/
def fnExactPackReadSpec : ChangeSpec := { name := "fnExactPackRead", fn := fun _ => fun
  | [d1, d2] => { results := [.lit (.bool true)], args := [d1, d2] }
  | _ => none }
def fnExactPackReadRow : OpenClaim := { program := "ythbijcdnjgfndaa", sum := "a79e954b758d2034c415042b66480aff2f7d5e3fccc0992ec2e4dabf2a8589b0", func := "loop.example/g00688/laws.FnExactPackRead", spec := "fnExactPackRead", apart := false }
def FnExactPackReadSaid : Prop := fnExactPackReadRow.holds Try.pinned (OpenSpec.ofChange fnExactPackReadSpec)

/-- ITS FALSE NEIGHBOUR: 'it returns false'. Refute it at one input. -/
def fnExactPackReadWrong : ChangeSpec := { name := "fnExactPackRead", fn := fun _ => fun
  | [d1, d2] => { results := [.lit (.bool false)], args := [d1, d2] }
  | _ => none }
def FnExactPackReadWrongFalsely : Prop := fnExactPackReadRow.holds Try.pinned (OpenSpec.ofChange fnExactPackReadWrong)

/- THE SECOND FORM. 'bulk': how many values and letters a reading holds, each counted each time it is reached (what is shared counts as often as it is met; a slice's spare places count too). A statement '..UptoSaid' is the law's where the arguments, and the package variables that the reading takes, are together of bulk at most 1048576: NARROWER than '..Said'. Prove '..Said' where nothing that the law and all that it calls make is longer than what came in: it says more and counts as full. Else prove '..UptoSaid'. A law counts once. -/
mutual
def uptoBulk {H : Type} : DataW H → Nat
  | .lit (.string bytes) => bytes.length + 1
  | .lit _ => 1
  | .nil => 1
  | .ptr d => uptoBulk d + 1
  | .slice elems spare => uptoBulkAll elems + uptoBulkAll spare + 1
  | .agg parts => uptoBulkAll parts + 1
  | .iface _ d => uptoBulk d + 1
  | .map entries => uptoBulkEntries entries + 1
  | .held _ => 1
def uptoBulkAll {H : Type} : List (DataW H) → Nat
  | [] => 0
  | d :: r => uptoBulk d + uptoBulkAll r
def uptoBulkEntries {H : Type} : List (Lit × DataW H) → Nat
  | [] => 0
  | x :: r => uptoBulkEntry x + uptoBulkEntries r
def uptoBulkEntry {H : Type} : Lit × DataW H → Nat
  | (.string bytes, d) => bytes.length + uptoBulk d + 1
  | (_, d) => uptoBulk d + 1
 end
def uptoSmall : (H : Type) → List (DataW H) → Bool := fun _ ds => decide (uptoBulkAll ds ≤ 1048576)
def OpenSpec.upto (s : _root_.Go.ChangeSpec) : _root_.Go.OpenSpec := { _root_.Go.OpenSpec.ofChange s with cond := some uptoSmall }

/-- 'laws.FnExactUndelta', WHERE WHAT IT READS IS OF BULK AT MOST 1048576: true; the input reads as it did. -/
def fnExactUndeltaUptoRow : OpenClaim := { program := "ythbijcdnjgfndaa", sum := "a79e954b758d2034c415042b66480aff2f7d5e3fccc0992ec2e4dabf2a8589b0", func := "loop.example/g00688/laws.FnExactUndelta", spec := "fnExactUndelta", unfollowed := true, recurses := true, apart := false, narrowed := true }
def FnExactUndeltaUptoSaid : Prop := fnExactUndeltaUptoRow.holds Try.pinned (OpenSpec.upto fnExactUndeltaSpec)

/-- 'laws.FnExactDeltas', WHERE WHAT IT READS IS OF BULK AT MOST 1048576: true; the input reads as it did. -/
def fnExactDeltasUptoRow : OpenClaim := { program := "ythbijcdnjgfndaa", sum := "a79e954b758d2034c415042b66480aff2f7d5e3fccc0992ec2e4dabf2a8589b0", func := "loop.example/g00688/laws.FnExactDeltas", spec := "fnExactDeltas", unfollowed := true, recurses := true, apart := false, narrowed := true }
def FnExactDeltasUptoSaid : Prop := fnExactDeltasUptoRow.holds Try.pinned (OpenSpec.upto fnExactDeltasSpec)

/-- 'laws.FnExactCopyAt', WHERE WHAT IT READS IS OF BULK AT MOST 1048576: true; the input reads as it did. -/
def fnExactCopyAtUptoRow : OpenClaim := { program := "ythbijcdnjgfndaa", sum := "a79e954b758d2034c415042b66480aff2f7d5e3fccc0992ec2e4dabf2a8589b0", func := "loop.example/g00688/laws.FnExactCopyAt", spec := "fnExactCopyAt", unfollowed := true, recurses := true, apart := false, narrowed := true }
def FnExactCopyAtUptoSaid : Prop := fnExactCopyAtUptoRow.holds Try.pinned (OpenSpec.upto fnExactCopyAtSpec)

/-- 'laws.FnExactCopyDo', WHERE WHAT IT READS IS OF BULK AT MOST 1048576: true; the input reads as it did. -/
def fnExactCopyDoUptoRow : OpenClaim := { program := "ythbijcdnjgfndaa", sum := "a79e954b758d2034c415042b66480aff2f7d5e3fccc0992ec2e4dabf2a8589b0", func := "loop.example/g00688/laws.FnExactCopyDo", spec := "fnExactCopyDo", unfollowed := true, recurses := true, apart := false, narrowed := true }
def FnExactCopyDoUptoSaid : Prop := fnExactCopyDoUptoRow.holds Try.pinned (OpenSpec.upto fnExactCopyDoSpec)

/-- 'laws.FnExactCopyOf', WHERE WHAT IT READS IS OF BULK AT MOST 1048576: true; the input reads as it did. -/
def fnExactCopyOfUptoRow : OpenClaim := { program := "ythbijcdnjgfndaa", sum := "a79e954b758d2034c415042b66480aff2f7d5e3fccc0992ec2e4dabf2a8589b0", func := "loop.example/g00688/laws.FnExactCopyOf", spec := "fnExactCopyOf", unfollowed := true, recurses := true, apart := false, narrowed := true }
def FnExactCopyOfUptoSaid : Prop := fnExactCopyOfUptoRow.holds Try.pinned (OpenSpec.upto fnExactCopyOfSpec)

/-- 'laws.FnDeltas', WHERE WHAT IT READS IS OF BULK AT MOST 1048576: true; the input reads as it did. -/
def fnDeltasUptoRow : OpenClaim := { program := "ythbijcdnjgfndaa", sum := "a79e954b758d2034c415042b66480aff2f7d5e3fccc0992ec2e4dabf2a8589b0", func := "loop.example/g00688/laws.FnDeltas", spec := "fnDeltas", unfollowed := true, recurses := true, apart := false, narrowed := true }
def FnDeltasUptoSaid : Prop := fnDeltasUptoRow.holds Try.pinned (OpenSpec.upto fnDeltasSpec)

/-- 'laws.FnExactBitsBytes', WHERE WHAT IT READS IS OF BULK AT MOST 1048576: true; the input reads as it did. -/
def fnExactBitsBytesUptoRow : OpenClaim := { program := "ythbijcdnjgfndaa", sum := "a79e954b758d2034c415042b66480aff2f7d5e3fccc0992ec2e4dabf2a8589b0", func := "loop.example/g00688/laws.FnExactBitsBytes", spec := "fnExactBitsBytes", apart := false, narrowed := true }
def FnExactBitsBytesUptoSaid : Prop := fnExactBitsBytesUptoRow.holds Try.pinned (OpenSpec.upto fnExactBitsBytesSpec)

/-- 'laws.FnCopyBack', WHERE WHAT IT READS IS OF BULK AT MOST 1048576: true; the input reads as it did. -/
def fnCopyBackUptoRow : OpenClaim := { program := "ythbijcdnjgfndaa", sum := "a79e954b758d2034c415042b66480aff2f7d5e3fccc0992ec2e4dabf2a8589b0", func := "loop.example/g00688/laws.FnCopyBack", spec := "fnCopyBack", unfollowed := true, recurses := true, apart := false, narrowed := true }
def FnCopyBackUptoSaid : Prop := fnCopyBackUptoRow.holds Try.pinned (OpenSpec.upto fnCopyBackSpec)

/-- 'laws.FnCopyFew', WHERE WHAT IT READS IS OF BULK AT MOST 1048576: true; the input reads as it did. -/
def fnCopyFewUptoRow : OpenClaim := { program := "ythbijcdnjgfndaa", sum := "a79e954b758d2034c415042b66480aff2f7d5e3fccc0992ec2e4dabf2a8589b0", func := "loop.example/g00688/laws.FnCopyFew", spec := "fnCopyFew", unfollowed := true, recurses := true, apart := false, narrowed := true }
def FnCopyFewUptoSaid : Prop := fnCopyFewUptoRow.holds Try.pinned (OpenSpec.upto fnCopyFewSpec)

/-- 'laws.FnExactBitsRead', WHERE WHAT IT READS IS OF BULK AT MOST 1048576: true; the input reads as it did. -/
def fnExactBitsReadUptoRow : OpenClaim := { program := "ythbijcdnjgfndaa", sum := "a79e954b758d2034c415042b66480aff2f7d5e3fccc0992ec2e4dabf2a8589b0", func := "loop.example/g00688/laws.FnExactBitsRead", spec := "fnExactBitsRead", apart := false, narrowed := true }
def FnExactBitsReadUptoSaid : Prop := fnExactBitsReadUptoRow.holds Try.pinned (OpenSpec.upto fnExactBitsReadSpec)

/-- 'laws.FnExactPackBytes', WHERE WHAT IT READS IS OF BULK AT MOST 1048576: true; the input reads as it did. -/
def fnExactPackBytesUptoRow : OpenClaim := { program := "ythbijcdnjgfndaa", sum := "a79e954b758d2034c415042b66480aff2f7d5e3fccc0992ec2e4dabf2a8589b0", func := "loop.example/g00688/laws.FnExactPackBytes", spec := "fnExactPackBytes", apart := false, narrowed := true }
def FnExactPackBytesUptoSaid : Prop := fnExactPackBytesUptoRow.holds Try.pinned (OpenSpec.upto fnExactPackBytesSpec)

/-- 'laws.FnExactPackRead', WHERE WHAT IT READS IS OF BULK AT MOST 1048576: true; the input reads as it did. -/
def fnExactPackReadUptoRow : OpenClaim := { program := "ythbijcdnjgfndaa", sum := "a79e954b758d2034c415042b66480aff2f7d5e3fccc0992ec2e4dabf2a8589b0", func := "loop.example/g00688/laws.FnExactPackRead", spec := "fnExactPackRead", apart := false, narrowed := true }
def FnExactPackReadUptoSaid : Prop := fnExactPackReadUptoRow.holds Try.pinned (OpenSpec.upto fnExactPackReadSpec)

end Rows
end Go.Proofs.Ythbijcdnjgfndaa
