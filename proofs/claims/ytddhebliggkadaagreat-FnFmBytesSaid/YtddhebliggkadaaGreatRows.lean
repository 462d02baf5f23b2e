/-
  No cell of these rows narrows 'for every input' (looked for: loops, veiled, ifaces, maps, wideKeys, modest, calm, conditions, laid).
  DERIVED. THE GIVEN ROWS OF THIS SEAT. 12 by the template 'for every input the law returns true; each argument reads behind the call as it read before'; 0 by the template 'total and deterministic' (their statements: YtddhebliggkadaaGreatTotals.lean).
  GIVEN WITH THE SEED: the statements are not yours to turn. If you find one false, say at which input.
  Laid BY PROGRAM, IN A SANDBOX (cutbox-rows.mjs): the forced cells as the released guide's own fill.sh prints them over the translation ece38e71e884d120… (all of the seat's roots in one cut). By AI agents, Wed Nov 11 2026. No macro, syntax, notation, axiom, sorry.
-/
import Derived.Test.YtddhebliggkadaaGreatChecked
import GoSem.Claim
import GoSem.ClaimJoined
import GoSem.ClaimMapViews
import Derived.JoinedTies
import Derived.KernelRfl
namespace Go.Proofs.YtddhebliggkadaaGreat
/- THE CELL 'sum', in the pinned program and in every row, IS THE sha256 OF THE DUMP (.gsa) THAT YtddhebliggkadaaGreatProg.lean LOADS. Nothing in Lean hashes anything: it is a label: what it is worth is what the hold of that sum in a sandbox is worth. -/
noncomputable def Tryz.pinned : Pinned := { name := "ytddhebliggkadaagreat", sum := "ece38e71e884d12028f18c09d2156204c1ed0f1c862043702f00b84aa1ee25ef", checked := Tryz.checked }
namespace Rows
def none {H : Type} : Left H := { results := [], args := [] }

/-- 'laws.FnFmSplit': WHATEVER THE INPUT: true; the input reads as it did. -/
def fnFmSplitSpec : ChangeSpec := { name := "fnFmSplit", fn := fun _ => fun
  | [d] => { results := [.lit (.bool true)], args := [d] }
  | _ => none }
def fnFmSplitRow : OpenClaim := { program := "ytddhebliggkadaagreat", sum := "ece38e71e884d12028f18c09d2156204c1ed0f1c862043702f00b84aa1ee25ef", func := "loop.example/g00688/laws.FnFmSplit", spec := "fnFmSplit", inPlace := ["internal/bytealg.Compare"], unfollowed := true, recurses := true, apart := false }
def FnFmSplitSaid : Prop := fnFmSplitRow.holds Tryz.pinned (OpenSpec.ofChange fnFmSplitSpec)

/-- ITS FALSE NEIGHBOUR: 'it returns false'. Refute it at one input. -/
def fnFmSplitWrong : ChangeSpec := { name := "fnFmSplit", fn := fun _ => fun
  | [d] => { results := [.lit (.bool false)], args := [d] }
  | _ => none }
def FnFmSplitWrongFalsely : Prop := fnFmSplitRow.holds Tryz.pinned (OpenSpec.ofChange fnFmSplitWrong)

/-- 'laws.FnFmWalk': WHATEVER THE INPUT: true; the input reads as it did. -/
def fnFmWalkSpec : ChangeSpec := { name := "fnFmWalk", fn := fun _ => fun
  | [d] => { results := [.lit (.bool true)], args := [d] }
  | _ => none }
def fnFmWalkRow : OpenClaim := { program := "ytddhebliggkadaagreat", sum := "ece38e71e884d12028f18c09d2156204c1ed0f1c862043702f00b84aa1ee25ef", func := "loop.example/g00688/laws.FnFmWalk", spec := "fnFmWalk", inPlace := ["internal/bytealg.Compare"], unfollowed := true, recurses := true, apart := false }
def FnFmWalkSaid : Prop := fnFmWalkRow.holds Tryz.pinned (OpenSpec.ofChange fnFmWalkSpec)

/-- ITS FALSE NEIGHBOUR: 'it returns false'. Refute it at one input. -/
def fnFmWalkWrong : ChangeSpec := { name := "fnFmWalk", fn := fun _ => fun
  | [d] => { results := [.lit (.bool false)], args := [d] }
  | _ => none }
def FnFmWalkWrongFalsely : Prop := fnFmWalkRow.holds Tryz.pinned (OpenSpec.ofChange fnFmWalkWrong)

/-- 'laws.FnExactFmLf': WHATEVER THE INPUT: true; the input reads as it did. -/
def fnExactFmLfSpec : ChangeSpec := { name := "fnExactFmLf", fn := fun _ => fun
  | [d1, d2] => { results := [.lit (.bool true)], args := [d1, d2] }
  | _ => none }
def fnExactFmLfRow : OpenClaim := { program := "ytddhebliggkadaagreat", sum := "ece38e71e884d12028f18c09d2156204c1ed0f1c862043702f00b84aa1ee25ef", func := "loop.example/g00688/laws.FnExactFmLf", spec := "fnExactFmLf", inPlace := ["internal/bytealg.Compare"], unfollowed := true, recurses := true, apart := false }
def FnExactFmLfSaid : Prop := fnExactFmLfRow.holds Tryz.pinned (OpenSpec.ofChange fnExactFmLfSpec)

/-- ITS FALSE NEIGHBOUR: 'it returns false'. Refute it at one input. -/
def fnExactFmLfWrong : ChangeSpec := { name := "fnExactFmLf", fn := fun _ => fun
  | [d1, d2] => { results := [.lit (.bool false)], args := [d1, d2] }
  | _ => none }
def FnExactFmLfWrongFalsely : Prop := fnExactFmLfRow.holds Tryz.pinned (OpenSpec.ofChange fnExactFmLfWrong)

/-- 'laws.FnExactFmSa': WHATEVER THE INPUT: true; the input reads as it did. -/
def fnExactFmSaSpec : ChangeSpec := { name := "fnExactFmSa", fn := fun _ => fun
  | [d1, d2] => { results := [.lit (.bool true)], args := [d1, d2] }
  | _ => none }
def fnExactFmSaRow : OpenClaim := { program := "ytddhebliggkadaagreat", sum := "ece38e71e884d12028f18c09d2156204c1ed0f1c862043702f00b84aa1ee25ef", func := "loop.example/g00688/laws.FnExactFmSa", spec := "fnExactFmSa", inPlace := ["internal/bytealg.Compare"], unfollowed := true, recurses := true, apart := false }
def FnExactFmSaSaid : Prop := fnExactFmSaRow.holds Tryz.pinned (OpenSpec.ofChange fnExactFmSaSpec)

/-- ITS FALSE NEIGHBOUR: 'it returns false'. Refute it at one input. -/
def fnExactFmSaWrong : ChangeSpec := { name := "fnExactFmSa", fn := fun _ => fun
  | [d1, d2] => { results := [.lit (.bool false)], args := [d1, d2] }
  | _ => none }
def FnExactFmSaWrongFalsely : Prop := fnExactFmSaRow.holds Tryz.pinned (OpenSpec.ofChange fnExactFmSaWrong)

/-- 'laws.FnExactFmIsa': WHATEVER THE INPUT: true; the input reads as it did. -/
def fnExactFmIsaSpec : ChangeSpec := { name := "fnExactFmIsa", fn := fun _ => fun
  | [d1, d2] => { results := [.lit (.bool true)], args := [d1, d2] }
  | _ => none }
def fnExactFmIsaRow : OpenClaim := { program := "ytddhebliggkadaagreat", sum := "ece38e71e884d12028f18c09d2156204c1ed0f1c862043702f00b84aa1ee25ef", func := "loop.example/g00688/laws.FnExactFmIsa", spec := "fnExactFmIsa", inPlace := ["internal/bytealg.Compare"], unfollowed := true, recurses := true, apart := false }
def FnExactFmIsaSaid : Prop := fnExactFmIsaRow.holds Tryz.pinned (OpenSpec.ofChange fnExactFmIsaSpec)

/-- ITS FALSE NEIGHBOUR: 'it returns false'. Refute it at one input. -/
def fnExactFmIsaWrong : ChangeSpec := { name := "fnExactFmIsa", fn := fun _ => fun
  | [d1, d2] => { results := [.lit (.bool false)], args := [d1, d2] }
  | _ => none }
def FnExactFmIsaWrongFalsely : Prop := fnExactFmIsaRow.holds Tryz.pinned (OpenSpec.ofChange fnExactFmIsaWrong)

/-- 'laws.FnExactFmHops': WHATEVER THE INPUT: true; the input reads as it did. -/
def fnExactFmHopsSpec : ChangeSpec := { name := "fnExactFmHops", fn := fun _ => fun
  | [d1, d2] => { results := [.lit (.bool true)], args := [d1, d2] }
  | _ => none }
def fnExactFmHopsRow : OpenClaim := { program := "ytddhebliggkadaagreat", sum := "ece38e71e884d12028f18c09d2156204c1ed0f1c862043702f00b84aa1ee25ef", func := "loop.example/g00688/laws.FnExactFmHops", spec := "fnExactFmHops", inPlace := ["internal/bytealg.Compare"], unfollowed := true, recurses := true, apart := false }
def FnExactFmHopsSaid : Prop := fnExactFmHopsRow.holds Tryz.pinned (OpenSpec.ofChange fnExactFmHopsSpec)

/-- ITS FALSE NEIGHBOUR: 'it returns false'. Refute it at one input. -/
def fnExactFmHopsWrong : ChangeSpec := { name := "fnExactFmHops", fn := fun _ => fun
  | [d1, d2] => { results := [.lit (.bool false)], args := [d1, d2] }
  | _ => none }
def FnExactFmHopsWrongFalsely : Prop := fnExactFmHopsRow.holds Tryz.pinned (OpenSpec.ofChange fnExactFmHopsWrong)

/-- 'laws.FnExactFmRows': WHATEVER THE INPUT: true; the input reads as it did. -/
def fnExactFmRowsSpec : ChangeSpec := { name := "fnExactFmRows", fn := fun _ => fun
  | [d1, d2] => { results := [.lit (.bool true)], args := [d1, d2] }
  | _ => none }
def fnExactFmRowsRow : OpenClaim := { program := "ytddhebliggkadaagreat", sum := "ece38e71e884d12028f18c09d2156204c1ed0f1c862043702f00b84aa1ee25ef", func := "loop.example/g00688/laws.FnExactFmRows", spec := "fnExactFmRows", inPlace := ["internal/bytealg.Compare"], unfollowed := true, recurses := true, apart := false }
def FnExactFmRowsSaid : Prop := fnExactFmRowsRow.holds Tryz.pinned (OpenSpec.ofChange fnExactFmRowsSpec)

/-- ITS FALSE NEIGHBOUR: 'it returns false'. Refute it at one input. -/
def fnExactFmRowsWrong : ChangeSpec := { name := "fnExactFmRows", fn := fun _ => fun
  | [d1, d2] => { results := [.lit (.bool false)], args := [d1, d2] }
  | _ => none }
def FnExactFmRowsWrongFalsely : Prop := fnExactFmRowsRow.holds Tryz.pinned (OpenSpec.ofChange fnExactFmRowsWrong)

/-- 'laws.FnExactFmText': WHATEVER THE INPUT: true; the input reads as it did. -/
def fnExactFmTextSpec : ChangeSpec := { name := "fnExactFmText", fn := fun _ => fun
  | [d] => { results := [.lit (.bool true)], args := [d] }
  | _ => none }
def fnExactFmTextRow : OpenClaim := { program := "ytddhebliggkadaagreat", sum := "ece38e71e884d12028f18c09d2156204c1ed0f1c862043702f00b84aa1ee25ef", func := "loop.example/g00688/laws.FnExactFmText", spec := "fnExactFmText", inPlace := ["internal/bytealg.Compare"], unfollowed := true, recurses := true, apart := false }
def FnExactFmTextSaid : Prop := fnExactFmTextRow.holds Tryz.pinned (OpenSpec.ofChange fnExactFmTextSpec)

/-- ITS FALSE NEIGHBOUR: 'it returns false'. Refute it at one input. -/
def fnExactFmTextWrong : ChangeSpec := { name := "fnExactFmText", fn := fun _ => fun
  | [d] => { results := [.lit (.bool false)], args := [d] }
  | _ => none }
def FnExactFmTextWrongFalsely : Prop := fnExactFmTextRow.holds Tryz.pinned (OpenSpec.ofChange fnExactFmTextWrong)

/-- 'laws.FnExactFmExtract': WHATEVER THE INPUT: true; the input reads as it did. -/
def fnExactFmExtractSpec : ChangeSpec := { name := "fnExactFmExtract", fn := fun _ => fun
  | [d1, d2, d3] => { results := [.lit (.bool true)], args := [d1, d2, d3] }
  | _ => none }
def fnExactFmExtractRow : OpenClaim := { program := "ytddhebliggkadaagreat", sum := "ece38e71e884d12028f18c09d2156204c1ed0f1c862043702f00b84aa1ee25ef", func := "loop.example/g00688/laws.FnExactFmExtract", spec := "fnExactFmExtract", inPlace := ["internal/bytealg.Compare"], unfollowed := true, recurses := true, apart := false }
def FnExactFmExtractSaid : Prop := fnExactFmExtractRow.holds Tryz.pinned (OpenSpec.ofChange fnExactFmExtractSpec)

/-- ITS FALSE NEIGHBOUR: 'it returns false'. Refute it at one input. -/
def fnExactFmExtractWrong : ChangeSpec := { name := "fnExactFmExtract", fn := fun _ => fun
  | [d1, d2, d3] => { results := [.lit (.bool false)], args := [d1, d2, d3] }
  | _ => none }
def FnExactFmExtractWrongFalsely : Prop := fnExactFmExtractRow.holds Tryz.pinned (OpenSpec.ofChange fnExactFmExtractWrong)

/-- 'laws.FnExactFmLocate': WHATEVER THE INPUT: true; the input reads as it did. -/
def fnExactFmLocateSpec : ChangeSpec := { name := "fnExactFmLocate", fn := fun _ => fun
  | [d1, d2] => { results := [.lit (.bool true)], args := [d1, d2] }
  | _ => none }
def fnExactFmLocateRow : OpenClaim := { program := "ytddhebliggkadaagreat", sum := "ece38e71e884d12028f18c09d2156204c1ed0f1c862043702f00b84aa1ee25ef", func := "loop.example/g00688/laws.FnExactFmLocate", spec := "fnExactFmLocate", inPlace := ["internal/bytealg.Compare"], unfollowed := true, recurses := true, apart := false }
def FnExactFmLocateSaid : Prop := fnExactFmLocateRow.holds Tryz.pinned (OpenSpec.ofChange fnExactFmLocateSpec)

/-- ITS FALSE NEIGHBOUR: 'it returns false'. Refute it at one input. -/
def fnExactFmLocateWrong : ChangeSpec := { name := "fnExactFmLocate", fn := fun _ => fun
  | [d1, d2] => { results := [.lit (.bool false)], args := [d1, d2] }
  | _ => none }
def FnExactFmLocateWrongFalsely : Prop := fnExactFmLocateRow.holds Tryz.pinned (OpenSpec.ofChange fnExactFmLocateWrong)

/-- 'laws.FnFmBytes': WHATEVER THE INPUT: true; the input reads as it did. -/
def fnFmBytesSpec : ChangeSpec := { name := "fnFmBytes", fn := fun _ => fun
  | [d] => { results := [.lit (.bool true)], args := [d] }
  | _ => none }
def fnFmBytesRow : OpenClaim := { program := "ytddhebliggkadaagreat", sum := "ece38e71e884d12028f18c09d2156204c1ed0f1c862043702f00b84aa1ee25ef", func := "loop.example/g00688/laws.FnFmBytes", spec := "fnFmBytes", inPlace := ["internal/bytealg.Compare"], unfollowed := true, recurses := true, apart := false }
def FnFmBytesSaid : Prop := fnFmBytesRow.holds Tryz.pinned (OpenSpec.ofChange fnFmBytesSpec)

/-- ITS FALSE NEIGHBOUR: 'it returns false'. Refute it at one input. -/
def fnFmBytesWrong : ChangeSpec := { name := "fnFmBytes", fn := fun _ => fun
  | [d] => { results := [.lit (.bool false)], args := [d] }
  | _ => none }
def FnFmBytesWrongFalsely : Prop := fnFmBytesRow.holds Tryz.pinned (OpenSpec.ofChange fnFmBytesWrong)

/-- 'laws.FnExactFmBytes': WHATEVER THE INPUT: true; the input reads as it did. -/
def fnExactFmBytesSpec : ChangeSpec := { name := "fnExactFmBytes", fn := fun _ => fun
  | [d] => { results := [.lit (.bool true)], args := [d] }
  | _ => none }
def fnExactFmBytesRow : OpenClaim := { program := "ytddhebliggkadaagreat", sum := "ece38e71e884d12028f18c09d2156204c1ed0f1c862043702f00b84aa1ee25ef", func := "loop.example/g00688/laws.FnExactFmBytes", spec := "fnExactFmBytes", inPlace := ["internal/bytealg.Compare"], unfollowed := true, recurses := true, apart := false }
def FnExactFmBytesSaid : Prop := fnExactFmBytesRow.holds Tryz.pinned (OpenSpec.ofChange fnExactFmBytesSpec)

/-- ITS FALSE NEIGHBOUR: 'it returns false'. Refute it at one input. -/
def fnExactFmBytesWrong : ChangeSpec := { name := "fnExactFmBytes", fn := fun _ => fun
  | [d] => { results := [.lit (.bool false)], args := [d] }
  | _ => none }
def FnExactFmBytesWrongFalsely : Prop := fnExactFmBytesRow.holds Tryz.pinned (OpenSpec.ofChange fnExactFmBytesWrong)

/- THE SECOND FORM. 'bulk': how many values and letters a reading holds, each counted each time it is reached (what is shared counts as often as it is met; a slice's spare places count too). A statement '..UptoSaid' is the law's where the arguments, and the package variables that the reading takes, are together of bulk at most 1048576: NARROWER than '..Said'. Prove '..Said' where nothing that the law and all that it calls make is longer than what came in: it says more and counts as full. Else prove '..UptoSaid'. A law counts once. -/
mutual
def uptoBulk {H : Type} : DataW H → Nat
  | .lit (.string bytes) => bytes.length + 1
  | .lit _ => 1
  | .nil => 1
  | .ptr d => uptoBulk d + 1
  | .slice elems spare => uptoBulkAll elems + uptoBulkAll spare + 1
  | .agg parts => uptoBulkAll parts + 1
  | .iface _ d => uptoBulk d + 1
  | .map entries => uptoBulkEntries entries + 1
  | .held _ => 1
def uptoBulkAll {H : Type} : List (DataW H) → Nat
  | [] => 0
  | d :: r => uptoBulk d + uptoBulkAll r
def uptoBulkEntries {H : Type} : List (Lit × DataW H) → Nat
  | [] => 0
  | x :: r => uptoBulkEntry x + uptoBulkEntries r
def uptoBulkEntry {H : Type} : Lit × DataW H → Nat
  | (.string bytes, d) => bytes.length + uptoBulk d + 1
  | (_, d) => uptoBulk d + 1
 end
def uptoSmall : (H : Type) → List (DataW H) → Bool := fun _ ds => decide (uptoBulkAll ds ≤ 1048576)
def OpenSpec.upto (s : _root_.Go.ChangeSpec) : _root_.Go.OpenSpec := { _root_.Go.OpenSpec.ofChange s with cond := some uptoSmall }

/-- 'laws.FnFmSplit', WHERE WHAT IT READS IS OF BULK AT MOST 1048576: true; the input reads as it did. -/
def fnFmSplitUptoRow : OpenClaim := { program := "ytddhebliggkadaagreat", sum := "ece38e71e884d12028f18c09d2156204c1ed0f1c862043702f00b84aa1ee25ef", func := "loop.example/g00688/laws.FnFmSplit", spec := "fnFmSplit", inPlace := ["internal/bytealg.Compare"], unfollowed := true, recurses := true, apart := false, narrowed := true }
def FnFmSplitUptoSaid : Prop := fnFmSplitUptoRow.holds Tryz.pinned (OpenSpec.upto fnFmSplitSpec)

/-- 'laws.FnFmWalk', WHERE WHAT IT READS IS OF BULK AT MOST 1048576: true; the input reads as it did. -/
def fnFmWalkUptoRow : OpenClaim := { program := "ytddhebliggkadaagreat", sum := "ece38e71e884d12028f18c09d2156204c1ed0f1c862043702f00b84aa1ee25ef", func := "loop.example/g00688/laws.FnFmWalk", spec := "fnFmWalk", inPlace := ["internal/bytealg.Compare"], unfollowed := true, recurses := true, apart := false, narrowed := true }
def FnFmWalkUptoSaid : Prop := fnFmWalkUptoRow.holds Tryz.pinned (OpenSpec.upto fnFmWalkSpec)

/-- 'laws.FnExactFmLf', WHERE WHAT IT READS IS OF BULK AT MOST 1048576: true; the input reads as it did. -/
def fnExactFmLfUptoRow : OpenClaim := { program := "ytddhebliggkadaagreat", sum := "ece38e71e884d12028f18c09d2156204c1ed0f1c862043702f00b84aa1ee25ef", func := "loop.example/g00688/laws.FnExactFmLf", spec := "fnExactFmLf", inPlace := ["internal/bytealg.Compare"], unfollowed := true, recurses := true, apart := false, narrowed := true }
def FnExactFmLfUptoSaid : Prop := fnExactFmLfUptoRow.holds Tryz.pinned (OpenSpec.upto fnExactFmLfSpec)

/-- 'laws.FnExactFmSa', WHERE WHAT IT READS IS OF BULK AT MOST 1048576: true; the input reads as it did. -/
def fnExactFmSaUptoRow : OpenClaim := { program := "ytddhebliggkadaagreat", sum := "ece38e71e884d12028f18c09d2156204c1ed0f1c862043702f00b84aa1ee25ef", func := "loop.example/g00688/laws.FnExactFmSa", spec := "fnExactFmSa", inPlace := ["internal/bytealg.Compare"], unfollowed := true, recurses := true, apart := false, narrowed := true }
def FnExactFmSaUptoSaid : Prop := fnExactFmSaUptoRow.holds Tryz.pinned (OpenSpec.upto fnExactFmSaSpec)

/-- 'laws.FnExactFmIsa', WHERE WHAT IT READS IS OF BULK AT MOST 1048576: true; the input reads as it did. -/
def fnExactFmIsaUptoRow : OpenClaim := { program := "ytddhebliggkadaagreat", sum := "ece38e71e884d12028f18c09d2156204c1ed0f1c862043702f00b84aa1ee25ef", func := "loop.example/g00688/laws.FnExactFmIsa", spec := "fnExactFmIsa", inPlace := ["internal/bytealg.Compare"], unfollowed := true, recurses := true, apart := false, narrowed := true }
def FnExactFmIsaUptoSaid : Prop := fnExactFmIsaUptoRow.holds Tryz.pinned (OpenSpec.upto fnExactFmIsaSpec)

/-- 'laws.FnExactFmHops', WHERE WHAT IT READS IS OF BULK AT MOST 1048576: true; the input reads as it did. -/
def fnExactFmHopsUptoRow : OpenClaim := { program := "ytddhebliggkadaagreat", sum := "ece38e71e884d12028f18c09d2156204c1ed0f1c862043702f00b84aa1ee25ef", func := "loop.example/g00688/laws.FnExactFmHops", spec := "fnExactFmHops", inPlace := ["internal/bytealg.Compare"], unfollowed := true, recurses := true, apart := false, narrowed := true }
def FnExactFmHopsUptoSaid : Prop := fnExactFmHopsUptoRow.holds Tryz.pinned (OpenSpec.upto fnExactFmHopsSpec)

/-- 'laws.FnExactFmRows', WHERE WHAT IT READS IS OF BULK AT MOST 1048576: true; the input reads as it did. -/
def fnExactFmRowsUptoRow : OpenClaim := { program := "ytddhebliggkadaagreat", sum := "ece38e71e884d12028f18c09d2156204c1ed0f1c862043702f00b84aa1ee25ef", func := "loop.example/g00688/laws.FnExactFmRows", spec := "fnExactFmRows", inPlace := ["internal/bytealg.Compare"], unfollowed := true, recurses := true, apart := false, narrowed := true }
def FnExactFmRowsUptoSaid : Prop := fnExactFmRowsUptoRow.holds Tryz.pinned (OpenSpec.upto fnExactFmRowsSpec)

/-- 'laws.FnExactFmText', WHERE WHAT IT READS IS OF BULK AT MOST 1048576: true; the input reads as it did. -/
def fnExactFmTextUptoRow : OpenClaim := { program := "ytddhebliggkadaagreat", sum := "ece38e71e884d12028f18c09d2156204c1ed0f1c862043702f00b84aa1ee25ef", func := "loop.example/g00688/laws.FnExactFmText", spec := "fnExactFmText", inPlace := ["internal/bytealg.Compare"], unfollowed := true, recurses := true, apart := false, narrowed := true }
def FnExactFmTextUptoSaid : Prop := fnExactFmTextUptoRow.holds Tryz.pinned (OpenSpec.upto fnExactFmTextSpec)

/-- 'laws.FnExactFmExtract', WHERE WHAT IT READS IS OF BULK AT MOST 1048576: true; the input reads as it did. -/
def fnExactFmExtractUptoRow : OpenClaim := { program := "ytddhebliggkadaagreat", sum := "ece38e71e884d12028f18c09d2156204c1ed0f1c862043702f00b84aa1ee25ef", func := "loop.example/g00688/laws.FnExactFmExtract", spec := "fnExactFmExtract", inPlace := ["internal/bytealg.Compare"], unfollowed := true, recurses := true, apart := false, narrowed := true }
def FnExactFmExtractUptoSaid : Prop := fnExactFmExtractUptoRow.holds Tryz.pinned (OpenSpec.upto fnExactFmExtractSpec)

/-- 'laws.FnExactFmLocate', WHERE WHAT IT READS IS OF BULK AT MOST 1048576: true; the input reads as it did. -/
def fnExactFmLocateUptoRow : OpenClaim := { program := "ytddhebliggkadaagreat", sum := "ece38e71e884d12028f18c09d2156204c1ed0f1c862043702f00b84aa1ee25ef", func := "loop.example/g00688/laws.FnExactFmLocate", spec := "fnExactFmLocate", inPlace := ["internal/bytealg.Compare"], unfollowed := true, recurses := true, apart := false, narrowed := true }
def FnExactFmLocateUptoSaid : Prop := fnExactFmLocateUptoRow.holds Tryz.pinned (OpenSpec.upto fnExactFmLocateSpec)

/-- 'laws.FnFmBytes', WHERE WHAT IT READS IS OF BULK AT MOST 1048576: true; the input reads as it did. -/
def fnFmBytesUptoRow : OpenClaim := { program := "ytddhebliggkadaagreat", sum := "ece38e71e884d12028f18c09d2156204c1ed0f1c862043702f00b84aa1ee25ef", func := "loop.example/g00688/laws.FnFmBytes", spec := "fnFmBytes", inPlace := ["internal/bytealg.Compare"], unfollowed := true, recurses := true, apart := false, narrowed := true }
def FnFmBytesUptoSaid : Prop := fnFmBytesUptoRow.holds Tryz.pinned (OpenSpec.upto fnFmBytesSpec)

/-- 'laws.FnExactFmBytes', WHERE WHAT IT READS IS OF BULK AT MOST 1048576: true; the input reads as it did. -/
def fnExactFmBytesUptoRow : OpenClaim := { program := "ytddhebliggkadaagreat", sum := "ece38e71e884d12028f18c09d2156204c1ed0f1c862043702f00b84aa1ee25ef", func := "loop.example/g00688/laws.FnExactFmBytes", spec := "fnExactFmBytes", inPlace := ["internal/bytealg.Compare"], unfollowed := true, recurses := true, apart := false, narrowed := true }
def FnExactFmBytesUptoSaid : Prop := fnExactFmBytesUptoRow.holds Tryz.pinned (OpenSpec.upto fnExactFmBytesSpec)

end Rows
end Go.Proofs.YtddhebliggkadaaGreat
