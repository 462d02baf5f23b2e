/-
  No cell of these rows narrows 'for every input' (looked for: loops, veiled, ifaces, maps, wideKeys, modest, calm, conditions, laid).
  DERIVED. THE GIVEN ROWS OF THIS SEAT. 12 by the template 'for every input the law returns true; each argument reads behind the call as it read before'; 0 by the template 'total and deterministic' (their statements: YtcinoldiilbhmaaGreatTotals.lean).
  GIVEN WITH THE SEED: the statements are not yours to turn. If you find one false, say at which input.
  Laid BY PROGRAM, IN A SANDBOX (cutbox-rows.mjs): the forced cells as the released guide's own fill.sh prints them over the translation 689cfc2f022e79e9… (all of the seat's roots in one cut). By AI agents, Wed Nov 11 2026. No macro, syntax, notation, axiom, sorry.
-/
import Derived.Test.YtcinoldiilbhmaaGreatChecked
import GoSem.Claim
import GoSem.ClaimJoined
import GoSem.ClaimMapViews
import Derived.JoinedTies
import Derived.KernelRfl
namespace Go.Proofs.YtcinoldiilbhmaaGreat
/- THE CELL 'sum', in the pinned program and in every row, IS THE sha256 OF THE DUMP (.gsa) THAT YtcinoldiilbhmaaGreatProg.lean LOADS. Nothing in Lean hashes anything: it is a label: what it is worth is what the hold of that sum in a sandbox is worth. -/
noncomputable def Tryz.pinned : Pinned := { name := "ytcinoldiilbhmaagreat", sum := "689cfc2f022e79e9ac43cfa0ce1d343e9460b65b559b2828d12beedc6fd25d89", checked := Tryz.checked }
namespace Rows
def none {H : Type} : Left H := { results := [], args := [] }

/-- 'laws.FnExactRelSymbol': WHATEVER THE INPUT: true; the input reads as it did. -/
def fnExactRelSymbolSpec : ChangeSpec := { name := "fnExactRelSymbol", fn := fun _ => fun
  | [d1, d2, d3] => { results := [.lit (.bool true)], args := [d1, d2, d3] }
  | _ => none }
def fnExactRelSymbolRow : OpenClaim := { program := "ytcinoldiilbhmaagreat", sum := "689cfc2f022e79e9ac43cfa0ce1d343e9460b65b559b2828d12beedc6fd25d89", func := "loop.example/g00688/laws.FnExactRelSymbol", spec := "fnExactRelSymbol", inPlace := ["internal/bytealg.Compare"], unfollowed := true, recurses := true, apart := false }
def FnExactRelSymbolSaid : Prop := fnExactRelSymbolRow.holds Tryz.pinned (OpenSpec.ofChange fnExactRelSymbolSpec)

/-- ITS FALSE NEIGHBOUR: 'it returns false'. Refute it at one input. -/
def fnExactRelSymbolWrong : ChangeSpec := { name := "fnExactRelSymbol", fn := fun _ => fun
  | [d1, d2, d3] => { results := [.lit (.bool false)], args := [d1, d2, d3] }
  | _ => none }
def FnExactRelSymbolWrongFalsely : Prop := fnExactRelSymbolRow.holds Tryz.pinned (OpenSpec.ofChange fnExactRelSymbolWrong)

/-- 'laws.FnExactRelOwn': WHATEVER THE INPUT: true; the input reads as it did. -/
def fnExactRelOwnSpec : ChangeSpec := { name := "fnExactRelOwn", fn := fun _ => fun
  | [d1, d2] => { results := [.lit (.bool true)], args := [d1, d2] }
  | _ => none }
def fnExactRelOwnRow : OpenClaim := { program := "ytcinoldiilbhmaagreat", sum := "689cfc2f022e79e9ac43cfa0ce1d343e9460b65b559b2828d12beedc6fd25d89", func := "loop.example/g00688/laws.FnExactRelOwn", spec := "fnExactRelOwn", inPlace := ["internal/bytealg.Compare"], unfollowed := true, recurses := true, apart := false }
def FnExactRelOwnSaid : Prop := fnExactRelOwnRow.holds Tryz.pinned (OpenSpec.ofChange fnExactRelOwnSpec)

/-- ITS FALSE NEIGHBOUR: 'it returns false'. Refute it at one input. -/
def fnExactRelOwnWrong : ChangeSpec := { name := "fnExactRelOwn", fn := fun _ => fun
  | [d1, d2] => { results := [.lit (.bool false)], args := [d1, d2] }
  | _ => none }
def FnExactRelOwnWrongFalsely : Prop := fnExactRelOwnRow.holds Tryz.pinned (OpenSpec.ofChange fnExactRelOwnWrong)

/-- 'laws.FnExactRelRank': WHATEVER THE INPUT: true; the input reads as it did. -/
def fnExactRelRankSpec : ChangeSpec := { name := "fnExactRelRank", fn := fun _ => fun
  | [d1, d2, d3, d4] => { results := [.lit (.bool true)], args := [d1, d2, d3, d4] }
  | _ => none }
def fnExactRelRankRow : OpenClaim := { program := "ytcinoldiilbhmaagreat", sum := "689cfc2f022e79e9ac43cfa0ce1d343e9460b65b559b2828d12beedc6fd25d89", func := "loop.example/g00688/laws.FnExactRelRank", spec := "fnExactRelRank", inPlace := ["internal/bytealg.Compare"], unfollowed := true, recurses := true, apart := false }
def FnExactRelRankSaid : Prop := fnExactRelRankRow.holds Tryz.pinned (OpenSpec.ofChange fnExactRelRankSpec)

/-- ITS FALSE NEIGHBOUR: 'it returns false'. Refute it at one input. -/
def fnExactRelRankWrong : ChangeSpec := { name := "fnExactRelRank", fn := fun _ => fun
  | [d1, d2, d3, d4] => { results := [.lit (.bool false)], args := [d1, d2, d3, d4] }
  | _ => none }
def FnExactRelRankWrongFalsely : Prop := fnExactRelRankRow.holds Tryz.pinned (OpenSpec.ofChange fnExactRelRankWrong)

/-- 'laws.FnExactRelLf': WHATEVER THE INPUT: true; the input reads as it did. -/
def fnExactRelLfSpec : ChangeSpec := { name := "fnExactRelLf", fn := fun _ => fun
  | [d1, d2, d3] => { results := [.lit (.bool true)], args := [d1, d2, d3] }
  | _ => none }
def fnExactRelLfRow : OpenClaim := { program := "ytcinoldiilbhmaagreat", sum := "689cfc2f022e79e9ac43cfa0ce1d343e9460b65b559b2828d12beedc6fd25d89", func := "loop.example/g00688/laws.FnExactRelLf", spec := "fnExactRelLf", inPlace := ["internal/bytealg.Compare"], unfollowed := true, recurses := true, apart := false }
def FnExactRelLfSaid : Prop := fnExactRelLfRow.holds Tryz.pinned (OpenSpec.ofChange fnExactRelLfSpec)

/-- ITS FALSE NEIGHBOUR: 'it returns false'. Refute it at one input. -/
def fnExactRelLfWrong : ChangeSpec := { name := "fnExactRelLf", fn := fun _ => fun
  | [d1, d2, d3] => { results := [.lit (.bool false)], args := [d1, d2, d3] }
  | _ => none }
def FnExactRelLfWrongFalsely : Prop := fnExactRelLfRow.holds Tryz.pinned (OpenSpec.ofChange fnExactRelLfWrong)

/-- 'laws.FnExactRelSa': WHATEVER THE INPUT: true; the input reads as it did. -/
def fnExactRelSaSpec : ChangeSpec := { name := "fnExactRelSa", fn := fun _ => fun
  | [d1, d2, d3] => { results := [.lit (.bool true)], args := [d1, d2, d3] }
  | _ => none }
def fnExactRelSaRow : OpenClaim := { program := "ytcinoldiilbhmaagreat", sum := "689cfc2f022e79e9ac43cfa0ce1d343e9460b65b559b2828d12beedc6fd25d89", func := "loop.example/g00688/laws.FnExactRelSa", spec := "fnExactRelSa", inPlace := ["internal/bytealg.Compare"], unfollowed := true, recurses := true, apart := false }
def FnExactRelSaSaid : Prop := fnExactRelSaRow.holds Tryz.pinned (OpenSpec.ofChange fnExactRelSaSpec)

/-- ITS FALSE NEIGHBOUR: 'it returns false'. Refute it at one input. -/
def fnExactRelSaWrong : ChangeSpec := { name := "fnExactRelSa", fn := fun _ => fun
  | [d1, d2, d3] => { results := [.lit (.bool false)], args := [d1, d2, d3] }
  | _ => none }
def FnExactRelSaWrongFalsely : Prop := fnExactRelSaRow.holds Tryz.pinned (OpenSpec.ofChange fnExactRelSaWrong)

/-- 'laws.FnExactRelIsa': WHATEVER THE INPUT: true; the input reads as it did. -/
def fnExactRelIsaSpec : ChangeSpec := { name := "fnExactRelIsa", fn := fun _ => fun
  | [d1, d2, d3] => { results := [.lit (.bool true)], args := [d1, d2, d3] }
  | _ => none }
def fnExactRelIsaRow : OpenClaim := { program := "ytcinoldiilbhmaagreat", sum := "689cfc2f022e79e9ac43cfa0ce1d343e9460b65b559b2828d12beedc6fd25d89", func := "loop.example/g00688/laws.FnExactRelIsa", spec := "fnExactRelIsa", inPlace := ["internal/bytealg.Compare"], unfollowed := true, recurses := true, apart := false }
def FnExactRelIsaSaid : Prop := fnExactRelIsaRow.holds Tryz.pinned (OpenSpec.ofChange fnExactRelIsaSpec)

/-- ITS FALSE NEIGHBOUR: 'it returns false'. Refute it at one input. -/
def fnExactRelIsaWrong : ChangeSpec := { name := "fnExactRelIsa", fn := fun _ => fun
  | [d1, d2, d3] => { results := [.lit (.bool false)], args := [d1, d2, d3] }
  | _ => none }
def FnExactRelIsaWrongFalsely : Prop := fnExactRelIsaRow.holds Tryz.pinned (OpenSpec.ofChange fnExactRelIsaWrong)

/-- 'laws.FnExactRelRows': WHATEVER THE INPUT: true; the input reads as it did. -/
def fnExactRelRowsSpec : ChangeSpec := { name := "fnExactRelRows", fn := fun _ => fun
  | [d1, d2, d3] => { results := [.lit (.bool true)], args := [d1, d2, d3] }
  | _ => none }
def fnExactRelRowsRow : OpenClaim := { program := "ytcinoldiilbhmaagreat", sum := "689cfc2f022e79e9ac43cfa0ce1d343e9460b65b559b2828d12beedc6fd25d89", func := "loop.example/g00688/laws.FnExactRelRows", spec := "fnExactRelRows", inPlace := ["internal/bytealg.Compare"], unfollowed := true, recurses := true, apart := false }
def FnExactRelRowsSaid : Prop := fnExactRelRowsRow.holds Tryz.pinned (OpenSpec.ofChange fnExactRelRowsSpec)

/-- ITS FALSE NEIGHBOUR: 'it returns false'. Refute it at one input. -/
def fnExactRelRowsWrong : ChangeSpec := { name := "fnExactRelRows", fn := fun _ => fun
  | [d1, d2, d3] => { results := [.lit (.bool false)], args := [d1, d2, d3] }
  | _ => none }
def FnExactRelRowsWrongFalsely : Prop := fnExactRelRowsRow.holds Tryz.pinned (OpenSpec.ofChange fnExactRelRowsWrong)

/-- 'laws.FnExactRelText': WHATEVER THE INPUT: true; the input reads as it did. -/
def fnExactRelTextSpec : ChangeSpec := { name := "fnExactRelText", fn := fun _ => fun
  | [d1, d2] => { results := [.lit (.bool true)], args := [d1, d2] }
  | _ => none }
def fnExactRelTextRow : OpenClaim := { program := "ytcinoldiilbhmaagreat", sum := "689cfc2f022e79e9ac43cfa0ce1d343e9460b65b559b2828d12beedc6fd25d89", func := "loop.example/g00688/laws.FnExactRelText", spec := "fnExactRelText", inPlace := ["internal/bytealg.Compare"], unfollowed := true, recurses := true, apart := false }
def FnExactRelTextSaid : Prop := fnExactRelTextRow.holds Tryz.pinned (OpenSpec.ofChange fnExactRelTextSpec)

/-- ITS FALSE NEIGHBOUR: 'it returns false'. Refute it at one input. -/
def fnExactRelTextWrong : ChangeSpec := { name := "fnExactRelText", fn := fun _ => fun
  | [d1, d2] => { results := [.lit (.bool false)], args := [d1, d2] }
  | _ => none }
def FnExactRelTextWrongFalsely : Prop := fnExactRelTextRow.holds Tryz.pinned (OpenSpec.ofChange fnExactRelTextWrong)

/-- 'laws.FnRelRank': WHATEVER THE INPUT: true; the input reads as it did. -/
def fnRelRankSpec : ChangeSpec := { name := "fnRelRank", fn := fun _ => fun
  | [d] => { results := [.lit (.bool true)], args := [d] }
  | _ => none }
def fnRelRankRow : OpenClaim := { program := "ytcinoldiilbhmaagreat", sum := "689cfc2f022e79e9ac43cfa0ce1d343e9460b65b559b2828d12beedc6fd25d89", func := "loop.example/g00688/laws.FnRelRank", spec := "fnRelRank", inPlace := ["internal/bytealg.Compare"], unfollowed := true, recurses := true, apart := false }
def FnRelRankSaid : Prop := fnRelRankRow.holds Tryz.pinned (OpenSpec.ofChange fnRelRankSpec)

/-- ITS FALSE NEIGHBOUR: 'it returns false'. Refute it at one input. -/
def fnRelRankWrong : ChangeSpec := { name := "fnRelRank", fn := fun _ => fun
  | [d] => { results := [.lit (.bool false)], args := [d] }
  | _ => none }
def FnRelRankWrongFalsely : Prop := fnRelRankRow.holds Tryz.pinned (OpenSpec.ofChange fnRelRankWrong)

/-- 'laws.FnExactRelExtract': WHATEVER THE INPUT: true; the input reads as it did. -/
def fnExactRelExtractSpec : ChangeSpec := { name := "fnExactRelExtract", fn := fun _ => fun
  | [d1, d2, d3, d4] => { results := [.lit (.bool true)], args := [d1, d2, d3, d4] }
  | _ => none }
def fnExactRelExtractRow : OpenClaim := { program := "ytcinoldiilbhmaagreat", sum := "689cfc2f022e79e9ac43cfa0ce1d343e9460b65b559b2828d12beedc6fd25d89", func := "loop.example/g00688/laws.FnExactRelExtract", spec := "fnExactRelExtract", inPlace := ["internal/bytealg.Compare"], unfollowed := true, recurses := true, apart := false }
def FnExactRelExtractSaid : Prop := fnExactRelExtractRow.holds Tryz.pinned (OpenSpec.ofChange fnExactRelExtractSpec)

/-- ITS FALSE NEIGHBOUR: 'it returns false'. Refute it at one input. -/
def fnExactRelExtractWrong : ChangeSpec := { name := "fnExactRelExtract", fn := fun _ => fun
  | [d1, d2, d3, d4] => { results := [.lit (.bool false)], args := [d1, d2, d3, d4] }
  | _ => none }
def FnExactRelExtractWrongFalsely : Prop := fnExactRelExtractRow.holds Tryz.pinned (OpenSpec.ofChange fnExactRelExtractWrong)

/-- 'laws.FnExactRelLocate': WHATEVER THE INPUT: true; the input reads as it did. -/
def fnExactRelLocateSpec : ChangeSpec := { name := "fnExactRelLocate", fn := fun _ => fun
  | [d1, d2, d3] => { results := [.lit (.bool true)], args := [d1, d2, d3] }
  | _ => none }
def fnExactRelLocateRow : OpenClaim := { program := "ytcinoldiilbhmaagreat", sum := "689cfc2f022e79e9ac43cfa0ce1d343e9460b65b559b2828d12beedc6fd25d89", func := "loop.example/g00688/laws.FnExactRelLocate", spec := "fnExactRelLocate", inPlace := ["internal/bytealg.Compare"], unfollowed := true, recurses := true, apart := false }
def FnExactRelLocateSaid : Prop := fnExactRelLocateRow.holds Tryz.pinned (OpenSpec.ofChange fnExactRelLocateSpec)

/-- ITS FALSE NEIGHBOUR: 'it returns false'. Refute it at one input. -/
def fnExactRelLocateWrong : ChangeSpec := { name := "fnExactRelLocate", fn := fun _ => fun
  | [d1, d2, d3] => { results := [.lit (.bool false)], args := [d1, d2, d3] }
  | _ => none }
def FnExactRelLocateWrongFalsely : Prop := fnExactRelLocateRow.holds Tryz.pinned (OpenSpec.ofChange fnExactRelLocateWrong)

/-- 'laws.FnExactRelBytes': WHATEVER THE INPUT: true; the input reads as it did. -/
def fnExactRelBytesSpec : ChangeSpec := { name := "fnExactRelBytes", fn := fun _ => fun
  | [d1, d2] => { results := [.lit (.bool true)], args := [d1, d2] }
  | _ => none }
def fnExactRelBytesRow : OpenClaim := { program := "ytcinoldiilbhmaagreat", sum := "689cfc2f022e79e9ac43cfa0ce1d343e9460b65b559b2828d12beedc6fd25d89", func := "loop.example/g00688/laws.FnExactRelBytes", spec := "fnExactRelBytes", inPlace := ["internal/bytealg.Compare"], unfollowed := true, recurses := true, apart := false }
def FnExactRelBytesSaid : Prop := fnExactRelBytesRow.holds Tryz.pinned (OpenSpec.ofChange fnExactRelBytesSpec)

/-- ITS FALSE NEIGHBOUR: 'it returns false'. Refute it at one input. -/
def fnExactRelBytesWrong : ChangeSpec := { name := "fnExactRelBytes", fn := fun _ => fun
  | [d1, d2] => { results := [.lit (.bool false)], args := [d1, d2] }
  | _ => none }
def FnExactRelBytesWrongFalsely : Prop := fnExactRelBytesRow.holds Tryz.pinned (OpenSpec.ofChange fnExactRelBytesWrong)

/- THE SECOND FORM. 'bulk': how many values and letters a reading holds, each counted each time it is reached (what is shared counts as often as it is met; a slice's spare places count too). A statement '..UptoSaid' is the law's where the arguments, and the package variables that the reading takes, are together of bulk at most 1048576: NARROWER than '..Said'. Prove '..Said' where nothing that the law and all that it calls make is longer than what came in: it says more and counts as full. Else prove '..UptoSaid'. A law counts once. -/
mutual
def uptoBulk {H : Type} : DataW H → Nat
  | .lit (.string bytes) => bytes.length + 1
  | .lit _ => 1
  | .nil => 1
  | .ptr d => uptoBulk d + 1
  | .slice elems spare => uptoBulkAll elems + uptoBulkAll spare + 1
  | .agg parts => uptoBulkAll parts + 1
  | .iface _ d => uptoBulk d + 1
  | .map entries => uptoBulkEntries entries + 1
  | .held _ => 1
def uptoBulkAll {H : Type} : List (DataW H) → Nat
  | [] => 0
  | d :: r => uptoBulk d + uptoBulkAll r
def uptoBulkEntries {H : Type} : List (Lit × DataW H) → Nat
  | [] => 0
  | x :: r => uptoBulkEntry x + uptoBulkEntries r
def uptoBulkEntry {H : Type} : Lit × DataW H → Nat
  | (.string bytes, d) => bytes.length + uptoBulk d + 1
  | (_, d) => uptoBulk d + 1
 end
def uptoSmall : (H : Type) → List (DataW H) → Bool := fun _ ds => decide (uptoBulkAll ds ≤ 1048576)
def OpenSpec.upto (s : _root_.Go.ChangeSpec) : _root_.Go.OpenSpec := { _root_.Go.OpenSpec.ofChange s with cond := some uptoSmall }

/-- 'laws.FnExactRelSymbol', WHERE WHAT IT READS IS OF BULK AT MOST 1048576: true; the input reads as it did. -/
def fnExactRelSymbolUptoRow : OpenClaim := { program := "ytcinoldiilbhmaagreat", sum := "689cfc2f022e79e9ac43cfa0ce1d343e9460b65b559b2828d12beedc6fd25d89", func := "loop.example/g00688/laws.FnExactRelSymbol", spec := "fnExactRelSymbol", inPlace := ["internal/bytealg.Compare"], unfollowed := true, recurses := true, apart := false, narrowed := true }
def FnExactRelSymbolUptoSaid : Prop := fnExactRelSymbolUptoRow.holds Tryz.pinned (OpenSpec.upto fnExactRelSymbolSpec)

/-- 'laws.FnExactRelOwn', WHERE WHAT IT READS IS OF BULK AT MOST 1048576: true; the input reads as it did. -/
def fnExactRelOwnUptoRow : OpenClaim := { program := "ytcinoldiilbhmaagreat", sum := "689cfc2f022e79e9ac43cfa0ce1d343e9460b65b559b2828d12beedc6fd25d89", func := "loop.example/g00688/laws.FnExactRelOwn", spec := "fnExactRelOwn", inPlace := ["internal/bytealg.Compare"], unfollowed := true, recurses := true, apart := false, narrowed := true }
def FnExactRelOwnUptoSaid : Prop := fnExactRelOwnUptoRow.holds Tryz.pinned (OpenSpec.upto fnExactRelOwnSpec)

/-- 'laws.FnExactRelRank', WHERE WHAT IT READS IS OF BULK AT MOST 1048576: true; the input reads as it did. -/
def fnExactRelRankUptoRow : OpenClaim := { program := "ytcinoldiilbhmaagreat", sum := "689cfc2f022e79e9ac43cfa0ce1d343e9460b65b559b2828d12beedc6fd25d89", func := "loop.example/g00688/laws.FnExactRelRank", spec := "fnExactRelRank", inPlace := ["internal/bytealg.Compare"], unfollowed := true, recurses := true, apart := false, narrowed := true }
def FnExactRelRankUptoSaid : Prop := fnExactRelRankUptoRow.holds Tryz.pinned (OpenSpec.upto fnExactRelRankSpec)

/-- 'laws.FnExactRelLf', WHERE WHAT IT READS IS OF BULK AT MOST 1048576: true; the input reads as it did. -/
def fnExactRelLfUptoRow : OpenClaim := { program := "ytcinoldiilbhmaagreat", sum := "689cfc2f022e79e9ac43cfa0ce1d343e9460b65b559b2828d12beedc6fd25d89", func := "loop.example/g00688/laws.FnExactRelLf", spec := "fnExactRelLf", inPlace := ["internal/bytealg.Compare"], unfollowed := true, recurses := true, apart := false, narrowed := true }
def FnExactRelLfUptoSaid : Prop := fnExactRelLfUptoRow.holds Tryz.pinned (OpenSpec.upto fnExactRelLfSpec)

/-- 'laws.FnExactRelSa', WHERE WHAT IT READS IS OF BULK AT MOST 1048576: true; the input reads as it did. -/
def fnExactRelSaUptoRow : OpenClaim := { program := "ytcinoldiilbhmaagreat", sum := "689cfc2f022e79e9ac43cfa0ce1d343e9460b65b559b2828d12beedc6fd25d89", func := "loop.example/g00688/laws.FnExactRelSa", spec := "fnExactRelSa", inPlace := ["internal/bytealg.Compare"], unfollowed := true, recurses := true, apart := false, narrowed := true }
def FnExactRelSaUptoSaid : Prop := fnExactRelSaUptoRow.holds Tryz.pinned (OpenSpec.upto fnExactRelSaSpec)

/-- 'laws.FnExactRelIsa', WHERE WHAT IT READS IS OF BULK AT MOST 1048576: true; the input reads as it did. -/
def fnExactRelIsaUptoRow : OpenClaim := { program := "ytcinoldiilbhmaagreat", sum := "689cfc2f022e79e9ac43cfa0ce1d343e9460b65b559b2828d12beedc6fd25d89", func := "loop.example/g00688/laws.FnExactRelIsa", spec := "fnExactRelIsa", inPlace := ["internal/bytealg.Compare"], unfollowed := true, recurses := true, apart := false, narrowed := true }
def FnExactRelIsaUptoSaid : Prop := fnExactRelIsaUptoRow.holds Tryz.pinned (OpenSpec.upto fnExactRelIsaSpec)

/-- 'laws.FnExactRelRows', WHERE WHAT IT READS IS OF BULK AT MOST 1048576: true; the input reads as it did. -/
def fnExactRelRowsUptoRow : OpenClaim := { program := "ytcinoldiilbhmaagreat", sum := "689cfc2f022e79e9ac43cfa0ce1d343e9460b65b559b2828d12beedc6fd25d89", func := "loop.example/g00688/laws.FnExactRelRows", spec := "fnExactRelRows", inPlace := ["internal/bytealg.Compare"], unfollowed := true, recurses := true, apart := false, narrowed := true }
def FnExactRelRowsUptoSaid : Prop := fnExactRelRowsUptoRow.holds Tryz.pinned (OpenSpec.upto fnExactRelRowsSpec)

/-- 'laws.FnExactRelText', WHERE WHAT IT READS IS OF BULK AT MOST 1048576: true; the input reads as it did. -/
def fnExactRelTextUptoRow : OpenClaim := { program := "ytcinoldiilbhmaagreat", sum := "689cfc2f022e79e9ac43cfa0ce1d343e9460b65b559b2828d12beedc6fd25d89", func := "loop.example/g00688/laws.FnExactRelText", spec := "fnExactRelText", inPlace := ["internal/bytealg.Compare"], unfollowed := true, recurses := true, apart := false, narrowed := true }
def FnExactRelTextUptoSaid : Prop := fnExactRelTextUptoRow.holds Tryz.pinned (OpenSpec.upto fnExactRelTextSpec)

/-- 'laws.FnRelRank', WHERE WHAT IT READS IS OF BULK AT MOST 1048576: true; the input reads as it did. -/
def fnRelRankUptoRow : OpenClaim := { program := "ytcinoldiilbhmaagreat", sum := "689cfc2f022e79e9ac43cfa0ce1d343e9460b65b559b2828d12beedc6fd25d89", func := "loop.example/g00688/laws.FnRelRank", spec := "fnRelRank", inPlace := ["internal/bytealg.Compare"], unfollowed := true, recurses := true, apart := false, narrowed := true }
def FnRelRankUptoSaid : Prop := fnRelRankUptoRow.holds Tryz.pinned (OpenSpec.upto fnRelRankSpec)

/-- 'laws.FnExactRelExtract', WHERE WHAT IT READS IS OF BULK AT MOST 1048576: true; the input reads as it did. -/
def fnExactRelExtractUptoRow : OpenClaim := { program := "ytcinoldiilbhmaagreat", sum := "689cfc2f022e79e9ac43cfa0ce1d343e9460b65b559b2828d12beedc6fd25d89", func := "loop.example/g00688/laws.FnExactRelExtract", spec := "fnExactRelExtract", inPlace := ["internal/bytealg.Compare"], unfollowed := true, recurses := true, apart := false, narrowed := true }
def FnExactRelExtractUptoSaid : Prop := fnExactRelExtractUptoRow.holds Tryz.pinned (OpenSpec.upto fnExactRelExtractSpec)

/-- 'laws.FnExactRelLocate', WHERE WHAT IT READS IS OF BULK AT MOST 1048576: true; the input reads as it did. -/
def fnExactRelLocateUptoRow : OpenClaim := { program := "ytcinoldiilbhmaagreat", sum := "689cfc2f022e79e9ac43cfa0ce1d343e9460b65b559b2828d12beedc6fd25d89", func := "loop.example/g00688/laws.FnExactRelLocate", spec := "fnExactRelLocate", inPlace := ["internal/bytealg.Compare"], unfollowed := true, recurses := true, apart := false, narrowed := true }
def FnExactRelLocateUptoSaid : Prop := fnExactRelLocateUptoRow.holds Tryz.pinned (OpenSpec.upto fnExactRelLocateSpec)

/-- 'laws.FnExactRelBytes', WHERE WHAT IT READS IS OF BULK AT MOST 1048576: true; the input reads as it did. -/
def fnExactRelBytesUptoRow : OpenClaim := { program := "ytcinoldiilbhmaagreat", sum := "689cfc2f022e79e9ac43cfa0ce1d343e9460b65b559b2828d12beedc6fd25d89", func := "loop.example/g00688/laws.FnExactRelBytes", spec := "fnExactRelBytes", inPlace := ["internal/bytealg.Compare"], unfollowed := true, recurses := true, apart := false, narrowed := true }
def FnExactRelBytesUptoSaid : Prop := fnExactRelBytesUptoRow.holds Tryz.pinned (OpenSpec.upto fnExactRelBytesSpec)

end Rows
end Go.Proofs.YtcinoldiilbhmaaGreat
