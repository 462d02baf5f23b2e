/-
  No cell of these rows narrows 'for every input' (looked for: loops, veiled, ifaces, maps, wideKeys, modest, calm, conditions, laid).
  DERIVED. THE GIVEN ROWS OF THIS SEAT. 3 by the template 'for every input the law returns true; each argument reads behind the call as it read before'; 0 by the template 'total and deterministic' (their statements: YtmdkpcneakoagaaGreatTotals.lean).
  GIVEN WITH THE SEED: the statements are not yours to turn. If you find one false, say at which input.
  Laid BY PROGRAM, IN A SANDBOX (cutbox-rows.mjs): the forced cells as the released guide's own fill.sh prints them over the translation 0a0eab6884a99eec… (all of the seat's roots in one cut). By AI agents, Wed Nov 11 2026. No macro, syntax, notation, axiom, sorry.
-/
import Derived.Test.YtmdkpcneakoagaaGreatChecked
import GoSem.Claim
import GoSem.ClaimJoined
import GoSem.ClaimMapViews
import Derived.JoinedTies
import Derived.KernelRfl
namespace Go.Proofs.YtmdkpcneakoagaaGreat
/- THE CELL 'sum', in the pinned program and in every row, IS THE sha256 OF THE DUMP (.gsa) THAT YtmdkpcneakoagaaGreatProg.lean LOADS. Nothing in Lean hashes anything: it is a label: what it is worth is what the hold of that sum in a sandbox is worth. -/
noncomputable def Tryz.pinned : Pinned := { name := "ytmdkpcneakoagaagreat", sum := "0a0eab6884a99eecb7b3114a398f8cb78e2973bb153fcc637d6f13693610b512", checked := Tryz.checked }
namespace Rows
def none {H : Type} : Left H := { results := [], args := [] }

/-- 'laws.FnRelOwn': WHATEVER THE INPUT: true; the input reads as it did. -/
def fnRelOwnSpec : ChangeSpec := { name := "fnRelOwn", fn := fun _ => fun
  | [d] => { results := [.lit (.bool true)], args := [d] }
  | _ => none }
def fnRelOwnRow : OpenClaim := { program := "ytmdkpcneakoagaagreat", sum := "0a0eab6884a99eecb7b3114a398f8cb78e2973bb153fcc637d6f13693610b512", func := "loop.example/g00688/laws.FnRelOwn", spec := "fnRelOwn", inPlace := ["internal/bytealg.Compare"], unfollowed := true, recurses := true, apart := false }
def FnRelOwnSaid : Prop := fnRelOwnRow.holds Tryz.pinned (OpenSpec.ofChange fnRelOwnSpec)

/-- ITS FALSE NEIGHBOUR: 'it returns false'. Refute it at one input. -/
def fnRelOwnWrong : ChangeSpec := { name := "fnRelOwn", fn := fun _ => fun
  | [d] => { results := [.lit (.bool false)], args := [d] }
  | _ => none }
def FnRelOwnWrongFalsely : Prop := fnRelOwnRow.holds Tryz.pinned (OpenSpec.ofChange fnRelOwnWrong)

/-- 'laws.FnRelAny': WHATEVER THE INPUT: true; the input reads as it did. -/
def fnRelAnySpec : ChangeSpec := { name := "fnRelAny", fn := fun _ => fun
  | [d] => { results := [.lit (.bool true)], args := [d] }
  | _ => none }
def fnRelAnyRow : OpenClaim := { program := "ytmdkpcneakoagaagreat", sum := "0a0eab6884a99eecb7b3114a398f8cb78e2973bb153fcc637d6f13693610b512", func := "loop.example/g00688/laws.FnRelAny", spec := "fnRelAny", inPlace := ["internal/bytealg.Compare"], unfollowed := true, recurses := true, apart := false }
def FnRelAnySaid : Prop := fnRelAnyRow.holds Tryz.pinned (OpenSpec.ofChange fnRelAnySpec)

/-- ITS FALSE NEIGHBOUR: 'it returns false'. Refute it at one input. -/
def fnRelAnyWrong : ChangeSpec := { name := "fnRelAny", fn := fun _ => fun
  | [d] => { results := [.lit (.bool false)], args := [d] }
  | _ => none }
def FnRelAnyWrongFalsely : Prop := fnRelAnyRow.holds Tryz.pinned (OpenSpec.ofChange fnRelAnyWrong)

/-- 'laws.FnExactRelOf': WHATEVER THE INPUT: true; the input reads as it did. -/
def fnExactRelOfSpec : ChangeSpec := { name := "fnExactRelOf", fn := fun _ => fun
  | [d1, d2, d3, d4, d5] => { results := [.lit (.bool true)], args := [d1, d2, d3, d4, d5] }
  | _ => none }
def fnExactRelOfRow : OpenClaim := { program := "ytmdkpcneakoagaagreat", sum := "0a0eab6884a99eecb7b3114a398f8cb78e2973bb153fcc637d6f13693610b512", func := "loop.example/g00688/laws.FnExactRelOf", spec := "fnExactRelOf", inPlace := ["internal/bytealg.Compare"], unfollowed := true, recurses := true, apart := false }
def FnExactRelOfSaid : Prop := fnExactRelOfRow.holds Tryz.pinned (OpenSpec.ofChange fnExactRelOfSpec)

/-- ITS FALSE NEIGHBOUR: 'it returns false'. Refute it at one input. -/
def fnExactRelOfWrong : ChangeSpec := { name := "fnExactRelOf", fn := fun _ => fun
  | [d1, d2, d3, d4, d5] => { results := [.lit (.bool false)], args := [d1, d2, d3, d4, d5] }
  | _ => none }
def FnExactRelOfWrongFalsely : Prop := fnExactRelOfRow.holds Tryz.pinned (OpenSpec.ofChange fnExactRelOfWrong)

/- THE SECOND FORM. 'bulk': how many values and letters a reading holds, each counted each time it is reached (what is shared counts as often as it is met; a slice's spare places count too). A statement '..UptoSaid' is the law's where the arguments, and the package variables that the reading takes, are together of bulk at most 1048576: NARROWER than '..Said'. Prove '..Said' where nothing that the law and all that it calls make is longer than what came in: it says more and counts as full. Else prove '..UptoSaid'. A law counts once. -/
mutual
def uptoBulk {H : Type} : DataW H → Nat
  | .lit (.string bytes) => bytes.length + 1
  | .lit _ => 1
  | .nil => 1
  | .ptr d => uptoBulk d + 1
  | .slice elems spare => uptoBulkAll elems + uptoBulkAll spare + 1
  | .agg parts => uptoBulkAll parts + 1
  | .iface _ d => uptoBulk d + 1
  | .map entries => uptoBulkEntries entries + 1
  | .held _ => 1
def uptoBulkAll {H : Type} : List (DataW H) → Nat
  | [] => 0
  | d :: r => uptoBulk d + uptoBulkAll r
def uptoBulkEntries {H : Type} : List (Lit × DataW H) → Nat
  | [] => 0
  | x :: r => uptoBulkEntry x + uptoBulkEntries r
def uptoBulkEntry {H : Type} : Lit × DataW H → Nat
  | (.string bytes, d) => bytes.length + uptoBulk d + 1
  | (_, d) => uptoBulk d + 1
 end
def uptoSmall : (H : Type) → List (DataW H) → Bool := fun _ ds => decide (uptoBulkAll ds ≤ 1048576)
def OpenSpec.upto (s : _root_.Go.ChangeSpec) : _root_.Go.OpenSpec := { _root_.Go.OpenSpec.ofChange s with cond := some uptoSmall }

/-- 'laws.FnRelOwn', WHERE WHAT IT READS IS OF BULK AT MOST 1048576: true; the input reads as it did. -/
def fnRelOwnUptoRow : OpenClaim := { program := "ytmdkpcneakoagaagreat", sum := "0a0eab6884a99eecb7b3114a398f8cb78e2973bb153fcc637d6f13693610b512", func := "loop.example/g00688/laws.FnRelOwn", spec := "fnRelOwn", inPlace := ["internal/bytealg.Compare"], unfollowed := true, recurses := true, apart := false, narrowed := true }
def FnRelOwnUptoSaid : Prop := fnRelOwnUptoRow.holds Tryz.pinned (OpenSpec.upto fnRelOwnSpec)

/-- 'laws.FnRelAny', WHERE WHAT IT READS IS OF BULK AT MOST 1048576: true; the input reads as it did. -/
def fnRelAnyUptoRow : OpenClaim := { program := "ytmdkpcneakoagaagreat", sum := "0a0eab6884a99eecb7b3114a398f8cb78e2973bb153fcc637d6f13693610b512", func := "loop.example/g00688/laws.FnRelAny", spec := "fnRelAny", inPlace := ["internal/bytealg.Compare"], unfollowed := true, recurses := true, apart := false, narrowed := true }
def FnRelAnyUptoSaid : Prop := fnRelAnyUptoRow.holds Tryz.pinned (OpenSpec.upto fnRelAnySpec)

/-- 'laws.FnExactRelOf', WHERE WHAT IT READS IS OF BULK AT MOST 1048576: true; the input reads as it did. -/
def fnExactRelOfUptoRow : OpenClaim := { program := "ytmdkpcneakoagaagreat", sum := "0a0eab6884a99eecb7b3114a398f8cb78e2973bb153fcc637d6f13693610b512", func := "loop.example/g00688/laws.FnExactRelOf", spec := "fnExactRelOf", inPlace := ["internal/bytealg.Compare"], unfollowed := true, recurses := true, apart := false, narrowed := true }
def FnExactRelOfUptoSaid : Prop := fnExactRelOfUptoRow.holds Tryz.pinned (OpenSpec.upto fnExactRelOfSpec)

end Rows
end Go.Proofs.YtmdkpcneakoagaaGreat
