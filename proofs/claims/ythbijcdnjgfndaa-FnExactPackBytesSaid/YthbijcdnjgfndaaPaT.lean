/- The tables of types. -/
import Derived.Test.YthbijcdnjgfndaaEvC
import Derived.KernelRfl
import Derived.Test.YthbijcdnjgfndaaProg
namespace Go.Ev.W
open Go.Ev Go.Proofs
set_option maxRecDepth 100000
set_option linter.unusedVariables false
def tab : Table := [(3, .int .i64, []), (5, .int .u8, []), (42, .sl 5 [.int .u8], []), (61, .int .i64, [.int .i64, .int .i64]), (81, .int .i64, [.int .i64, .int .i64]), (103, .int .u64, [])]
def tys : List (Nat × TyI) := [(3, ⟨.int .i64, 1, 8, [.int .i64]⟩), (4, ⟨.bool, 1, 1, [.bool]⟩), (5, ⟨.int .u8, 1, 1, [.int .u8]⟩), (9, ⟨.str, 1, 16, [.str]⟩), (22, ⟨.sl 3, 1, 24, [.nil 3]⟩), (29, ⟨.sl 81, 1, 24, [.nil 81]⟩), (33, ⟨.sl 61, 1, 24, [.nil 61]⟩), (42, ⟨.sl 5, 1, 24, [.nil 5]⟩), (45, ⟨.sl 103, 1, 24, [.nil 103]⟩), (47, ⟨.agg [(0, 1, false), (1, 1, false)], 2, 32, [.int .i64, .nil 103]⟩), (50, ⟨.agg [(0, 1, false), (1, 1, false)], 2, 32, [.int .i64, .nil 103]⟩), (61, ⟨.agg [(0, 1, false), (1, 1, false), (2, 1, false)], 3, 24, [.int .i64, .int .i64, .int .i64]⟩), (69, ⟨.agg [(0, 1, false), (1, 1, false), (2, 2, true)], 4, 48, [.int .i64, .int .i64, .int .i64, .nil 103]⟩), (73, ⟨.agg [(0, 1, false), (1, 1, false), (2, 2, true)], 4, 48, [.int .i64, .int .i64, .int .i64, .nil 103]⟩), (81, ⟨.agg [(0, 1, false), (1, 1, false), (2, 1, false)], 3, 24, [.int .i64, .int .i64, .int .i64]⟩), (95, ⟨.one, 1, 8, [.any]⟩), (103, ⟨.int .u64, 1, 8, [.int .u64]⟩), (108, ⟨.agg [(0, 1, false), (1, 1, false), (2, 1, false)], 3, 40, [.nil 5, .int .i64, .int .i64]⟩), (112, ⟨.sl 42, 1, 24, [.nil 42]⟩)]
theorem tysOk : TyOk Try.prog (KT tab) (XT tab) (tyOf tys) := tysB_ok tys (by kernel_rfl)
theorem mixed : Try.prog.follows .mixedOrders = true := by kernel_rfl
def bodyOf (f : Func) : Code := match f.body with | some b => b | none => .skip

end Go.Ev.W
