/- The tables of types. -/
import Derived.Test.YtiogdohiooocnaaEvC
import Derived.KernelRfl
import Derived.Test.YtiogdohiooocnaaProg
namespace Go.Ev.W
open Go.Ev Go.Proofs
set_option maxRecDepth 100000
set_option linter.unusedVariables false
def tab : Table := [(3, .int .i64, []), (5, .int .u8, []), (9, .str, []), (22, .sl 3 [.int .i64], []), (27, .sl 5 [.int .u8], []), (44, .int .i64, [.sl 117 [.int .u64]]), (51, .int .i64, [.sl 117 [.int .u64]]), (117, .int .u64, []), (127, .int .i64, [.int .i64, .int .i64]), (130, .int .i64, [.int .i64, .int .i64])]
def tys : List (Nat × TyI) := [(3, ⟨.int .i64, 1, 8, [.int .i64]⟩), (4, ⟨.bool, 1, 1, [.bool]⟩), (5, ⟨.int .u8, 1, 1, [.int .u8]⟩), (9, ⟨.str, 1, 16, [.str]⟩), (22, ⟨.sl 3, 1, 24, [.nil 3]⟩), (23, ⟨.sl 44, 1, 24, [.nil 44]⟩), (25, ⟨.agg [(0, 1, false), (1, 1, false), (2, 1, false)], 3, 56, [.int .i64, .nil 3, .nil 44]⟩), (27, ⟨.sl 5, 1, 24, [.nil 5]⟩), (29, ⟨.sl 51, 1, 24, [.nil 51]⟩), (31, ⟨.agg [(0, 1, false), (1, 1, false), (2, 1, false)], 3, 56, [.int .i64, .nil 3, .nil 51]⟩), (42, ⟨.sl 117, 1, 24, [.nil 117]⟩), (44, ⟨.agg [(0, 1, false), (1, 1, false)], 2, 32, [.int .i64, .nil 117]⟩), (46, ⟨.agg [(0, 1, false), (1, 1, false), (2, 2, true)], 4, 48, [.int .i64, .int .i64, .int .i64, .nil 117]⟩), (48, ⟨.agg [(0, 1, false), (1, 1, false), (2, 4, true), (6, 2, true)], 8, 96, [.int .i64, .int .i64, .int .i64, .int .i64, .int .i64, .nil 117, .int .i64, .nil 117]⟩), (51, ⟨.agg [(0, 1, false), (1, 1, false)], 2, 32, [.int .i64, .nil 117]⟩), (53, ⟨.agg [(0, 1, false), (1, 1, false), (2, 2, true)], 4, 48, [.int .i64, .int .i64, .int .i64, .nil 117]⟩), (55, ⟨.agg [(0, 1, false), (1, 1, false), (2, 4, true), (6, 2, true)], 8, 96, [.int .i64, .int .i64, .int .i64, .int .i64, .int .i64, .nil 117, .int .i64, .nil 117]⟩), (78, ⟨.sl 127, 1, 24, [.nil 127]⟩), (83, ⟨.sl 130, 1, 24, [.nil 130]⟩), (117, ⟨.int .u64, 1, 8, [.int .u64]⟩), (127, ⟨.agg [(0, 1, false), (1, 1, false), (2, 1, false)], 3, 24, [.int .i64, .int .i64, .int .i64]⟩), (130, ⟨.agg [(0, 1, false), (1, 1, false), (2, 1, false)], 3, 24, [.int .i64, .int .i64, .int .i64]⟩), (143, ⟨.one, 1, 8, [.any]⟩), (150, ⟨.agg [(0, 1, false), (1, 1, false), (2, 1, false)], 3, 40, [.nil 5, .int .i64, .int .i64]⟩), (157, ⟨.sl 27, 1, 24, [.nil 27]⟩), (159, ⟨.int .u64, 1, 8, [.int .u64]⟩), (160, ⟨.sl 22, 1, 24, [.nil 22]⟩), (169, ⟨.sl 9, 1, 24, [.nil 9]⟩)]
theorem tysOk : TyOk Try.prog (KT tab) (XT tab) (tyOf tys) := tysB_ok tys (by kernel_rfl)
theorem mixed : Try.prog.follows .mixedOrders = true := by kernel_rfl
def bodyOf (f : Func) : Code := match f.body with | some b => b | none => .skip

end Go.Ev.W
