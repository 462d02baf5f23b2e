/- The tables of types. -/
import Derived.Test.YtmobcecmjpfpiaaEvC
import Derived.KernelRfl
import Derived.Test.YtmobcecmjpfpiaaProg
namespace Go.Ev.W
open Go.Ev Go.Proofs
set_option maxRecDepth 100000
set_option linter.unusedVariables false
def tab : Table := [(3, .int .i64, []), (5, .int .u8, []), (9, .str, []), (24, .int .i64, [.sl 94 [.int .u64]]), (30, .sl 3 [.int .i64], []), (32, .int .i64, [.sl 94 [.int .u64]]), (43, .sl 5 [.int .u8], []), (94, .int .u64, [])]
def tys : List (Nat × TyI) := [(3, ⟨.int .i64, 1, 8, [.int .i64]⟩), (4, ⟨.bool, 1, 1, [.bool]⟩), (5, ⟨.int .u8, 1, 1, [.int .u8]⟩), (9, ⟨.str, 1, 16, [.str]⟩), (22, ⟨.sl 94, 1, 24, [.nil 94]⟩), (24, ⟨.agg [(0, 1, false), (1, 1, false)], 2, 32, [.int .i64, .nil 94]⟩), (26, ⟨.agg [(0, 1, false), (1, 1, false), (2, 2, true)], 4, 48, [.int .i64, .int .i64, .int .i64, .nil 94]⟩), (28, ⟨.agg [(0, 1, false), (1, 1, false), (2, 4, true), (6, 2, true)], 8, 96, [.int .i64, .int .i64, .int .i64, .int .i64, .int .i64, .nil 94, .int .i64, .nil 94]⟩), (30, ⟨.sl 3, 1, 24, [.nil 3]⟩), (32, ⟨.agg [(0, 1, false), (1, 1, false)], 2, 32, [.int .i64, .nil 94]⟩), (34, ⟨.agg [(0, 1, false), (1, 1, false), (2, 2, true)], 4, 48, [.int .i64, .int .i64, .int .i64, .nil 94]⟩), (36, ⟨.agg [(0, 1, false), (1, 1, false), (2, 4, true), (6, 2, true)], 8, 96, [.int .i64, .int .i64, .int .i64, .int .i64, .int .i64, .nil 94, .int .i64, .nil 94]⟩), (43, ⟨.sl 5, 1, 24, [.nil 5]⟩), (47, ⟨.sl 32, 1, 24, [.nil 32]⟩), (49, ⟨.agg [(0, 1, false), (1, 1, false), (2, 1, false)], 3, 56, [.int .i64, .nil 3, .nil 32]⟩), (66, ⟨.sl 24, 1, 24, [.nil 24]⟩), (68, ⟨.agg [(0, 1, false), (1, 1, false), (2, 1, false)], 3, 56, [.int .i64, .nil 3, .nil 24]⟩), (94, ⟨.int .u64, 1, 8, [.int .u64]⟩), (122, ⟨.agg [(0, 1, false), (1, 1, false), (2, 1, false)], 3, 40, [.nil 5, .int .i64, .int .i64]⟩), (126, ⟨.one, 1, 8, [.any]⟩), (131, ⟨.sl 43, 1, 24, [.nil 43]⟩), (133, ⟨.int .u64, 1, 8, [.int .u64]⟩), (135, ⟨.sl 30, 1, 24, [.nil 30]⟩), (142, ⟨.sl 9, 1, 24, [.nil 9]⟩)]
theorem tysOk : TyOk Try.prog (KT tab) (XT tab) (tyOf tys) := tysB_ok tys (by kernel_rfl)
theorem mixed : Try.prog.follows .mixedOrders = true := by kernel_rfl
def bodyOf (f : Func) : Code := match f.body with | some b => b | none => .skip
/-- A function's signature. -/
structure Sg where
  ms : List Mode
  ar : List VSh
  rs : RSh
  fu : Func
abbrev vi : VSh := .one (.b (.b (.b (.b (.int .i64)))))
abbrev vb : VSh := .one (.b (.b (.b (.b .bool))))
abbrev vl (e : Nat) : VSh := .one (.b (.b (.b (.b (.sl false false e)))))
abbrev vo (e : Nat) : VSh := .one (.b (.b (.b (.b (.sl true true e)))))
abbrev CxS (s : Sg) := Ctx (GT tab) (KT tab) (ResT tab s.rs)
noncomputable abbrev cx (s : Sg) (cs : List Nat) (lv : List (Nat × List Nat)) (lt : Bool) (g : List (Nat × Callee (GT tab) (ResT tab s.rs))) : CxS s := { X := XT tab, ty := tyOf tys, inner := fun _ => true, keep := keepOf 0 s.ms, cuts := cs, live := liveOf lv, G := getG g, lits := lt }
noncomputable abbrev fnW (s : Sg) (c : CxS s) (x : Args tab s.ar) : Option (ResT tab s.rs) := callW c (fiOf (GT tab) s.fu s.ms s.rs) (bodyOf s.fu) (decRes tab s.rs) (encArgs tab s.ar x)
def ud (n : Nat) (xs : List (AV (GT tab))) : List (AV (GT tab)) := xs ++ List.replicate n .undef
noncomputable abbrev lpW (s : Sg) (c : CxS s) (k : Nat) (sl : List (AV (GT tab))) (lc : List (LV (GT tab))) (n : Nat) : Option (ResT tab s.rs) := Lw c (finish c (fiOf (GT tab) s.fu s.ms s.rs) (decRes tab s.rs)) ((loops c.cuts 1000 (bodyOf s.fu) []).getD k []) { slots := sl, loc := locOf lc, nx := n }
abbrev FkS (s : Sg) (n : Nat) : Prop := FnOk Try.prog n s.fu s.ms (bodyOf s.fu)
abbrev kS {δ : Type} (s : Sg) (F : Args tab s.ar → Option (ResT tab s.rs)) : Callee (GT tab) δ := calleeS tab s.ms s.ar s.rs F

end Go.Ev.W
