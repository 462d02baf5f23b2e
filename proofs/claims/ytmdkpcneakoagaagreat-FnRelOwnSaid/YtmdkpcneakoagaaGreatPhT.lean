/- The tables of types. -/
import Derived.Test.YtmdkpcneakoagaaGreatEvC
import Derived.KernelRfl
import Derived.Test.YtmdkpcneakoagaaGreatProg
namespace Go.Ev.W
open Go.Ev Go.Proofs
set_option maxRecDepth 100000
set_option linter.unusedVariables false
def tab : Qy := [(3, .int .i64, []), (5, .int .u8, []), (9, .str, []), (22, .sl 5 [.int .u8], []), (24, .sl 3 [.int .i64], []), (30, .int .i64, [.sl 90 [.int .u64]]), (57, .int .i64, [.sl 90 [.int .u64]]), (90, .int .u64, []), (114, .sl 9 [.str], []), (137, .sl 5 [.int .u8], [.int .i64, .int .i64, .int .i64, .int .i64]), (140, .int .i64, [.int .i64])]
def tys : List (Nat × TyI) := [(3, ⟨.int .i64, 1, 8, [.int .i64]⟩), (4, ⟨.bool, 1, 1, [.bool]⟩), (5, ⟨.int .u8, 1, 1, [.int .u8]⟩), (9, ⟨.str, 1, 16, [.str]⟩), (22, ⟨.sl 5, 1, 24, [.nil 5]⟩), (24, ⟨.sl 3, 1, 24, [.nil 3]⟩), (25, ⟨.sl 30, 1, 24, [.nil 30]⟩), (27, ⟨.agg [(0, 1, false), (1, 1, false), (2, 1, false)], 3, 56, [.int .i64, .nil 3, .nil 30]⟩), (28, ⟨.sl 90, 1, 24, [.nil 90]⟩), (30, ⟨.agg [(0, 1, false), (1, 1, false)], 2, 32, [.int .i64, .nil 90]⟩), (32, ⟨.agg [(0, 1, false), (1, 1, false), (2, 2, true)], 4, 48, [.int .i64, .int .i64, .int .i64, .nil 90]⟩), (34, ⟨.agg [(0, 1, false), (1, 1, false), (2, 3, true), (5, 1, false), (6, 2, true), (8, 4, true), (12, 4, true)], 16, 224, [.int .i64, .int .i64, .int .i64, .nil 3, .nil 30, .nil 3, .int .i64, .nil 90, .int .i64, .int .i64, .int .i64, .nil 90, .int .i64, .int .i64, .int .i64, .nil 90]⟩), (38, ⟨.agg [(0, 1, false), (1, 1, false), (2, 2, true), (4, 2, true), (6, 3, true), (9, 3, true), (12, 1, false), (13, 2, true), (15, 4, true), (19, 4, true)], 23, 344, [.int .i64, .int .i64, .int .i64, .nil 90, .int .i64, .nil 90, .int .i64, .nil 3, .nil 30, .int .i64, .nil 3, .nil 30, .nil 3, .int .i64, .nil 90, .int .i64, .int .i64, .int .i64, .nil 90, .int .i64, .int .i64, .int .i64, .nil 90]⟩), (41, ⟨.sl 140, 1, 24, [.nil 140]⟩), (54, ⟨.sl 57, 1, 24, [.nil 57]⟩), (56, ⟨.agg [(0, 1, false), (1, 1, false), (2, 1, false)], 3, 56, [.int .i64, .nil 3, .nil 57]⟩), (57, ⟨.agg [(0, 1, false), (1, 1, false)], 2, 32, [.int .i64, .nil 90]⟩), (59, ⟨.agg [(0, 1, false), (1, 1, false), (2, 2, true)], 4, 48, [.int .i64, .int .i64, .int .i64, .nil 90]⟩), (61, ⟨.agg [(0, 1, false), (1, 1, false), (2, 3, true), (5, 1, false), (6, 2, true), (8, 4, true), (12, 4, true)], 16, 224, [.int .i64, .int .i64, .int .i64, .nil 3, .nil 57, .nil 3, .int .i64, .nil 90, .int .i64, .int .i64, .int .i64, .nil 90, .int .i64, .int .i64, .int .i64, .nil 90]⟩), (78, ⟨.one, 1, 8, [.any]⟩), (90, ⟨.int .u64, 1, 8, [.int .u64]⟩), (111, ⟨.agg [(0, 1, false), (1, 1, false), (2, 1, false)], 3, 40, [.nil 5, .int .i64, .int .i64]⟩), (114, ⟨.sl 9, 1, 24, [.nil 9]⟩), (130, ⟨.agg [(0, 2, true), (2, 2, true), (4, 1, false)], 5, 88, [.int .i64, .nil 90, .int .i64, .nil 90, .nil 3]⟩), (134, ⟨.sl 137, 1, 24, [.nil 137]⟩), (137, ⟨.agg [(0, 1, false), (1, 1, false), (2, 1, false), (3, 1, false), (4, 1, false)], 5, 56, [.nil 5, .int .i64, .int .i64, .int .i64, .int .i64]⟩), (140, ⟨.agg [(0, 1, false), (1, 1, false)], 2, 16, [.int .i64, .int .i64]⟩), (160, ⟨.sl 22, 1, 24, [.nil 22]⟩), (167, ⟨.int .u64, 1, 8, [.int .u64]⟩), (182, ⟨.sl 24, 1, 24, [.nil 24]⟩), (189, ⟨.sl 114, 1, 24, [.nil 114]⟩)]
theorem Q0 : TyOk Tryz.prog (KT tab) (XT tab) (tyOf tys) := tysB_ok tys (by kernel_rfl)
theorem mixed : Tryz.prog.follows .mixedOrders = true := by kernel_rfl
def bodyOf (f : Func) : Code := match f.body with | some b => b | none => .skip
structure Sg where
  ms : List Mode
  ar : List VSh
  rs : RSh
  fu : Func
abbrev vi : VSh := .one (.b (.b (.b (.b (.int .i64)))))
abbrev vb : VSh := .one (.b (.b (.b (.b .bool))))
abbrev vl (e : Nat) : VSh := .one (.b (.b (.b (.b (.sl false false e)))))
abbrev vo (e : Nat) : VSh := .one (.b (.b (.b (.b (.sl true true e)))))
abbrev CxS (s : Sg) := Ctx (GT tab) (KT tab) (ResT tab s.rs)
noncomputable abbrev cx (s : Sg) (ih : List Nat) (cs : List Nat) (lv : List (Nat × List Nat)) (lt : Bool) (g : List (Nat × Callee (GT tab) (ResT tab s.rs))) : CxS s := { X := XT tab, ty := tyOf tys, inner := fun t => !(memN t ih), keep := keepOf 0 s.ms, cuts := cs, live := liveOf lv, G := getG g, lits := lt }
noncomputable abbrev fnW (s : Sg) (c : CxS s) (x : Args tab s.ar) : Option (ResT tab s.rs) := callW c (fiOf (GT tab) s.fu s.ms s.rs) (bodyOf s.fu) (decRes tab s.rs) (Q2V tab s.ar x)
def ud (n : Nat) (xs : List (AV (GT tab))) : List (AV (GT tab)) := xs ++ List.replicate n .undef
noncomputable abbrev lpW (s : Sg) (c : CxS s) (k : Nat) (sl : List (AV (GT tab))) (lc : List (LV (GT tab))) (n : Nat) : Option (ResT tab s.rs) := Lw c (finish c (fiOf (GT tab) s.fu s.ms s.rs) (decRes tab s.rs)) ((loops c.cuts 1000 (bodyOf s.fu) []).getD k []) { slots := sl, loc := locOf lc, nx := n }
abbrev FkS (s : Sg) (n : Nat) : Prop := FnOk Tryz.prog n s.fu s.ms (bodyOf s.fu)
abbrev kS {δ : Type} (s : Sg) (F : Args tab s.ar → Option (ResT tab s.rs)) : Callee (GT tab) δ := Q1Q tab s.ms s.ar s.rs F
abbrev FmA := Int × Int × Int × (List Int) × (List (Int × (List Int))) × (List Int) × Int × (List Int) × Int × Int × Int × (List Int) × Int × Int × Int × (List Int)
abbrev RelA := Int × Int × Int × (List Int) × Int × (List Int) × Int × (List Int) × (List (Int × (List Int))) × Int × (List Int) × (List (Int × (List Int))) × (List Int) × Int × (List Int) × Int × Int × Int × (List Int) × Int × Int × Int × (List Int)
abbrev ag0 : VSh := .agg [.int .i64, .sl true true 90]
abbrev ag1 : VSh := .agg [.int .i64, .sl true true 3, .sl true true 30]
abbrev ag2 : VSh := .agg [.int .i64, .int .i64, .int .i64, .sl true true 90]
abbrev ag3 : VSh := .agg [.int .i64, .sl false false 90]
abbrev ag4 : VSh := .agg [.int .i64, .sl false false 3, .sl false false 30]
abbrev ag5 : VSh := .agg [.int .i64, .int .i64, .int .i64, .sl false false 90]
abbrev ag6 : VSh := .agg [.int .i64, .int .i64, .int .i64, .sl false false 3, .sl false false 30, .sl false false 3, .int .i64, .sl false false 90, .int .i64, .int .i64, .int .i64, .sl false false 90, .int .i64, .int .i64, .int .i64, .sl false false 90]
abbrev ag7 : VSh := .agg [.int .i64, .int .i64, .int .i64, .sl true true 90, .int .i64, .sl true true 90, .int .i64, .sl true true 3, .sl true true 30, .int .i64, .sl true true 3, .sl true true 30, .sl true true 3, .int .i64, .sl true true 90, .int .i64, .int .i64, .int .i64, .sl true true 90, .int .i64, .int .i64, .int .i64, .sl true true 90]
abbrev ag8 : VSh := .agg [.int .i64, .int .i64, .int .i64, .sl false false 90, .int .i64, .sl false false 90, .int .i64, .sl false false 3, .sl false false 30, .int .i64, .sl false false 3, .sl false false 30, .sl false false 3, .int .i64, .sl false false 90, .int .i64, .int .i64, .int .i64, .sl false false 90, .int .i64, .int .i64, .int .i64, .sl false false 90]
abbrev KC (δ : Type) := Callee (GT tab) δ
end Go.Ev.W
