/- What functions of the program come to. -/
import Derived.Test.YtmdkpcneakoagaaGreatPhT
import Derived.Test.YtmdkpcneakoagaaGreatPh1
import Derived.Test.YtmdkpcneakoagaaGreatPh2
import Derived.Test.YtmdkpcneakoagaaGreatPh3
import Derived.Test.YtmdkpcneakoagaaGreatPh4
namespace Go.Ev.W
open Go.Ev Go.Proofs
set_option maxRecDepth 100000
set_option linter.unusedVariables false
noncomputable abbrev Q1N.s : Sg := ⟨[.lend], [vl 5], ⟨[vb], [none]⟩, Tryz.f3⟩
noncomputable def Q1N.gs (δ : Type) : List (Nat × KC δ) := [(6, Q1p.k), (7, Q09.k), (8, Q0S.k), (9, Q0G.k), (10, Q1y.k), (11, Q1x.k), (12, Q1w.k), (13, Q01.k)]
theorem Q1N.gok (δ : Type) : Q4 Tryz.prog tab (Q1N.gs δ) := .cons Q1p.con (.cons Q09.con (.cons Q0S.con (.cons Q0G.con (.cons Q1y.con (.cons Q1x.con (.cons Q1w.con (.cons Q01.con .nil)))))))
noncomputable def Q1N.c := cx Q1N.s [] [] [] false (Q1N.gs _)
noncomputable def Q1N (x0 : List Int) : Option (Bool) := fnW Q1N.s Q1N.c x0
theorem Q1N.fok : FkS Q1N.s 3 := ⟨Tryz.func3, by kernel_rfl, by kernel_rfl⟩
noncomputable def Q1N.fn (x : Args tab Q1N.s.ar) : Option (ResT tab Q1N.s.rs) := Q1N x
noncomputable abbrev Q1N.as := Q1N.s.ar
theorem Q1N.eq (x0 : List Int) : Q1N x0 =
 (Q1p x0).bind fun y1 =>
 bif y1 then
 some true
 else
 (Q09 x0).bind fun y2 =>
 (Q0S y2.1 y2.2.1 y2.2.2.1 y2.2.2.2.1 y2.2.2.2.2).bind fun y3 =>
 (Q0G y2.1 y2.2.1 y2.2.2.1 y2.2.2.2.1 y2.2.2.2.2).bind fun y4 =>
 bif !(y4.2 == y3.2) then
 some (y4.2 == y3.2)
 else
 bif !y4.2 then
 some (y4.2 == y3.2)
 else
 (Q1x y2.1).bind fun y5 =>
 (Q1y y5 y2.2.1 y2.2.2.1 y2.2.2.2.1).bind fun y6 =>
 (Q1w y2.1 y4.1).bind fun y7 =>
 bif y7 == IntKind.i64.wrap ((IntKind.i64.wrap ((y2.2.1.length : Int) + 1)) - (y6.length : Int)) then
 bif y4.1.2.2.2.2.2.2.2.2.2.1 == IntKind.i64.wrap ((IntKind.i64.wrap ((y2.2.1.length : Int) + 1)) - (y6.length : Int)) then
 bif y4.1.2.2.2.2.2.2.1 == IntKind.i64.wrap ((IntKind.i64.wrap (y2.1.1 + 1)) - (y6.length : Int)) then
 (Q01 (y4.1.2.2.2.2.1, y4.1.2.2.2.2.2.1) (y3.1.2.2.2.2.1, y3.1.2.2.2.2.2.1)).bind fun y8 =>
 some y8
 else
 some false
 else
 some false
 else
 some false := by kernel_rfl
end Go.Ev.W
