/- What functions of the program come to. -/
import Derived.Test.YtiogdohiooocnaaPbT
import Derived.Test.YtiogdohiooocnaaEvGrow
import Derived.Test.YtiogdohiooocnaaPb10
import Derived.Test.YtiogdohiooocnaaPb11
import Derived.Test.YtiogdohiooocnaaPb15
import Derived.Test.YtiogdohiooocnaaPb3
import Derived.Test.YtiogdohiooocnaaPb4
import Derived.Test.YtiogdohiooocnaaPb6
import Derived.Test.YtiogdohiooocnaaPbL
namespace Go.Ev.W
open Go.Ev Go.Proofs
set_option maxRecDepth 100000
set_option linter.unusedVariables false

/-! ### laws_big: loop.example/g00688/laws.big -/
def laws_big.ms : List Mode := [.lend]
def laws_big.as : List VSh := [.one (.b (.b (.b (.b (.sl false false 5)))))]
def laws_big.rs : RSh := ⟨[.one (.b (.b (.b (.b (.bool)))))], [none]⟩
noncomputable def laws_big.gs (δ : Type) : List (Nat × Callee (GT tab) δ) := []
theorem laws_big.gok (δ : Type) : AllCon Try.prog tab (laws_big.gs δ) := .nil
noncomputable def laws_big.c : Ctx (GT tab) (KT tab) (ResT tab laws_big.rs) := { X := XT tab, ty := tyOf tys, inner := fun _ => true, keep := keepOf 0 laws_big.ms, cuts := [], live := liveOf [], G := getG (laws_big.gs _) }
noncomputable def laws_big.b : Code := bodyOf Try.f33
noncomputable def laws_big (x0 : List Int) : Option (Bool) := callW laws_big.c (fiOf (GT tab) Try.f33 laws_big.ms) laws_big.b (decRes tab laws_big.rs) (encArgs tab laws_big.as x0)
theorem laws_big.fok : FnOk Try.prog 33 Try.f33 laws_big.ms laws_big.b := ⟨Try.func33, by kernel_rfl, by kernel_rfl⟩
noncomputable def laws_big.fn : Args tab laws_big.as → Option (ResT tab laws_big.rs) := fun x => laws_big x
theorem laws_big.con {δ : Type} : Con Try.prog (KT tab) 33 (calleeS (β := δ) tab laws_big.ms laws_big.as laws_big.rs laws_big.fn) := con_shape (c := laws_big.c) mixed tysOk (getG_con (laws_big.gok _)) laws_big.fok rfl rfl (fun _ => rfl)
theorem laws_big.eq (x0 : List Int) : laws_big x0 =
    some (decide ((x0.length : Int) > (1048576 : Int))) := by kernel_rfl

/-! ### spec_l01Open: loop.example/g00688/spec.l01Open -/
def spec_l01Open.ms : List Mode := [.lend]
def spec_l01Open.as : List VSh := [.one (.b (.b (.b (.b (.sl false false 5)))))]
def spec_l01Open.rs : RSh := ⟨[.one (.ptr true 150 [.b (.b (.b (.sl false false 5))), .b (.b (.b (.int .i64))), .b (.b (.b (.int .i64)))])], [none]⟩
noncomputable def spec_l01Open.gs (δ : Type) : List (Nat × Callee (GT tab) δ) := []
theorem spec_l01Open.gok (δ : Type) : AllCon Try.prog tab (spec_l01Open.gs δ) := .nil
noncomputable def spec_l01Open.c : Ctx (GT tab) (KT tab) (ResT tab spec_l01Open.rs) := { X := XT tab, ty := tyOf tys, inner := fun _ => true, keep := keepOf 0 spec_l01Open.ms, cuts := [], live := liveOf [], G := getG (spec_l01Open.gs _) }
noncomputable def spec_l01Open.b : Code := bodyOf Try.f87
noncomputable def spec_l01Open (x0 : List Int) : Option ((List Int) × Int × Int) := callW spec_l01Open.c (fiOf (GT tab) Try.f87 spec_l01Open.ms) spec_l01Open.b (decRes tab spec_l01Open.rs) (encArgs tab spec_l01Open.as x0)
theorem spec_l01Open.fok : FnOk Try.prog 87 Try.f87 spec_l01Open.ms spec_l01Open.b := ⟨Try.func87, by kernel_rfl, by kernel_rfl⟩
noncomputable def spec_l01Open.fn : Args tab spec_l01Open.as → Option (ResT tab spec_l01Open.rs) := fun x => spec_l01Open x
theorem spec_l01Open.con {δ : Type} : Con Try.prog (KT tab) 87 (calleeS (β := δ) tab spec_l01Open.ms spec_l01Open.as spec_l01Open.rs spec_l01Open.fn) := con_shape (c := spec_l01Open.c) mixed tysOk (getG_con (spec_l01Open.gok _)) spec_l01Open.fok rfl rfl (fun _ => rfl)
theorem spec_l01Open.eq (x0 : List Int) : spec_l01Open x0 =
    some (x0, (0 : Int), IntKind.i64.wrap ((89 : Int) + ((x0.length : Int).tmod (1000 : Int)))) := by kernel_rfl

/-! ### spec_l01Cur_pick: (*loop.example/g00688/spec.l01Cur).pick -/
def spec_l01Cur_pick.ms : List Mode := [.keep, .lend]
def spec_l01Cur_pick.as : List VSh := [.one (.ptr true 150 [.b (.b (.b (.sl false false 5))), .b (.b (.b (.int .i64))), .b (.b (.b (.int .i64)))]), .one (.b (.b (.b (.b (.int .i64)))))]
def spec_l01Cur_pick.rs : RSh := ⟨[.one (.b (.b (.b (.b (.int .i64)))))], [some (.one (.ptr true 150 [.b (.b (.b (.sl false false 5))), .b (.b (.b (.int .i64))), .b (.b (.b (.int .i64)))])), none]⟩
noncomputable def spec_l01Cur_pick.gs (δ : Type) : List (Nat × Callee (GT tab) δ) := []
theorem spec_l01Cur_pick.gok (δ : Type) : AllCon Try.prog tab (spec_l01Cur_pick.gs δ) := .nil
noncomputable def spec_l01Cur_pick.c : Ctx (GT tab) (KT tab) (ResT tab spec_l01Cur_pick.rs) := { X := XT tab, ty := tyOf tys, inner := fun _ => true, keep := keepOf 0 spec_l01Cur_pick.ms, cuts := [], live := liveOf [], G := getG (spec_l01Cur_pick.gs _) }
noncomputable def spec_l01Cur_pick.b : Code := bodyOf Try.f121
noncomputable def spec_l01Cur_pick (x0 : (List Int) × Int × Int) (x1 : Int) : Option (Int × ((List Int) × Int × Int)) := callW spec_l01Cur_pick.c (fiOf (GT tab) Try.f121 spec_l01Cur_pick.ms) spec_l01Cur_pick.b (decRes tab spec_l01Cur_pick.rs) (encArgs tab spec_l01Cur_pick.as (x0, x1))
theorem spec_l01Cur_pick.fok : FnOk Try.prog 121 Try.f121 spec_l01Cur_pick.ms spec_l01Cur_pick.b := ⟨Try.func121, by kernel_rfl, by kernel_rfl⟩
noncomputable def spec_l01Cur_pick.fn : Args tab spec_l01Cur_pick.as → Option (ResT tab spec_l01Cur_pick.rs) := fun x => spec_l01Cur_pick x.1 x.2
theorem spec_l01Cur_pick.con {δ : Type} : Con Try.prog (KT tab) 121 (calleeS (β := δ) tab spec_l01Cur_pick.ms spec_l01Cur_pick.as spec_l01Cur_pick.rs spec_l01Cur_pick.fn) := con_shape (c := spec_l01Cur_pick.c) mixed tysOk (getG_con (spec_l01Cur_pick.gok _)) spec_l01Cur_pick.fok rfl rfl (fun _ => rfl)
theorem spec_l01Cur_pick.eq (x0 : (List Int) × Int × Int) (x1 : Int) : spec_l01Cur_pick x0 x1 =
    bif decide (x1 < (2 : Int)) then
      some ((0 : Int), (x0.1, x0.2.1, x0.2.2))
    else
      bif decide (x0.2.1 < (x0.1.length : Int)) then
        (at? x0.1 x0.2.1).bind fun y1 =>
        bif decide (x1 = (0 : Int)) then
          none
        else
          some ((IntKind.i64.wrap y1).tmod x1, (x0.1, IntKind.i64.wrap (x0.2.1 + (1 : Int)), x0.2.2))
      else
        bif decide ((x0.1.length : Int) > (0 : Int)) then
          bif decide ((x0.1.length : Int) = (0 : Int)) then
            none
          else
            (at? x0.1 (x0.2.1.tmod (x0.1.length : Int))).bind fun y2 =>
            bif decide (x1 = (0 : Int)) then
              none
            else
              some ((IntKind.i64.wrap ((IntKind.i64.wrap (((IntKind.i64.wrap ((IntKind.i64.wrap (x0.2.2 * (1103 : Int))) + (12345 : Int))).tmod (65521 : Int)).tdiv (7 : Int))) + (IntKind.i64.wrap y2))).tmod x1, (x0.1, IntKind.i64.wrap (x0.2.1 + (1 : Int)), (IntKind.i64.wrap ((IntKind.i64.wrap (x0.2.2 * (1103 : Int))) + (12345 : Int))).tmod (65521 : Int)))
        else
          bif decide (x1 = (0 : Int)) then
            none
          else
            some ((0 : Int).tmod x1, (x0.1, IntKind.i64.wrap (x0.2.1 + (1 : Int)), (IntKind.i64.wrap ((IntKind.i64.wrap (x0.2.2 * (1103 : Int))) + (12345 : Int))).tmod (65521 : Int))) := by kernel_rfl

/-! ### spec_l01Cur_once: (*loop.example/g00688/spec.l01Cur).once -/
def spec_l01Cur_once.ms : List Mode := [.keep, .lend]
def spec_l01Cur_once.as : List VSh := [.one (.ptr true 150 [.b (.b (.b (.sl false false 5))), .b (.b (.b (.int .i64))), .b (.b (.b (.int .i64)))]), .one (.b (.b (.b (.b (.int .i64)))))]
def spec_l01Cur_once.rs : RSh := ⟨[.one (.b (.b (.b (.b (.bool)))))], [some (.one (.ptr true 150 [.b (.b (.b (.sl false false 5))), .b (.b (.b (.int .i64))), .b (.b (.b (.int .i64)))])), none]⟩
noncomputable def spec_l01Cur_once.gs (δ : Type) : List (Nat × Callee (GT tab) δ) := [(121, calleeS tab spec_l01Cur_pick.ms spec_l01Cur_pick.as spec_l01Cur_pick.rs spec_l01Cur_pick.fn)]
theorem spec_l01Cur_once.gok (δ : Type) : AllCon Try.prog tab (spec_l01Cur_once.gs δ) := .cons spec_l01Cur_pick.con (.nil)
noncomputable def spec_l01Cur_once.c : Ctx (GT tab) (KT tab) (ResT tab spec_l01Cur_once.rs) := { X := XT tab, ty := tyOf tys, inner := fun _ => true, keep := keepOf 0 spec_l01Cur_once.ms, cuts := [], live := liveOf [], G := getG (spec_l01Cur_once.gs _) }
noncomputable def spec_l01Cur_once.b : Code := bodyOf Try.f145
noncomputable def spec_l01Cur_once (x0 : (List Int) × Int × Int) (x1 : Int) : Option (Bool × ((List Int) × Int × Int)) := callW spec_l01Cur_once.c (fiOf (GT tab) Try.f145 spec_l01Cur_once.ms) spec_l01Cur_once.b (decRes tab spec_l01Cur_once.rs) (encArgs tab spec_l01Cur_once.as (x0, x1))
theorem spec_l01Cur_once.fok : FnOk Try.prog 145 Try.f145 spec_l01Cur_once.ms spec_l01Cur_once.b := ⟨Try.func145, by kernel_rfl, by kernel_rfl⟩
noncomputable def spec_l01Cur_once.fn : Args tab spec_l01Cur_once.as → Option (ResT tab spec_l01Cur_once.rs) := fun x => spec_l01Cur_once x.1 x.2
theorem spec_l01Cur_once.con {δ : Type} : Con Try.prog (KT tab) 145 (calleeS (β := δ) tab spec_l01Cur_once.ms spec_l01Cur_once.as spec_l01Cur_once.rs spec_l01Cur_once.fn) := con_shape (c := spec_l01Cur_once.c) mixed tysOk (getG_con (spec_l01Cur_once.gok _)) spec_l01Cur_once.fok rfl rfl (fun _ => rfl)
theorem spec_l01Cur_once.eq (x0 : (List Int) × Int × Int) (x1 : Int) : spec_l01Cur_once x0 x1 =
    (spec_l01Cur_pick (x0.1, x0.2.1, x0.2.2) x1).bind fun y1 =>
    some (y1.1 == IntKind.i64.wrap (x1 - (1 : Int)), (y1.2.1, y1.2.2.1, y1.2.2.2)) := by kernel_rfl

/-! ### spec_l01Bool: loop.example/g00688/spec.l01Bool -/
def spec_l01Bool.ms : List Mode := [.lend]
def spec_l01Bool.as : List VSh := [.one (.b (.b (.b (.b (.bool)))))]
def spec_l01Bool.rs : RSh := ⟨[.one (.b (.b (.b (.b (.int .i64)))))], [none]⟩
noncomputable def spec_l01Bool.gs (δ : Type) : List (Nat × Callee (GT tab) δ) := []
theorem spec_l01Bool.gok (δ : Type) : AllCon Try.prog tab (spec_l01Bool.gs δ) := .nil
noncomputable def spec_l01Bool.c : Ctx (GT tab) (KT tab) (ResT tab spec_l01Bool.rs) := { X := XT tab, ty := tyOf tys, inner := fun _ => true, keep := keepOf 0 spec_l01Bool.ms, cuts := [], live := liveOf [], G := getG (spec_l01Bool.gs _) }
noncomputable def spec_l01Bool.b : Code := bodyOf Try.f172
noncomputable def spec_l01Bool (x0 : Bool) : Option (Int) := callW spec_l01Bool.c (fiOf (GT tab) Try.f172 spec_l01Bool.ms) spec_l01Bool.b (decRes tab spec_l01Bool.rs) (encArgs tab spec_l01Bool.as x0)
theorem spec_l01Bool.fok : FnOk Try.prog 172 Try.f172 spec_l01Bool.ms spec_l01Bool.b := ⟨Try.func172, by kernel_rfl, by kernel_rfl⟩
noncomputable def spec_l01Bool.fn : Args tab spec_l01Bool.as → Option (ResT tab spec_l01Bool.rs) := fun x => spec_l01Bool x
theorem spec_l01Bool.con {δ : Type} : Con Try.prog (KT tab) 172 (calleeS (β := δ) tab spec_l01Bool.ms spec_l01Bool.as spec_l01Bool.rs spec_l01Bool.fn) := con_shape (c := spec_l01Bool.c) mixed tysOk (getG_con (spec_l01Bool.gok _)) spec_l01Bool.fok rfl rfl (fun _ => rfl)
theorem spec_l01Bool.eq (x0 : Bool) : spec_l01Bool x0 =
    bif x0 then
      some (1 : Int)
    else
      some (0 : Int) := by kernel_rfl

/-! ### spec_l01Cur_row: (*loop.example/g00688/spec.l01Cur).row -/
def spec_l01Cur_row.ms : List Mode := [.keep]
def spec_l01Cur_row.as : List VSh := [.one (.ptr true 150 [.b (.b (.b (.sl false false 5))), .b (.b (.b (.int .i64))), .b (.b (.b (.int .i64)))])]
def spec_l01Cur_row.rs : RSh := ⟨[.one (.b (.b (.b (.b (.sl true true 3)))))], [some (.one (.ptr true 150 [.b (.b (.b (.sl false false 5))), .b (.b (.b (.int .i64))), .b (.b (.b (.int .i64)))]))]⟩
noncomputable def spec_l01Cur_row.gs (δ : Type) : List (Nat × Callee (GT tab) δ) := [(121, calleeS tab spec_l01Cur_pick.ms spec_l01Cur_pick.as spec_l01Cur_pick.rs spec_l01Cur_pick.fn), (145, calleeS tab spec_l01Cur_once.ms spec_l01Cur_once.as spec_l01Cur_once.rs spec_l01Cur_once.fn), (172, calleeS tab spec_l01Bool.ms spec_l01Bool.as spec_l01Bool.rs spec_l01Bool.fn)]
theorem spec_l01Cur_row.gok (δ : Type) : AllCon Try.prog tab (spec_l01Cur_row.gs δ) := .cons spec_l01Cur_pick.con (.cons spec_l01Cur_once.con (.cons spec_l01Bool.con (.nil)))
noncomputable def spec_l01Cur_row.c : Ctx (GT tab) (KT tab) (ResT tab spec_l01Cur_row.rs) := { X := XT tab, ty := tyOf tys, inner := fun _ => true, keep := keepOf 0 spec_l01Cur_row.ms, cuts := [], live := liveOf [(4, [0, 3, 4, 5]), (11, [0, 3])], G := getG (spec_l01Cur_row.gs _) }
noncomputable def spec_l01Cur_row.b : Code := bodyOf Try.f142
noncomputable def spec_l01Cur_row (x0 : (List Int) × Int × Int) : Option ((List Int) × ((List Int) × Int × Int)) := callW spec_l01Cur_row.c (fiOf (GT tab) Try.f142 spec_l01Cur_row.ms) spec_l01Cur_row.b (decRes tab spec_l01Cur_row.rs) (encArgs tab spec_l01Cur_row.as x0)
theorem spec_l01Cur_row.fok : FnOk Try.prog 142 Try.f142 spec_l01Cur_row.ms spec_l01Cur_row.b := ⟨Try.func142, by kernel_rfl, by kernel_rfl⟩
noncomputable def spec_l01Cur_row.fn : Args tab spec_l01Cur_row.as → Option (ResT tab spec_l01Cur_row.rs) := fun x => spec_l01Cur_row x
theorem spec_l01Cur_row.con {δ : Type} : Con Try.prog (KT tab) 142 (calleeS (β := δ) tab spec_l01Cur_row.ms spec_l01Cur_row.as spec_l01Cur_row.rs spec_l01Cur_row.fn) := con_shape (c := spec_l01Cur_row.c) mixed tysOk (getG_con (spec_l01Cur_row.gok _)) spec_l01Cur_row.fok rfl rfl (fun _ => rfl)
noncomputable def spec_l01Cur_row_l0 (v0 : Int) (v1 : Int) (v2 : List Int) (v3 : Int) (v4 : Int) (v5 : List Int) : Option ((List Int) × ((List Int) × Int × Int)) := Lw spec_l01Cur_row.c (finish spec_l01Cur_row.c (fiOf (GT tab) Try.f142 spec_l01Cur_row.ms) (decRes tab spec_l01Cur_row.rs)) ((loops spec_l01Cur_row.c.cuts 1000 spec_l01Cur_row.b []).getD 0 []) { slots := [.ptr 0 0, .undef, .undef, .sl 1 0, .int .i64 v0, .int .i64 v1, .undef, .undef, .undef, .undef, .undef, .undef, .undef, .undef, .undef, .undef, .undef, .undef, .undef, .undef, .undef, .undef, .undef, .undef, .undef, .undef, .undef, .undef, .undef, .undef, .undef, .undef, .undef, .undef, .undef, .undef, .undef, .undef, .undef, .undef, .undef, .undef, .undef, .undef, .undef, .undef, .undef, .undef], loc := locOf [.box 150 [.vs false 5 v2, .int .i64 v3, .int .i64 v4], .row 0 true 3 v5], nx := 2 }
noncomputable def spec_l01Cur_row_l1 (v0 : List Int) (v1 : Int) (v2 : Int) (v3 : List Int) : Option ((List Int) × ((List Int) × Int × Int)) := Lw spec_l01Cur_row.c (finish spec_l01Cur_row.c (fiOf (GT tab) Try.f142 spec_l01Cur_row.ms) (decRes tab spec_l01Cur_row.rs)) ((loops spec_l01Cur_row.c.cuts 1000 spec_l01Cur_row.b []).getD 1 []) { slots := [.ptr 0 0, .undef, .undef, .sl 1 0, .undef, .undef, .undef, .undef, .undef, .undef, .undef, .undef, .undef, .undef, .undef, .undef, .undef, .undef, .undef, .undef, .undef, .undef, .undef, .undef, .undef, .undef, .undef, .undef, .undef, .undef, .undef, .undef, .undef, .undef, .undef, .undef, .undef, .undef, .undef, .undef, .undef, .undef, .undef, .undef, .undef, .undef, .undef, .undef], loc := locOf [.box 150 [.vs false 5 v0, .int .i64 v1, .int .i64 v2], .row 0 true 3 v3], nx := 2 }
theorem spec_l01Cur_row.eq (x0 : (List Int) × Int × Int) : spec_l01Cur_row x0 =
    (spec_l01Cur_pick (x0.1, x0.2.1, x0.2.2) (4 : Int)).bind fun y1 =>
    (spec_l01Cur_pick (y1.2.1, y1.2.2.1, y1.2.2.2) (3 : Int)).bind fun y2 =>
    (at? ([(5 : Int), (40 : Int), (140 : Int)] : List Int) y2.1).bind fun y3 =>
    ([(5 : Int), (40 : Int), (140 : Int)] : List Int)[y2.1.toNat]?.bind fun y4 =>
    (spec_l01Cur_pick (y2.2.1, y2.2.2.1, y2.2.2.2) y4).bind fun y5 =>
    spec_l01Cur_row_l0 y1.1 y5.1 y5.2.1 y5.2.2.1 y5.2.2.2 ([] : List Int) := by kernel_rfl
theorem spec_l01Cur_row_l0.eq (v0 : Int) (v1 : Int) (v2 : List Int) (v3 : Int) (v4 : Int) (v5 : List Int) : spec_l01Cur_row_l0 v0 v1 v2 v3 v4 v5 =
    bif decide (v1 > (0 : Int)) then
      (spec_l01Cur_pick (v2, v3, v4) (2 : Int)).bind fun y1 =>
      bif v0 == (0 : Int) then
        (spec_l01Cur_once (y1.2.1, y1.2.2.1, y1.2.2.2) (9 : Int)).bind fun y2 =>
        (spec_l01Bool y2.1).bind fun y3 =>
        bif decide ((v5.length + ([y3] : List Int).length) * 8 ≤ 140737488355328) then
          spec_l01Cur_row_l0 v0 (IntKind.i64.wrap (v1 - (1 : Int))) y2.2.1 y2.2.2.1 y2.2.2.2 (v5 ++ ([y3] : List Int))
        else
          none
      else
        bif decide ((v5.length + ([y1.1] : List Int).length) * 8 ≤ 140737488355328) then
          spec_l01Cur_row_l0 v0 (IntKind.i64.wrap (v1 - (1 : Int))) y1.2.1 y1.2.2.1 y1.2.2.2 (v5 ++ ([y1.1] : List Int))
        else
          none
    else
      (spec_l01Cur_once (v2, v3, v4) (60 : Int)).bind fun y4 =>
      bif y4.1 then
        spec_l01Cur_row_l1 y4.2.1 y4.2.2.1 y4.2.2.2 v5
      else
        some (v5, (y4.2.1, y4.2.2.1, y4.2.2.2)) := (Lw_eq tysOk (getG_con (spec_l01Cur_row.gok _)) _ _).trans (by kernel_rfl)
theorem spec_l01Cur_row_l1.eq (v0 : List Int) (v1 : Int) (v2 : Int) (v3 : List Int) : spec_l01Cur_row_l1 v0 v1 v2 v3 =
    (spec_l01Cur_pick (v0, v1, v2) (2 : Int)).bind fun y1 =>
    bif decide ((v3.length : Int) < IntKind.i64.wrap ((5000 : Int) + y1.1)) then
      bif decide ((v3.length + ([IntKind.i64.wrap (((v3.length : Int).tmod (3 : Int)).tdiv (2 : Int))] : List Int).length) * 8 ≤ 140737488355328) then
        spec_l01Cur_row_l1 y1.2.1 y1.2.2.1 y1.2.2.2 (v3 ++ ([IntKind.i64.wrap (((v3.length : Int).tmod (3 : Int)).tdiv (2 : Int))] : List Int))
      else
        none
    else
      some (v3, (y1.2.1, y1.2.2.1, y1.2.2.2)) := (Lw_eq tysOk (getG_con (spec_l01Cur_row.gok _)) _ _).trans (by kernel_rfl)

/-! ### spec_l01Cur_raw: (*loop.example/g00688/spec.l01Cur).raw -/
def spec_l01Cur_raw.ms : List Mode := [.keep]
def spec_l01Cur_raw.as : List VSh := [.one (.ptr true 150 [.b (.b (.b (.sl false false 5))), .b (.b (.b (.int .i64))), .b (.b (.b (.int .i64)))])]
def spec_l01Cur_raw.rs : RSh := ⟨[.one (.b (.b (.b (.b (.int .i64)))))], [some (.one (.ptr true 150 [.b (.b (.b (.sl false false 5))), .b (.b (.b (.int .i64))), .b (.b (.b (.int .i64)))]))]⟩
noncomputable def spec_l01Cur_raw.gs (δ : Type) : List (Nat × Callee (GT tab) δ) := [(121, calleeS tab spec_l01Cur_pick.ms spec_l01Cur_pick.as spec_l01Cur_pick.rs spec_l01Cur_pick.fn)]
theorem spec_l01Cur_raw.gok (δ : Type) : AllCon Try.prog tab (spec_l01Cur_raw.gs δ) := .cons spec_l01Cur_pick.con (.nil)
noncomputable def spec_l01Cur_raw.c : Ctx (GT tab) (KT tab) (ResT tab spec_l01Cur_raw.rs) := { X := XT tab, ty := tyOf tys, inner := fun _ => true, keep := keepOf 0 spec_l01Cur_raw.ms, cuts := [], live := liveOf [], G := getG (spec_l01Cur_raw.gs _) }
noncomputable def spec_l01Cur_raw.b : Code := bodyOf Try.f122
noncomputable def spec_l01Cur_raw (x0 : (List Int) × Int × Int) : Option (Int × ((List Int) × Int × Int)) := callW spec_l01Cur_raw.c (fiOf (GT tab) Try.f122 spec_l01Cur_raw.ms) spec_l01Cur_raw.b (decRes tab spec_l01Cur_raw.rs) (encArgs tab spec_l01Cur_raw.as x0)
theorem spec_l01Cur_raw.fok : FnOk Try.prog 122 Try.f122 spec_l01Cur_raw.ms spec_l01Cur_raw.b := ⟨Try.func122, by kernel_rfl, by kernel_rfl⟩
noncomputable def spec_l01Cur_raw.fn : Args tab spec_l01Cur_raw.as → Option (ResT tab spec_l01Cur_raw.rs) := fun x => spec_l01Cur_raw x
theorem spec_l01Cur_raw.con {δ : Type} : Con Try.prog (KT tab) 122 (calleeS (β := δ) tab spec_l01Cur_raw.ms spec_l01Cur_raw.as spec_l01Cur_raw.rs spec_l01Cur_raw.fn) := con_shape (c := spec_l01Cur_raw.c) mixed tysOk (getG_con (spec_l01Cur_raw.gok _)) spec_l01Cur_raw.fok rfl rfl (fun _ => rfl)
theorem spec_l01Cur_raw.eq (x0 : (List Int) × Int × Int) : spec_l01Cur_raw x0 =
    (spec_l01Cur_pick (x0.1, x0.2.1, x0.2.2) (8 : Int)).bind fun y1 =>
    bif y1.1 == (0 : Int) then
      (spec_l01Cur_pick (y1.2.1, y1.2.2.1, y1.2.2.2) (256 : Int)).bind fun y2 =>
      some (IntKind.i64.wrap (y2.1 - (128 : Int)), (y2.2.1, y2.2.2.1, y2.2.2.2))
    else
      bif y1.1 == (1 : Int) then
        (spec_l01Cur_pick (y1.2.1, y1.2.2.1, y1.2.2.2) (8 : Int)).bind fun y3 =>
        (at? ([(9223372036854775807 : Int), (-9223372036854775808 : Int), (4611686018427387904 : Int), (4294967295 : Int), (4294967296 : Int), (-1000 : Int), (1000 : Int), (257 : Int)] : List Int) y3.1).bind fun y4 =>
        ([(9223372036854775807 : Int), (-9223372036854775808 : Int), (4611686018427387904 : Int), (4294967295 : Int), (4294967296 : Int), (-1000 : Int), (1000 : Int), (257 : Int)] : List Int)[y3.1.toNat]?.bind fun y5 =>
        some (y5, (y3.2.1, y3.2.2.1, y3.2.2.2))
      else
        (spec_l01Cur_pick (y1.2.1, y1.2.2.1, y1.2.2.2) (14 : Int)).bind fun y6 =>
        some (IntKind.i64.wrap (y6.1 - (3 : Int)), (y6.2.1, y6.2.2.1, y6.2.2.2)) := by kernel_rfl

/-! ### spec_l01Cur_badBits: (*loop.example/g00688/spec.l01Cur).badBits -/
def spec_l01Cur_badBits.ms : List Mode := [.keep]
def spec_l01Cur_badBits.as : List VSh := [.one (.ptr true 150 [.b (.b (.b (.sl false false 5))), .b (.b (.b (.int .i64))), .b (.b (.b (.int .i64)))])]
def spec_l01Cur_badBits.rs : RSh := ⟨[.agg [.int .i64, .sl true true 117]], [some (.one (.ptr true 150 [.b (.b (.b (.sl false false 5))), .b (.b (.b (.int .i64))), .b (.b (.b (.int .i64)))]))]⟩
noncomputable def spec_l01Cur_badBits.gs (δ : Type) : List (Nat × Callee (GT tab) δ) := [(91, calleeS tab spec_BitsOf.ms spec_BitsOf.as spec_BitsOf.rs spec_BitsOf.fn), (121, calleeS tab spec_l01Cur_pick.ms spec_l01Cur_pick.as spec_l01Cur_pick.rs spec_l01Cur_pick.fn), (122, calleeS tab spec_l01Cur_raw.ms spec_l01Cur_raw.as spec_l01Cur_raw.rs spec_l01Cur_raw.fn), (142, calleeS tab spec_l01Cur_row.ms spec_l01Cur_row.as spec_l01Cur_row.rs spec_l01Cur_row.fn)]
theorem spec_l01Cur_badBits.gok (δ : Type) : AllCon Try.prog tab (spec_l01Cur_badBits.gs δ) := .cons spec_BitsOf.con (.cons spec_l01Cur_pick.con (.cons spec_l01Cur_raw.con (.cons spec_l01Cur_row.con (.nil))))
noncomputable def spec_l01Cur_badBits.c : Ctx (GT tab) (KT tab) (ResT tab spec_l01Cur_badBits.rs) := { X := XT tab, ty := tyOf tys, inner := fun _ => true, keep := keepOf 0 spec_l01Cur_badBits.ms, cuts := [], live := liveOf [], G := getG (spec_l01Cur_badBits.gs _) }
noncomputable def spec_l01Cur_badBits.b : Code := bodyOf Try.f88
noncomputable def spec_l01Cur_badBits (x0 : (List Int) × Int × Int) : Option ((Int × (List Int)) × ((List Int) × Int × Int)) := callW spec_l01Cur_badBits.c (fiOf (GT tab) Try.f88 spec_l01Cur_badBits.ms) spec_l01Cur_badBits.b (decRes tab spec_l01Cur_badBits.rs) (encArgs tab spec_l01Cur_badBits.as x0)
theorem spec_l01Cur_badBits.fok : FnOk Try.prog 88 Try.f88 spec_l01Cur_badBits.ms spec_l01Cur_badBits.b := ⟨Try.func88, by kernel_rfl, by kernel_rfl⟩
noncomputable def spec_l01Cur_badBits.fn : Args tab spec_l01Cur_badBits.as → Option (ResT tab spec_l01Cur_badBits.rs) := fun x => spec_l01Cur_badBits x
theorem spec_l01Cur_badBits.con {δ : Type} : Con Try.prog (KT tab) 88 (calleeS (β := δ) tab spec_l01Cur_badBits.ms spec_l01Cur_badBits.as spec_l01Cur_badBits.rs spec_l01Cur_badBits.fn) := con_shape (c := spec_l01Cur_badBits.c) mixed tysOk (getG_con (spec_l01Cur_badBits.gok _)) spec_l01Cur_badBits.fok rfl rfl (fun _ => rfl)
theorem spec_l01Cur_badBits.eq (x0 : (List Int) × Int × Int) : spec_l01Cur_badBits x0 =
    (spec_l01Cur_row (x0.1, x0.2.1, x0.2.2)).bind fun y1 =>
    (spec_BitsOf y1.1).bind fun y2 =>
    (spec_l01Cur_pick (y1.2.1, y1.2.2.1, y1.2.2.2) (14 : Int)).bind fun y3 =>
    bif y3.1 == (0 : Int) then
      (spec_l01Cur_raw (y3.2.1, y3.2.2.1, y3.2.2.2)).bind fun y4 =>
      (spec_l01Cur_pick (y4.2.1, y4.2.2.1, y4.2.2.2) (3 : Int)).bind fun y5 =>
      (at? ([y4.1, IntKind.i64.wrap (y2.1.1 + (1 : Int)), IntKind.i64.wrap (y2.1.1 - (1 : Int))] : List Int) y5.1).bind fun y6 =>
      ([y4.1, IntKind.i64.wrap (y2.1.1 + (1 : Int)), IntKind.i64.wrap (y2.1.1 - (1 : Int))] : List Int)[y5.1.toNat]?.bind fun y7 =>
      some ((y7, y2.1.2), (y5.2.1, y5.2.2.1, y5.2.2.2))
    else
      bif y3.1 == (1 : Int) then
        (spec_l01Cur_pick (y3.2.1, y3.2.2.1, y3.2.2.2) (2 : Int)).bind fun y8 =>
        bif decide ((y2.1.2.length + ([IntKind.u64.wrap y8.1] : List Int).length) * 8 ≤ 140737488355328) then
          some ((y2.1.1, y2.1.2 ++ ([IntKind.u64.wrap y8.1] : List Int)), (y8.2.1, y8.2.2.1, y8.2.2.2))
        else
          none
      else
        bif y3.1 == (2 : Int) then
          bif decide ((y2.1.2.length : Int) > (0 : Int)) then
            (spec_l01Cur_pick (y3.2.1, y3.2.2.1, y3.2.2.2) (y2.1.2.length : Int)).bind fun y9 =>
            (at? y2.1.2 y9.1).bind fun y10 =>
            y2.1.2[y9.1.toNat]?.bind fun y11 =>
            some ((y2.1.1, y2.1.2.set y9.1.toNat (18446744073709551615 : Int)), (y9.2.1, y9.2.2.1, y9.2.2.2))
          else
            some ((y2.1.1, y2.1.2), (y3.2.1, y3.2.2.1, y3.2.2.2))
        else
          some ((y2.1.1, y2.1.2), (y3.2.1, y3.2.2.1, y3.2.2.2)) := by kernel_rfl

/-! ### spec_DrawBitsBytes: loop.example/g00688/spec.DrawBitsBytes -/
def spec_DrawBitsBytes.ms : List Mode := [.lend]
def spec_DrawBitsBytes.as : List VSh := [.one (.b (.b (.b (.b (.sl false false 5)))))]
def spec_DrawBitsBytes.rs : RSh := ⟨[.agg [.int .i64, .sl true true 117]], [none]⟩
noncomputable def spec_DrawBitsBytes.gs (δ : Type) : List (Nat × Callee (GT tab) δ) := [(87, calleeS tab spec_l01Open.ms spec_l01Open.as spec_l01Open.rs spec_l01Open.fn), (88, calleeS tab spec_l01Cur_badBits.ms spec_l01Cur_badBits.as spec_l01Cur_badBits.rs spec_l01Cur_badBits.fn)]
theorem spec_DrawBitsBytes.gok (δ : Type) : AllCon Try.prog tab (spec_DrawBitsBytes.gs δ) := .cons spec_l01Open.con (.cons spec_l01Cur_badBits.con (.nil))
noncomputable def spec_DrawBitsBytes.c : Ctx (GT tab) (KT tab) (ResT tab spec_DrawBitsBytes.rs) := { X := XT tab, ty := tyOf tys, inner := fun _ => true, keep := keepOf 0 spec_DrawBitsBytes.ms, cuts := [], live := liveOf [], G := getG (spec_DrawBitsBytes.gs _) }
noncomputable def spec_DrawBitsBytes.b : Code := bodyOf Try.f34
noncomputable def spec_DrawBitsBytes (x0 : List Int) : Option (Int × (List Int)) := callW spec_DrawBitsBytes.c (fiOf (GT tab) Try.f34 spec_DrawBitsBytes.ms) spec_DrawBitsBytes.b (decRes tab spec_DrawBitsBytes.rs) (encArgs tab spec_DrawBitsBytes.as x0)
theorem spec_DrawBitsBytes.fok : FnOk Try.prog 34 Try.f34 spec_DrawBitsBytes.ms spec_DrawBitsBytes.b := ⟨Try.func34, by kernel_rfl, by kernel_rfl⟩
noncomputable def spec_DrawBitsBytes.fn : Args tab spec_DrawBitsBytes.as → Option (ResT tab spec_DrawBitsBytes.rs) := fun x => spec_DrawBitsBytes x
theorem spec_DrawBitsBytes.con {δ : Type} : Con Try.prog (KT tab) 34 (calleeS (β := δ) tab spec_DrawBitsBytes.ms spec_DrawBitsBytes.as spec_DrawBitsBytes.rs spec_DrawBitsBytes.fn) := con_shape (c := spec_DrawBitsBytes.c) mixed tysOk (getG_con (spec_DrawBitsBytes.gok _)) spec_DrawBitsBytes.fok rfl rfl (fun _ => rfl)
theorem spec_DrawBitsBytes.eq (x0 : List Int) : spec_DrawBitsBytes x0 =
    (spec_l01Open x0).bind fun y1 =>
    (spec_l01Cur_badBits (y1.1, y1.2.1, y1.2.2)).bind fun y2 =>
    some (y2.1.1, y2.1.2) := by kernel_rfl

/-! ### spec_l01Cur_size: (*loop.example/g00688/spec.l01Cur).size -/
def spec_l01Cur_size.ms : List Mode := [.keep, .lend]
def spec_l01Cur_size.as : List VSh := [.one (.ptr true 150 [.b (.b (.b (.sl false false 5))), .b (.b (.b (.int .i64))), .b (.b (.b (.int .i64)))]), .one (.b (.b (.b (.b (.int .i64)))))]
def spec_l01Cur_size.rs : RSh := ⟨[.one (.b (.b (.b (.b (.int .i64)))))], [some (.one (.ptr true 150 [.b (.b (.b (.sl false false 5))), .b (.b (.b (.int .i64))), .b (.b (.b (.int .i64)))])), none]⟩
noncomputable def spec_l01Cur_size.gs (δ : Type) : List (Nat × Callee (GT tab) δ) := [(121, calleeS tab spec_l01Cur_pick.ms spec_l01Cur_pick.as spec_l01Cur_pick.rs spec_l01Cur_pick.fn)]
theorem spec_l01Cur_size.gok (δ : Type) : AllCon Try.prog tab (spec_l01Cur_size.gs δ) := .cons spec_l01Cur_pick.con (.nil)
noncomputable def spec_l01Cur_size.c : Ctx (GT tab) (KT tab) (ResT tab spec_l01Cur_size.rs) := { X := XT tab, ty := tyOf tys, inner := fun _ => true, keep := keepOf 0 spec_l01Cur_size.ms, cuts := [], live := liveOf [], G := getG (spec_l01Cur_size.gs _) }
noncomputable def spec_l01Cur_size.b : Code := bodyOf Try.f173
noncomputable def spec_l01Cur_size (x0 : (List Int) × Int × Int) (x1 : Int) : Option (Int × ((List Int) × Int × Int)) := callW spec_l01Cur_size.c (fiOf (GT tab) Try.f173 spec_l01Cur_size.ms) spec_l01Cur_size.b (decRes tab spec_l01Cur_size.rs) (encArgs tab spec_l01Cur_size.as (x0, x1))
theorem spec_l01Cur_size.fok : FnOk Try.prog 173 Try.f173 spec_l01Cur_size.ms spec_l01Cur_size.b := ⟨Try.func173, by kernel_rfl, by kernel_rfl⟩
noncomputable def spec_l01Cur_size.fn : Args tab spec_l01Cur_size.as → Option (ResT tab spec_l01Cur_size.rs) := fun x => spec_l01Cur_size x.1 x.2
theorem spec_l01Cur_size.con {δ : Type} : Con Try.prog (KT tab) 173 (calleeS (β := δ) tab spec_l01Cur_size.ms spec_l01Cur_size.as spec_l01Cur_size.rs spec_l01Cur_size.fn) := con_shape (c := spec_l01Cur_size.c) mixed tysOk (getG_con (spec_l01Cur_size.gok _)) spec_l01Cur_size.fok rfl rfl (fun _ => rfl)
theorem spec_l01Cur_size.eq (x0 : (List Int) × Int × Int) (x1 : Int) : spec_l01Cur_size x0 x1 =
    (spec_l01Cur_pick (x0.1, x0.2.1, x0.2.2) (IntKind.i64.wrap ((if IntKind.i64.wrap ((1 : Int) + (IntKind.i64.wrap ((x0.1.length : Int).tdiv (8 : Int)))) < x1 then IntKind.i64.wrap ((1 : Int) + (IntKind.i64.wrap ((x0.1.length : Int).tdiv (8 : Int)))) else x1) + (1 : Int)))).bind fun y1 =>
    some (y1.1, (y1.2.1, y1.2.2.1, y1.2.2.2)) := by kernel_rfl

/-! ### spec_l01Cur_wide: (*loop.example/g00688/spec.l01Cur).wide -/
def spec_l01Cur_wide.ms : List Mode := [.keep, .lend]
def spec_l01Cur_wide.as : List VSh := [.one (.ptr true 150 [.b (.b (.b (.sl false false 5))), .b (.b (.b (.int .i64))), .b (.b (.b (.int .i64)))]), .one (.b (.b (.b (.b (.int .i64)))))]
def spec_l01Cur_wide.rs : RSh := ⟨[.one (.b (.b (.b (.b (.int .i64)))))], [some (.one (.ptr true 150 [.b (.b (.b (.sl false false 5))), .b (.b (.b (.int .i64))), .b (.b (.b (.int .i64)))])), none]⟩
noncomputable def spec_l01Cur_wide.gs (δ : Type) : List (Nat × Callee (GT tab) δ) := [(121, calleeS tab spec_l01Cur_pick.ms spec_l01Cur_pick.as spec_l01Cur_pick.rs spec_l01Cur_pick.fn)]
theorem spec_l01Cur_wide.gok (δ : Type) : AllCon Try.prog tab (spec_l01Cur_wide.gs δ) := .cons spec_l01Cur_pick.con (.nil)
noncomputable def spec_l01Cur_wide.c : Ctx (GT tab) (KT tab) (ResT tab spec_l01Cur_wide.rs) := { X := XT tab, ty := tyOf tys, inner := fun _ => true, keep := keepOf 0 spec_l01Cur_wide.ms, cuts := [], live := liveOf [], G := getG (spec_l01Cur_wide.gs _) }
noncomputable def spec_l01Cur_wide.b : Code := bodyOf Try.f174
noncomputable def spec_l01Cur_wide (x0 : (List Int) × Int × Int) (x1 : Int) : Option (Int × ((List Int) × Int × Int)) := callW spec_l01Cur_wide.c (fiOf (GT tab) Try.f174 spec_l01Cur_wide.ms) spec_l01Cur_wide.b (decRes tab spec_l01Cur_wide.rs) (encArgs tab spec_l01Cur_wide.as (x0, x1))
theorem spec_l01Cur_wide.fok : FnOk Try.prog 174 Try.f174 spec_l01Cur_wide.ms spec_l01Cur_wide.b := ⟨Try.func174, by kernel_rfl, by kernel_rfl⟩
noncomputable def spec_l01Cur_wide.fn : Args tab spec_l01Cur_wide.as → Option (ResT tab spec_l01Cur_wide.rs) := fun x => spec_l01Cur_wide x.1 x.2
theorem spec_l01Cur_wide.con {δ : Type} : Con Try.prog (KT tab) 174 (calleeS (β := δ) tab spec_l01Cur_wide.ms spec_l01Cur_wide.as spec_l01Cur_wide.rs spec_l01Cur_wide.fn) := con_shape (c := spec_l01Cur_wide.c) mixed tysOk (getG_con (spec_l01Cur_wide.gok _)) spec_l01Cur_wide.fok rfl rfl (fun _ => rfl)
theorem spec_l01Cur_wide.eq (x0 : (List Int) × Int × Int) (x1 : Int) : spec_l01Cur_wide x0 x1 =
    (spec_l01Cur_pick (x0.1, x0.2.1, x0.2.2) (256 : Int)).bind fun y1 =>
    (spec_l01Cur_pick (y1.2.1, y1.2.2.1, y1.2.2.2) (256 : Int)).bind fun y2 =>
    (spec_l01Cur_pick (y2.2.1, y2.2.2.1, y2.2.2.2) (256 : Int)).bind fun y3 =>
    bif decide (x1 = (0 : Int)) then
      none
    else
      some ((IntKind.i64.wrap ((IntKind.i64.wrap ((IntKind.i64.wrap ((65536 : Int) * y1.1)) + (IntKind.i64.wrap ((256 : Int) * y2.1)))) + y3.1)).tmod x1, (y3.2.1, y3.2.2.1, y3.2.2.2)) := by kernel_rfl

/-! ### spec_l01Cur_numbers: (*loop.example/g00688/spec.l01Cur).numbers -/
def spec_l01Cur_numbers.ms : List Mode := [.keep, .lend, .lend]
def spec_l01Cur_numbers.as : List VSh := [.one (.ptr true 150 [.b (.b (.b (.sl false false 5))), .b (.b (.b (.int .i64))), .b (.b (.b (.int .i64)))]), .one (.b (.b (.b (.b (.int .i64))))), .one (.b (.b (.b (.b (.int .i64)))))]
def spec_l01Cur_numbers.rs : RSh := ⟨[.one (.b (.b (.b (.b (.sl true true 3)))))], [some (.one (.ptr true 150 [.b (.b (.b (.sl false false 5))), .b (.b (.b (.int .i64))), .b (.b (.b (.int .i64)))])), none, none]⟩
noncomputable def spec_l01Cur_numbers.gs (δ : Type) : List (Nat × Callee (GT tab) δ) := [(173, calleeS tab spec_l01Cur_size.ms spec_l01Cur_size.as spec_l01Cur_size.rs spec_l01Cur_size.fn), (174, calleeS tab spec_l01Cur_wide.ms spec_l01Cur_wide.as spec_l01Cur_wide.rs spec_l01Cur_wide.fn)]
theorem spec_l01Cur_numbers.gok (δ : Type) : AllCon Try.prog tab (spec_l01Cur_numbers.gs δ) := .cons spec_l01Cur_size.con (.cons spec_l01Cur_wide.con (.nil))
noncomputable def spec_l01Cur_numbers.c : Ctx (GT tab) (KT tab) (ResT tab spec_l01Cur_numbers.rs) := { X := XT tab, ty := tyOf tys, inner := fun _ => true, keep := keepOf 0 spec_l01Cur_numbers.ms, cuts := [], live := liveOf [(3, [0, 2, 7, 8])], G := getG (spec_l01Cur_numbers.gs _) }
noncomputable def spec_l01Cur_numbers.b : Code := bodyOf Try.f144
noncomputable def spec_l01Cur_numbers (x0 : (List Int) × Int × Int) (x1 : Int) (x2 : Int) : Option ((List Int) × ((List Int) × Int × Int)) := callW spec_l01Cur_numbers.c (fiOf (GT tab) Try.f144 spec_l01Cur_numbers.ms) spec_l01Cur_numbers.b (decRes tab spec_l01Cur_numbers.rs) (encArgs tab spec_l01Cur_numbers.as (x0, x1, x2))
theorem spec_l01Cur_numbers.fok : FnOk Try.prog 144 Try.f144 spec_l01Cur_numbers.ms spec_l01Cur_numbers.b := ⟨Try.func144, by kernel_rfl, by kernel_rfl⟩
noncomputable def spec_l01Cur_numbers.fn : Args tab spec_l01Cur_numbers.as → Option (ResT tab spec_l01Cur_numbers.rs) := fun x => spec_l01Cur_numbers x.1 x.2.1 x.2.2
theorem spec_l01Cur_numbers.con {δ : Type} : Con Try.prog (KT tab) 144 (calleeS (β := δ) tab spec_l01Cur_numbers.ms spec_l01Cur_numbers.as spec_l01Cur_numbers.rs spec_l01Cur_numbers.fn) := con_shape (c := spec_l01Cur_numbers.c) mixed tysOk (getG_con (spec_l01Cur_numbers.gok _)) spec_l01Cur_numbers.fok rfl rfl (fun _ => rfl)
noncomputable def spec_l01Cur_numbers_l0 (v0 : Int) (v1 : Int) (v2 : List Int) (v3 : Int) (v4 : Int) (v5 : List Int) : Option ((List Int) × ((List Int) × Int × Int)) := Lw spec_l01Cur_numbers.c (finish spec_l01Cur_numbers.c (fiOf (GT tab) Try.f144 spec_l01Cur_numbers.ms) (decRes tab spec_l01Cur_numbers.rs)) ((loops spec_l01Cur_numbers.c.cuts 1000 spec_l01Cur_numbers.b []).getD 0 []) { slots := [.ptr 0 0, .undef, .int .i64 v0, .undef, .undef, .undef, .undef, .sl 1 0, .int .i64 v1, .undef, .undef, .undef, .undef, .undef, .undef, .undef, .undef, .undef, .undef, .undef, .undef, .undef, .undef, .undef, .undef], loc := locOf [.box 150 [.vs false 5 v2, .int .i64 v3, .int .i64 v4], .row 0 true 3 v5], nx := 2 }
theorem spec_l01Cur_numbers.eq (x0 : (List Int) × Int × Int) (x1 : Int) (x2 : Int) : spec_l01Cur_numbers x0 x1 x2 =
    (spec_l01Cur_size (x0.1, x0.2.1, x0.2.2) x1).bind fun y1 =>
    spec_l01Cur_numbers_l0 x2 y1.1 y1.2.1 y1.2.2.1 y1.2.2.2 ([] : List Int) := by kernel_rfl
theorem spec_l01Cur_numbers_l0.eq (v0 : Int) (v1 : Int) (v2 : List Int) (v3 : Int) (v4 : Int) (v5 : List Int) : spec_l01Cur_numbers_l0 v0 v1 v2 v3 v4 v5 =
    bif decide (v1 > (0 : Int)) then
      (spec_l01Cur_wide (v2, v3, v4) (if v0 > (1 : Int) then v0 else (1 : Int))).bind fun y1 =>
      bif decide ((v5.length + ([y1.1] : List Int).length) * 8 ≤ 140737488355328) then
        spec_l01Cur_numbers_l0 v0 (IntKind.i64.wrap (v1 - (1 : Int))) y1.2.1 y1.2.2.1 y1.2.2.2 (v5 ++ ([y1.1] : List Int))
      else
        none
    else
      some (v5, (v2, v3, v4)) := (Lw_eq tysOk (getG_con (spec_l01Cur_numbers.gok _)) _ _).trans (by kernel_rfl)

/-! ### spec_l01Cur_badPacked: (*loop.example/g00688/spec.l01Cur).badPacked -/
def spec_l01Cur_badPacked.ms : List Mode := [.keep]
def spec_l01Cur_badPacked.as : List VSh := [.one (.ptr true 150 [.b (.b (.b (.sl false false 5))), .b (.b (.b (.int .i64))), .b (.b (.b (.int .i64)))])]
def spec_l01Cur_badPacked.rs : RSh := ⟨[.agg [.int .i64, .int .i64, .int .i64, .sl true true 117]], [some (.one (.ptr true 150 [.b (.b (.b (.sl false false 5))), .b (.b (.b (.int .i64))), .b (.b (.b (.int .i64)))]))]⟩
noncomputable def spec_l01Cur_badPacked.gs (δ : Type) : List (Nat × Callee (GT tab) δ) := [(88, calleeS tab spec_l01Cur_badBits.ms spec_l01Cur_badBits.as spec_l01Cur_badBits.rs spec_l01Cur_badBits.fn), (121, calleeS tab spec_l01Cur_pick.ms spec_l01Cur_pick.as spec_l01Cur_pick.rs spec_l01Cur_pick.fn), (122, calleeS tab spec_l01Cur_raw.ms spec_l01Cur_raw.as spec_l01Cur_raw.rs spec_l01Cur_raw.fn), (126, calleeS tab spec_l02Pow.ms spec_l02Pow.as spec_l02Pow.rs spec_l02Pow.fn), (143, calleeS tab spec_PackOf.ms spec_PackOf.as spec_PackOf.rs spec_PackOf.fn), (144, calleeS tab spec_l01Cur_numbers.ms spec_l01Cur_numbers.as spec_l01Cur_numbers.rs spec_l01Cur_numbers.fn)]
theorem spec_l01Cur_badPacked.gok (δ : Type) : AllCon Try.prog tab (spec_l01Cur_badPacked.gs δ) := .cons spec_l01Cur_badBits.con (.cons spec_l01Cur_pick.con (.cons spec_l01Cur_raw.con (.cons spec_l02Pow.con (.cons spec_PackOf.con (.cons spec_l01Cur_numbers.con (.nil))))))
noncomputable def spec_l01Cur_badPacked.c : Ctx (GT tab) (KT tab) (ResT tab spec_l01Cur_badPacked.rs) := { X := XT tab, ty := tyOf tys, inner := fun _ => true, keep := keepOf 0 spec_l01Cur_badPacked.ms, cuts := [], live := liveOf [], G := getG (spec_l01Cur_badPacked.gs _) }
noncomputable def spec_l01Cur_badPacked.b : Code := bodyOf Try.f89
noncomputable def spec_l01Cur_badPacked (x0 : (List Int) × Int × Int) : Option ((Int × Int × Int × (List Int)) × ((List Int) × Int × Int)) := callW spec_l01Cur_badPacked.c (fiOf (GT tab) Try.f89 spec_l01Cur_badPacked.ms) spec_l01Cur_badPacked.b (decRes tab spec_l01Cur_badPacked.rs) (encArgs tab spec_l01Cur_badPacked.as x0)
theorem spec_l01Cur_badPacked.fok : FnOk Try.prog 89 Try.f89 spec_l01Cur_badPacked.ms spec_l01Cur_badPacked.b := ⟨Try.func89, by kernel_rfl, by kernel_rfl⟩
noncomputable def spec_l01Cur_badPacked.fn : Args tab spec_l01Cur_badPacked.as → Option (ResT tab spec_l01Cur_badPacked.rs) := fun x => spec_l01Cur_badPacked x
theorem spec_l01Cur_badPacked.con {δ : Type} : Con Try.prog (KT tab) 89 (calleeS (β := δ) tab spec_l01Cur_badPacked.ms spec_l01Cur_badPacked.as spec_l01Cur_badPacked.rs spec_l01Cur_badPacked.fn) := con_shape (c := spec_l01Cur_badPacked.c) mixed tysOk (getG_con (spec_l01Cur_badPacked.gok _)) spec_l01Cur_badPacked.fok rfl rfl (fun _ => rfl)
theorem spec_l01Cur_badPacked.eq (x0 : (List Int) × Int × Int) : spec_l01Cur_badPacked x0 =
    (spec_l01Cur_pick (x0.1, x0.2.1, x0.2.2) (5 : Int)).bind fun y1 =>
    (at? ([(0 : Int), (1 : Int), (3 : Int), (7 : Int), (24 : Int)] : List Int) y1.1).bind fun y2 =>
    ([(0 : Int), (1 : Int), (3 : Int), (7 : Int), (24 : Int)] : List Int)[y1.1.toNat]?.bind fun y3 =>
    (spec_l02Pow y3).bind fun y4 =>
    (spec_l01Cur_numbers (y1.2.1, y1.2.2.1, y1.2.2.2) (20 : Int) y4).bind fun y5 =>
    (spec_PackOf y5.1 y3).bind fun y6 =>
    (spec_l01Cur_pick (y5.2.1, y5.2.2.1, y5.2.2.2) (12 : Int)).bind fun y7 =>
    bif y7.1 == (0 : Int) then
      (spec_l01Cur_raw (y7.2.1, y7.2.2.1, y7.2.2.2)).bind fun y8 =>
      (spec_l01Cur_pick (y8.2.1, y8.2.2.1, y8.2.2.2) (3 : Int)).bind fun y9 =>
      (at? ([y8.1, (32 : Int), (33 : Int)] : List Int) y9.1).bind fun y10 =>
      ([y8.1, (32 : Int), (33 : Int)] : List Int)[y9.1.toNat]?.bind fun y11 =>
      some ((y11, y6.1.2.1, y6.1.2.2.1, y6.1.2.2.2), (y9.2.1, y9.2.2.1, y9.2.2.2))
    else
      bif y7.1 == (1 : Int) then
        (spec_l01Cur_raw (y7.2.1, y7.2.2.1, y7.2.2.2)).bind fun y12 =>
        (spec_l01Cur_pick (y12.2.1, y12.2.2.1, y12.2.2.2) (2 : Int)).bind fun y13 =>
        (at? ([y12.1, IntKind.i64.wrap (y6.1.2.1 + (1 : Int))] : List Int) y13.1).bind fun y14 =>
        ([y12.1, IntKind.i64.wrap (y6.1.2.1 + (1 : Int))] : List Int)[y13.1.toNat]?.bind fun y15 =>
        some ((y6.1.1, y15, y6.1.2.2.1, y6.1.2.2.2), (y13.2.1, y13.2.2.1, y13.2.2.2))
      else
        bif y7.1 == (2 : Int) then
          (spec_l01Cur_badBits (y7.2.1, y7.2.2.1, y7.2.2.2)).bind fun y16 =>
          some ((y6.1.1, y6.1.2.1, y16.1.1, y16.1.2), (y16.2.1, y16.2.2.1, y16.2.2.2))
        else
          some ((y6.1.1, y6.1.2.1, y6.1.2.2.1, y6.1.2.2.2), (y7.2.1, y7.2.2.1, y7.2.2.2)) := by kernel_rfl

/-! ### spec_DrawPackBytes: loop.example/g00688/spec.DrawPackBytes -/
def spec_DrawPackBytes.ms : List Mode := [.lend]
def spec_DrawPackBytes.as : List VSh := [.one (.b (.b (.b (.b (.sl false false 5)))))]
def spec_DrawPackBytes.rs : RSh := ⟨[.agg [.int .i64, .int .i64, .int .i64, .sl true true 117]], [none]⟩
noncomputable def spec_DrawPackBytes.gs (δ : Type) : List (Nat × Callee (GT tab) δ) := [(87, calleeS tab spec_l01Open.ms spec_l01Open.as spec_l01Open.rs spec_l01Open.fn), (89, calleeS tab spec_l01Cur_badPacked.ms spec_l01Cur_badPacked.as spec_l01Cur_badPacked.rs spec_l01Cur_badPacked.fn)]
theorem spec_DrawPackBytes.gok (δ : Type) : AllCon Try.prog tab (spec_DrawPackBytes.gs δ) := .cons spec_l01Open.con (.cons spec_l01Cur_badPacked.con (.nil))
noncomputable def spec_DrawPackBytes.c : Ctx (GT tab) (KT tab) (ResT tab spec_DrawPackBytes.rs) := { X := XT tab, ty := tyOf tys, inner := fun _ => true, keep := keepOf 0 spec_DrawPackBytes.ms, cuts := [], live := liveOf [], G := getG (spec_DrawPackBytes.gs _) }
noncomputable def spec_DrawPackBytes.b : Code := bodyOf Try.f35
noncomputable def spec_DrawPackBytes (x0 : List Int) : Option (Int × Int × Int × (List Int)) := callW spec_DrawPackBytes.c (fiOf (GT tab) Try.f35 spec_DrawPackBytes.ms) spec_DrawPackBytes.b (decRes tab spec_DrawPackBytes.rs) (encArgs tab spec_DrawPackBytes.as x0)
theorem spec_DrawPackBytes.fok : FnOk Try.prog 35 Try.f35 spec_DrawPackBytes.ms spec_DrawPackBytes.b := ⟨Try.func35, by kernel_rfl, by kernel_rfl⟩
noncomputable def spec_DrawPackBytes.fn : Args tab spec_DrawPackBytes.as → Option (ResT tab spec_DrawPackBytes.rs) := fun x => spec_DrawPackBytes x
theorem spec_DrawPackBytes.con {δ : Type} : Con Try.prog (KT tab) 35 (calleeS (β := δ) tab spec_DrawPackBytes.ms spec_DrawPackBytes.as spec_DrawPackBytes.rs spec_DrawPackBytes.fn) := con_shape (c := spec_DrawPackBytes.c) mixed tysOk (getG_con (spec_DrawPackBytes.gok _)) spec_DrawPackBytes.fok rfl rfl (fun _ => rfl)
theorem spec_DrawPackBytes.eq (x0 : List Int) : spec_DrawPackBytes x0 =
    (spec_l01Open x0).bind fun y1 =>
    (spec_l01Cur_badPacked (y1.1, y1.2.1, y1.2.2)).bind fun y2 =>
    some (y2.1.1, y2.1.2.1, y2.1.2.2.1, y2.1.2.2.2) := by kernel_rfl

/-! ### spec_l01Cur_textOf: (*loop.example/g00688/spec.l01Cur).textOf -/
def spec_l01Cur_textOf.ms : List Mode := [.keep, .lend]
def spec_l01Cur_textOf.as : List VSh := [.one (.ptr true 150 [.b (.b (.b (.sl false false 5))), .b (.b (.b (.int .i64))), .b (.b (.b (.int .i64)))]), .one (.b (.b (.b (.b (.int .i64)))))]
def spec_l01Cur_textOf.rs : RSh := ⟨[.one (.b (.b (.b (.b (.sl true true 5)))))], [some (.one (.ptr true 150 [.b (.b (.b (.sl false false 5))), .b (.b (.b (.int .i64))), .b (.b (.b (.int .i64)))])), none]⟩
noncomputable def spec_l01Cur_textOf.gs (δ : Type) : List (Nat × Callee (GT tab) δ) := [(121, calleeS tab spec_l01Cur_pick.ms spec_l01Cur_pick.as spec_l01Cur_pick.rs spec_l01Cur_pick.fn), (145, calleeS tab spec_l01Cur_once.ms spec_l01Cur_once.as spec_l01Cur_once.rs spec_l01Cur_once.fn), (173, calleeS tab spec_l01Cur_size.ms spec_l01Cur_size.as spec_l01Cur_size.rs spec_l01Cur_size.fn)]
theorem spec_l01Cur_textOf.gok (δ : Type) : AllCon Try.prog tab (spec_l01Cur_textOf.gs δ) := .cons spec_l01Cur_pick.con (.cons spec_l01Cur_once.con (.cons spec_l01Cur_size.con (.nil)))
noncomputable def spec_l01Cur_textOf.c : Ctx (GT tab) (KT tab) (ResT tab spec_l01Cur_textOf.rs) := { X := XT tab, ty := tyOf tys, inner := fun _ => true, keep := keepOf 0 spec_l01Cur_textOf.ms, cuts := [], live := liveOf [(4, [0, 1, 5, 6, 7])], G := getG (spec_l01Cur_textOf.gs _) }
noncomputable def spec_l01Cur_textOf.b : Code := bodyOf Try.f147
noncomputable def spec_l01Cur_textOf (x0 : (List Int) × Int × Int) (x1 : Int) : Option ((List Int) × ((List Int) × Int × Int)) := callW spec_l01Cur_textOf.c (fiOf (GT tab) Try.f147 spec_l01Cur_textOf.ms) spec_l01Cur_textOf.b (decRes tab spec_l01Cur_textOf.rs) (encArgs tab spec_l01Cur_textOf.as (x0, x1))
theorem spec_l01Cur_textOf.fok : FnOk Try.prog 147 Try.f147 spec_l01Cur_textOf.ms spec_l01Cur_textOf.b := ⟨Try.func147, by kernel_rfl, by kernel_rfl⟩
noncomputable def spec_l01Cur_textOf.fn : Args tab spec_l01Cur_textOf.as → Option (ResT tab spec_l01Cur_textOf.rs) := fun x => spec_l01Cur_textOf x.1 x.2
theorem spec_l01Cur_textOf.con {δ : Type} : Con Try.prog (KT tab) 147 (calleeS (β := δ) tab spec_l01Cur_textOf.ms spec_l01Cur_textOf.as spec_l01Cur_textOf.rs spec_l01Cur_textOf.fn) := con_shape (c := spec_l01Cur_textOf.c) mixed tysOk (getG_con (spec_l01Cur_textOf.gok _)) spec_l01Cur_textOf.fok rfl rfl (fun _ => rfl)
noncomputable def spec_l01Cur_textOf_l0 (v0 : Int) (v1 : ByteArray) (v2 : Int) (v3 : List Int) (v4 : Int) (v5 : Int) (v6 : List Int) : Option ((List Int) × ((List Int) × Int × Int)) := Lw spec_l01Cur_textOf.c (finish spec_l01Cur_textOf.c (fiOf (GT tab) Try.f147 spec_l01Cur_textOf.ms) (decRes tab spec_l01Cur_textOf.rs)) ((loops spec_l01Cur_textOf.c.cuts 1000 spec_l01Cur_textOf.b []).getD 0 []) { slots := [.ptr 0 0, .int .i64 v0, .undef, .undef, .undef, .sl 1 0, .str v1, .int .i64 v2, .undef, .undef, .undef, .undef, .undef, .undef, .undef, .undef, .undef, .undef, .undef, .undef, .undef, .undef, .undef, .undef, .undef, .undef, .undef, .undef, .undef, .undef, .undef, .undef, .undef, .undef, .undef, .undef, .undef, .undef, .undef, .undef, .undef, .undef, .undef, .undef, .undef, .undef, .undef, .undef, .undef, .undef, .undef, .undef, .undef, .undef, .undef, .undef, .undef, .undef, .undef, .undef, .undef, .undef, .undef], loc := locOf [.box 150 [.vs false 5 v3, .int .i64 v4, .int .i64 v5], .row 0 true 5 v6], nx := 2 }
theorem spec_l01Cur_textOf.eq (x0 : (List Int) × Int × Int) (x1 : Int) : spec_l01Cur_textOf x0 x1 =
    (spec_l01Cur_pick (x0.1, x0.2.1, x0.2.2) (5 : Int)).bind fun y1 =>
    (at? ([(⟨#[97]⟩ : ByteArray), (⟨#[97, 98]⟩ : ByteArray), (⟨#[97, 98, 99]⟩ : ByteArray), (⟨#[97, 99, 103, 116]⟩ : ByteArray), (⟨#[0, 255]⟩ : ByteArray)] : List ByteArray) y1.1).bind fun y2 =>
    ([(⟨#[97]⟩ : ByteArray), (⟨#[97, 98]⟩ : ByteArray), (⟨#[97, 98, 99]⟩ : ByteArray), (⟨#[97, 99, 103, 116]⟩ : ByteArray), (⟨#[0, 255]⟩ : ByteArray)] : List ByteArray)[y1.1.toNat]?.bind fun y3 =>
    (spec_l01Cur_size (y1.2.1, y1.2.2.1, y1.2.2.2) x1).bind fun y4 =>
    spec_l01Cur_textOf_l0 x1 y3 y4.1 y4.2.1 y4.2.2.1 y4.2.2.2 ([] : List Int) := by kernel_rfl
theorem spec_l01Cur_textOf_l0.eq (v0 : Int) (v1 : ByteArray) (v2 : Int) (v3 : List Int) (v4 : Int) (v5 : Int) (v6 : List Int) : spec_l01Cur_textOf_l0 v0 v1 v2 v3 v4 v5 v6 =
    bif decide (v2 > (0 : Int)) then
      bif decide ((v6.length : Int) > (3 : Int)) then
        (spec_l01Cur_once (v3, v4, v5) (6 : Int)).bind fun y1 =>
        bif y1.1 then
          (spec_l01Cur_pick (y1.2.1, y1.2.2.1, y1.2.2.2) (v6.length : Int)).bind fun y2 =>
          (spec_l01Cur_pick (y2.2.1, y2.2.2.1, y2.2.2.2) (6 : Int)).bind fun y3 =>
          bif decide (0 ≤ (if IntKind.i64.wrap ((IntKind.i64.wrap (y2.1 + (1 : Int))) + y3.1) < (v6.length : Int) then IntKind.i64.wrap ((IntKind.i64.wrap (y2.1 + (1 : Int))) + y3.1) else (v6.length : Int)) ∧ (if IntKind.i64.wrap ((IntKind.i64.wrap (y2.1 + (1 : Int))) + y3.1) < (v6.length : Int) then IntKind.i64.wrap ((IntKind.i64.wrap (y2.1 + (1 : Int))) + y3.1) else (v6.length : Int)) ≤ ((v6.length : Nat) : Int)) then
            bif decide (0 ≤ y2.1 ∧ y2.1 ≤ (((if IntKind.i64.wrap ((IntKind.i64.wrap (y2.1 + (1 : Int))) + y3.1) < (v6.length : Int) then IntKind.i64.wrap ((IntKind.i64.wrap (y2.1 + (1 : Int))) + y3.1) else (v6.length : Int)).toNat : Nat) : Int)) then
              bif decide ((v6.length + ((v6.drop y2.1.toNat).take (((if IntKind.i64.wrap ((IntKind.i64.wrap (y2.1 + (1 : Int))) + y3.1) < (v6.length : Int) then IntKind.i64.wrap ((IntKind.i64.wrap (y2.1 + (1 : Int))) + y3.1) else (v6.length : Int)).toNat) - y2.1.toNat)).length) * 1 ≤ 140737488355328) then
                spec_l01Cur_textOf_l0 v0 v1 (IntKind.i64.wrap (v2 - (1 : Int))) y3.2.1 y3.2.2.1 y3.2.2.2 (v6 ++ ((v6.drop y2.1.toNat).take (((if IntKind.i64.wrap ((IntKind.i64.wrap (y2.1 + (1 : Int))) + y3.1) < (v6.length : Int) then IntKind.i64.wrap ((IntKind.i64.wrap (y2.1 + (1 : Int))) + y3.1) else (v6.length : Int)).toNat) - y2.1.toNat)))
              else
                none
            else
              none
          else
            none
        else
          (spec_l01Cur_pick (y1.2.1, y1.2.2.1, y1.2.2.2) (v1.size : Int)).bind fun y4 =>
          (at? v1.data.toList y4.1).bind fun y5 =>
          bif decide ((v6.length + ([(y5.toNat : Int)] : List Int).length) * 1 ≤ 140737488355328) then
            spec_l01Cur_textOf_l0 v0 v1 (IntKind.i64.wrap (v2 - (1 : Int))) y4.2.1 y4.2.2.1 y4.2.2.2 (v6 ++ ([(y5.toNat : Int)] : List Int))
          else
            none
      else
        (spec_l01Cur_pick (v3, v4, v5) (v1.size : Int)).bind fun y6 =>
        (at? v1.data.toList y6.1).bind fun y7 =>
        bif decide ((v6.length + ([(y7.toNat : Int)] : List Int).length) * 1 ≤ 140737488355328) then
          spec_l01Cur_textOf_l0 v0 v1 (IntKind.i64.wrap (v2 - (1 : Int))) y6.2.1 y6.2.2.1 y6.2.2.2 (v6 ++ ([(y7.toNat : Int)] : List Int))
        else
          none
    else
      bif decide ((v6.length : Int) > v0) then
        bif decide (0 ≤ v0 ∧ v0 ≤ ((v6.length : Nat) : Int)) then
          some (v6.take (v0.toNat - 0), (v3, v4, v5))
        else
          none
      else
        some (v6, (v3, v4, v5)) := (Lw_eq tysOk (getG_con (spec_l01Cur_textOf.gok _)) _ _).trans (by kernel_rfl)

/-! ### spec_TextOk: loop.example/g00688/spec.TextOk -/
def spec_TextOk.ms : List Mode := [.lend]
def spec_TextOk.as : List VSh := [.one (.b (.b (.b (.b (.sl false false 5)))))]
def spec_TextOk.rs : RSh := ⟨[.one (.b (.b (.b (.b (.bool)))))], [none]⟩
noncomputable def spec_TextOk.gs (δ : Type) : List (Nat × Callee (GT tab) δ) := []
theorem spec_TextOk.gok (δ : Type) : AllCon Try.prog tab (spec_TextOk.gs δ) := .nil
noncomputable def spec_TextOk.c : Ctx (GT tab) (KT tab) (ResT tab spec_TextOk.rs) := { X := XT tab, ty := tyOf tys, inner := fun _ => true, keep := keepOf 0 spec_TextOk.ms, cuts := [], live := liveOf [], G := getG (spec_TextOk.gs _) }
noncomputable def spec_TextOk.b : Code := bodyOf Try.f100
noncomputable def spec_TextOk (x0 : List Int) : Option (Bool) := callW spec_TextOk.c (fiOf (GT tab) Try.f100 spec_TextOk.ms) spec_TextOk.b (decRes tab spec_TextOk.rs) (encArgs tab spec_TextOk.as x0)
theorem spec_TextOk.fok : FnOk Try.prog 100 Try.f100 spec_TextOk.ms spec_TextOk.b := ⟨Try.func100, by kernel_rfl, by kernel_rfl⟩
noncomputable def spec_TextOk.fn : Args tab spec_TextOk.as → Option (ResT tab spec_TextOk.rs) := fun x => spec_TextOk x
theorem spec_TextOk.con {δ : Type} : Con Try.prog (KT tab) 100 (calleeS (β := δ) tab spec_TextOk.ms spec_TextOk.as spec_TextOk.rs spec_TextOk.fn) := con_shape (c := spec_TextOk.c) mixed tysOk (getG_con (spec_TextOk.gok _)) spec_TextOk.fok rfl rfl (fun _ => rfl)
theorem spec_TextOk.eq (x0 : List Int) : spec_TextOk x0 =
    some (decide ((x0.length : Int) ≤ (300 : Int))) := by kernel_rfl

/-! ### spec_l05Cmp: loop.example/g00688/spec.l05Cmp -/
def spec_l05Cmp.ms : List Mode := [.lend, .lend]
def spec_l05Cmp.as : List VSh := [.one (.b (.b (.b (.b (.sl false false 5))))), .one (.b (.b (.b (.b (.sl false false 5)))))]
def spec_l05Cmp.rs : RSh := ⟨[.one (.b (.b (.b (.b (.int .i64)))))], [none, none]⟩
noncomputable def spec_l05Cmp.gs (δ : Type) : List (Nat × Callee (GT tab) δ) := []
theorem spec_l05Cmp.gok (δ : Type) : AllCon Try.prog tab (spec_l05Cmp.gs δ) := .nil
noncomputable def spec_l05Cmp.c : Ctx (GT tab) (KT tab) (ResT tab spec_l05Cmp.rs) := { X := XT tab, ty := tyOf tys, inner := fun _ => true, keep := keepOf 0 spec_l05Cmp.ms, cuts := [4], live := liveOf [(2, [0, 1, 5]), (4, [0, 1, 5])], G := getG (spec_l05Cmp.gs _) }
noncomputable def spec_l05Cmp.b : Code := bodyOf Try.f175
noncomputable def spec_l05Cmp (x0 : List Int) (x1 : List Int) : Option (Int) := callW spec_l05Cmp.c (fiOf (GT tab) Try.f175 spec_l05Cmp.ms) spec_l05Cmp.b (decRes tab spec_l05Cmp.rs) (encArgs tab spec_l05Cmp.as (x0, x1))
theorem spec_l05Cmp.fok : FnOk Try.prog 175 Try.f175 spec_l05Cmp.ms spec_l05Cmp.b := ⟨Try.func175, by kernel_rfl, by kernel_rfl⟩
noncomputable def spec_l05Cmp.fn : Args tab spec_l05Cmp.as → Option (ResT tab spec_l05Cmp.rs) := fun x => spec_l05Cmp x.1 x.2
theorem spec_l05Cmp.con {δ : Type} : Con Try.prog (KT tab) 175 (calleeS (β := δ) tab spec_l05Cmp.ms spec_l05Cmp.as spec_l05Cmp.rs spec_l05Cmp.fn) := con_shape (c := spec_l05Cmp.c) mixed tysOk (getG_con (spec_l05Cmp.gok _)) spec_l05Cmp.fok rfl rfl (fun _ => rfl)
noncomputable def spec_l05Cmp_l0 (v0 : List Int) (v1 : List Int) (v2 : Int) : Option (Int) := Lw spec_l05Cmp.c (finish spec_l05Cmp.c (fiOf (GT tab) Try.f175 spec_l05Cmp.ms) (decRes tab spec_l05Cmp.rs)) ((loops spec_l05Cmp.c.cuts 1000 spec_l05Cmp.b []).getD 0 []) { slots := [.vs false 5 v0, .vs false 5 v1, .undef, .undef, .undef, .int .i64 v2, .undef, .undef, .undef, .undef, .undef, .undef, .undef, .undef, .undef, .undef, .undef, .undef, .undef, .undef, .undef, .undef, .undef, .undef, .undef, .undef, .undef, .undef, .undef, .undef, .undef, .undef, .undef, .undef, .undef, .undef, .undef, .undef, .undef, .undef, .undef, .undef, .undef, .undef, .undef, .undef], loc := locOf [], nx := 0 }
noncomputable def spec_l05Cmp_l1 (v0 : List Int) (v1 : List Int) (v2 : Int) : Option (Int) := Lw spec_l05Cmp.c (finish spec_l05Cmp.c (fiOf (GT tab) Try.f175 spec_l05Cmp.ms) (decRes tab spec_l05Cmp.rs)) ((loops spec_l05Cmp.c.cuts 1000 spec_l05Cmp.b []).getD 1 []) { slots := [.vs false 5 v0, .vs false 5 v1, .undef, .undef, .undef, .int .i64 v2, .undef, .undef, .undef, .undef, .undef, .undef, .undef, .undef, .undef, .undef, .undef, .undef, .undef, .undef, .undef, .undef, .undef, .undef, .undef, .undef, .undef, .undef, .undef, .undef, .undef, .undef, .undef, .undef, .undef, .undef, .undef, .undef, .undef, .undef, .undef, .undef, .undef, .undef, .undef, .undef], loc := locOf [], nx := 0 }
theorem spec_l05Cmp.eq (x0 : List Int) (x1 : List Int) : spec_l05Cmp x0 x1 =
    spec_l05Cmp_l0 x0 x1 (0 : Int) := by kernel_rfl
theorem spec_l05Cmp_l0.eq (v0 : List Int) (v1 : List Int) (v2 : Int) : spec_l05Cmp_l0 v0 v1 v2 =
    bif decide (v2 < (v0.length : Int)) then
      bif decide (v2 < (v1.length : Int)) then
        spec_l05Cmp_l1 v0 v1 v2
      else
        bif decide ((v0.length : Int) < (v1.length : Int)) then
          some (-1 : Int)
        else
          bif decide ((v0.length : Int) > (v1.length : Int)) then
            some (1 : Int)
          else
            some (0 : Int)
    else
      bif decide ((v0.length : Int) < (v1.length : Int)) then
        some (-1 : Int)
      else
        bif decide ((v0.length : Int) > (v1.length : Int)) then
          some (1 : Int)
        else
          some (0 : Int) := (Lw_eq tysOk (getG_con (spec_l05Cmp.gok _)) _ _).trans (by kernel_rfl)
theorem spec_l05Cmp_l1.eq (v0 : List Int) (v1 : List Int) (v2 : Int) : spec_l05Cmp_l1 v0 v1 v2 =
    (at? v0 v2).bind fun y1 =>
    (at? v1 v2).bind fun y2 =>
    bif decide (y1 < y2) then
      some (-1 : Int)
    else
      (at? v0 v2).bind fun y3 =>
      (at? v1 v2).bind fun y4 =>
      bif decide (y3 > y4) then
        some (1 : Int)
      else
        spec_l05Cmp_l0 v0 v1 (IntKind.i64.wrap (v2 + (1 : Int))) := (Lw_eq tysOk (getG_con (spec_l05Cmp.gok _)) _ _).trans (by kernel_rfl)

/-! ### spec_SuffixRows: loop.example/g00688/spec.SuffixRows -/
def spec_SuffixRows.ms : List Mode := [.lend]
def spec_SuffixRows.as : List VSh := [.one (.b (.b (.b (.b (.sl false false 5)))))]
def spec_SuffixRows.rs : RSh := ⟨[.one (.b (.b (.b (.b (.sl true true 3)))))], [none]⟩
noncomputable def spec_SuffixRows.gs (δ : Type) : List (Nat × Callee (GT tab) δ) := [(100, calleeS tab spec_TextOk.ms spec_TextOk.as spec_TextOk.rs spec_TextOk.fn), (175, calleeS tab spec_l05Cmp.ms spec_l05Cmp.as spec_l05Cmp.rs spec_l05Cmp.fn)]
theorem spec_SuffixRows.gok (δ : Type) : AllCon Try.prog tab (spec_SuffixRows.gs δ) := .cons spec_TextOk.con (.cons spec_l05Cmp.con (.nil))
noncomputable def spec_SuffixRows.c : Ctx (GT tab) (KT tab) (ResT tab spec_SuffixRows.rs) := { X := XT tab, ty := tyOf tys, inner := fun _ => true, keep := keepOf 0 spec_SuffixRows.ms, cuts := [], live := liveOf [(5, [0, 3, 4]), (9, [0, 3, 4, 5, 6])], G := getG (spec_SuffixRows.gs _) }
noncomputable def spec_SuffixRows.b : Code := bodyOf Try.f153
noncomputable def spec_SuffixRows (x0 : List Int) : Option (List Int) := callW spec_SuffixRows.c (fiOf (GT tab) Try.f153 spec_SuffixRows.ms) spec_SuffixRows.b (decRes tab spec_SuffixRows.rs) (encArgs tab spec_SuffixRows.as x0)
theorem spec_SuffixRows.fok : FnOk Try.prog 153 Try.f153 spec_SuffixRows.ms spec_SuffixRows.b := ⟨Try.func153, by kernel_rfl, by kernel_rfl⟩
noncomputable def spec_SuffixRows.fn : Args tab spec_SuffixRows.as → Option (ResT tab spec_SuffixRows.rs) := fun x => spec_SuffixRows x
theorem spec_SuffixRows.con {δ : Type} : Con Try.prog (KT tab) 153 (calleeS (β := δ) tab spec_SuffixRows.ms spec_SuffixRows.as spec_SuffixRows.rs spec_SuffixRows.fn) := con_shape (c := spec_SuffixRows.c) mixed tysOk (getG_con (spec_SuffixRows.gok _)) spec_SuffixRows.fok rfl rfl (fun _ => rfl)
noncomputable def spec_SuffixRows_l0 (v0 : List Int) (v1 : Int) (v2 : List Int) : Option (List Int) := Lw spec_SuffixRows.c (finish spec_SuffixRows.c (fiOf (GT tab) Try.f153 spec_SuffixRows.ms) (decRes tab spec_SuffixRows.rs)) ((loops spec_SuffixRows.c.cuts 1000 spec_SuffixRows.b []).getD 0 []) { slots := [.vs false 5 v0, .undef, .undef, .sl 0 0, .int .i64 v1, .undef, .undef, .undef, .undef, .undef, .undef, .undef, .undef, .undef, .undef, .undef, .undef, .undef, .undef, .undef, .undef, .undef, .undef, .undef, .undef, .undef, .undef, .undef, .undef, .undef, .undef, .undef, .undef, .undef, .undef, .undef, .undef, .undef, .undef, .undef, .undef, .undef, .undef, .undef, .undef, .undef, .undef, .undef, .undef, .undef, .undef, .undef, .undef, .undef, .undef, .undef], loc := locOf [.row 0 true 3 v2], nx := 1 }
noncomputable def spec_SuffixRows_l1 (v0 : List Int) (v1 : Int) (v2 : Int) (v3 : Int) (v4 : List Int) : Option (List Int) := Lw spec_SuffixRows.c (finish spec_SuffixRows.c (fiOf (GT tab) Try.f153 spec_SuffixRows.ms) (decRes tab spec_SuffixRows.rs)) ((loops spec_SuffixRows.c.cuts 1000 spec_SuffixRows.b []).getD 1 []) { slots := [.vs false 5 v0, .undef, .undef, .sl 0 0, .int .i64 v1, .int .i64 v2, .int .i64 v3, .undef, .undef, .undef, .undef, .undef, .undef, .undef, .undef, .undef, .undef, .undef, .undef, .undef, .undef, .undef, .undef, .undef, .undef, .undef, .undef, .undef, .undef, .undef, .undef, .undef, .undef, .undef, .undef, .undef, .undef, .undef, .undef, .undef, .undef, .undef, .undef, .undef, .undef, .undef, .undef, .undef, .undef, .undef, .undef, .undef, .undef, .undef, .undef, .undef], loc := locOf [.row 0 true 3 v4], nx := 1 }
theorem spec_SuffixRows.eq (x0 : List Int) : spec_SuffixRows x0 =
    (spec_TextOk x0).bind fun y1 =>
    bif !y1 then
      some ([] : List Int)
    else
      spec_SuffixRows_l0 x0 (x0.length : Int) ([] : List Int) := by kernel_rfl
theorem spec_SuffixRows_l0.eq (v0 : List Int) (v1 : Int) (v2 : List Int) : spec_SuffixRows_l0 v0 v1 v2 =
    bif decide (v1 ≥ (0 : Int)) then
      spec_SuffixRows_l1 v0 v1 (0 : Int) (v2.length : Int) v2
    else
      some v2 := (Lw_eq tysOk (getG_con (spec_SuffixRows.gok _)) _ _).trans (by kernel_rfl)
theorem spec_SuffixRows_l1.eq (v0 : List Int) (v1 : Int) (v2 : Int) (v3 : Int) (v4 : List Int) : spec_SuffixRows_l1 v0 v1 v2 v3 v4 =
    bif decide (v2 < v3) then
      (at? v4 (IntKind.i64.wrap ((IntKind.i64.wrap (v2 + v3)).tdiv (2 : Int)))).bind fun y1 =>
      v4[(IntKind.i64.wrap ((IntKind.i64.wrap (v2 + v3)).tdiv (2 : Int))).toNat]?.bind fun y2 =>
      bif decide (0 ≤ y2 ∧ y2 ≤ ((v0.length : Nat) : Int)) then
        bif decide (0 ≤ v1 ∧ v1 ≤ ((v0.length : Nat) : Int)) then
          (spec_l05Cmp ((v0.take v0.length).drop y2.toNat) ((v0.take v0.length).drop v1.toNat)).bind fun y3 =>
          bif decide (y3 < (0 : Int)) then
            spec_SuffixRows_l1 v0 v1 (IntKind.i64.wrap ((IntKind.i64.wrap ((IntKind.i64.wrap (v2 + v3)).tdiv (2 : Int))) + (1 : Int))) v3 v4
          else
            spec_SuffixRows_l1 v0 v1 v2 (IntKind.i64.wrap ((IntKind.i64.wrap (v2 + v3)).tdiv (2 : Int))) v4
        else
          none
      else
        none
    else
      bif decide (0 ≤ v2 ∧ v2 ≤ ((v4.length : Nat) : Int)) then
        bif decide ((([v1] : List Int).length + ((v4.drop v2.toNat).take (v4.length - v2.toNat)).length) * 8 ≤ 140737488355328) then
          bif decide (0 ≤ v2 ∧ v2 ≤ ((v4.length : Nat) : Int)) then
            bif decide ((([] : List Int).length + ((v4.drop 0).take (v2.toNat - 0)).length) * 8 ≤ 140737488355328) then
              bif decide (((([] : List Int) ++ ((v4.drop 0).take (v2.toNat - 0))).length + (([v1] : List Int) ++ ((v4.drop v2.toNat).take (v4.length - v2.toNat))).length) * 8 ≤ 140737488355328) then
                spec_SuffixRows_l0 v0 (IntKind.i64.wrap (v1 - (1 : Int))) ((([] : List Int) ++ ((v4.drop 0).take (v2.toNat - 0))) ++ (([v1] : List Int) ++ ((v4.drop v2.toNat).take (v4.length - v2.toNat))))
              else
                none
            else
              none
          else
            none
        else
          none
      else
        none := (Lw_eq tysOk (getG_con (spec_SuffixRows.gok _)) _ _).trans (by kernel_rfl)

/-! ### spec_BwtOf: loop.example/g00688/spec.BwtOf -/
def spec_BwtOf.ms : List Mode := [.lend]
def spec_BwtOf.as : List VSh := [.one (.b (.b (.b (.b (.sl false false 5)))))]
def spec_BwtOf.rs : RSh := ⟨[.one (.b (.b (.b (.b (.sl true true 3)))))], [none]⟩
noncomputable def spec_BwtOf.gs (δ : Type) : List (Nat × Callee (GT tab) δ) := [(153, calleeS tab spec_SuffixRows.ms spec_SuffixRows.as spec_SuffixRows.rs spec_SuffixRows.fn)]
theorem spec_BwtOf.gok (δ : Type) : AllCon Try.prog tab (spec_BwtOf.gs δ) := .cons spec_SuffixRows.con (.nil)
noncomputable def spec_BwtOf.c : Ctx (GT tab) (KT tab) (ResT tab spec_BwtOf.rs) := { X := XT tab, ty := tyOf tys, inner := fun _ => true, keep := keepOf 0 spec_BwtOf.ms, cuts := [], live := liveOf [(4, [0, 3, 4, 5])], G := getG (spec_BwtOf.gs _) }
noncomputable def spec_BwtOf.b : Code := bodyOf Try.f146
noncomputable def spec_BwtOf (x0 : List Int) : Option (List Int) := callW spec_BwtOf.c (fiOf (GT tab) Try.f146 spec_BwtOf.ms) spec_BwtOf.b (decRes tab spec_BwtOf.rs) (encArgs tab spec_BwtOf.as x0)
theorem spec_BwtOf.fok : FnOk Try.prog 146 Try.f146 spec_BwtOf.ms spec_BwtOf.b := ⟨Try.func146, by kernel_rfl, by kernel_rfl⟩
noncomputable def spec_BwtOf.fn : Args tab spec_BwtOf.as → Option (ResT tab spec_BwtOf.rs) := fun x => spec_BwtOf x
theorem spec_BwtOf.con {δ : Type} : Con Try.prog (KT tab) 146 (calleeS (β := δ) tab spec_BwtOf.ms spec_BwtOf.as spec_BwtOf.rs spec_BwtOf.fn) := con_shape (c := spec_BwtOf.c) mixed tysOk (getG_con (spec_BwtOf.gok _)) spec_BwtOf.fok rfl rfl (fun _ => rfl)
noncomputable def spec_BwtOf_l0 (v0 : List Int) (v1 : Int) (v2 : List Int) (v3 : List Int) : Option (List Int) := Lw spec_BwtOf.c (finish spec_BwtOf.c (fiOf (GT tab) Try.f146 spec_BwtOf.ms) (decRes tab spec_BwtOf.rs)) ((loops spec_BwtOf.c.cuts 1000 spec_BwtOf.b []).getD 0 []) { slots := [.vs false 5 v0, .undef, .undef, .sl 0 0, .sl 1 0, .int .i64 v1, .undef, .undef, .undef, .undef, .undef, .undef, .undef, .undef, .undef, .undef, .undef, .undef, .undef, .undef, .undef, .undef, .undef, .undef, .undef, .undef, .undef, .undef, .undef, .undef, .undef, .undef, .undef, .undef, .undef, .undef, .undef], loc := locOf [.row 0 true 3 v2, .row 0 true 3 v3], nx := 2 }
theorem spec_BwtOf.eq (x0 : List Int) : spec_BwtOf x0 =
    (spec_SuffixRows x0).bind fun y1 =>
    spec_BwtOf_l0 x0 (0 : Int) y1 ([] : List Int) := by kernel_rfl
theorem spec_BwtOf_l0.eq (v0 : List Int) (v1 : Int) (v2 : List Int) (v3 : List Int) : spec_BwtOf_l0 v0 v1 v2 v3 =
    bif decide (v1 < (v2.length : Int)) then
      (at? v2 v1).bind fun y1 =>
      v2[v1.toNat]?.bind fun y2 =>
      bif y2 == (0 : Int) then
        bif decide ((v3.length + ([(0 : Int)] : List Int).length) * 8 ≤ 140737488355328) then
          spec_BwtOf_l0 v0 (IntKind.i64.wrap (v1 + (1 : Int))) v2 (v3 ++ ([(0 : Int)] : List Int))
        else
          none
      else
        (at? v2 v1).bind fun y3 =>
        v2[v1.toNat]?.bind fun y4 =>
        (at? v0 (IntKind.i64.wrap (y4 - (1 : Int)))).bind fun y5 =>
        bif decide ((v3.length + ([IntKind.i64.wrap ((IntKind.i64.wrap y5) + (1 : Int))] : List Int).length) * 8 ≤ 140737488355328) then
          spec_BwtOf_l0 v0 (IntKind.i64.wrap (v1 + (1 : Int))) v2 (v3 ++ ([IntKind.i64.wrap ((IntKind.i64.wrap y5) + (1 : Int))] : List Int))
        else
          none
    else
      some v3 := (Lw_eq tysOk (getG_con (spec_BwtOf.gok _)) _ _).trans (by kernel_rfl)

/-! ### spec_WaveOf: loop.example/g00688/spec.WaveOf -/
def spec_WaveOf.ms : List Mode := [.lend]
def spec_WaveOf.as : List VSh := [.one (.b (.b (.b (.b (.sl false false 3)))))]
def spec_WaveOf.rs : RSh := ⟨[.agg [.int .i64, .sl true true 3, .sl true true 51], .one (.b (.b (.b (.b (.bool)))))], [none]⟩
noncomputable def spec_WaveOf.gs (δ : Type) : List (Nat × Callee (GT tab) δ) := [(91, calleeS tab spec_BitsOf.ms spec_BitsOf.as spec_BitsOf.rs spec_BitsOf.fn), (126, calleeS tab spec_l02Pow.ms spec_l02Pow.as spec_l02Pow.rs spec_l02Pow.fn)]
theorem spec_WaveOf.gok (δ : Type) : AllCon Try.prog tab (spec_WaveOf.gs δ) := .cons spec_BitsOf.con (.cons spec_l02Pow.con (.nil))
noncomputable def spec_WaveOf.c : Ctx (GT tab) (KT tab) (ResT tab spec_WaveOf.rs) := { X := XT tab, ty := tyOf tys, inner := fun _ => true, keep := keepOf 0 spec_WaveOf.ms, cuts := [], live := liveOf [(4, [0, 2, 4]), (11, [2, 5, 6, 7]), (17, [2, 5, 6, 7, 8, 9, 10, 11])], G := getG (spec_WaveOf.gs _) }
noncomputable def spec_WaveOf.b : Code := bodyOf Try.f148
noncomputable def spec_WaveOf (x0 : List Int) : Option ((Int × (List Int) × (List (Int × (List Int)))) × Bool) := callW spec_WaveOf.c (fiOf (GT tab) Try.f148 spec_WaveOf.ms) spec_WaveOf.b (decRes tab spec_WaveOf.rs) (encArgs tab spec_WaveOf.as x0)
theorem spec_WaveOf.fok : FnOk Try.prog 148 Try.f148 spec_WaveOf.ms spec_WaveOf.b := ⟨Try.func148, by kernel_rfl, by kernel_rfl⟩
noncomputable def spec_WaveOf.fn : Args tab spec_WaveOf.as → Option (ResT tab spec_WaveOf.rs) := fun x => spec_WaveOf x
theorem spec_WaveOf.con {δ : Type} : Con Try.prog (KT tab) 148 (calleeS (β := δ) tab spec_WaveOf.ms spec_WaveOf.as spec_WaveOf.rs spec_WaveOf.fn) := con_shape (c := spec_WaveOf.c) mixed tysOk (getG_con (spec_WaveOf.gok _)) spec_WaveOf.fok rfl rfl (fun _ => rfl)
noncomputable def spec_WaveOf_l0 (v0 : List Int) (v1 : Int) (v2 : Int) (v3 : List Int) (v4 : List (Int × (List Int))) : Option ((Int × (List Int) × (List (Int × (List Int)))) × Bool) := Lw spec_WaveOf.c (finish spec_WaveOf.c (fiOf (GT tab) Try.f148 spec_WaveOf.ms) (decRes tab spec_WaveOf.rs)) ((loops spec_WaveOf.c.cuts 1000 spec_WaveOf.b []).getD 0 []) { slots := [.vs false 3 v0, .undef, .ptr 0 0, .undef, .int .i64 v1, .undef, .undef, .undef, .undef, .undef, .undef, .undef, .undef, .undef, .undef, .undef, .undef, .undef, .undef, .undef, .undef, .undef, .undef, .undef, .undef, .undef, .undef, .undef, .undef, .undef, .undef, .undef, .undef, .undef, .undef, .undef, .undef, .undef, .undef, .undef, .undef, .undef, .undef, .undef, .undef, .undef, .undef, .undef, .undef, .undef, .undef, .undef, .undef, .undef, .undef, .undef, .undef, .undef, .undef, .undef, .undef, .undef, .undef, .undef, .undef, .undef, .undef, .undef, .undef, .undef, .undef, .undef, .undef, .undef, .undef, .undef, .undef, .undef, .undef, .undef, .undef, .undef, .undef, .undef, .undef, .undef, .undef, .undef, .undef, .undef, .undef, .undef, .undef, .undef, .undef, .undef, .undef, .undef, .undef, .undef, .undef, .undef, .undef, .undef, .undef, .undef, .undef, .undef], loc := locOf [.box 31 [.int .i64 v2, .sl 1 0, .sl 2 0], .row 0 true 3 v3, .row 0 true 51 v4], nx := 3 }
noncomputable def spec_WaveOf_l1 (v0 : Int) (v1 : Int) (v2 : List Int) (v3 : List (Int × (List Int))) (v4 : Int) (v5 : List Int) (v6 : List (Int × (List Int))) (v7 : List Int) : Option ((Int × (List Int) × (List (Int × (List Int)))) × Bool) := Lw spec_WaveOf.c (finish spec_WaveOf.c (fiOf (GT tab) Try.f148 spec_WaveOf.ms) (decRes tab spec_WaveOf.rs)) ((loops spec_WaveOf.c.cuts 1000 spec_WaveOf.b []).getD 1 []) { slots := [.undef, .undef, .ptr 0 0, .undef, .undef, .ptr 3 0, .sl 6 0, .int .i64 v0, .undef, .undef, .undef, .undef, .undef, .undef, .undef, .undef, .undef, .undef, .undef, .undef, .undef, .undef, .undef, .undef, .undef, .undef, .undef, .undef, .undef, .undef, .undef, .undef, .undef, .undef, .undef, .undef, .undef, .undef, .undef, .undef, .undef, .undef, .undef, .undef, .undef, .undef, .undef, .undef, .undef, .undef, .undef, .undef, .undef, .undef, .undef, .undef, .undef, .undef, .undef, .undef, .undef, .undef, .undef, .undef, .undef, .undef, .undef, .undef, .undef, .undef, .undef, .undef, .undef, .undef, .undef, .undef, .undef, .undef, .undef, .undef, .undef, .undef, .undef, .undef, .undef, .undef, .undef, .undef, .undef, .undef, .undef, .undef, .undef, .undef, .undef, .undef, .undef, .undef, .undef, .undef, .undef, .undef, .undef, .undef, .undef, .undef, .undef, .undef], loc := locOf [.box 31 [.int .i64 v1, .sl 1 0, .sl 2 0], .row 0 true 3 v2, .row 0 true 51 v3, .box 31 [.int .i64 v4, .sl 4 0, .sl 5 0], .row 0 true 3 v5, .row 0 true 51 v6, .row 0 true 3 v7], nx := 7 }
noncomputable def spec_WaveOf_l2 (v0 : Int) (v1 : Int) (v2 : Int) (v3 : List Int) (v4 : List (Int × (List Int))) (v5 : Int) (v6 : List Int) (v7 : List (Int × (List Int))) (v8 : List Int) (v9 : List Int) (v10 : List Int) (v11 : List Int) : Option ((Int × (List Int) × (List (Int × (List Int)))) × Bool) := Lw spec_WaveOf.c (finish spec_WaveOf.c (fiOf (GT tab) Try.f148 spec_WaveOf.ms) (decRes tab spec_WaveOf.rs)) ((loops spec_WaveOf.c.cuts 1000 spec_WaveOf.b []).getD 2 []) { slots := [.undef, .undef, .ptr 0 0, .undef, .undef, .ptr 3 0, .sl 6 0, .int .i64 v0, .sl 7 0, .sl 8 0, .sl 9 0, .int .i64 v1, .undef, .undef, .undef, .undef, .undef, .undef, .undef, .undef, .undef, .undef, .undef, .undef, .undef, .undef, .undef, .undef, .undef, .undef, .undef, .undef, .undef, .undef, .undef, .undef, .undef, .undef, .undef, .undef, .undef, .undef, .undef, .undef, .undef, .undef, .undef, .undef, .undef, .undef, .undef, .undef, .undef, .undef, .undef, .undef, .undef, .undef, .undef, .undef, .undef, .undef, .undef, .undef, .undef, .undef, .undef, .undef, .undef, .undef, .undef, .undef, .undef, .undef, .undef, .undef, .undef, .undef, .undef, .undef, .undef, .undef, .undef, .undef, .undef, .undef, .undef, .undef, .undef, .undef, .undef, .undef, .undef, .undef, .undef, .undef, .undef, .undef, .undef, .undef, .undef, .undef, .undef, .undef, .undef, .undef, .undef, .undef], loc := locOf [.box 31 [.int .i64 v2, .sl 1 0, .sl 2 0], .row 0 true 3 v3, .row 0 true 51 v4, .box 31 [.int .i64 v5, .sl 4 0, .sl 5 0], .row 0 true 3 v6, .row 0 true 51 v7, .row 0 true 3 v8, .row 0 true 3 v9, .row 0 true 3 v10, .row 0 true 3 v11], nx := 10 }
theorem spec_WaveOf.eq (x0 : List Int) : spec_WaveOf x0 =
    bif decide ((x0.length : Int) > (1000 : Int)) then
      some (((0 : Int), ([] : List Int), ([] : List (Int × (List Int)))), false)
    else
      spec_WaveOf_l0 x0 (0 : Int) (0 : Int) ([] : List Int) ([] : List (Int × (List Int))) := by kernel_rfl
theorem spec_WaveOf_l0.eq (v0 : List Int) (v1 : Int) (v2 : Int) (v3 : List Int) (v4 : List (Int × (List Int))) : spec_WaveOf_l0 v0 v1 v2 v3 v4 =
    bif decide (v1 < (v0.length : Int)) then
      (at? v0 v1).bind fun y1 =>
      bif decide (y1 < (0 : Int)) then
        some (((0 : Int), ([] : List Int), ([] : List (Int × (List Int)))), false)
      else
        (at? v0 v1).bind fun y2 =>
        bif decide (y2 > (511 : Int)) then
          some (((0 : Int), ([] : List Int), ([] : List (Int × (List Int)))), false)
        else
          spec_WaveOf_l0 v0 (IntKind.i64.wrap (v1 + (1 : Int))) v2 v3 v4
    else
      bif decide ((([] : List Int).length + v0.length) * 8 ≤ 140737488355328) then
        spec_WaveOf_l1 (0 : Int) v2 v3 v4 (v0.length : Int) ([] : List Int) ([] : List (Int × (List Int))) (([] : List Int) ++ v0)
      else
        none := (Lw_eq tysOk (getG_con (spec_WaveOf.gok _)) _ _).trans (by kernel_rfl)
theorem spec_WaveOf_l1.eq (v0 : Int) (v1 : Int) (v2 : List Int) (v3 : List (Int × (List Int))) (v4 : Int) (v5 : List Int) (v6 : List (Int × (List Int))) (v7 : List Int) : spec_WaveOf_l1 v0 v1 v2 v3 v4 v5 v6 v7 =
    bif decide (v0 < (9 : Int)) then
      spec_WaveOf_l2 v0 (0 : Int) v1 v2 v3 v4 v5 v6 v7 ([] : List Int) ([] : List Int) ([] : List Int)
    else
      some ((v4, v5, v6), true) := (Lw_eq tysOk (getG_con (spec_WaveOf.gok _)) _ _).trans (by kernel_rfl)
theorem spec_WaveOf_l2.eq (v0 : Int) (v1 : Int) (v2 : Int) (v3 : List Int) (v4 : List (Int × (List Int))) (v5 : Int) (v6 : List Int) (v7 : List (Int × (List Int))) (v8 : List Int) (v9 : List Int) (v10 : List Int) (v11 : List Int) : spec_WaveOf_l2 v0 v1 v2 v3 v4 v5 v6 v7 v8 v9 v10 v11 =
    bif decide (v1 < (v8.length : Int)) then
      (at? v8 v1).bind fun y1 =>
      v8[v1.toNat]?.bind fun y2 =>
      (spec_l02Pow (IntKind.i64.wrap ((8 : Int) - v0))).bind fun y3 =>
      bif decide (y3 = (0 : Int)) then
        none
      else
        bif decide ((v9.length + ([(IntKind.i64.wrap (y2.tdiv y3)).tmod (2 : Int)] : List Int).length) * 8 ≤ 140737488355328) then
          bif (IntKind.i64.wrap (y2.tdiv y3)).tmod (2 : Int) == (0 : Int) then
            (at? v8 v1).bind fun y4 =>
            v8[v1.toNat]?.bind fun y5 =>
            bif decide ((v10.length + ([y5] : List Int).length) * 8 ≤ 140737488355328) then
              spec_WaveOf_l2 v0 (IntKind.i64.wrap (v1 + (1 : Int))) v2 v3 v4 v5 v6 v7 v8 (v9 ++ ([(IntKind.i64.wrap (y2.tdiv y3)).tmod (2 : Int)] : List Int)) (v10 ++ ([y5] : List Int)) v11
            else
              none
          else
            (at? v8 v1).bind fun y6 =>
            v8[v1.toNat]?.bind fun y7 =>
            bif decide ((v11.length + ([y7] : List Int).length) * 8 ≤ 140737488355328) then
              spec_WaveOf_l2 v0 (IntKind.i64.wrap (v1 + (1 : Int))) v2 v3 v4 v5 v6 v7 v8 (v9 ++ ([(IntKind.i64.wrap (y2.tdiv y3)).tmod (2 : Int)] : List Int)) v10 (v11 ++ ([y7] : List Int))
            else
              none
        else
          none
    else
      (spec_BitsOf v9).bind fun y8 =>
      bif decide ((v7.length + ([(y8.1.1, y8.1.2)] : List (Int × (List Int))).length) * 32 ≤ 140737488355328) then
        bif decide ((v6.length + ([(v10.length : Int)] : List Int).length) * 8 ≤ 140737488355328) then
          bif decide ((v10.length + v11.length) * 8 ≤ 140737488355328) then
            spec_WaveOf_l1 (IntKind.i64.wrap (v0 + (1 : Int))) v2 v3 v4 v5 (v6 ++ ([(v10.length : Int)] : List Int)) (v7 ++ ([(y8.1.1, y8.1.2)] : List (Int × (List Int)))) (v10 ++ v11)
          else
            none
        else
          none
      else
        none := (Lw_eq tysOk (getG_con (spec_WaveOf.gok _)) _ _).trans (by kernel_rfl)

/-! ### spec_l01Cur_wave: (*loop.example/g00688/spec.l01Cur).wave -/
def spec_l01Cur_wave.ms : List Mode := [.keep]
def spec_l01Cur_wave.as : List VSh := [.one (.ptr true 150 [.b (.b (.b (.sl false false 5))), .b (.b (.b (.int .i64))), .b (.b (.b (.int .i64)))])]
def spec_l01Cur_wave.rs : RSh := ⟨[.agg [.int .i64, .sl true true 3, .sl true true 51]], [some (.one (.ptr true 150 [.b (.b (.b (.sl false false 5))), .b (.b (.b (.int .i64))), .b (.b (.b (.int .i64)))]))]⟩
noncomputable def spec_l01Cur_wave.gs (δ : Type) : List (Nat × Callee (GT tab) δ) := [(88, calleeS tab spec_l01Cur_badBits.ms spec_l01Cur_badBits.as spec_l01Cur_badBits.rs spec_l01Cur_badBits.fn), (121, calleeS tab spec_l01Cur_pick.ms spec_l01Cur_pick.as spec_l01Cur_pick.rs spec_l01Cur_pick.fn), (122, calleeS tab spec_l01Cur_raw.ms spec_l01Cur_raw.as spec_l01Cur_raw.rs spec_l01Cur_raw.fn), (144, calleeS tab spec_l01Cur_numbers.ms spec_l01Cur_numbers.as spec_l01Cur_numbers.rs spec_l01Cur_numbers.fn), (145, calleeS tab spec_l01Cur_once.ms spec_l01Cur_once.as spec_l01Cur_once.rs spec_l01Cur_once.fn), (146, calleeS tab spec_BwtOf.ms spec_BwtOf.as spec_BwtOf.rs spec_BwtOf.fn), (147, calleeS tab spec_l01Cur_textOf.ms spec_l01Cur_textOf.as spec_l01Cur_textOf.rs spec_l01Cur_textOf.fn), (148, calleeS tab spec_WaveOf.ms spec_WaveOf.as spec_WaveOf.rs spec_WaveOf.fn)]
theorem spec_l01Cur_wave.gok (δ : Type) : AllCon Try.prog tab (spec_l01Cur_wave.gs δ) := .cons spec_l01Cur_badBits.con (.cons spec_l01Cur_pick.con (.cons spec_l01Cur_raw.con (.cons spec_l01Cur_numbers.con (.cons spec_l01Cur_once.con (.cons spec_BwtOf.con (.cons spec_l01Cur_textOf.con (.cons spec_WaveOf.con (.nil))))))))
noncomputable def spec_l01Cur_wave.c : Ctx (GT tab) (KT tab) (ResT tab spec_l01Cur_wave.rs) := { X := XT tab, ty := tyOf tys, inner := fun _ => true, keep := keepOf 0 spec_l01Cur_wave.ms, cuts := [4], live := liveOf [(4, [0, 2, 3])], G := getG (spec_l01Cur_wave.gs _) }
noncomputable def spec_l01Cur_wave.b : Code := bodyOf Try.f90
noncomputable def spec_l01Cur_wave (x0 : (List Int) × Int × Int) : Option ((Int × (List Int) × (List (Int × (List Int)))) × ((List Int) × Int × Int)) := callW spec_l01Cur_wave.c (fiOf (GT tab) Try.f90 spec_l01Cur_wave.ms) spec_l01Cur_wave.b (decRes tab spec_l01Cur_wave.rs) (encArgs tab spec_l01Cur_wave.as x0)
theorem spec_l01Cur_wave.fok : FnOk Try.prog 90 Try.f90 spec_l01Cur_wave.ms spec_l01Cur_wave.b := ⟨Try.func90, by kernel_rfl, by kernel_rfl⟩
noncomputable def spec_l01Cur_wave.fn : Args tab spec_l01Cur_wave.as → Option (ResT tab spec_l01Cur_wave.rs) := fun x => spec_l01Cur_wave x
theorem spec_l01Cur_wave.con {δ : Type} : Con Try.prog (KT tab) 90 (calleeS (β := δ) tab spec_l01Cur_wave.ms spec_l01Cur_wave.as spec_l01Cur_wave.rs spec_l01Cur_wave.fn) := con_shape (c := spec_l01Cur_wave.c) mixed tysOk (getG_con (spec_l01Cur_wave.gok _)) spec_l01Cur_wave.fok rfl rfl (fun _ => rfl)
noncomputable def spec_l01Cur_wave_l0 (v0 : List Int) (v1 : Int) (v2 : Int) (v3 : Int) (v4 : List Int) (v5 : List (Int × (List Int))) (v6 : List Int) : Option ((Int × (List Int) × (List (Int × (List Int)))) × ((List Int) × Int × Int)) := Lw spec_l01Cur_wave.c (finish spec_l01Cur_wave.c (fiOf (GT tab) Try.f90 spec_l01Cur_wave.ms) (decRes tab spec_l01Cur_wave.rs)) ((loops spec_l01Cur_wave.c.cuts 1000 spec_l01Cur_wave.b []).getD 0 []) { slots := [.ptr 0 0, .undef, .ptr 1 0, .sl 4 0, .undef, .undef, .undef, .undef, .undef, .undef, .undef, .undef, .undef, .undef, .undef, .undef, .undef, .undef, .undef, .undef, .undef, .undef, .undef, .undef, .undef, .undef, .undef, .undef, .undef, .undef, .undef, .undef, .undef, .undef, .undef, .undef, .undef, .undef, .undef, .undef, .undef, .undef, .undef, .undef, .undef, .undef, .undef, .undef, .undef, .undef, .undef, .undef, .undef, .undef, .undef, .undef, .undef, .undef, .undef, .undef, .undef, .undef, .undef, .undef, .undef, .undef, .undef, .undef], loc := locOf [.box 150 [.vs false 5 v0, .int .i64 v1, .int .i64 v2], .box 31 [.int .i64 v3, .sl 2 0, .sl 3 0], .row 0 true 3 v4, .row 0 true 51 v5, .row 0 true 3 v6], nx := 5 }
theorem spec_l01Cur_wave.eq (x0 : (List Int) × Int × Int) : spec_l01Cur_wave x0 =
    (spec_l01Cur_pick (x0.1, x0.2.1, x0.2.2) (3 : Int)).bind fun y1 =>
    (at? ([(3 : Int), (100 : Int), (512 : Int)] : List Int) y1.1).bind fun y2 =>
    ([(3 : Int), (100 : Int), (512 : Int)] : List Int)[y1.1.toNat]?.bind fun y3 =>
    (spec_l01Cur_numbers (y1.2.1, y1.2.2.1, y1.2.2.2) (24 : Int) y3).bind fun y4 =>
    (spec_l01Cur_once (y4.2.1, y4.2.2.1, y4.2.2.2) (3 : Int)).bind fun y5 =>
    bif y5.1 then
      (spec_l01Cur_textOf (y5.2.1, y5.2.2.1, y5.2.2.2) (24 : Int)).bind fun y6 =>
      (spec_BwtOf y6.1).bind fun y7 =>
      spec_l01Cur_wave_l0 y6.2.1 y6.2.2.1 y6.2.2.2 (0 : Int) ([] : List Int) ([] : List (Int × (List Int))) y7
    else
      spec_l01Cur_wave_l0 y5.2.1 y5.2.2.1 y5.2.2.2 (0 : Int) ([] : List Int) ([] : List (Int × (List Int))) y4.1 := by kernel_rfl
theorem spec_l01Cur_wave_l0.eq (v0 : List Int) (v1 : Int) (v2 : Int) (v3 : Int) (v4 : List Int) (v5 : List (Int × (List Int))) (v6 : List Int) : spec_l01Cur_wave_l0 v0 v1 v2 v3 v4 v5 v6 =
    (spec_WaveOf v6).bind fun y1 =>
    (spec_l01Cur_pick (v0, v1, v2) (14 : Int)).bind fun y2 =>
    bif y2.1 == (0 : Int) then
      (spec_l01Cur_pick (y2.2.1, y2.2.2.1, y2.2.2.2) (3 : Int)).bind fun y3 =>
      some ((IntKind.i64.wrap ((IntKind.i64.wrap (y1.1.1 + y3.1)) - (1 : Int)), y1.1.2.1, y1.1.2.2), (y3.2.1, y3.2.2.1, y3.2.2.2))
    else
      bif y2.1 == (1 : Int) then
        (spec_l01Cur_pick (y2.2.1, y2.2.2.1, y2.2.2.2) (9 : Int)).bind fun y4 =>
        (spec_l01Cur_raw (y4.2.1, y4.2.2.1, y4.2.2.2)).bind fun y5 =>
        (at? y1.1.2.1 y4.1).bind fun y6 =>
        y1.1.2.1[y4.1.toNat]?.bind fun y7 =>
        some ((y1.1.1, y1.1.2.1.set y4.1.toNat y5.1, y1.1.2.2), (y5.2.1, y5.2.2.1, y5.2.2.2))
      else
        bif y2.1 == (2 : Int) then
          (spec_l01Cur_pick (y2.2.1, y2.2.2.1, y2.2.2.2) (9 : Int)).bind fun y8 =>
          (spec_l01Cur_badBits (y8.2.1, y8.2.2.1, y8.2.2.2)).bind fun y9 =>
          (at? y1.1.2.2 y8.1).bind fun y10 =>
          y1.1.2.2[y8.1.toNat]?.bind fun y11 =>
          some ((y1.1.1, y1.1.2.1, y1.1.2.2.set y8.1.toNat (y9.1.1, y9.1.2)), (y9.2.1, y9.2.2.1, y9.2.2.2))
        else
          bif y2.1 == (3 : Int) then
            (spec_l01Cur_pick (y2.2.1, y2.2.2.1, y2.2.2.2) (9 : Int)).bind fun y12 =>
            bif decide (0 ≤ y12.1 ∧ y12.1 ≤ ((y1.1.2.2.length : Nat) : Int)) then
              some ((y1.1.1, y1.1.2.1, y1.1.2.2.take (y12.1.toNat - 0)), (y12.2.1, y12.2.2.1, y12.2.2.2))
            else
              none
          else
            bif y2.1 == (4 : Int) then
              bif decide ((y1.1.2.1.length + ([(0 : Int)] : List Int).length) * 8 ≤ 140737488355328) then
                some ((y1.1.1, y1.1.2.1 ++ ([(0 : Int)] : List Int), y1.1.2.2), (y2.2.1, y2.2.2.1, y2.2.2.2))
              else
                none
            else
              some ((y1.1.1, y1.1.2.1, y1.1.2.2), (y2.2.1, y2.2.2.1, y2.2.2.2)) := (Lw_eq tysOk (getG_con (spec_l01Cur_wave.gok _)) _ _).trans (by kernel_rfl)

/-! ### spec_DrawWaveBytes: loop.example/g00688/spec.DrawWaveBytes -/
def spec_DrawWaveBytes.ms : List Mode := [.lend]
def spec_DrawWaveBytes.as : List VSh := [.one (.b (.b (.b (.b (.sl false false 5)))))]
def spec_DrawWaveBytes.rs : RSh := ⟨[.agg [.int .i64, .sl true true 3, .sl true true 51]], [none]⟩
noncomputable def spec_DrawWaveBytes.gs (δ : Type) : List (Nat × Callee (GT tab) δ) := [(87, calleeS tab spec_l01Open.ms spec_l01Open.as spec_l01Open.rs spec_l01Open.fn), (90, calleeS tab spec_l01Cur_wave.ms spec_l01Cur_wave.as spec_l01Cur_wave.rs spec_l01Cur_wave.fn)]
theorem spec_DrawWaveBytes.gok (δ : Type) : AllCon Try.prog tab (spec_DrawWaveBytes.gs δ) := .cons spec_l01Open.con (.cons spec_l01Cur_wave.con (.nil))
noncomputable def spec_DrawWaveBytes.c : Ctx (GT tab) (KT tab) (ResT tab spec_DrawWaveBytes.rs) := { X := XT tab, ty := tyOf tys, inner := fun _ => true, keep := keepOf 0 spec_DrawWaveBytes.ms, cuts := [], live := liveOf [], G := getG (spec_DrawWaveBytes.gs _) }
noncomputable def spec_DrawWaveBytes.b : Code := bodyOf Try.f36
noncomputable def spec_DrawWaveBytes (x0 : List Int) : Option (Int × (List Int) × (List (Int × (List Int)))) := callW spec_DrawWaveBytes.c (fiOf (GT tab) Try.f36 spec_DrawWaveBytes.ms) spec_DrawWaveBytes.b (decRes tab spec_DrawWaveBytes.rs) (encArgs tab spec_DrawWaveBytes.as x0)
theorem spec_DrawWaveBytes.fok : FnOk Try.prog 36 Try.f36 spec_DrawWaveBytes.ms spec_DrawWaveBytes.b := ⟨Try.func36, by kernel_rfl, by kernel_rfl⟩
noncomputable def spec_DrawWaveBytes.fn : Args tab spec_DrawWaveBytes.as → Option (ResT tab spec_DrawWaveBytes.rs) := fun x => spec_DrawWaveBytes x
theorem spec_DrawWaveBytes.con {δ : Type} : Con Try.prog (KT tab) 36 (calleeS (β := δ) tab spec_DrawWaveBytes.ms spec_DrawWaveBytes.as spec_DrawWaveBytes.rs spec_DrawWaveBytes.fn) := con_shape (c := spec_DrawWaveBytes.c) mixed tysOk (getG_con (spec_DrawWaveBytes.gok _)) spec_DrawWaveBytes.fok rfl rfl (fun _ => rfl)
theorem spec_DrawWaveBytes.eq (x0 : List Int) : spec_DrawWaveBytes x0 =
    (spec_l01Open x0).bind fun y1 =>
    (spec_l01Cur_wave (y1.1, y1.2.1, y1.2.2)).bind fun y2 =>
    some (y2.1.1, y2.1.2.1, y2.1.2.2) := by kernel_rfl

/-! ### impl_BitsBytes: loop.example/g00688/impl.BitsBytes -/
def impl_BitsBytes.ms : List Mode := [.lend]
def impl_BitsBytes.as : List VSh := [.agg [.int .i64, .sl false false 117]]
def impl_BitsBytes.rs : RSh := ⟨[.one (.b (.b (.b (.b (.sl true true 5)))))], [none]⟩
noncomputable def impl_BitsBytes.gs (δ : Type) : List (Nat × Callee (GT tab) δ) := [(93, calleeS tab impl_BitsOk.ms impl_BitsOk.as impl_BitsOk.rs impl_BitsOk.fn), (94, calleeS tab impl_bitsBytes.ms impl_bitsBytes.as impl_bitsBytes.rs impl_bitsBytes.fn)]
theorem impl_BitsBytes.gok (δ : Type) : AllCon Try.prog tab (impl_BitsBytes.gs δ) := .cons impl_BitsOk.con (.cons impl_bitsBytes.con (.nil))
noncomputable def impl_BitsBytes.c : Ctx (GT tab) (KT tab) (ResT tab impl_BitsBytes.rs) := { X := XT tab, ty := tyOf tys, inner := fun _ => true, keep := keepOf 0 impl_BitsBytes.ms, cuts := [], live := liveOf [], G := getG (impl_BitsBytes.gs _) }
noncomputable def impl_BitsBytes.b : Code := bodyOf Try.f40
noncomputable def impl_BitsBytes (x0 : Int × (List Int)) : Option (List Int) := callW impl_BitsBytes.c (fiOf (GT tab) Try.f40 impl_BitsBytes.ms) impl_BitsBytes.b (decRes tab impl_BitsBytes.rs) (encArgs tab impl_BitsBytes.as x0)
theorem impl_BitsBytes.fok : FnOk Try.prog 40 Try.f40 impl_BitsBytes.ms impl_BitsBytes.b := ⟨Try.func40, by kernel_rfl, by kernel_rfl⟩
noncomputable def impl_BitsBytes.fn : Args tab impl_BitsBytes.as → Option (ResT tab impl_BitsBytes.rs) := fun x => impl_BitsBytes x
theorem impl_BitsBytes.con {δ : Type} : Con Try.prog (KT tab) 40 (calleeS (β := δ) tab impl_BitsBytes.ms impl_BitsBytes.as impl_BitsBytes.rs impl_BitsBytes.fn) := con_shape (c := impl_BitsBytes.c) mixed tysOk (getG_con (impl_BitsBytes.gok _)) impl_BitsBytes.fok rfl rfl (fun _ => rfl)
theorem impl_BitsBytes.eq (x0 : Int × (List Int)) : impl_BitsBytes x0 =
    (impl_BitsOk (x0.1, x0.2)).bind fun y1 =>
    bif !y1 then
      some ([] : List Int)
    else
      (impl_bitsBytes (x0.1, x0.2)).bind fun y2 =>
      some y2 := by kernel_rfl

/-! ### slices_Grow_byte_byte: slices.Grow[[]byte,byte] (by hand) -/
def slices_Grow_byte_byte.ms : List Mode := [.give, .lend]
def slices_Grow_byte_byte.as : List VSh := [.one (.b (.b (.b (.b (.sl true true 5))))), .one (.b (.b (.b (.b (.int .i64)))))]
def slices_Grow_byte_byte.rs : RSh := ⟨[.one (.b (.b (.b (.b (.sl true true 5)))))], [none, none]⟩
noncomputable def slices_Grow_byte_byte (x0 : List Int) (x1 : Int) : Option (List Int) := growF 1 (x0, x1)
noncomputable def slices_Grow_byte_byte.fn : Args tab slices_Grow_byte_byte.as → Option (ResT tab slices_Grow_byte_byte.rs) := fun x => slices_Grow_byte_byte x.1 x.2
theorem slices_Grow_byte_byte.con {δ : Type} : Con Try.prog (KT tab) 150 (calleeS (β := δ) tab slices_Grow_byte_byte.ms slices_Grow_byte_byte.as slices_Grow_byte_byte.rs slices_Grow_byte_byte.fn) := con_grow2 Try.laysGrow150 rfl rfl (ty := tyOf tys) tysOk (e := 5) rfl (by decide) rfl rfl

/-! ### slices_Concat_byte_byte: slices.Concat[[]byte,byte] -/
def slices_Concat_byte_byte.ms : List Mode := [.lend]
def slices_Concat_byte_byte.as : List VSh := [.one (.b (.b (.b (.b (.sl false false 27)))))]
def slices_Concat_byte_byte.rs : RSh := ⟨[.one (.b (.b (.b (.b (.sl true true 5)))))], [none]⟩
noncomputable def slices_Concat_byte_byte.gs (δ : Type) : List (Nat × Callee (GT tab) δ) := [(150, calleeS tab slices_Grow_byte_byte.ms slices_Grow_byte_byte.as slices_Grow_byte_byte.rs slices_Grow_byte_byte.fn)]
theorem slices_Concat_byte_byte.gok (δ : Type) : AllCon Try.prog tab (slices_Concat_byte_byte.gs δ) := .cons slices_Grow_byte_byte.con (.nil)
noncomputable def slices_Concat_byte_byte.c : Ctx (GT tab) (KT tab) (ResT tab slices_Concat_byte_byte.rs) := { X := XT tab, ty := tyOf tys, inner := fun _ => true, keep := keepOf 0 slices_Concat_byte_byte.ms, cuts := [], live := liveOf [(3, [0, 3, 9, 10, 11]), (11, [6, 25, 26, 27])], G := getG (slices_Concat_byte_byte.gs _) }
noncomputable def slices_Concat_byte_byte.b : Code := bodyOf Try.f96
noncomputable def slices_Concat_byte_byte (x0 : List (List Int)) : Option (List Int) := callW slices_Concat_byte_byte.c (fiOf (GT tab) Try.f96 slices_Concat_byte_byte.ms) slices_Concat_byte_byte.b (decRes tab slices_Concat_byte_byte.rs) (encArgs tab slices_Concat_byte_byte.as x0)
theorem slices_Concat_byte_byte.fok : FnOk Try.prog 96 Try.f96 slices_Concat_byte_byte.ms slices_Concat_byte_byte.b := ⟨Try.func96, by kernel_rfl, by kernel_rfl⟩
noncomputable def slices_Concat_byte_byte.fn : Args tab slices_Concat_byte_byte.as → Option (ResT tab slices_Concat_byte_byte.rs) := fun x => slices_Concat_byte_byte x
theorem slices_Concat_byte_byte.con {δ : Type} : Con Try.prog (KT tab) 96 (calleeS (β := δ) tab slices_Concat_byte_byte.ms slices_Concat_byte_byte.as slices_Concat_byte_byte.rs slices_Concat_byte_byte.fn) := con_shape (c := slices_Concat_byte_byte.c) mixed tysOk (getG_con (slices_Concat_byte_byte.gok _)) slices_Concat_byte_byte.fok rfl rfl (fun _ => rfl)
noncomputable def slices_Concat_byte_byte_l0 (v0 : List (List Int)) (v1 : Int) (v2 : List (List Int)) (v3 : Int) (v4 : Int) : Option (List Int) := Lw slices_Concat_byte_byte.c (finish slices_Concat_byte_byte.c (fiOf (GT tab) Try.f96 slices_Concat_byte_byte.ms) (decRes tab slices_Concat_byte_byte.rs)) ((loops slices_Concat_byte_byte.c.cuts 1000 slices_Concat_byte_byte.b []).getD 0 []) { slots := [.vs false 27 v0, .undef, .undef, .int .i64 v1, .undef, .undef, .undef, .undef, .undef, .vs false 27 v2, .int .i64 v3, .int .i64 v4, .undef, .undef, .undef, .undef, .undef, .undef, .undef, .undef, .undef, .undef, .undef, .undef, .undef, .undef, .undef, .undef, .undef, .undef, .undef, .undef, .undef, .undef, .undef, .undef], loc := locOf [], nx := 0 }
noncomputable def slices_Concat_byte_byte_l1 (v0 : List (List Int)) (v1 : Int) (v2 : Int) (v3 : List Int) : Option (List Int) := Lw slices_Concat_byte_byte.c (finish slices_Concat_byte_byte.c (fiOf (GT tab) Try.f96 slices_Concat_byte_byte.ms) (decRes tab slices_Concat_byte_byte.rs)) ((loops slices_Concat_byte_byte.c.cuts 1000 slices_Concat_byte_byte.b []).getD 1 []) { slots := [.undef, .undef, .undef, .undef, .undef, .undef, .sl 0 0, .undef, .undef, .undef, .undef, .undef, .undef, .undef, .undef, .undef, .undef, .undef, .undef, .undef, .undef, .undef, .undef, .undef, .undef, .vs false 27 v0, .int .i64 v1, .int .i64 v2, .undef, .undef, .undef, .undef, .undef, .undef, .undef, .undef], loc := locOf [.row 0 true 5 v3], nx := 1 }
theorem slices_Concat_byte_byte.eq (x0 : List (List Int)) : slices_Concat_byte_byte x0 =
    slices_Concat_byte_byte_l0 x0 (0 : Int) x0 (x0.length : Int) (0 : Int) := by kernel_rfl
theorem slices_Concat_byte_byte_l0.eq (v0 : List (List Int)) (v1 : Int) (v2 : List (List Int)) (v3 : Int) (v4 : Int) : slices_Concat_byte_byte_l0 v0 v1 v2 v3 v4 =
    bif decide (v4 < v3) then
      (at? v2 v4).bind fun y1 =>
      bif decide (IntKind.i64.wrap (v1 + (y1.length : Int)) < (0 : Int)) then
        none
      else
        slices_Concat_byte_byte_l0 v0 (IntKind.i64.wrap (v1 + (y1.length : Int))) v2 v3 (IntKind.i64.wrap (v4 + (1 : Int)))
    else
      (slices_Grow_byte_byte ([] : List Int) v1).bind fun y2 =>
      slices_Concat_byte_byte_l1 v0 (v0.length : Int) (0 : Int) y2 := (Lw_eq tysOk (getG_con (slices_Concat_byte_byte.gok _)) _ _).trans (by kernel_rfl)
theorem slices_Concat_byte_byte_l1.eq (v0 : List (List Int)) (v1 : Int) (v2 : Int) (v3 : List Int) : slices_Concat_byte_byte_l1 v0 v1 v2 v3 =
    bif decide (v2 < v1) then
      (at? v0 v2).bind fun y1 =>
      bif decide ((v3.length + y1.length) * 1 ≤ 140737488355328) then
        slices_Concat_byte_byte_l1 v0 v1 (IntKind.i64.wrap (v2 + (1 : Int))) (v3 ++ y1)
      else
        none
    else
      some v3 := (Lw_eq tysOk (getG_con (slices_Concat_byte_byte.gok _)) _ _).trans (by kernel_rfl)

/-! ### impl_PackBytes: loop.example/g00688/impl.PackBytes -/
def impl_PackBytes.ms : List Mode := [.lend]
def impl_PackBytes.as : List VSh := [.agg [.int .i64, .int .i64, .int .i64, .sl false false 117]]
def impl_PackBytes.rs : RSh := ⟨[.one (.b (.b (.b (.b (.sl true true 5)))))], [none]⟩
noncomputable def impl_PackBytes.gs (δ : Type) : List (Nat × Callee (GT tab) δ) := [(94, calleeS tab impl_bitsBytes.ms impl_bitsBytes.as impl_bitsBytes.rs impl_bitsBytes.fn), (95, calleeS tab impl_PackOk.ms impl_PackOk.as impl_PackOk.rs impl_PackOk.fn), (96, calleeS tab slices_Concat_byte_byte.ms slices_Concat_byte_byte.as slices_Concat_byte_byte.rs slices_Concat_byte_byte.fn), (97, calleeS tab impl_VarOf.ms impl_VarOf.as impl_VarOf.rs impl_VarOf.fn)]
theorem impl_PackBytes.gok (δ : Type) : AllCon Try.prog tab (impl_PackBytes.gs δ) := .cons impl_bitsBytes.con (.cons impl_PackOk.con (.cons slices_Concat_byte_byte.con (.cons impl_VarOf.con (.nil))))
noncomputable def impl_PackBytes.c : Ctx (GT tab) (KT tab) (ResT tab impl_PackBytes.rs) := { X := XT tab, ty := tyOf tys, inner := fun _ => true, keep := keepOf 0 impl_PackBytes.ms, cuts := [], live := liveOf [], G := getG (impl_PackBytes.gs _) }
noncomputable def impl_PackBytes.b : Code := bodyOf Try.f41
noncomputable def impl_PackBytes (x0 : Int × Int × Int × (List Int)) : Option (List Int) := callW impl_PackBytes.c (fiOf (GT tab) Try.f41 impl_PackBytes.ms) impl_PackBytes.b (decRes tab impl_PackBytes.rs) (encArgs tab impl_PackBytes.as x0)
theorem impl_PackBytes.fok : FnOk Try.prog 41 Try.f41 impl_PackBytes.ms impl_PackBytes.b := ⟨Try.func41, by kernel_rfl, by kernel_rfl⟩
noncomputable def impl_PackBytes.fn : Args tab impl_PackBytes.as → Option (ResT tab impl_PackBytes.rs) := fun x => impl_PackBytes x
theorem impl_PackBytes.con {δ : Type} : Con Try.prog (KT tab) 41 (calleeS (β := δ) tab impl_PackBytes.ms impl_PackBytes.as impl_PackBytes.rs impl_PackBytes.fn) := con_shape (c := impl_PackBytes.c) mixed tysOk (getG_con (impl_PackBytes.gok _)) impl_PackBytes.fok rfl rfl (fun _ => rfl)
theorem impl_PackBytes.eq (x0 : Int × Int × Int × (List Int)) : impl_PackBytes x0 =
    (impl_PackOk (x0.1, x0.2.1, x0.2.2.1, x0.2.2.2)).bind fun y1 =>
    bif !y1 then
      some ([] : List Int)
    else
      (impl_VarOf x0.1).bind fun y2 =>
      (impl_VarOf x0.2.1).bind fun y3 =>
      (impl_bitsBytes (x0.2.2.1, x0.2.2.2)).bind fun y4 =>
      (slices_Concat_byte_byte ([y2, y3, y4] : List (List Int))).bind fun y5 =>
      some y5 := by kernel_rfl

/-! ### impl_PackRead: loop.example/g00688/impl.PackRead -/
def impl_PackRead.ms : List Mode := [.lend, .lend]
def impl_PackRead.as : List VSh := [.one (.b (.b (.b (.b (.sl false false 5))))), .one (.b (.b (.b (.b (.int .i64)))))]
def impl_PackRead.rs : RSh := ⟨[.agg [.int .i64, .int .i64, .int .i64, .sl true true 117], .one (.b (.b (.b (.b (.int .i64))))), .one (.b (.b (.b (.b (.bool)))))], [none, none]⟩
noncomputable def impl_PackRead.gs (δ : Type) : List (Nat × Callee (GT tab) δ) := [(42, calleeS tab impl_BitsRead.ms impl_BitsRead.as impl_BitsRead.rs impl_BitsRead.fn), (95, calleeS tab impl_PackOk.ms impl_PackOk.as impl_PackOk.rs impl_PackOk.fn), (98, calleeS tab impl_VarRead.ms impl_VarRead.as impl_VarRead.rs impl_VarRead.fn)]
theorem impl_PackRead.gok (δ : Type) : AllCon Try.prog tab (impl_PackRead.gs δ) := .cons impl_BitsRead.con (.cons impl_PackOk.con (.cons impl_VarRead.con (.nil)))
noncomputable def impl_PackRead.c : Ctx (GT tab) (KT tab) (ResT tab impl_PackRead.rs) := { X := XT tab, ty := tyOf tys, inner := fun _ => true, keep := keepOf 0 impl_PackRead.ms, cuts := [], live := liveOf [], G := getG (impl_PackRead.gs _) }
noncomputable def impl_PackRead.b : Code := bodyOf Try.f43
noncomputable def impl_PackRead (x0 : List Int) (x1 : Int) : Option ((Int × Int × Int × (List Int)) × Int × Bool) := callW impl_PackRead.c (fiOf (GT tab) Try.f43 impl_PackRead.ms) impl_PackRead.b (decRes tab impl_PackRead.rs) (encArgs tab impl_PackRead.as (x0, x1))
theorem impl_PackRead.fok : FnOk Try.prog 43 Try.f43 impl_PackRead.ms impl_PackRead.b := ⟨Try.func43, by kernel_rfl, by kernel_rfl⟩
noncomputable def impl_PackRead.fn : Args tab impl_PackRead.as → Option (ResT tab impl_PackRead.rs) := fun x => impl_PackRead x.1 x.2
theorem impl_PackRead.con {δ : Type} : Con Try.prog (KT tab) 43 (calleeS (β := δ) tab impl_PackRead.ms impl_PackRead.as impl_PackRead.rs impl_PackRead.fn) := con_shape (c := impl_PackRead.c) mixed tysOk (getG_con (impl_PackRead.gok _)) impl_PackRead.fok rfl rfl (fun _ => rfl)
theorem impl_PackRead.eq (x0 : List Int) (x1 : Int) : impl_PackRead x0 x1 =
    (impl_VarRead x0 x1).bind fun y1 =>
    bif !y1.2.2 then
      some (((0 : Int), (0 : Int), (0 : Int), ([] : List Int)), (0 : Int), false)
    else
      (impl_VarRead x0 y1.2.1).bind fun y2 =>
      bif !y2.2.2 then
        some (((0 : Int), (0 : Int), (0 : Int), ([] : List Int)), (0 : Int), false)
      else
        (impl_BitsRead x0 y2.2.1).bind fun y3 =>
        bif !y3.2.2 then
          some (((0 : Int), (0 : Int), (0 : Int), ([] : List Int)), (0 : Int), false)
        else
          (impl_PackOk (y1.1, y2.1, y3.1.1, y3.1.2)).bind fun y4 =>
          bif !y4 then
            some (((0 : Int), (0 : Int), (0 : Int), ([] : List Int)), (0 : Int), false)
          else
            some ((y1.1, y2.1, y3.1.1, y3.1.2), y3.2.1, true) := by kernel_rfl

/-! ### laws_sameBits: loop.example/g00688/laws.sameBits -/
def laws_sameBits.ms : List Mode := [.lend, .lend]
def laws_sameBits.as : List VSh := [.agg [.int .i64, .sl false false 117], .agg [.int .i64, .sl false false 117]]
def laws_sameBits.rs : RSh := ⟨[.one (.b (.b (.b (.b (.bool)))))], [none, none]⟩
noncomputable def laws_sameBits.gs (δ : Type) : List (Nat × Callee (GT tab) δ) := []
theorem laws_sameBits.gok (δ : Type) : AllCon Try.prog tab (laws_sameBits.gs δ) := .nil
noncomputable def laws_sameBits.c : Ctx (GT tab) (KT tab) (ResT tab laws_sameBits.rs) := { X := XT tab, ty := tyOf tys, inner := fun _ => true, keep := keepOf 0 laws_sameBits.ms, cuts := [3], live := liveOf [(3, [2, 3]), (4, [2, 3, 5])], G := getG (laws_sameBits.gs _) }
noncomputable def laws_sameBits.b : Code := bodyOf Try.f44
noncomputable def laws_sameBits (x0 : Int × (List Int)) (x1 : Int × (List Int)) : Option (Bool) := callW laws_sameBits.c (fiOf (GT tab) Try.f44 laws_sameBits.ms) laws_sameBits.b (decRes tab laws_sameBits.rs) (encArgs tab laws_sameBits.as (x0, x1))
theorem laws_sameBits.fok : FnOk Try.prog 44 Try.f44 laws_sameBits.ms laws_sameBits.b := ⟨Try.func44, by kernel_rfl, by kernel_rfl⟩
noncomputable def laws_sameBits.fn : Args tab laws_sameBits.as → Option (ResT tab laws_sameBits.rs) := fun x => laws_sameBits x.1 x.2
theorem laws_sameBits.con {δ : Type} : Con Try.prog (KT tab) 44 (calleeS (β := δ) tab laws_sameBits.ms laws_sameBits.as laws_sameBits.rs laws_sameBits.fn) := con_shape (c := laws_sameBits.c) mixed tysOk (getG_con (laws_sameBits.gok _)) laws_sameBits.fok rfl rfl (fun _ => rfl)
noncomputable def laws_sameBits_l0 (v0 : Int) (v1 : List Int) (v2 : Int) (v3 : List Int) : Option (Bool) := Lw laws_sameBits.c (finish laws_sameBits.c (fiOf (GT tab) Try.f44 laws_sameBits.ms) (decRes tab laws_sameBits.rs)) ((loops laws_sameBits.c.cuts 1000 laws_sameBits.b []).getD 0 []) { slots := [.undef, .undef, .ptr 0 0, .ptr 1 0, .undef, .undef, .undef, .undef, .undef, .undef, .undef, .undef, .undef, .undef, .undef, .undef, .undef, .undef, .undef, .undef, .undef, .undef, .undef, .undef, .undef, .undef, .undef, .undef, .undef, .undef, .undef, .undef, .undef, .undef, .undef, .undef, .undef, .undef], loc := locOf [.box 51 [.int .i64 v0, .vs false 117 v1], .box 51 [.int .i64 v2, .vs false 117 v3]], nx := 2 }
noncomputable def laws_sameBits_l1 (v0 : Int) (v1 : Int) (v2 : List Int) (v3 : Int) (v4 : List Int) : Option (Bool) := Lw laws_sameBits.c (finish laws_sameBits.c (fiOf (GT tab) Try.f44 laws_sameBits.ms) (decRes tab laws_sameBits.rs)) ((loops laws_sameBits.c.cuts 1000 laws_sameBits.b []).getD 1 []) { slots := [.undef, .undef, .ptr 0 0, .ptr 1 0, .undef, .int .i64 v0, .undef, .undef, .undef, .undef, .undef, .undef, .undef, .undef, .undef, .undef, .undef, .undef, .undef, .undef, .undef, .undef, .undef, .undef, .undef, .undef, .undef, .undef, .undef, .undef, .undef, .undef, .undef, .undef, .undef, .undef, .undef, .undef], loc := locOf [.box 51 [.int .i64 v1, .vs false 117 v2], .box 51 [.int .i64 v3, .vs false 117 v4]], nx := 2 }
theorem laws_sameBits.eq (x0 : Int × (List Int)) (x1 : Int × (List Int)) : laws_sameBits x0 x1 =
    bif x0.1 != x1.1 then
      some false
    else
      bif (x0.2.length : Int) != (x1.2.length : Int) then
        some false
      else
        laws_sameBits_l0 x0.1 x0.2 x1.1 x1.2 := by kernel_rfl
theorem laws_sameBits_l0.eq (v0 : Int) (v1 : List Int) (v2 : Int) (v3 : List Int) : laws_sameBits_l0 v0 v1 v2 v3 =
    laws_sameBits_l1 (0 : Int) v0 v1 v2 v3 := (Lw_eq tysOk (getG_con (laws_sameBits.gok _)) _ _).trans (by kernel_rfl)
theorem laws_sameBits_l1.eq (v0 : Int) (v1 : Int) (v2 : List Int) (v3 : Int) (v4 : List Int) : laws_sameBits_l1 v0 v1 v2 v3 v4 =
    bif decide (v0 < (v2.length : Int)) then
      (at? v2 v0).bind fun y1 =>
      (at? v4 v0).bind fun y2 =>
      bif y1 != y2 then
        some false
      else
        laws_sameBits_l1 (IntKind.i64.wrap (v0 + (1 : Int))) v1 v2 v3 v4
    else
      some true := (Lw_eq tysOk (getG_con (laws_sameBits.gok _)) _ _).trans (by kernel_rfl)

/-! ### laws_samePack: loop.example/g00688/laws.samePack -/
def laws_samePack.ms : List Mode := [.lend, .lend]
def laws_samePack.as : List VSh := [.agg [.int .i64, .int .i64, .int .i64, .sl false false 117], .agg [.int .i64, .int .i64, .int .i64, .sl false false 117]]
def laws_samePack.rs : RSh := ⟨[.one (.b (.b (.b (.b (.bool)))))], [none, none]⟩
noncomputable def laws_samePack.gs (δ : Type) : List (Nat × Callee (GT tab) δ) := [(44, calleeS tab laws_sameBits.ms laws_sameBits.as laws_sameBits.rs laws_sameBits.fn)]
theorem laws_samePack.gok (δ : Type) : AllCon Try.prog tab (laws_samePack.gs δ) := .cons laws_sameBits.con (.nil)
noncomputable def laws_samePack.c : Ctx (GT tab) (KT tab) (ResT tab laws_samePack.rs) := { X := XT tab, ty := tyOf tys, inner := fun _ => true, keep := keepOf 0 laws_samePack.ms, cuts := [], live := liveOf [], G := getG (laws_samePack.gs _) }
noncomputable def laws_samePack.b : Code := bodyOf Try.f45
noncomputable def laws_samePack (x0 : Int × Int × Int × (List Int)) (x1 : Int × Int × Int × (List Int)) : Option (Bool) := callW laws_samePack.c (fiOf (GT tab) Try.f45 laws_samePack.ms) laws_samePack.b (decRes tab laws_samePack.rs) (encArgs tab laws_samePack.as (x0, x1))
theorem laws_samePack.fok : FnOk Try.prog 45 Try.f45 laws_samePack.ms laws_samePack.b := ⟨Try.func45, by kernel_rfl, by kernel_rfl⟩
noncomputable def laws_samePack.fn : Args tab laws_samePack.as → Option (ResT tab laws_samePack.rs) := fun x => laws_samePack x.1 x.2
theorem laws_samePack.con {δ : Type} : Con Try.prog (KT tab) 45 (calleeS (β := δ) tab laws_samePack.ms laws_samePack.as laws_samePack.rs laws_samePack.fn) := con_shape (c := laws_samePack.c) mixed tysOk (getG_con (laws_samePack.gok _)) laws_samePack.fok rfl rfl (fun _ => rfl)
theorem laws_samePack.eq (x0 : Int × Int × Int × (List Int)) (x1 : Int × Int × Int × (List Int)) : laws_samePack x0 x1 =
    bif x0.1 == x1.1 then
      bif x0.2.1 == x1.2.1 then
        (laws_sameBits (x0.2.2.1, x0.2.2.2) (x1.2.2.1, x1.2.2.2)).bind fun y1 =>
        some y1
      else
        some false
    else
      some false := by kernel_rfl

/-! ### spec_l07List: loop.example/g00688/spec.l07List -/
def spec_l07List.ms : List Mode := [.lend]
def spec_l07List.as : List VSh := [.agg [.int .i64, .sl false false 3, .sl false false 51]]
def spec_l07List.rs : RSh := ⟨[.one (.b (.b (.b (.b (.sl true true 3)))))], [none]⟩
noncomputable def spec_l07List.gs (δ : Type) : List (Nat × Callee (GT tab) δ) := [(92, calleeS tab spec_l01List.ms spec_l01List.as spec_l01List.rs spec_l01List.fn)]
theorem spec_l07List.gok (δ : Type) : AllCon Try.prog tab (spec_l07List.gs δ) := .cons spec_l01List.con (.nil)
noncomputable def spec_l07List.c : Ctx (GT tab) (KT tab) (ResT tab spec_l07List.rs) := { X := XT tab, ty := tyOf tys, inner := fun _ => true, keep := keepOf 0 spec_l07List.ms, cuts := [], live := liveOf [(4, [1, 3, 4, 5]), (8, [1, 3, 4, 6]), (13, [1, 3, 4, 6, 7, 8, 9]), (19, [1, 3, 4, 6, 7, 8, 9, 10, 11, 12, 13])], G := getG (spec_l07List.gs _) }
noncomputable def spec_l07List.b : Code := bodyOf Try.f99
noncomputable def spec_l07List (x0 : Int × (List Int) × (List (Int × (List Int)))) : Option (List Int) := callW spec_l07List.c (fiOf (GT tab) Try.f99 spec_l07List.ms) spec_l07List.b (decRes tab spec_l07List.rs) (encArgs tab spec_l07List.as x0)
theorem spec_l07List.fok : FnOk Try.prog 99 Try.f99 spec_l07List.ms spec_l07List.b := ⟨Try.func99, by kernel_rfl, by kernel_rfl⟩
noncomputable def spec_l07List.fn : Args tab spec_l07List.as → Option (ResT tab spec_l07List.rs) := fun x => spec_l07List x
theorem spec_l07List.con {δ : Type} : Con Try.prog (KT tab) 99 (calleeS (β := δ) tab spec_l07List.ms spec_l07List.as spec_l07List.rs spec_l07List.fn) := con_shape (c := spec_l07List.c) mixed tysOk (getG_con (spec_l07List.gok _)) spec_l07List.fok rfl rfl (fun _ => rfl)
noncomputable def spec_l07List_l0 (v0 : Int) (v1 : Int) (v2 : List Int) (v3 : List (Int × (List Int))) (v4 : List Int) (v5 : List (List Int)) : Option (List Int) := Lw spec_l07List.c (finish spec_l07List.c (fiOf (GT tab) Try.f99 spec_l07List.ms) (decRes tab spec_l07List.rs)) ((loops spec_l07List.c.cuts 1000 spec_l07List.b []).getD 0 []) { slots := [.undef, .ptr 0 0, .undef, .sl 1 0, .sl 2 0, .int .i64 v0, .undef, .undef, .undef, .undef, .undef, .undef, .undef, .undef, .undef, .undef, .undef, .undef, .undef, .undef, .undef, .undef, .undef, .undef, .undef, .undef, .undef, .undef, .undef, .undef, .undef, .undef, .undef, .undef, .undef, .undef, .undef, .undef, .undef, .undef, .undef, .undef, .undef, .undef, .undef, .undef, .undef, .undef, .undef, .undef, .undef, .undef, .undef, .undef, .undef, .undef, .undef, .undef, .undef, .undef, .undef, .undef, .undef, .undef, .undef, .undef, .undef, .undef, .undef, .undef, .undef, .undef, .undef, .undef, .undef, .undef, .undef, .undef, .undef, .undef, .undef, .undef, .undef, .undef, .undef, .undef, .undef, .undef, .undef, .undef, .undef, .undef, .undef, .undef], loc := locOf [.box 31 [.int .i64 v1, .vs false 3 v2, .vs false 51 v3], .row 0 true 3 v4, .row 0 true 22 v5], nx := 3 }
noncomputable def spec_l07List_l1 (v0 : Int) (v1 : Int) (v2 : List Int) (v3 : List (Int × (List Int))) (v4 : List Int) (v5 : List (List Int)) : Option (List Int) := Lw spec_l07List.c (finish spec_l07List.c (fiOf (GT tab) Try.f99 spec_l07List.ms) (decRes tab spec_l07List.rs)) ((loops spec_l07List.c.cuts 1000 spec_l07List.b []).getD 1 []) { slots := [.undef, .ptr 0 0, .undef, .sl 1 0, .sl 2 0, .undef, .int .i64 v0, .undef, .undef, .undef, .undef, .undef, .undef, .undef, .undef, .undef, .undef, .undef, .undef, .undef, .undef, .undef, .undef, .undef, .undef, .undef, .undef, .undef, .undef, .undef, .undef, .undef, .undef, .undef, .undef, .undef, .undef, .undef, .undef, .undef, .undef, .undef, .undef, .undef, .undef, .undef, .undef, .undef, .undef, .undef, .undef, .undef, .undef, .undef, .undef, .undef, .undef, .undef, .undef, .undef, .undef, .undef, .undef, .undef, .undef, .undef, .undef, .undef, .undef, .undef, .undef, .undef, .undef, .undef, .undef, .undef, .undef, .undef, .undef, .undef, .undef, .undef, .undef, .undef, .undef, .undef, .undef, .undef, .undef, .undef, .undef, .undef, .undef, .undef], loc := locOf [.box 31 [.int .i64 v1, .vs false 3 v2, .vs false 51 v3], .row 0 true 3 v4, .row 0 true 22 v5], nx := 3 }
noncomputable def spec_l07List_l2 (v0 : Int) (v1 : Int) (v2 : Int) (v3 : Int) (v4 : Int) (v5 : List Int) (v6 : List (Int × (List Int))) (v7 : List Int) (v8 : List (List Int)) : Option (List Int) := Lw spec_l07List.c (finish spec_l07List.c (fiOf (GT tab) Try.f99 spec_l07List.ms) (decRes tab spec_l07List.rs)) ((loops spec_l07List.c.cuts 1000 spec_l07List.b []).getD 2 []) { slots := [.undef, .ptr 0 0, .undef, .sl 1 0, .sl 2 0, .undef, .int .i64 v0, .int .i64 v1, .int .i64 v2, .int .i64 v3, .undef, .undef, .undef, .undef, .undef, .undef, .undef, .undef, .undef, .undef, .undef, .undef, .undef, .undef, .undef, .undef, .undef, .undef, .undef, .undef, .undef, .undef, .undef, .undef, .undef, .undef, .undef, .undef, .undef, .undef, .undef, .undef, .undef, .undef, .undef, .undef, .undef, .undef, .undef, .undef, .undef, .undef, .undef, .undef, .undef, .undef, .undef, .undef, .undef, .undef, .undef, .undef, .undef, .undef, .undef, .undef, .undef, .undef, .undef, .undef, .undef, .undef, .undef, .undef, .undef, .undef, .undef, .undef, .undef, .undef, .undef, .undef, .undef, .undef, .undef, .undef, .undef, .undef, .undef, .undef, .undef, .undef, .undef, .undef], loc := locOf [.box 31 [.int .i64 v4, .vs false 3 v5, .vs false 51 v6], .row 0 true 3 v7, .row 0 true 22 v8], nx := 3 }
noncomputable def spec_l07List_l3 (v0 : Int) (v1 : Int) (v2 : Int) (v3 : Int) (v4 : Int) (v5 : Int) (v6 : Int) (v7 : Int) (v8 : Int) (v9 : List Int) (v10 : List (Int × (List Int))) (v11 : List Int) (v12 : List (List Int)) : Option (List Int) := Lw spec_l07List.c (finish spec_l07List.c (fiOf (GT tab) Try.f99 spec_l07List.ms) (decRes tab spec_l07List.rs)) ((loops spec_l07List.c.cuts 1000 spec_l07List.b []).getD 3 []) { slots := [.undef, .ptr 0 0, .undef, .sl 1 0, .sl 2 0, .undef, .int .i64 v0, .int .i64 v1, .int .i64 v2, .int .i64 v3, .int .i64 v4, .int .i64 v5, .int .i64 v6, .int .i64 v7, .undef, .undef, .undef, .undef, .undef, .undef, .undef, .undef, .undef, .undef, .undef, .undef, .undef, .undef, .undef, .undef, .undef, .undef, .undef, .undef, .undef, .undef, .undef, .undef, .undef, .undef, .undef, .undef, .undef, .undef, .undef, .undef, .undef, .undef, .undef, .undef, .undef, .undef, .undef, .undef, .undef, .undef, .undef, .undef, .undef, .undef, .undef, .undef, .undef, .undef, .undef, .undef, .undef, .undef, .undef, .undef, .undef, .undef, .undef, .undef, .undef, .undef, .undef, .undef, .undef, .undef, .undef, .undef, .undef, .undef, .undef, .undef, .undef, .undef, .undef, .undef, .undef, .undef, .undef, .undef], loc := locOf [.box 31 [.int .i64 v8, .vs false 3 v9, .vs false 51 v10], .row 0 true 3 v11, .row 0 true 22 v12], nx := 3 }
theorem spec_l07List.eq (x0 : Int × (List Int) × (List (Int × (List Int)))) : spec_l07List x0 =
    spec_l07List_l0 (0 : Int) x0.1 x0.2.1 x0.2.2 ([] : List Int) ([] : List (List Int)) := by kernel_rfl
theorem spec_l07List_l0.eq (v0 : Int) (v1 : Int) (v2 : List Int) (v3 : List (Int × (List Int))) (v4 : List Int) (v5 : List (List Int)) : spec_l07List_l0 v0 v1 v2 v3 v4 v5 =
    bif decide (v0 < (9 : Int)) then
      (at? v3 v0).bind fun y1 =>
      (spec_l01List (y1.1, y1.2)).bind fun y2 =>
      bif decide ((v5.length + ([y2] : List (List Int)).length) * 24 ≤ 140737488355328) then
        spec_l07List_l0 (IntKind.i64.wrap (v0 + (1 : Int))) v1 v2 v3 v4 (v5 ++ ([y2] : List (List Int)))
      else
        none
    else
      spec_l07List_l1 (0 : Int) v1 v2 v3 v4 v5 := (Lw_eq tysOk (getG_con (spec_l07List.gok _)) _ _).trans (by kernel_rfl)
theorem spec_l07List_l1.eq (v0 : Int) (v1 : Int) (v2 : List Int) (v3 : List (Int × (List Int))) (v4 : List Int) (v5 : List (List Int)) : spec_l07List_l1 v0 v1 v2 v3 v4 v5 =
    bif decide (v0 < v1) then
      spec_l07List_l2 v0 v0 (0 : Int) (0 : Int) v1 v2 v3 v4 v5
    else
      some v4 := (Lw_eq tysOk (getG_con (spec_l07List.gok _)) _ _).trans (by kernel_rfl)
theorem spec_l07List_l2.eq (v0 : Int) (v1 : Int) (v2 : Int) (v3 : Int) (v4 : Int) (v5 : List Int) (v6 : List (Int × (List Int))) (v7 : List Int) (v8 : List (List Int)) : spec_l07List_l2 v0 v1 v2 v3 v4 v5 v6 v7 v8 =
    bif decide (v3 < (9 : Int)) then
      (at? v8 v3).bind fun y1 =>
      v8[v3.toNat]?.bind fun y2 =>
      (at? y2 v1).bind fun y3 =>
      y2[v1.toNat]?.bind fun y4 =>
      spec_l07List_l3 v0 v1 v2 v3 y4 (0 : Int) (0 : Int) (0 : Int) v4 v5 v6 v7 (v8.set v3.toNat y2)
    else
      bif decide ((v7.length + ([v2] : List Int).length) * 8 ≤ 140737488355328) then
        spec_l07List_l1 (IntKind.i64.wrap (v0 + (1 : Int))) v4 v5 v6 (v7 ++ ([v2] : List Int)) v8
      else
        none := (Lw_eq tysOk (getG_con (spec_l07List.gok _)) _ _).trans (by kernel_rfl)
theorem spec_l07List_l3.eq (v0 : Int) (v1 : Int) (v2 : Int) (v3 : Int) (v4 : Int) (v5 : Int) (v6 : Int) (v7 : Int) (v8 : Int) (v9 : List Int) (v10 : List (Int × (List Int))) (v11 : List Int) (v12 : List (List Int)) : spec_l07List_l3 v0 v1 v2 v3 v4 v5 v6 v7 v8 v9 v10 v11 v12 =
    bif decide (v7 < v8) then
      (at? v12 v3).bind fun y1 =>
      v12[v3.toNat]?.bind fun y2 =>
      (at? y2 v7).bind fun y3 =>
      y2[v7.toNat]?.bind fun y4 =>
      bif y4 == (0 : Int) then
        bif decide (v7 < v1) then
          (at? (v12.set v3.toNat y2) v3).bind fun y5 =>
          (v12.set v3.toNat y2)[v3.toNat]?.bind fun y6 =>
          (at? y6 v7).bind fun y7 =>
          y6[v7.toNat]?.bind fun y8 =>
          bif y8 == v4 then
            spec_l07List_l3 v0 v1 v2 v3 v4 (IntKind.i64.wrap (v5 + (1 : Int))) (IntKind.i64.wrap (v6 + (1 : Int))) (IntKind.i64.wrap (v7 + (1 : Int))) v8 v9 v10 v11 ((v12.set v3.toNat y2).set v3.toNat y6)
          else
            spec_l07List_l3 v0 v1 v2 v3 v4 v5 (IntKind.i64.wrap (v6 + (1 : Int))) (IntKind.i64.wrap (v7 + (1 : Int))) v8 v9 v10 v11 ((v12.set v3.toNat y2).set v3.toNat y6)
        else
          spec_l07List_l3 v0 v1 v2 v3 v4 v5 (IntKind.i64.wrap (v6 + (1 : Int))) (IntKind.i64.wrap (v7 + (1 : Int))) v8 v9 v10 v11 (v12.set v3.toNat y2)
      else
        bif decide (v7 < v1) then
          (at? (v12.set v3.toNat y2) v3).bind fun y9 =>
          (v12.set v3.toNat y2)[v3.toNat]?.bind fun y10 =>
          (at? y10 v7).bind fun y11 =>
          y10[v7.toNat]?.bind fun y12 =>
          bif y12 == v4 then
            spec_l07List_l3 v0 v1 v2 v3 v4 (IntKind.i64.wrap (v5 + (1 : Int))) v6 (IntKind.i64.wrap (v7 + (1 : Int))) v8 v9 v10 v11 ((v12.set v3.toNat y2).set v3.toNat y10)
          else
            spec_l07List_l3 v0 v1 v2 v3 v4 v5 v6 (IntKind.i64.wrap (v7 + (1 : Int))) v8 v9 v10 v11 ((v12.set v3.toNat y2).set v3.toNat y10)
        else
          spec_l07List_l3 v0 v1 v2 v3 v4 v5 v6 (IntKind.i64.wrap (v7 + (1 : Int))) v8 v9 v10 v11 (v12.set v3.toNat y2)
    else
      bif v4 == (1 : Int) then
        spec_l07List_l2 v0 (IntKind.i64.wrap (v6 + v5)) (IntKind.i64.wrap ((IntKind.i64.wrap ((2 : Int) * v2)) + v4)) (IntKind.i64.wrap (v3 + (1 : Int))) v8 v9 v10 v11 v12
      else
        spec_l07List_l2 v0 v5 (IntKind.i64.wrap ((IntKind.i64.wrap ((2 : Int) * v2)) + v4)) (IntKind.i64.wrap (v3 + (1 : Int))) v8 v9 v10 v11 v12 := (Lw_eq tysOk (getG_con (spec_l07List.gok _)) _ _).trans (by kernel_rfl)

/-! ### spec_WaveList: loop.example/g00688/spec.WaveList -/
def spec_WaveList.ms : List Mode := [.lend]
def spec_WaveList.as : List VSh := [.agg [.int .i64, .sl false false 3, .sl false false 51]]
def spec_WaveList.rs : RSh := ⟨[.one (.b (.b (.b (.b (.sl true true 3)))))], [none]⟩
noncomputable def spec_WaveList.gs (δ : Type) : List (Nat × Callee (GT tab) δ) := [(39, calleeS tab spec_WaveOk.ms spec_WaveOk.as spec_WaveOk.rs spec_WaveOk.fn), (99, calleeS tab spec_l07List.ms spec_l07List.as spec_l07List.rs spec_l07List.fn)]
theorem spec_WaveList.gok (δ : Type) : AllCon Try.prog tab (spec_WaveList.gs δ) := .cons spec_WaveOk.con (.cons spec_l07List.con (.nil))
noncomputable def spec_WaveList.c : Ctx (GT tab) (KT tab) (ResT tab spec_WaveList.rs) := { X := XT tab, ty := tyOf tys, inner := fun _ => true, keep := keepOf 0 spec_WaveList.ms, cuts := [], live := liveOf [], G := getG (spec_WaveList.gs _) }
noncomputable def spec_WaveList.b : Code := bodyOf Try.f47
noncomputable def spec_WaveList (x0 : Int × (List Int) × (List (Int × (List Int)))) : Option (List Int) := callW spec_WaveList.c (fiOf (GT tab) Try.f47 spec_WaveList.ms) spec_WaveList.b (decRes tab spec_WaveList.rs) (encArgs tab spec_WaveList.as x0)
theorem spec_WaveList.fok : FnOk Try.prog 47 Try.f47 spec_WaveList.ms spec_WaveList.b := ⟨Try.func47, by kernel_rfl, by kernel_rfl⟩
noncomputable def spec_WaveList.fn : Args tab spec_WaveList.as → Option (ResT tab spec_WaveList.rs) := fun x => spec_WaveList x
theorem spec_WaveList.con {δ : Type} : Con Try.prog (KT tab) 47 (calleeS (β := δ) tab spec_WaveList.ms spec_WaveList.as spec_WaveList.rs spec_WaveList.fn) := con_shape (c := spec_WaveList.c) mixed tysOk (getG_con (spec_WaveList.gok _)) spec_WaveList.fok rfl rfl (fun _ => rfl)
theorem spec_WaveList.eq (x0 : Int × (List Int) × (List (Int × (List Int)))) : spec_WaveList x0 =
    (spec_WaveOk (x0.1, x0.2.1, x0.2.2)).bind fun y1 =>
    bif !y1 then
      some ([] : List Int)
    else
      (spec_l07List (x0.1, x0.2.1, x0.2.2)).bind fun y2 =>
      some y2 := by kernel_rfl

/-! ### laws_same: loop.example/g00688/laws.same -/
def laws_same.ms : List Mode := [.lend, .lend]
def laws_same.as : List VSh := [.one (.b (.b (.b (.b (.sl false false 3))))), .one (.b (.b (.b (.b (.sl false false 3)))))]
def laws_same.rs : RSh := ⟨[.one (.b (.b (.b (.b (.bool)))))], [none, none]⟩
noncomputable def laws_same.gs (δ : Type) : List (Nat × Callee (GT tab) δ) := []
theorem laws_same.gok (δ : Type) : AllCon Try.prog tab (laws_same.gs δ) := .nil
noncomputable def laws_same.c : Ctx (GT tab) (KT tab) (ResT tab laws_same.rs) := { X := XT tab, ty := tyOf tys, inner := fun _ => true, keep := keepOf 0 laws_same.ms, cuts := [], live := liveOf [(4, [0, 1, 5])], G := getG (laws_same.gs _) }
noncomputable def laws_same.b : Code := bodyOf Try.f46
noncomputable def laws_same (x0 : List Int) (x1 : List Int) : Option (Bool) := callW laws_same.c (fiOf (GT tab) Try.f46 laws_same.ms) laws_same.b (decRes tab laws_same.rs) (encArgs tab laws_same.as (x0, x1))
theorem laws_same.fok : FnOk Try.prog 46 Try.f46 laws_same.ms laws_same.b := ⟨Try.func46, by kernel_rfl, by kernel_rfl⟩
noncomputable def laws_same.fn : Args tab laws_same.as → Option (ResT tab laws_same.rs) := fun x => laws_same x.1 x.2
theorem laws_same.con {δ : Type} : Con Try.prog (KT tab) 46 (calleeS (β := δ) tab laws_same.ms laws_same.as laws_same.rs laws_same.fn) := con_shape (c := laws_same.c) mixed tysOk (getG_con (laws_same.gok _)) laws_same.fok rfl rfl (fun _ => rfl)
noncomputable def laws_same_l0 (v0 : List Int) (v1 : List Int) (v2 : Int) : Option (Bool) := Lw laws_same.c (finish laws_same.c (fiOf (GT tab) Try.f46 laws_same.ms) (decRes tab laws_same.rs)) ((loops laws_same.c.cuts 1000 laws_same.b []).getD 0 []) { slots := [.vs false 3 v0, .vs false 3 v1, .undef, .undef, .undef, .int .i64 v2, .undef, .undef, .undef, .undef, .undef, .undef, .undef, .undef, .undef, .undef, .undef, .undef, .undef, .undef, .undef, .undef, .undef, .undef, .undef, .undef], loc := locOf [], nx := 0 }
theorem laws_same.eq (x0 : List Int) (x1 : List Int) : laws_same x0 x1 =
    bif (x0.length : Int) != (x1.length : Int) then
      some false
    else
      laws_same_l0 x0 x1 (0 : Int) := by kernel_rfl
theorem laws_same_l0.eq (v0 : List Int) (v1 : List Int) (v2 : Int) : laws_same_l0 v0 v1 v2 =
    bif decide (v2 < (v0.length : Int)) then
      (at? v0 v2).bind fun y1 =>
      (at? v1 v2).bind fun y2 =>
      bif y1 != y2 then
        some false
      else
        laws_same_l0 v0 v1 (IntKind.i64.wrap (v2 + (1 : Int)))
    else
      some true := (Lw_eq tysOk (getG_con (laws_same.gok _)) _ _).trans (by kernel_rfl)

end Go.Ev.W
