/- What functions of the program come to. -/
import Derived.Test.YthbijcdnjgfndaaPaT
namespace Go.Ev.W
open Go.Ev Go.Proofs
set_option maxRecDepth 100000
set_option linter.unusedVariables false

/-! ### laws_big: loop.example/g00688/laws.big -/
def laws_big.ms : List Mode := [.lend]
def laws_big.as : List VSh := [.one (.b (.b (.b (.b (.sl false false 5)))))]
def laws_big.rs : RSh := ⟨[.one (.b (.b (.b (.b (.bool)))))], [none]⟩
noncomputable def laws_big.gs (δ : Type) : List (Nat × Callee (GT tab) δ) := []
theorem laws_big.gok (δ : Type) : AllCon Try.prog tab (laws_big.gs δ) := .nil
noncomputable def laws_big.c : Ctx (GT tab) (KT tab) (ResT tab laws_big.rs) := { X := XT tab, ty := tyOf tys, inner := fun _ => true, keep := keepOf 0 laws_big.ms, cuts := [], live := liveOf [], G := getG (laws_big.gs _) }
noncomputable def laws_big.b : Code := bodyOf Try.f34
noncomputable def laws_big (x0 : List Int) : Option (Bool) := callW laws_big.c (fiOf (GT tab) Try.f34 laws_big.ms) laws_big.b (decRes tab laws_big.rs) (encArgs tab laws_big.as x0)
theorem laws_big.fok : FnOk Try.prog 34 Try.f34 laws_big.ms laws_big.b := ⟨Try.func34, by kernel_rfl, by kernel_rfl⟩
noncomputable def laws_big.fn : Args tab laws_big.as → Option (ResT tab laws_big.rs) := fun x => laws_big x
theorem laws_big.con {δ : Type} : Con Try.prog (KT tab) 34 (calleeS (β := δ) tab laws_big.ms laws_big.as laws_big.rs laws_big.fn) := con_shape (c := laws_big.c) mixed tysOk (getG_con (laws_big.gok _)) laws_big.fok rfl rfl (fun _ => rfl)
theorem laws_big.eq (x0 : List Int) : laws_big x0 =
    some (decide ((x0.length : Int) > (1048576 : Int))) := by kernel_rfl

/-! ### spec_l01Open: loop.example/g00688/spec.l01Open -/
def spec_l01Open.ms : List Mode := [.lend]
def spec_l01Open.as : List VSh := [.one (.b (.b (.b (.b (.sl false false 5)))))]
def spec_l01Open.rs : RSh := ⟨[.one (.ptr true 108 [.b (.b (.b (.sl false false 5))), .b (.b (.b (.int .i64))), .b (.b (.b (.int .i64)))])], [none]⟩
noncomputable def spec_l01Open.gs (δ : Type) : List (Nat × Callee (GT tab) δ) := []
theorem spec_l01Open.gok (δ : Type) : AllCon Try.prog tab (spec_l01Open.gs δ) := .nil
noncomputable def spec_l01Open.c : Ctx (GT tab) (KT tab) (ResT tab spec_l01Open.rs) := { X := XT tab, ty := tyOf tys, inner := fun _ => true, keep := keepOf 0 spec_l01Open.ms, cuts := [], live := liveOf [], G := getG (spec_l01Open.gs _) }
noncomputable def spec_l01Open.b : Code := bodyOf Try.f70
noncomputable def spec_l01Open (x0 : List Int) : Option ((List Int) × Int × Int) := callW spec_l01Open.c (fiOf (GT tab) Try.f70 spec_l01Open.ms) spec_l01Open.b (decRes tab spec_l01Open.rs) (encArgs tab spec_l01Open.as x0)
theorem spec_l01Open.fok : FnOk Try.prog 70 Try.f70 spec_l01Open.ms spec_l01Open.b := ⟨Try.func70, by kernel_rfl, by kernel_rfl⟩
noncomputable def spec_l01Open.fn : Args tab spec_l01Open.as → Option (ResT tab spec_l01Open.rs) := fun x => spec_l01Open x
theorem spec_l01Open.con {δ : Type} : Con Try.prog (KT tab) 70 (calleeS (β := δ) tab spec_l01Open.ms spec_l01Open.as spec_l01Open.rs spec_l01Open.fn) := con_shape (c := spec_l01Open.c) mixed tysOk (getG_con (spec_l01Open.gok _)) spec_l01Open.fok rfl rfl (fun _ => rfl)
theorem spec_l01Open.eq (x0 : List Int) : spec_l01Open x0 =
    some (x0, (0 : Int), IntKind.i64.wrap ((89 : Int) + ((x0.length : Int).tmod (1000 : Int)))) := by kernel_rfl

/-! ### spec_l01Cur_pick: (*loop.example/g00688/spec.l01Cur).pick -/
def spec_l01Cur_pick.ms : List Mode := [.keep, .lend]
def spec_l01Cur_pick.as : List VSh := [.one (.ptr true 108 [.b (.b (.b (.sl false false 5))), .b (.b (.b (.int .i64))), .b (.b (.b (.int .i64)))]), .one (.b (.b (.b (.b (.int .i64)))))]
def spec_l01Cur_pick.rs : RSh := ⟨[.one (.b (.b (.b (.b (.int .i64)))))], [some (.one (.ptr true 108 [.b (.b (.b (.sl false false 5))), .b (.b (.b (.int .i64))), .b (.b (.b (.int .i64)))])), none]⟩
noncomputable def spec_l01Cur_pick.gs (δ : Type) : List (Nat × Callee (GT tab) δ) := []
theorem spec_l01Cur_pick.gok (δ : Type) : AllCon Try.prog tab (spec_l01Cur_pick.gs δ) := .nil
noncomputable def spec_l01Cur_pick.c : Ctx (GT tab) (KT tab) (ResT tab spec_l01Cur_pick.rs) := { X := XT tab, ty := tyOf tys, inner := fun _ => true, keep := keepOf 0 spec_l01Cur_pick.ms, cuts := [], live := liveOf [], G := getG (spec_l01Cur_pick.gs _) }
noncomputable def spec_l01Cur_pick.b : Code := bodyOf Try.f96
noncomputable def spec_l01Cur_pick (x0 : (List Int) × Int × Int) (x1 : Int) : Option (Int × ((List Int) × Int × Int)) := callW spec_l01Cur_pick.c (fiOf (GT tab) Try.f96 spec_l01Cur_pick.ms) spec_l01Cur_pick.b (decRes tab spec_l01Cur_pick.rs) (encArgs tab spec_l01Cur_pick.as (x0, x1))
theorem spec_l01Cur_pick.fok : FnOk Try.prog 96 Try.f96 spec_l01Cur_pick.ms spec_l01Cur_pick.b := ⟨Try.func96, by kernel_rfl, by kernel_rfl⟩
noncomputable def spec_l01Cur_pick.fn : Args tab spec_l01Cur_pick.as → Option (ResT tab spec_l01Cur_pick.rs) := fun x => spec_l01Cur_pick x.1 x.2
theorem spec_l01Cur_pick.con {δ : Type} : Con Try.prog (KT tab) 96 (calleeS (β := δ) tab spec_l01Cur_pick.ms spec_l01Cur_pick.as spec_l01Cur_pick.rs spec_l01Cur_pick.fn) := con_shape (c := spec_l01Cur_pick.c) mixed tysOk (getG_con (spec_l01Cur_pick.gok _)) spec_l01Cur_pick.fok rfl rfl (fun _ => rfl)
theorem spec_l01Cur_pick.eq (x0 : (List Int) × Int × Int) (x1 : Int) : spec_l01Cur_pick x0 x1 =
    bif decide (x1 < (2 : Int)) then
      some ((0 : Int), (x0.1, x0.2.1, x0.2.2))
    else
      bif decide (x0.2.1 < (x0.1.length : Int)) then
        (at? x0.1 x0.2.1).bind fun y1 =>
        bif decide (x1 = (0 : Int)) then
          none
        else
          some ((IntKind.i64.wrap y1).tmod x1, (x0.1, IntKind.i64.wrap (x0.2.1 + (1 : Int)), x0.2.2))
      else
        bif decide ((x0.1.length : Int) > (0 : Int)) then
          bif decide ((x0.1.length : Int) = (0 : Int)) then
            none
          else
            (at? x0.1 (x0.2.1.tmod (x0.1.length : Int))).bind fun y2 =>
            bif decide (x1 = (0 : Int)) then
              none
            else
              some ((IntKind.i64.wrap ((IntKind.i64.wrap (((IntKind.i64.wrap ((IntKind.i64.wrap (x0.2.2 * (1103 : Int))) + (12345 : Int))).tmod (65521 : Int)).tdiv (7 : Int))) + (IntKind.i64.wrap y2))).tmod x1, (x0.1, IntKind.i64.wrap (x0.2.1 + (1 : Int)), (IntKind.i64.wrap ((IntKind.i64.wrap (x0.2.2 * (1103 : Int))) + (12345 : Int))).tmod (65521 : Int)))
        else
          bif decide (x1 = (0 : Int)) then
            none
          else
            some ((0 : Int).tmod x1, (x0.1, IntKind.i64.wrap (x0.2.1 + (1 : Int)), (IntKind.i64.wrap ((IntKind.i64.wrap (x0.2.2 * (1103 : Int))) + (12345 : Int))).tmod (65521 : Int))) := by kernel_rfl

/-! ### spec_l01Cur_size: (*loop.example/g00688/spec.l01Cur).size -/
def spec_l01Cur_size.ms : List Mode := [.keep, .lend]
def spec_l01Cur_size.as : List VSh := [.one (.ptr true 108 [.b (.b (.b (.sl false false 5))), .b (.b (.b (.int .i64))), .b (.b (.b (.int .i64)))]), .one (.b (.b (.b (.b (.int .i64)))))]
def spec_l01Cur_size.rs : RSh := ⟨[.one (.b (.b (.b (.b (.int .i64)))))], [some (.one (.ptr true 108 [.b (.b (.b (.sl false false 5))), .b (.b (.b (.int .i64))), .b (.b (.b (.int .i64)))])), none]⟩
noncomputable def spec_l01Cur_size.gs (δ : Type) : List (Nat × Callee (GT tab) δ) := [(96, calleeS tab spec_l01Cur_pick.ms spec_l01Cur_pick.as spec_l01Cur_pick.rs spec_l01Cur_pick.fn)]
theorem spec_l01Cur_size.gok (δ : Type) : AllCon Try.prog tab (spec_l01Cur_size.gs δ) := .cons spec_l01Cur_pick.con (.nil)
noncomputable def spec_l01Cur_size.c : Ctx (GT tab) (KT tab) (ResT tab spec_l01Cur_size.rs) := { X := XT tab, ty := tyOf tys, inner := fun _ => true, keep := keepOf 0 spec_l01Cur_size.ms, cuts := [], live := liveOf [], G := getG (spec_l01Cur_size.gs _) }
noncomputable def spec_l01Cur_size.b : Code := bodyOf Try.f104
noncomputable def spec_l01Cur_size (x0 : (List Int) × Int × Int) (x1 : Int) : Option (Int × ((List Int) × Int × Int)) := callW spec_l01Cur_size.c (fiOf (GT tab) Try.f104 spec_l01Cur_size.ms) spec_l01Cur_size.b (decRes tab spec_l01Cur_size.rs) (encArgs tab spec_l01Cur_size.as (x0, x1))
theorem spec_l01Cur_size.fok : FnOk Try.prog 104 Try.f104 spec_l01Cur_size.ms spec_l01Cur_size.b := ⟨Try.func104, by kernel_rfl, by kernel_rfl⟩
noncomputable def spec_l01Cur_size.fn : Args tab spec_l01Cur_size.as → Option (ResT tab spec_l01Cur_size.rs) := fun x => spec_l01Cur_size x.1 x.2
theorem spec_l01Cur_size.con {δ : Type} : Con Try.prog (KT tab) 104 (calleeS (β := δ) tab spec_l01Cur_size.ms spec_l01Cur_size.as spec_l01Cur_size.rs spec_l01Cur_size.fn) := con_shape (c := spec_l01Cur_size.c) mixed tysOk (getG_con (spec_l01Cur_size.gok _)) spec_l01Cur_size.fok rfl rfl (fun _ => rfl)
theorem spec_l01Cur_size.eq (x0 : (List Int) × Int × Int) (x1 : Int) : spec_l01Cur_size x0 x1 =
    (spec_l01Cur_pick (x0.1, x0.2.1, x0.2.2) (IntKind.i64.wrap ((if IntKind.i64.wrap ((1 : Int) + (IntKind.i64.wrap ((x0.1.length : Int).tdiv (8 : Int)))) < x1 then IntKind.i64.wrap ((1 : Int) + (IntKind.i64.wrap ((x0.1.length : Int).tdiv (8 : Int)))) else x1) + (1 : Int)))).bind fun y1 =>
    some (y1.1, (y1.2.1, y1.2.2.1, y1.2.2.2)) := by kernel_rfl

/-! ### spec_l01Cur_wide: (*loop.example/g00688/spec.l01Cur).wide -/
def spec_l01Cur_wide.ms : List Mode := [.keep, .lend]
def spec_l01Cur_wide.as : List VSh := [.one (.ptr true 108 [.b (.b (.b (.sl false false 5))), .b (.b (.b (.int .i64))), .b (.b (.b (.int .i64)))]), .one (.b (.b (.b (.b (.int .i64)))))]
def spec_l01Cur_wide.rs : RSh := ⟨[.one (.b (.b (.b (.b (.int .i64)))))], [some (.one (.ptr true 108 [.b (.b (.b (.sl false false 5))), .b (.b (.b (.int .i64))), .b (.b (.b (.int .i64)))])), none]⟩
noncomputable def spec_l01Cur_wide.gs (δ : Type) : List (Nat × Callee (GT tab) δ) := [(96, calleeS tab spec_l01Cur_pick.ms spec_l01Cur_pick.as spec_l01Cur_pick.rs spec_l01Cur_pick.fn)]
theorem spec_l01Cur_wide.gok (δ : Type) : AllCon Try.prog tab (spec_l01Cur_wide.gs δ) := .cons spec_l01Cur_pick.con (.nil)
noncomputable def spec_l01Cur_wide.c : Ctx (GT tab) (KT tab) (ResT tab spec_l01Cur_wide.rs) := { X := XT tab, ty := tyOf tys, inner := fun _ => true, keep := keepOf 0 spec_l01Cur_wide.ms, cuts := [], live := liveOf [], G := getG (spec_l01Cur_wide.gs _) }
noncomputable def spec_l01Cur_wide.b : Code := bodyOf Try.f105
noncomputable def spec_l01Cur_wide (x0 : (List Int) × Int × Int) (x1 : Int) : Option (Int × ((List Int) × Int × Int)) := callW spec_l01Cur_wide.c (fiOf (GT tab) Try.f105 spec_l01Cur_wide.ms) spec_l01Cur_wide.b (decRes tab spec_l01Cur_wide.rs) (encArgs tab spec_l01Cur_wide.as (x0, x1))
theorem spec_l01Cur_wide.fok : FnOk Try.prog 105 Try.f105 spec_l01Cur_wide.ms spec_l01Cur_wide.b := ⟨Try.func105, by kernel_rfl, by kernel_rfl⟩
noncomputable def spec_l01Cur_wide.fn : Args tab spec_l01Cur_wide.as → Option (ResT tab spec_l01Cur_wide.rs) := fun x => spec_l01Cur_wide x.1 x.2
theorem spec_l01Cur_wide.con {δ : Type} : Con Try.prog (KT tab) 105 (calleeS (β := δ) tab spec_l01Cur_wide.ms spec_l01Cur_wide.as spec_l01Cur_wide.rs spec_l01Cur_wide.fn) := con_shape (c := spec_l01Cur_wide.c) mixed tysOk (getG_con (spec_l01Cur_wide.gok _)) spec_l01Cur_wide.fok rfl rfl (fun _ => rfl)
theorem spec_l01Cur_wide.eq (x0 : (List Int) × Int × Int) (x1 : Int) : spec_l01Cur_wide x0 x1 =
    (spec_l01Cur_pick (x0.1, x0.2.1, x0.2.2) (256 : Int)).bind fun y1 =>
    (spec_l01Cur_pick (y1.2.1, y1.2.2.1, y1.2.2.2) (256 : Int)).bind fun y2 =>
    (spec_l01Cur_pick (y2.2.1, y2.2.2.1, y2.2.2.2) (256 : Int)).bind fun y3 =>
    bif decide (x1 = (0 : Int)) then
      none
    else
      some ((IntKind.i64.wrap ((IntKind.i64.wrap ((IntKind.i64.wrap ((65536 : Int) * y1.1)) + (IntKind.i64.wrap ((256 : Int) * y2.1)))) + y3.1)).tmod x1, (y3.2.1, y3.2.2.1, y3.2.2.2)) := by kernel_rfl

/-! ### spec_l01Cur_numbers: (*loop.example/g00688/spec.l01Cur).numbers -/
def spec_l01Cur_numbers.ms : List Mode := [.keep, .lend, .lend]
def spec_l01Cur_numbers.as : List VSh := [.one (.ptr true 108 [.b (.b (.b (.sl false false 5))), .b (.b (.b (.int .i64))), .b (.b (.b (.int .i64)))]), .one (.b (.b (.b (.b (.int .i64))))), .one (.b (.b (.b (.b (.int .i64)))))]
def spec_l01Cur_numbers.rs : RSh := ⟨[.one (.b (.b (.b (.b (.sl true true 3)))))], [some (.one (.ptr true 108 [.b (.b (.b (.sl false false 5))), .b (.b (.b (.int .i64))), .b (.b (.b (.int .i64)))])), none, none]⟩
noncomputable def spec_l01Cur_numbers.gs (δ : Type) : List (Nat × Callee (GT tab) δ) := [(104, calleeS tab spec_l01Cur_size.ms spec_l01Cur_size.as spec_l01Cur_size.rs spec_l01Cur_size.fn), (105, calleeS tab spec_l01Cur_wide.ms spec_l01Cur_wide.as spec_l01Cur_wide.rs spec_l01Cur_wide.fn)]
theorem spec_l01Cur_numbers.gok (δ : Type) : AllCon Try.prog tab (spec_l01Cur_numbers.gs δ) := .cons spec_l01Cur_size.con (.cons spec_l01Cur_wide.con (.nil))
noncomputable def spec_l01Cur_numbers.c : Ctx (GT tab) (KT tab) (ResT tab spec_l01Cur_numbers.rs) := { X := XT tab, ty := tyOf tys, inner := fun _ => true, keep := keepOf 0 spec_l01Cur_numbers.ms, cuts := [], live := liveOf [(3, [0, 2, 7, 8])], G := getG (spec_l01Cur_numbers.gs _) }
noncomputable def spec_l01Cur_numbers.b : Code := bodyOf Try.f98
noncomputable def spec_l01Cur_numbers (x0 : (List Int) × Int × Int) (x1 : Int) (x2 : Int) : Option ((List Int) × ((List Int) × Int × Int)) := callW spec_l01Cur_numbers.c (fiOf (GT tab) Try.f98 spec_l01Cur_numbers.ms) spec_l01Cur_numbers.b (decRes tab spec_l01Cur_numbers.rs) (encArgs tab spec_l01Cur_numbers.as (x0, x1, x2))
theorem spec_l01Cur_numbers.fok : FnOk Try.prog 98 Try.f98 spec_l01Cur_numbers.ms spec_l01Cur_numbers.b := ⟨Try.func98, by kernel_rfl, by kernel_rfl⟩
noncomputable def spec_l01Cur_numbers.fn : Args tab spec_l01Cur_numbers.as → Option (ResT tab spec_l01Cur_numbers.rs) := fun x => spec_l01Cur_numbers x.1 x.2.1 x.2.2
theorem spec_l01Cur_numbers.con {δ : Type} : Con Try.prog (KT tab) 98 (calleeS (β := δ) tab spec_l01Cur_numbers.ms spec_l01Cur_numbers.as spec_l01Cur_numbers.rs spec_l01Cur_numbers.fn) := con_shape (c := spec_l01Cur_numbers.c) mixed tysOk (getG_con (spec_l01Cur_numbers.gok _)) spec_l01Cur_numbers.fok rfl rfl (fun _ => rfl)
noncomputable def spec_l01Cur_numbers_l0 (v0 : Int) (v1 : Int) (v2 : List Int) (v3 : Int) (v4 : Int) (v5 : List Int) : Option ((List Int) × ((List Int) × Int × Int)) := Lw spec_l01Cur_numbers.c (finish spec_l01Cur_numbers.c (fiOf (GT tab) Try.f98 spec_l01Cur_numbers.ms) (decRes tab spec_l01Cur_numbers.rs)) ((loops spec_l01Cur_numbers.c.cuts 1000 spec_l01Cur_numbers.b []).getD 0 []) { slots := [.ptr 0 0, .undef, .int .i64 v0, .undef, .undef, .undef, .undef, .sl 1 0, .int .i64 v1, .undef, .undef, .undef, .undef, .undef, .undef, .undef, .undef, .undef, .undef, .undef, .undef, .undef, .undef, .undef, .undef], loc := locOf [.box 108 [.vs false 5 v2, .int .i64 v3, .int .i64 v4], .row 0 true 3 v5], nx := 2 }
theorem spec_l01Cur_numbers.eq (x0 : (List Int) × Int × Int) (x1 : Int) (x2 : Int) : spec_l01Cur_numbers x0 x1 x2 =
    (spec_l01Cur_size (x0.1, x0.2.1, x0.2.2) x1).bind fun y1 =>
    spec_l01Cur_numbers_l0 x2 y1.1 y1.2.1 y1.2.2.1 y1.2.2.2 ([] : List Int) := by kernel_rfl
theorem spec_l01Cur_numbers_l0.eq (v0 : Int) (v1 : Int) (v2 : List Int) (v3 : Int) (v4 : Int) (v5 : List Int) : spec_l01Cur_numbers_l0 v0 v1 v2 v3 v4 v5 =
    bif decide (v1 > (0 : Int)) then
      (spec_l01Cur_wide (v2, v3, v4) (if v0 > (1 : Int) then v0 else (1 : Int))).bind fun y1 =>
      bif decide ((v5.length + ([y1.1] : List Int).length) * 8 ≤ 140737488355328) then
        spec_l01Cur_numbers_l0 v0 (IntKind.i64.wrap (v1 - (1 : Int))) y1.2.1 y1.2.2.1 y1.2.2.2 (v5 ++ ([y1.1] : List Int))
      else
        none
    else
      some (v5, (v2, v3, v4)) := (Lw_eq tysOk (getG_con (spec_l01Cur_numbers.gok _)) _ _).trans (by kernel_rfl)

/-! ### spec_l01Cur_once: (*loop.example/g00688/spec.l01Cur).once -/
def spec_l01Cur_once.ms : List Mode := [.keep, .lend]
def spec_l01Cur_once.as : List VSh := [.one (.ptr true 108 [.b (.b (.b (.sl false false 5))), .b (.b (.b (.int .i64))), .b (.b (.b (.int .i64)))]), .one (.b (.b (.b (.b (.int .i64)))))]
def spec_l01Cur_once.rs : RSh := ⟨[.one (.b (.b (.b (.b (.bool)))))], [some (.one (.ptr true 108 [.b (.b (.b (.sl false false 5))), .b (.b (.b (.int .i64))), .b (.b (.b (.int .i64)))])), none]⟩
noncomputable def spec_l01Cur_once.gs (δ : Type) : List (Nat × Callee (GT tab) δ) := [(96, calleeS tab spec_l01Cur_pick.ms spec_l01Cur_pick.as spec_l01Cur_pick.rs spec_l01Cur_pick.fn)]
theorem spec_l01Cur_once.gok (δ : Type) : AllCon Try.prog tab (spec_l01Cur_once.gs δ) := .cons spec_l01Cur_pick.con (.nil)
noncomputable def spec_l01Cur_once.c : Ctx (GT tab) (KT tab) (ResT tab spec_l01Cur_once.rs) := { X := XT tab, ty := tyOf tys, inner := fun _ => true, keep := keepOf 0 spec_l01Cur_once.ms, cuts := [], live := liveOf [], G := getG (spec_l01Cur_once.gs _) }
noncomputable def spec_l01Cur_once.b : Code := bodyOf Try.f82
noncomputable def spec_l01Cur_once (x0 : (List Int) × Int × Int) (x1 : Int) : Option (Bool × ((List Int) × Int × Int)) := callW spec_l01Cur_once.c (fiOf (GT tab) Try.f82 spec_l01Cur_once.ms) spec_l01Cur_once.b (decRes tab spec_l01Cur_once.rs) (encArgs tab spec_l01Cur_once.as (x0, x1))
theorem spec_l01Cur_once.fok : FnOk Try.prog 82 Try.f82 spec_l01Cur_once.ms spec_l01Cur_once.b := ⟨Try.func82, by kernel_rfl, by kernel_rfl⟩
noncomputable def spec_l01Cur_once.fn : Args tab spec_l01Cur_once.as → Option (ResT tab spec_l01Cur_once.rs) := fun x => spec_l01Cur_once x.1 x.2
theorem spec_l01Cur_once.con {δ : Type} : Con Try.prog (KT tab) 82 (calleeS (β := δ) tab spec_l01Cur_once.ms spec_l01Cur_once.as spec_l01Cur_once.rs spec_l01Cur_once.fn) := con_shape (c := spec_l01Cur_once.c) mixed tysOk (getG_con (spec_l01Cur_once.gok _)) spec_l01Cur_once.fok rfl rfl (fun _ => rfl)
theorem spec_l01Cur_once.eq (x0 : (List Int) × Int × Int) (x1 : Int) : spec_l01Cur_once x0 x1 =
    (spec_l01Cur_pick (x0.1, x0.2.1, x0.2.2) x1).bind fun y1 =>
    some (y1.1 == IntKind.i64.wrap (x1 - (1 : Int)), (y1.2.1, y1.2.2.1, y1.2.2.2)) := by kernel_rfl

/-! ### spec_l01Cur_rows: (*loop.example/g00688/spec.l01Cur).rows -/
def spec_l01Cur_rows.ms : List Mode := [.keep]
def spec_l01Cur_rows.as : List VSh := [.one (.ptr true 108 [.b (.b (.b (.sl false false 5))), .b (.b (.b (.int .i64))), .b (.b (.b (.int .i64)))])]
def spec_l01Cur_rows.rs : RSh := ⟨[.one (.b (.b (.b (.b (.sl true true 3))))), .one (.b (.b (.b (.b (.sl true true 3)))))], [some (.one (.ptr true 108 [.b (.b (.b (.sl false false 5))), .b (.b (.b (.int .i64))), .b (.b (.b (.int .i64)))]))]⟩
noncomputable def spec_l01Cur_rows.gs (δ : Type) : List (Nat × Callee (GT tab) δ) := [(82, calleeS tab spec_l01Cur_once.ms spec_l01Cur_once.as spec_l01Cur_once.rs spec_l01Cur_once.fn), (96, calleeS tab spec_l01Cur_pick.ms spec_l01Cur_pick.as spec_l01Cur_pick.rs spec_l01Cur_pick.fn), (98, calleeS tab spec_l01Cur_numbers.ms spec_l01Cur_numbers.as spec_l01Cur_numbers.rs spec_l01Cur_numbers.fn)]
theorem spec_l01Cur_rows.gok (δ : Type) : AllCon Try.prog tab (spec_l01Cur_rows.gs δ) := .cons spec_l01Cur_once.con (.cons spec_l01Cur_pick.con (.cons spec_l01Cur_numbers.con (.nil)))
noncomputable def spec_l01Cur_rows.c : Ctx (GT tab) (KT tab) (ResT tab spec_l01Cur_rows.rs) := { X := XT tab, ty := tyOf tys, inner := fun _ => true, keep := keepOf 0 spec_l01Cur_rows.ms, cuts := [12], live := liveOf [(4, [0, 4, 5, 6]), (12, [0, 4, 5])], G := getG (spec_l01Cur_rows.gs _) }
noncomputable def spec_l01Cur_rows.b : Code := bodyOf Try.f81
noncomputable def spec_l01Cur_rows (x0 : (List Int) × Int × Int) : Option ((List Int) × (List Int) × ((List Int) × Int × Int)) := callW spec_l01Cur_rows.c (fiOf (GT tab) Try.f81 spec_l01Cur_rows.ms) spec_l01Cur_rows.b (decRes tab spec_l01Cur_rows.rs) (encArgs tab spec_l01Cur_rows.as x0)
theorem spec_l01Cur_rows.fok : FnOk Try.prog 81 Try.f81 spec_l01Cur_rows.ms spec_l01Cur_rows.b := ⟨Try.func81, by kernel_rfl, by kernel_rfl⟩
noncomputable def spec_l01Cur_rows.fn : Args tab spec_l01Cur_rows.as → Option (ResT tab spec_l01Cur_rows.rs) := fun x => spec_l01Cur_rows x
theorem spec_l01Cur_rows.con {δ : Type} : Con Try.prog (KT tab) 81 (calleeS (β := δ) tab spec_l01Cur_rows.ms spec_l01Cur_rows.as spec_l01Cur_rows.rs spec_l01Cur_rows.fn) := con_shape (c := spec_l01Cur_rows.c) mixed tysOk (getG_con (spec_l01Cur_rows.gok _)) spec_l01Cur_rows.fok rfl rfl (fun _ => rfl)
noncomputable def spec_l01Cur_rows_l0 (v0 : Int) (v1 : List Int) (v2 : Int) (v3 : Int) (v4 : List Int) (v5 : List Int) : Option ((List Int) × (List Int) × ((List Int) × Int × Int)) := Lw spec_l01Cur_rows.c (finish spec_l01Cur_rows.c (fiOf (GT tab) Try.f81 spec_l01Cur_rows.ms) (decRes tab spec_l01Cur_rows.rs)) ((loops spec_l01Cur_rows.c.cuts 1000 spec_l01Cur_rows.b []).getD 0 []) { slots := [.ptr 0 0, .undef, .undef, .undef, .sl 1 0, .sl 2 0, .int .i64 v0, .undef, .undef, .undef, .undef, .undef, .undef, .undef, .undef, .undef, .undef, .undef, .undef, .undef, .undef, .undef, .undef, .undef, .undef, .undef, .undef, .undef, .undef, .undef, .undef, .undef, .undef, .undef, .undef, .undef, .undef, .undef, .undef, .undef, .undef, .undef, .undef, .undef, .undef, .undef, .undef, .undef, .undef, .undef], loc := locOf [.box 108 [.vs false 5 v1, .int .i64 v2, .int .i64 v3], .row 0 true 3 v4, .row 0 true 3 v5], nx := 3 }
noncomputable def spec_l01Cur_rows_l1 (v0 : List Int) (v1 : Int) (v2 : Int) (v3 : List Int) (v4 : List Int) : Option ((List Int) × (List Int) × ((List Int) × Int × Int)) := Lw spec_l01Cur_rows.c (finish spec_l01Cur_rows.c (fiOf (GT tab) Try.f81 spec_l01Cur_rows.ms) (decRes tab spec_l01Cur_rows.rs)) ((loops spec_l01Cur_rows.c.cuts 1000 spec_l01Cur_rows.b []).getD 1 []) { slots := [.ptr 0 0, .undef, .undef, .undef, .sl 1 0, .sl 2 0, .undef, .undef, .undef, .undef, .undef, .undef, .undef, .undef, .undef, .undef, .undef, .undef, .undef, .undef, .undef, .undef, .undef, .undef, .undef, .undef, .undef, .undef, .undef, .undef, .undef, .undef, .undef, .undef, .undef, .undef, .undef, .undef, .undef, .undef, .undef, .undef, .undef, .undef, .undef, .undef, .undef, .undef, .undef, .undef], loc := locOf [.box 108 [.vs false 5 v0, .int .i64 v1, .int .i64 v2], .row 0 true 3 v3, .row 0 true 3 v4], nx := 3 }
theorem spec_l01Cur_rows.eq (x0 : (List Int) × Int × Int) : spec_l01Cur_rows x0 =
    (spec_l01Cur_pick (x0.1, x0.2.1, x0.2.2) (3 : Int)).bind fun y1 =>
    (at? ([(2 : Int), (4 : Int), (30 : Int)] : List Int) y1.1).bind fun y2 =>
    ([(2 : Int), (4 : Int), (30 : Int)] : List Int)[y1.1.toNat]?.bind fun y3 =>
    (spec_l01Cur_numbers (y1.2.1, y1.2.2.1, y1.2.2.2) (14 : Int) y3).bind fun y4 =>
    spec_l01Cur_rows_l0 (0 : Int) y4.2.1 y4.2.2.1 y4.2.2.2 y4.1 ([] : List Int) := by kernel_rfl
theorem spec_l01Cur_rows_l0.eq (v0 : Int) (v1 : List Int) (v2 : Int) (v3 : Int) (v4 : List Int) (v5 : List Int) : spec_l01Cur_rows_l0 v0 v1 v2 v3 v4 v5 =
    bif decide (v0 < (v4.length : Int)) then
      (spec_l01Cur_once (v1, v2, v3) (5 : Int)).bind fun y1 =>
      bif y1.1 then
        (spec_l01Cur_pick (y1.2.1, y1.2.2.1, y1.2.2.2) (4 : Int)).bind fun y2 =>
        bif decide ((v5.length + ([y2.1] : List Int).length) * 8 ≤ 140737488355328) then
          (spec_l01Cur_once (y2.2.1, y2.2.2.1, y2.2.2.2) (5 : Int)).bind fun y3 =>
          bif !y3.1 then
            (at? v4 v0).bind fun y4 =>
            v4[v0.toNat]?.bind fun y5 =>
            bif decide (((v5 ++ ([y2.1] : List Int)).length + ([y5] : List Int).length) * 8 ≤ 140737488355328) then
              spec_l01Cur_rows_l0 (IntKind.i64.wrap (v0 + (1 : Int))) y3.2.1 y3.2.2.1 y3.2.2.2 v4 ((v5 ++ ([y2.1] : List Int)) ++ ([y5] : List Int))
            else
              none
          else
            spec_l01Cur_rows_l0 (IntKind.i64.wrap (v0 + (1 : Int))) y3.2.1 y3.2.2.1 y3.2.2.2 v4 (v5 ++ ([y2.1] : List Int))
        else
          none
      else
        (spec_l01Cur_once (y1.2.1, y1.2.2.1, y1.2.2.2) (5 : Int)).bind fun y6 =>
        bif !y6.1 then
          (at? v4 v0).bind fun y7 =>
          v4[v0.toNat]?.bind fun y8 =>
          bif decide ((v5.length + ([y8] : List Int).length) * 8 ≤ 140737488355328) then
            spec_l01Cur_rows_l0 (IntKind.i64.wrap (v0 + (1 : Int))) y6.2.1 y6.2.2.1 y6.2.2.2 v4 (v5 ++ ([y8] : List Int))
          else
            none
        else
          spec_l01Cur_rows_l0 (IntKind.i64.wrap (v0 + (1 : Int))) y6.2.1 y6.2.2.1 y6.2.2.2 v4 v5
    else
      (spec_l01Cur_once (v1, v2, v3) (5 : Int)).bind fun y9 =>
      bif y9.1 then
        (spec_l01Cur_numbers (y9.2.1, y9.2.2.1, y9.2.2.2) (14 : Int) (4 : Int)).bind fun y10 =>
        spec_l01Cur_rows_l1 y10.2.1 y10.2.2.1 y10.2.2.2 v4 y10.1
      else
        spec_l01Cur_rows_l1 y9.2.1 y9.2.2.1 y9.2.2.2 v4 v5 := (Lw_eq tysOk (getG_con (spec_l01Cur_rows.gok _)) _ _).trans (by kernel_rfl)
theorem spec_l01Cur_rows_l1.eq (v0 : List Int) (v1 : Int) (v2 : Int) (v3 : List Int) (v4 : List Int) : spec_l01Cur_rows_l1 v0 v1 v2 v3 v4 =
    (spec_l01Cur_once (v0, v1, v2) (60 : Int)).bind fun y1 =>
    bif y1.1 then
      (spec_l01Cur_pick (y1.2.1, y1.2.2.1, y1.2.2.2) (2 : Int)).bind fun y2 =>
      bif decide ((0 : Int) ≤ IntKind.i64.wrap ((301 : Int) + y2.1)) && decide (((IntKind.i64.wrap ((301 : Int) + y2.1)).toNat) * 8 ≤ 140737488355328) then
        some (List.replicate ((IntKind.i64.wrap ((301 : Int) + y2.1)).toNat) (0 : Int), v4, (y2.2.1, y2.2.2.1, y2.2.2.2))
      else
        none
    else
      some (v3, v4, (y1.2.1, y1.2.2.1, y1.2.2.2)) := (Lw_eq tysOk (getG_con (spec_l01Cur_rows.gok _)) _ _).trans (by kernel_rfl)

/-! ### spec_l01Cur_raw: (*loop.example/g00688/spec.l01Cur).raw -/
def spec_l01Cur_raw.ms : List Mode := [.keep]
def spec_l01Cur_raw.as : List VSh := [.one (.ptr true 108 [.b (.b (.b (.sl false false 5))), .b (.b (.b (.int .i64))), .b (.b (.b (.int .i64)))])]
def spec_l01Cur_raw.rs : RSh := ⟨[.one (.b (.b (.b (.b (.int .i64)))))], [some (.one (.ptr true 108 [.b (.b (.b (.sl false false 5))), .b (.b (.b (.int .i64))), .b (.b (.b (.int .i64)))]))]⟩
noncomputable def spec_l01Cur_raw.gs (δ : Type) : List (Nat × Callee (GT tab) δ) := [(96, calleeS tab spec_l01Cur_pick.ms spec_l01Cur_pick.as spec_l01Cur_pick.rs spec_l01Cur_pick.fn)]
theorem spec_l01Cur_raw.gok (δ : Type) : AllCon Try.prog tab (spec_l01Cur_raw.gs δ) := .cons spec_l01Cur_pick.con (.nil)
noncomputable def spec_l01Cur_raw.c : Ctx (GT tab) (KT tab) (ResT tab spec_l01Cur_raw.rs) := { X := XT tab, ty := tyOf tys, inner := fun _ => true, keep := keepOf 0 spec_l01Cur_raw.ms, cuts := [], live := liveOf [], G := getG (spec_l01Cur_raw.gs _) }
noncomputable def spec_l01Cur_raw.b : Code := bodyOf Try.f97
noncomputable def spec_l01Cur_raw (x0 : (List Int) × Int × Int) : Option (Int × ((List Int) × Int × Int)) := callW spec_l01Cur_raw.c (fiOf (GT tab) Try.f97 spec_l01Cur_raw.ms) spec_l01Cur_raw.b (decRes tab spec_l01Cur_raw.rs) (encArgs tab spec_l01Cur_raw.as x0)
theorem spec_l01Cur_raw.fok : FnOk Try.prog 97 Try.f97 spec_l01Cur_raw.ms spec_l01Cur_raw.b := ⟨Try.func97, by kernel_rfl, by kernel_rfl⟩
noncomputable def spec_l01Cur_raw.fn : Args tab spec_l01Cur_raw.as → Option (ResT tab spec_l01Cur_raw.rs) := fun x => spec_l01Cur_raw x
theorem spec_l01Cur_raw.con {δ : Type} : Con Try.prog (KT tab) 97 (calleeS (β := δ) tab spec_l01Cur_raw.ms spec_l01Cur_raw.as spec_l01Cur_raw.rs spec_l01Cur_raw.fn) := con_shape (c := spec_l01Cur_raw.c) mixed tysOk (getG_con (spec_l01Cur_raw.gok _)) spec_l01Cur_raw.fok rfl rfl (fun _ => rfl)
theorem spec_l01Cur_raw.eq (x0 : (List Int) × Int × Int) : spec_l01Cur_raw x0 =
    (spec_l01Cur_pick (x0.1, x0.2.1, x0.2.2) (8 : Int)).bind fun y1 =>
    bif y1.1 == (0 : Int) then
      (spec_l01Cur_pick (y1.2.1, y1.2.2.1, y1.2.2.2) (256 : Int)).bind fun y2 =>
      some (IntKind.i64.wrap (y2.1 - (128 : Int)), (y2.2.1, y2.2.2.1, y2.2.2.2))
    else
      bif y1.1 == (1 : Int) then
        (spec_l01Cur_pick (y1.2.1, y1.2.2.1, y1.2.2.2) (8 : Int)).bind fun y3 =>
        (at? ([(9223372036854775807 : Int), (-9223372036854775808 : Int), (4611686018427387904 : Int), (4294967295 : Int), (4294967296 : Int), (-1000 : Int), (1000 : Int), (257 : Int)] : List Int) y3.1).bind fun y4 =>
        ([(9223372036854775807 : Int), (-9223372036854775808 : Int), (4611686018427387904 : Int), (4294967295 : Int), (4294967296 : Int), (-1000 : Int), (1000 : Int), (257 : Int)] : List Int)[y3.1.toNat]?.bind fun y5 =>
        some (y5, (y3.2.1, y3.2.2.1, y3.2.2.2))
      else
        (spec_l01Cur_pick (y1.2.1, y1.2.2.1, y1.2.2.2) (14 : Int)).bind fun y6 =>
        some (IntKind.i64.wrap (y6.1 - (3 : Int)), (y6.2.1, y6.2.2.1, y6.2.2.2)) := by kernel_rfl

/-! ### laws_same: loop.example/g00688/laws.same -/
def laws_same.ms : List Mode := [.lend, .lend]
def laws_same.as : List VSh := [.one (.b (.b (.b (.b (.sl false false 3))))), .one (.b (.b (.b (.b (.sl false false 3)))))]
def laws_same.rs : RSh := ⟨[.one (.b (.b (.b (.b (.bool)))))], [none, none]⟩
noncomputable def laws_same.gs (δ : Type) : List (Nat × Callee (GT tab) δ) := []
theorem laws_same.gok (δ : Type) : AllCon Try.prog tab (laws_same.gs δ) := .nil
noncomputable def laws_same.c : Ctx (GT tab) (KT tab) (ResT tab laws_same.rs) := { X := XT tab, ty := tyOf tys, inner := fun _ => true, keep := keepOf 0 laws_same.ms, cuts := [], live := liveOf [(4, [0, 1, 5])], G := getG (laws_same.gs _) }
noncomputable def laws_same.b : Code := bodyOf Try.f36
noncomputable def laws_same (x0 : List Int) (x1 : List Int) : Option (Bool) := callW laws_same.c (fiOf (GT tab) Try.f36 laws_same.ms) laws_same.b (decRes tab laws_same.rs) (encArgs tab laws_same.as (x0, x1))
theorem laws_same.fok : FnOk Try.prog 36 Try.f36 laws_same.ms laws_same.b := ⟨Try.func36, by kernel_rfl, by kernel_rfl⟩
noncomputable def laws_same.fn : Args tab laws_same.as → Option (ResT tab laws_same.rs) := fun x => laws_same x.1 x.2
theorem laws_same.con {δ : Type} : Con Try.prog (KT tab) 36 (calleeS (β := δ) tab laws_same.ms laws_same.as laws_same.rs laws_same.fn) := con_shape (c := laws_same.c) mixed tysOk (getG_con (laws_same.gok _)) laws_same.fok rfl rfl (fun _ => rfl)
noncomputable def laws_same_l0 (v0 : List Int) (v1 : List Int) (v2 : Int) : Option (Bool) := Lw laws_same.c (finish laws_same.c (fiOf (GT tab) Try.f36 laws_same.ms) (decRes tab laws_same.rs)) ((loops laws_same.c.cuts 1000 laws_same.b []).getD 0 []) { slots := [.vs false 3 v0, .vs false 3 v1, .undef, .undef, .undef, .int .i64 v2, .undef, .undef, .undef, .undef, .undef, .undef, .undef, .undef, .undef, .undef, .undef, .undef, .undef, .undef, .undef, .undef, .undef, .undef, .undef, .undef], loc := locOf [], nx := 0 }
theorem laws_same.eq (x0 : List Int) (x1 : List Int) : laws_same x0 x1 =
    bif (x0.length : Int) != (x1.length : Int) then
      some false
    else
      laws_same_l0 x0 x1 (0 : Int) := by kernel_rfl
theorem laws_same_l0.eq (v0 : List Int) (v1 : List Int) (v2 : Int) : laws_same_l0 v0 v1 v2 =
    bif decide (v2 < (v0.length : Int)) then
      (at? v0 v2).bind fun y1 =>
      (at? v1 v2).bind fun y2 =>
      bif y1 != y2 then
        some false
      else
        laws_same_l0 v0 v1 (IntKind.i64.wrap (v2 + (1 : Int)))
    else
      some true := (Lw_eq tysOk (getG_con (laws_same.gok _)) _ _).trans (by kernel_rfl)

end Go.Ev.W
