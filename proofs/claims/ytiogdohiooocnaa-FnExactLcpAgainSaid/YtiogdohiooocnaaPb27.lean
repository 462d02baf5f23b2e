/- What functions of the program come to. -/
import Derived.Test.YtiogdohiooocnaaPbT
import Derived.Test.YtiogdohiooocnaaPb22
import Derived.Test.YtiogdohiooocnaaPb24
import Derived.Test.YtiogdohiooocnaaPb6
namespace Go.Ev.W
open Go.Ev Go.Proofs
set_option maxRecDepth 100000
set_option linter.unusedVariables false

/-! ### laws_szCopyS: loop.example/g00688/laws.szCopyS -/
def laws_szCopyS.ms : List Mode := [.lend, .lend]
def laws_szCopyS.as : List VSh := [.one (.b (.b (.b (.b (.sl false false 130))))), .one (.b (.b (.b (.b (.int .i64)))))]
def laws_szCopyS.rs : RSh := ⟨[.one (.b (.b (.b (.b (.int .i64)))))], [none, none]⟩
noncomputable def laws_szCopyS.gs (δ : Type) : List (Nat × Callee (GT tab) δ) := []
theorem laws_szCopyS.gok (δ : Type) : AllCon Try.prog tab (laws_szCopyS.gs δ) := .nil
noncomputable def laws_szCopyS.c : Ctx (GT tab) (KT tab) (ResT tab laws_szCopyS.rs) := { X := XT tab, ty := tyOf tys, inner := fun _ => true, keep := keepOf 0 laws_szCopyS.ms, cuts := [], live := liveOf [], G := getG (laws_szCopyS.gs _) }
noncomputable def laws_szCopyS.b : Code := bodyOf Try.f53
noncomputable def laws_szCopyS (x0 : List (Int × Int × Int)) (x1 : Int) : Option (Int) := callW laws_szCopyS.c (fiOf (GT tab) Try.f53 laws_szCopyS.ms) laws_szCopyS.b (decRes tab laws_szCopyS.rs) (encArgs tab laws_szCopyS.as (x0, x1))
theorem laws_szCopyS.fok : FnOk Try.prog 53 Try.f53 laws_szCopyS.ms laws_szCopyS.b := ⟨Try.func53, by kernel_rfl, by kernel_rfl⟩
noncomputable def laws_szCopyS.fn : Args tab laws_szCopyS.as → Option (ResT tab laws_szCopyS.rs) := fun x => laws_szCopyS x.1 x.2
theorem laws_szCopyS.con {δ : Type} : Con Try.prog (KT tab) 53 (calleeS (β := δ) tab laws_szCopyS.ms laws_szCopyS.as laws_szCopyS.rs laws_szCopyS.fn) := con_shape (c := laws_szCopyS.c) mixed tysOk (getG_con (laws_szCopyS.gok _)) laws_szCopyS.fok rfl rfl (fun _ => rfl)
theorem laws_szCopyS.eq (x0 : List (Int × Int × Int)) (x1 : Int) : laws_szCopyS x0 x1 =
    bif decide (IntKind.i64.wrap (x1 - (x0.length : Int)) < (0 : Int)) then
      some (-1 : Int)
    else
      some (IntKind.i64.wrap (x1 - (x0.length : Int))) := by kernel_rfl

/-! ### laws_toCopy: loop.example/g00688/laws.toCopy -/
def laws_toCopy.ms : List Mode := [.lend]
def laws_toCopy.as : List VSh := [.agg [.int .i64, .int .i64, .int .i64]]
def laws_toCopy.rs : RSh := ⟨[.agg [.int .i64, .int .i64, .int .i64]], [none]⟩
noncomputable def laws_toCopy.gs (δ : Type) : List (Nat × Callee (GT tab) δ) := []
theorem laws_toCopy.gok (δ : Type) : AllCon Try.prog tab (laws_toCopy.gs δ) := .nil
noncomputable def laws_toCopy.c : Ctx (GT tab) (KT tab) (ResT tab laws_toCopy.rs) := { X := XT tab, ty := tyOf tys, inner := fun _ => true, keep := keepOf 0 laws_toCopy.ms, cuts := [], live := liveOf [], G := getG (laws_toCopy.gs _) }
noncomputable def laws_toCopy.b : Code := bodyOf Try.f111
noncomputable def laws_toCopy (x0 : Int × Int × Int) : Option (Int × Int × Int) := callW laws_toCopy.c (fiOf (GT tab) Try.f111 laws_toCopy.ms) laws_toCopy.b (decRes tab laws_toCopy.rs) (encArgs tab laws_toCopy.as x0)
theorem laws_toCopy.fok : FnOk Try.prog 111 Try.f111 laws_toCopy.ms laws_toCopy.b := ⟨Try.func111, by kernel_rfl, by kernel_rfl⟩
noncomputable def laws_toCopy.fn : Args tab laws_toCopy.as → Option (ResT tab laws_toCopy.rs) := fun x => laws_toCopy x
theorem laws_toCopy.con {δ : Type} : Con Try.prog (KT tab) 111 (calleeS (β := δ) tab laws_toCopy.ms laws_toCopy.as laws_toCopy.rs laws_toCopy.fn) := con_shape (c := laws_toCopy.c) mixed tysOk (getG_con (laws_toCopy.gok _)) laws_toCopy.fok rfl rfl (fun _ => rfl)
theorem laws_toCopy.eq (x0 : Int × Int × Int) : laws_toCopy x0 =
    some (x0.1, x0.2.1, x0.2.2) := by kernel_rfl

/-! ### laws_toCopyS: loop.example/g00688/laws.toCopyS -/
def laws_toCopyS.ms : List Mode := [.lend]
def laws_toCopyS.as : List VSh := [.one (.b (.b (.b (.b (.sl false false 130)))))]
def laws_toCopyS.rs : RSh := ⟨[.one (.b (.b (.b (.b (.sl true true 127)))))], [none]⟩
noncomputable def laws_toCopyS.gs (δ : Type) : List (Nat × Callee (GT tab) δ) := [(111, calleeS tab laws_toCopy.ms laws_toCopy.as laws_toCopy.rs laws_toCopy.fn)]
theorem laws_toCopyS.gok (δ : Type) : AllCon Try.prog tab (laws_toCopyS.gs δ) := .cons laws_toCopy.con (.nil)
noncomputable def laws_toCopyS.c : Ctx (GT tab) (KT tab) (ResT tab laws_toCopyS.rs) := { X := XT tab, ty := tyOf tys, inner := fun _ => true, keep := keepOf 0 laws_toCopyS.ms, cuts := [], live := liveOf [(3, [0, 3, 4])], G := getG (laws_toCopyS.gs _) }
noncomputable def laws_toCopyS.b : Code := bodyOf Try.f55
noncomputable def laws_toCopyS (x0 : List (Int × Int × Int)) : Option (List (Int × Int × Int)) := callW laws_toCopyS.c (fiOf (GT tab) Try.f55 laws_toCopyS.ms) laws_toCopyS.b (decRes tab laws_toCopyS.rs) (encArgs tab laws_toCopyS.as x0)
theorem laws_toCopyS.fok : FnOk Try.prog 55 Try.f55 laws_toCopyS.ms laws_toCopyS.b := ⟨Try.func55, by kernel_rfl, by kernel_rfl⟩
noncomputable def laws_toCopyS.fn : Args tab laws_toCopyS.as → Option (ResT tab laws_toCopyS.rs) := fun x => laws_toCopyS x
theorem laws_toCopyS.con {δ : Type} : Con Try.prog (KT tab) 55 (calleeS (β := δ) tab laws_toCopyS.ms laws_toCopyS.as laws_toCopyS.rs laws_toCopyS.fn) := con_shape (c := laws_toCopyS.c) mixed tysOk (getG_con (laws_toCopyS.gok _)) laws_toCopyS.fok rfl rfl (fun _ => rfl)
noncomputable def laws_toCopyS_l0 (v0 : List (Int × Int × Int)) (v1 : Int) (v2 : List (Int × Int × Int)) : Option (List (Int × Int × Int)) := Lw laws_toCopyS.c (finish laws_toCopyS.c (fiOf (GT tab) Try.f55 laws_toCopyS.ms) (decRes tab laws_toCopyS.rs)) ((loops laws_toCopyS.c.cuts 1000 laws_toCopyS.b []).getD 0 []) { slots := [.vs false 130 v0, .undef, .undef, .sl 0 0, .int .i64 v1, .undef, .undef, .undef, .undef, .undef, .undef, .undef, .undef, .undef, .undef, .undef, .undef, .undef, .undef, .undef, .undef, .undef, .undef], loc := locOf [.row 0 true 127 v2], nx := 1 }
theorem laws_toCopyS.eq (x0 : List (Int × Int × Int)) : laws_toCopyS x0 =
    bif decide ((0 : Int) ≤ (x0.length : Int)) && decide (((x0.length : Int).toNat) * 24 ≤ 140737488355328) then
      laws_toCopyS_l0 x0 (0 : Int) (List.replicate ((x0.length : Int).toNat) ((0, 0, 0) : Int × Int × Int))
    else
      none := by kernel_rfl
theorem laws_toCopyS_l0.eq (v0 : List (Int × Int × Int)) (v1 : Int) (v2 : List (Int × Int × Int)) : laws_toCopyS_l0 v0 v1 v2 =
    bif decide (v1 < (v0.length : Int)) then
      (at? v0 v1).bind fun y1 =>
      (laws_toCopy (y1.1, y1.2.1, y1.2.2)).bind fun y2 =>
      (at? v2 v1).bind fun y3 =>
      v2[v1.toNat]?.bind fun y4 =>
      laws_toCopyS_l0 v0 (IntKind.i64.wrap (v1 + (1 : Int))) (v2.set v1.toNat (y2.1, y2.2.1, y2.2.2))
    else
      some v2 := (Lw_eq tysOk (getG_con (laws_toCopyS.gok _)) _ _).trans (by kernel_rfl)

/-! ### spec_CopyDo: loop.example/g00688/spec.CopyDo -/
def spec_CopyDo.ms : List Mode := [.lend, .lend]
def spec_CopyDo.as : List VSh := [.one (.b (.b (.b (.b (.sl false false 3))))), .one (.b (.b (.b (.b (.sl false false 127)))))]
def spec_CopyDo.rs : RSh := ⟨[.one (.b (.b (.b (.b (.sl true true 3))))), .one (.b (.b (.b (.b (.bool)))))], [none, none]⟩
noncomputable def spec_CopyDo.gs (δ : Type) : List (Nat × Callee (GT tab) δ) := [(152, calleeS tab spec_l15Right.ms spec_l15Right.as spec_l15Right.rs spec_l15Right.fn)]
theorem spec_CopyDo.gok (δ : Type) : AllCon Try.prog tab (spec_CopyDo.gs δ) := .cons spec_l15Right.con (.nil)
noncomputable def spec_CopyDo.c : Ctx (GT tab) (KT tab) (ResT tab spec_CopyDo.rs) := { X := XT tab, ty := tyOf tys, inner := fun _ => true, keep := keepOf 0 spec_CopyDo.ms, cuts := [3], live := liveOf [(3, [0, 1]), (5, [0, 1, 6, 7])], G := getG (spec_CopyDo.gs _) }
noncomputable def spec_CopyDo.b : Code := bodyOf Try.f109
noncomputable def spec_CopyDo (x0 : List Int) (x1 : List (Int × Int × Int)) : Option ((List Int) × Bool) := callW spec_CopyDo.c (fiOf (GT tab) Try.f109 spec_CopyDo.ms) spec_CopyDo.b (decRes tab spec_CopyDo.rs) (encArgs tab spec_CopyDo.as (x0, x1))
theorem spec_CopyDo.fok : FnOk Try.prog 109 Try.f109 spec_CopyDo.ms spec_CopyDo.b := ⟨Try.func109, by kernel_rfl, by kernel_rfl⟩
noncomputable def spec_CopyDo.fn : Args tab spec_CopyDo.as → Option (ResT tab spec_CopyDo.rs) := fun x => spec_CopyDo x.1 x.2
theorem spec_CopyDo.con {δ : Type} : Con Try.prog (KT tab) 109 (calleeS (β := δ) tab spec_CopyDo.ms spec_CopyDo.as spec_CopyDo.rs spec_CopyDo.fn) := con_shape (c := spec_CopyDo.c) mixed tysOk (getG_con (spec_CopyDo.gok _)) spec_CopyDo.fok rfl rfl (fun _ => rfl)
noncomputable def spec_CopyDo_l0 (v0 : List Int) (v1 : List (Int × Int × Int)) : Option ((List Int) × Bool) := Lw spec_CopyDo.c (finish spec_CopyDo.c (fiOf (GT tab) Try.f109 spec_CopyDo.ms) (decRes tab spec_CopyDo.rs)) ((loops spec_CopyDo.c.cuts 1000 spec_CopyDo.b []).getD 0 []) { slots := [.vs false 3 v0, .vs false 127 v1, .undef, .undef, .undef, .undef, .undef, .undef, .undef, .undef, .undef, .undef, .undef, .undef, .undef, .undef, .undef, .undef, .undef, .undef, .undef, .undef, .undef, .undef, .undef, .undef, .undef, .undef, .undef, .undef, .undef, .undef, .undef, .undef, .undef, .undef, .undef, .undef, .undef, .undef, .undef, .undef, .undef, .undef, .undef, .undef, .undef, .undef, .undef, .undef, .undef, .undef, .undef, .undef, .undef, .undef, .undef, .undef, .undef, .undef, .undef, .undef, .undef, .undef, .undef, .undef, .undef, .undef, .undef, .undef, .undef, .undef, .undef, .undef, .undef, .undef, .undef, .undef, .undef, .undef, .undef], loc := locOf [], nx := 0 }
noncomputable def spec_CopyDo_l1 (v0 : List Int) (v1 : List (Int × Int × Int)) (v2 : Int) (v3 : List Int) : Option ((List Int) × Bool) := Lw spec_CopyDo.c (finish spec_CopyDo.c (fiOf (GT tab) Try.f109 spec_CopyDo.ms) (decRes tab spec_CopyDo.rs)) ((loops spec_CopyDo.c.cuts 1000 spec_CopyDo.b []).getD 1 []) { slots := [.vs false 3 v0, .vs false 127 v1, .undef, .undef, .undef, .undef, .sl 0 0, .int .i64 v2, .undef, .undef, .undef, .undef, .undef, .undef, .undef, .undef, .undef, .undef, .undef, .undef, .undef, .undef, .undef, .undef, .undef, .undef, .undef, .undef, .undef, .undef, .undef, .undef, .undef, .undef, .undef, .undef, .undef, .undef, .undef, .undef, .undef, .undef, .undef, .undef, .undef, .undef, .undef, .undef, .undef, .undef, .undef, .undef, .undef, .undef, .undef, .undef, .undef, .undef, .undef, .undef, .undef, .undef, .undef, .undef, .undef, .undef, .undef, .undef, .undef, .undef, .undef, .undef, .undef, .undef, .undef, .undef, .undef, .undef, .undef, .undef, .undef], loc := locOf [.row 0 true 3 v3], nx := 1 }
theorem spec_CopyDo.eq (x0 : List Int) (x1 : List (Int × Int × Int)) : spec_CopyDo x0 x1 =
    (spec_l15Right x0).bind fun y1 =>
    bif !y1 then
      some (([] : List Int), false)
    else
      bif decide ((x1.length : Int) > (301 : Int)) then
        some (([] : List Int), false)
      else
        spec_CopyDo_l0 x0 x1 := by kernel_rfl
theorem spec_CopyDo_l0.eq (v0 : List Int) (v1 : List (Int × Int × Int)) : spec_CopyDo_l0 v0 v1 =
    spec_CopyDo_l1 v0 v1 (0 : Int) ([] : List Int) := (Lw_eq tysOk (getG_con (spec_CopyDo.gok _)) _ _).trans (by kernel_rfl)
theorem spec_CopyDo_l1.eq (v0 : List Int) (v1 : List (Int × Int × Int)) (v2 : Int) (v3 : List Int) : spec_CopyDo_l1 v0 v1 v2 v3 =
    bif decide (v2 < (v1.length : Int)) then
      (at? v1 v2).bind fun y1 =>
      bif decide (y1.2.1 < (0 : Int)) then
        some (([] : List Int), false)
      else
        bif decide (y1.1 < (0 : Int)) then
          some (([] : List Int), false)
        else
          bif decide (y1.1 > (v0.length : Int)) then
            some (([] : List Int), false)
          else
            bif decide (y1.2.1 > IntKind.i64.wrap ((v0.length : Int) - y1.1)) then
              some (([] : List Int), false)
            else
              bif decide (IntKind.i64.wrap ((IntKind.i64.wrap ((v3.length : Int) + y1.2.1)) + (1 : Int)) > (301 : Int)) then
                some (([] : List Int), false)
              else
                bif decide (0 ≤ IntKind.i64.wrap (y1.1 + y1.2.1) ∧ IntKind.i64.wrap (y1.1 + y1.2.1) ≤ ((v0.length : Nat) : Int)) then
                  bif decide (0 ≤ y1.1 ∧ y1.1 ≤ (((IntKind.i64.wrap (y1.1 + y1.2.1)).toNat : Nat) : Int)) then
                    bif decide ((v3.length + ((v0.take ((IntKind.i64.wrap (y1.1 + y1.2.1)).toNat)).drop y1.1.toNat).length) * 8 ≤ 140737488355328) then
                      bif decide (((v3 ++ ((v0.take ((IntKind.i64.wrap (y1.1 + y1.2.1)).toNat)).drop y1.1.toNat)).length + ([y1.2.2] : List Int).length) * 8 ≤ 140737488355328) then
                        spec_CopyDo_l1 v0 v1 (IntKind.i64.wrap (v2 + (1 : Int))) ((v3 ++ ((v0.take ((IntKind.i64.wrap (y1.1 + y1.2.1)).toNat)).drop y1.1.toNat)) ++ ([y1.2.2] : List Int))
                      else
                        none
                    else
                      none
                  else
                    none
                else
                  none
    else
      (spec_l15Right v3).bind fun y2 =>
      bif !y2 then
        some (([] : List Int), false)
      else
        some (v3, true) := (Lw_eq tysOk (getG_con (spec_CopyDo.gok _)) _ _).trans (by kernel_rfl)

/-! ### spec_Undelta: loop.example/g00688/spec.Undelta -/
def spec_Undelta.ms : List Mode := [.lend]
def spec_Undelta.as : List VSh := [.one (.b (.b (.b (.b (.sl false false 3)))))]
def spec_Undelta.rs : RSh := ⟨[.one (.b (.b (.b (.b (.sl true true 3))))), .one (.b (.b (.b (.b (.bool)))))], [none]⟩
noncomputable def spec_Undelta.gs (δ : Type) : List (Nat × Callee (GT tab) δ) := [(152, calleeS tab spec_l15Right.ms spec_l15Right.as spec_l15Right.rs spec_l15Right.fn)]
theorem spec_Undelta.gok (δ : Type) : AllCon Try.prog tab (spec_Undelta.gs δ) := .cons spec_l15Right.con (.nil)
noncomputable def spec_Undelta.c : Ctx (GT tab) (KT tab) (ResT tab spec_Undelta.rs) := { X := XT tab, ty := tyOf tys, inner := fun _ => true, keep := keepOf 0 spec_Undelta.ms, cuts := [], live := liveOf [(6, [0, 4, 5, 6])], G := getG (spec_Undelta.gs _) }
noncomputable def spec_Undelta.b : Code := bodyOf Try.f110
noncomputable def spec_Undelta (x0 : List Int) : Option ((List Int) × Bool) := callW spec_Undelta.c (fiOf (GT tab) Try.f110 spec_Undelta.ms) spec_Undelta.b (decRes tab spec_Undelta.rs) (encArgs tab spec_Undelta.as x0)
theorem spec_Undelta.fok : FnOk Try.prog 110 Try.f110 spec_Undelta.ms spec_Undelta.b := ⟨Try.func110, by kernel_rfl, by kernel_rfl⟩
noncomputable def spec_Undelta.fn : Args tab spec_Undelta.as → Option (ResT tab spec_Undelta.rs) := fun x => spec_Undelta x
theorem spec_Undelta.con {δ : Type} : Con Try.prog (KT tab) 110 (calleeS (β := δ) tab spec_Undelta.ms spec_Undelta.as spec_Undelta.rs spec_Undelta.fn) := con_shape (c := spec_Undelta.c) mixed tysOk (getG_con (spec_Undelta.gok _)) spec_Undelta.fok rfl rfl (fun _ => rfl)
noncomputable def spec_Undelta_l0 (v0 : List Int) (v1 : Int) (v2 : Int) (v3 : List Int) : Option ((List Int) × Bool) := Lw spec_Undelta.c (finish spec_Undelta.c (fiOf (GT tab) Try.f110 spec_Undelta.ms) (decRes tab spec_Undelta.rs)) ((loops spec_Undelta.c.cuts 1000 spec_Undelta.b []).getD 0 []) { slots := [.vs false 3 v0, .undef, .undef, .undef, .sl 0 0, .int .i64 v1, .int .i64 v2, .undef, .undef, .undef, .undef, .undef, .undef, .undef, .undef, .undef, .undef, .undef, .undef, .undef, .undef, .undef, .undef, .undef, .undef, .undef, .undef, .undef, .undef, .undef, .undef], loc := locOf [.row 0 true 3 v3], nx := 1 }
theorem spec_Undelta.eq (x0 : List Int) : spec_Undelta x0 =
    (spec_l15Right x0).bind fun y1 =>
    bif !y1 then
      some (([] : List Int), false)
    else
      spec_Undelta_l0 x0 (0 : Int) (0 : Int) ([] : List Int) := by kernel_rfl
theorem spec_Undelta_l0.eq (v0 : List Int) (v1 : Int) (v2 : Int) (v3 : List Int) : spec_Undelta_l0 v0 v1 v2 v3 =
    bif decide (v2 < (v0.length : Int)) then
      (at? v0 v2).bind fun y1 =>
      bif decide ((v3.length + ([IntKind.i64.wrap (v1 + y1)] : List Int).length) * 8 ≤ 140737488355328) then
        spec_Undelta_l0 v0 (IntKind.i64.wrap (v1 + y1)) (IntKind.i64.wrap (v2 + (1 : Int))) (v3 ++ ([IntKind.i64.wrap (v1 + y1)] : List Int))
      else
        none
    else
      (spec_l15Right v3).bind fun y2 =>
      bif !y2 then
        some (([] : List Int), false)
      else
        some (v3, true) := (Lw_eq tysOk (getG_con (spec_Undelta.gok _)) _ _).trans (by kernel_rfl)

/-! ### spec_LcpAgain: loop.example/g00688/spec.LcpAgain -/
def spec_LcpAgain.ms : List Mode := [.lend, .lend]
def spec_LcpAgain.as : List VSh := [.one (.b (.b (.b (.b (.sl false false 5))))), .one (.b (.b (.b (.b (.sl false false 127)))))]
def spec_LcpAgain.rs : RSh := ⟨[.one (.b (.b (.b (.b (.sl true true 3))))), .one (.b (.b (.b (.b (.bool)))))], [none, none]⟩
noncomputable def spec_LcpAgain.gs (δ : Type) : List (Nat × Callee (GT tab) δ) := [(100, calleeS tab spec_TextOk.ms spec_TextOk.as spec_TextOk.rs spec_TextOk.fn), (101, calleeS tab spec_Deltas.ms spec_Deltas.as spec_Deltas.rs spec_Deltas.fn), (102, calleeS tab spec_LcpRows.ms spec_LcpRows.as spec_LcpRows.rs spec_LcpRows.fn), (109, calleeS tab spec_CopyDo.ms spec_CopyDo.as spec_CopyDo.rs spec_CopyDo.fn), (110, calleeS tab spec_Undelta.ms spec_Undelta.as spec_Undelta.rs spec_Undelta.fn)]
theorem spec_LcpAgain.gok (δ : Type) : AllCon Try.prog tab (spec_LcpAgain.gs δ) := .cons spec_TextOk.con (.cons spec_Deltas.con (.cons spec_LcpRows.con (.cons spec_CopyDo.con (.cons spec_Undelta.con (.nil)))))
noncomputable def spec_LcpAgain.c : Ctx (GT tab) (KT tab) (ResT tab spec_LcpAgain.rs) := { X := XT tab, ty := tyOf tys, inner := fun _ => true, keep := keepOf 0 spec_LcpAgain.ms, cuts := [], live := liveOf [], G := getG (spec_LcpAgain.gs _) }
noncomputable def spec_LcpAgain.b : Code := bodyOf Try.f54
noncomputable def spec_LcpAgain (x0 : List Int) (x1 : List (Int × Int × Int)) : Option ((List Int) × Bool) := callW spec_LcpAgain.c (fiOf (GT tab) Try.f54 spec_LcpAgain.ms) spec_LcpAgain.b (decRes tab spec_LcpAgain.rs) (encArgs tab spec_LcpAgain.as (x0, x1))
theorem spec_LcpAgain.fok : FnOk Try.prog 54 Try.f54 spec_LcpAgain.ms spec_LcpAgain.b := ⟨Try.func54, by kernel_rfl, by kernel_rfl⟩
noncomputable def spec_LcpAgain.fn : Args tab spec_LcpAgain.as → Option (ResT tab spec_LcpAgain.rs) := fun x => spec_LcpAgain x.1 x.2
theorem spec_LcpAgain.con {δ : Type} : Con Try.prog (KT tab) 54 (calleeS (β := δ) tab spec_LcpAgain.ms spec_LcpAgain.as spec_LcpAgain.rs spec_LcpAgain.fn) := con_shape (c := spec_LcpAgain.c) mixed tysOk (getG_con (spec_LcpAgain.gok _)) spec_LcpAgain.fok rfl rfl (fun _ => rfl)
theorem spec_LcpAgain.eq (x0 : List Int) (x1 : List (Int × Int × Int)) : spec_LcpAgain x0 x1 =
    (spec_TextOk x0).bind fun y1 =>
    bif !y1 then
      some (([] : List Int), false)
    else
      (spec_LcpRows x0).bind fun y2 =>
      (spec_Deltas y2).bind fun y3 =>
      (spec_CopyDo y3.1 x1).bind fun y4 =>
      bif !y4.2 then
        some (([] : List Int), false)
      else
        (spec_Undelta y4.1).bind fun y5 =>
        some (y5.1, y5.2) := by kernel_rfl

/-! ### impl_CopyDo: loop.example/g00688/impl.CopyDo -/
def impl_CopyDo.ms : List Mode := [.lend, .lend]
def impl_CopyDo.as : List VSh := [.one (.b (.b (.b (.b (.sl false false 3))))), .one (.b (.b (.b (.b (.sl false false 127)))))]
def impl_CopyDo.rs : RSh := ⟨[.one (.b (.b (.b (.b (.sl true true 3))))), .one (.b (.b (.b (.b (.bool)))))], [none, none]⟩
noncomputable def impl_CopyDo.gs (δ : Type) : List (Nat × Callee (GT tab) δ) := [(117, calleeS tab impl_within.ms impl_within.as impl_within.rs impl_within.fn), (155, calleeS tab impl_areCopied.ms impl_areCopied.as impl_areCopied.rs impl_areCopied.fn)]
theorem impl_CopyDo.gok (δ : Type) : AllCon Try.prog tab (impl_CopyDo.gs δ) := .cons impl_within.con (.cons impl_areCopied.con (.nil))
noncomputable def impl_CopyDo.c : Ctx (GT tab) (KT tab) (ResT tab impl_CopyDo.rs) := { X := XT tab, ty := tyOf tys, inner := fun _ => true, keep := keepOf 0 impl_CopyDo.ms, cuts := [], live := liveOf [(5, [0, 6, 12, 13, 14])], G := getG (impl_CopyDo.gs _) }
noncomputable def impl_CopyDo.b : Code := bodyOf Try.f112
noncomputable def impl_CopyDo (x0 : List Int) (x1 : List (Int × Int × Int)) : Option ((List Int) × Bool) := callW impl_CopyDo.c (fiOf (GT tab) Try.f112 impl_CopyDo.ms) impl_CopyDo.b (decRes tab impl_CopyDo.rs) (encArgs tab impl_CopyDo.as (x0, x1))
theorem impl_CopyDo.fok : FnOk Try.prog 112 Try.f112 impl_CopyDo.ms impl_CopyDo.b := ⟨Try.func112, by kernel_rfl, by kernel_rfl⟩
noncomputable def impl_CopyDo.fn : Args tab impl_CopyDo.as → Option (ResT tab impl_CopyDo.rs) := fun x => impl_CopyDo x.1 x.2
theorem impl_CopyDo.con {δ : Type} : Con Try.prog (KT tab) 112 (calleeS (β := δ) tab impl_CopyDo.ms impl_CopyDo.as impl_CopyDo.rs impl_CopyDo.fn) := con_shape (c := impl_CopyDo.c) mixed tysOk (getG_con (impl_CopyDo.gok _)) impl_CopyDo.fok rfl rfl (fun _ => rfl)
noncomputable def impl_CopyDo_l0 (v0 : List Int) (v1 : List (Int × Int × Int)) (v2 : Int) (v3 : Int) (v4 : List Int) : Option ((List Int) × Bool) := Lw impl_CopyDo.c (finish impl_CopyDo.c (fiOf (GT tab) Try.f112 impl_CopyDo.ms) (decRes tab impl_CopyDo.rs)) ((loops impl_CopyDo.c.cuts 1000 impl_CopyDo.b []).getD 0 []) { slots := [.vs false 3 v0, .undef, .undef, .undef, .undef, .undef, .sl 0 0, .undef, .undef, .undef, .undef, .undef, .vs false 127 v1, .int .i64 v2, .int .i64 v3, .undef, .undef, .undef, .undef, .undef, .undef, .undef, .undef, .undef, .undef, .undef, .undef, .undef, .undef, .undef, .undef, .undef, .undef, .undef, .undef, .undef, .undef, .undef, .undef, .undef, .undef, .undef, .undef, .undef, .undef, .undef, .undef, .undef, .undef, .undef, .undef, .undef, .undef, .undef, .undef, .undef, .undef, .undef, .undef, .undef, .undef, .undef, .undef], loc := locOf [.row 0 true 3 v4], nx := 1 }
theorem impl_CopyDo.eq (x0 : List Int) (x1 : List (Int × Int × Int)) : impl_CopyDo x0 x1 =
    (impl_areCopied x0).bind fun y1 =>
    bif !y1 then
      some (([] : List Int), false)
    else
      impl_CopyDo_l0 x0 x1 (x1.length : Int) (0 : Int) ([] : List Int) := by kernel_rfl
theorem impl_CopyDo_l0.eq (v0 : List Int) (v1 : List (Int × Int × Int)) (v2 : Int) (v3 : Int) (v4 : List Int) : impl_CopyDo_l0 v0 v1 v2 v3 v4 =
    bif decide (v3 < v2) then
      (at? v1 v3).bind fun y1 =>
      (impl_within y1.1 (0 : Int) (v0.length : Int)).bind fun y2 =>
      bif !y2 then
        some (([] : List Int), false)
      else
        (impl_within y1.2.1 (0 : Int) (IntKind.i64.wrap ((v0.length : Int) - y1.1))).bind fun y3 =>
        bif !y3 then
          some (([] : List Int), false)
        else
          bif decide (IntKind.i64.wrap ((v4.length : Int) + y1.2.1) ≥ (301 : Int)) then
            some (([] : List Int), false)
          else
            bif decide (0 ≤ IntKind.i64.wrap (y1.1 + y1.2.1) ∧ IntKind.i64.wrap (y1.1 + y1.2.1) ≤ ((v0.length : Nat) : Int)) then
              bif decide (0 ≤ y1.1 ∧ y1.1 ≤ (((IntKind.i64.wrap (y1.1 + y1.2.1)).toNat : Nat) : Int)) then
                bif decide ((v4.length + ((v0.take ((IntKind.i64.wrap (y1.1 + y1.2.1)).toNat)).drop y1.1.toNat).length) * 8 ≤ 140737488355328) then
                  bif decide (((v4 ++ ((v0.take ((IntKind.i64.wrap (y1.1 + y1.2.1)).toNat)).drop y1.1.toNat)).length + ([y1.2.2] : List Int).length) * 8 ≤ 140737488355328) then
                    impl_CopyDo_l0 v0 v1 v2 (IntKind.i64.wrap (v3 + (1 : Int))) ((v4 ++ ((v0.take ((IntKind.i64.wrap (y1.1 + y1.2.1)).toNat)).drop y1.1.toNat)) ++ ([y1.2.2] : List Int))
                  else
                    none
                else
                  none
              else
                none
            else
              none
    else
      (impl_areCopied v4).bind fun y4 =>
      bif !y4 then
        some (([] : List Int), false)
      else
        some (v4, true) := (Lw_eq tysOk (getG_con (impl_CopyDo.gok _)) _ _).trans (by kernel_rfl)

/-! ### impl_Undelta: loop.example/g00688/impl.Undelta -/
def impl_Undelta.ms : List Mode := [.lend]
def impl_Undelta.as : List VSh := [.one (.b (.b (.b (.b (.sl false false 3)))))]
def impl_Undelta.rs : RSh := ⟨[.one (.b (.b (.b (.b (.sl true true 3))))), .one (.b (.b (.b (.b (.bool)))))], [none]⟩
noncomputable def impl_Undelta.gs (δ : Type) : List (Nat × Callee (GT tab) δ) := [(155, calleeS tab impl_areCopied.ms impl_areCopied.as impl_areCopied.rs impl_areCopied.fn), (157, calleeS tab slices_Clone_int_int.ms slices_Clone_int_int.as slices_Clone_int_int.rs slices_Clone_int_int.fn)]
theorem impl_Undelta.gok (δ : Type) : AllCon Try.prog tab (impl_Undelta.gs δ) := .cons impl_areCopied.con (.cons slices_Clone_int_int.con (.nil))
noncomputable def impl_Undelta.c : Ctx (GT tab) (KT tab) (ResT tab impl_Undelta.rs) := { X := XT tab, ty := tyOf tys, inner := fun _ => true, keep := keepOf 0 impl_Undelta.ms, cuts := [], live := liveOf [(5, [4, 5])], G := getG (impl_Undelta.gs _) }
noncomputable def impl_Undelta.b : Code := bodyOf Try.f113
noncomputable def impl_Undelta (x0 : List Int) : Option ((List Int) × Bool) := callW impl_Undelta.c (fiOf (GT tab) Try.f113 impl_Undelta.ms) impl_Undelta.b (decRes tab impl_Undelta.rs) (encArgs tab impl_Undelta.as x0)
theorem impl_Undelta.fok : FnOk Try.prog 113 Try.f113 impl_Undelta.ms impl_Undelta.b := ⟨Try.func113, by kernel_rfl, by kernel_rfl⟩
noncomputable def impl_Undelta.fn : Args tab impl_Undelta.as → Option (ResT tab impl_Undelta.rs) := fun x => impl_Undelta x
theorem impl_Undelta.con {δ : Type} : Con Try.prog (KT tab) 113 (calleeS (β := δ) tab impl_Undelta.ms impl_Undelta.as impl_Undelta.rs impl_Undelta.fn) := con_shape (c := impl_Undelta.c) mixed tysOk (getG_con (impl_Undelta.gok _)) impl_Undelta.fok rfl rfl (fun _ => rfl)
noncomputable def impl_Undelta_l0 (v0 : Int) (v1 : List Int) : Option ((List Int) × Bool) := Lw impl_Undelta.c (finish impl_Undelta.c (fiOf (GT tab) Try.f113 impl_Undelta.ms) (decRes tab impl_Undelta.rs)) ((loops impl_Undelta.c.cuts 1000 impl_Undelta.b []).getD 0 []) { slots := [.undef, .undef, .undef, .undef, .sl 0 0, .int .i64 v0, .undef, .undef, .undef, .undef, .undef, .undef, .undef, .undef, .undef, .undef, .undef, .undef, .undef, .undef, .undef, .undef, .undef, .undef, .undef, .undef, .undef, .undef, .undef, .undef, .undef, .undef], loc := locOf [.row 0 true 3 v1], nx := 1 }
theorem impl_Undelta.eq (x0 : List Int) : impl_Undelta x0 =
    (impl_areCopied x0).bind fun y1 =>
    bif !y1 then
      some (([] : List Int), false)
    else
      (slices_Clone_int_int x0).bind fun y2 =>
      impl_Undelta_l0 (1 : Int) y2 := by kernel_rfl
theorem impl_Undelta_l0.eq (v0 : Int) (v1 : List Int) : impl_Undelta_l0 v0 v1 =
    bif decide (v0 < (v1.length : Int)) then
      (at? v1 v0).bind fun y1 =>
      v1[v0.toNat]?.bind fun y2 =>
      (at? v1 (IntKind.i64.wrap (v0 - (1 : Int)))).bind fun y3 =>
      v1[(IntKind.i64.wrap (v0 - (1 : Int))).toNat]?.bind fun y4 =>
      (at? v1 v0).bind fun y5 =>
      v1[v0.toNat]?.bind fun y6 =>
      impl_Undelta_l0 (IntKind.i64.wrap (v0 + (1 : Int))) (v1.set v0.toNat (IntKind.i64.wrap (y2 + y4)))
    else
      (impl_areCopied v1).bind fun y7 =>
      bif !y7 then
        some (([] : List Int), false)
      else
        some (v1, true) := (Lw_eq tysOk (getG_con (impl_Undelta.gok _)) _ _).trans (by kernel_rfl)

/-! ### impl_LcpAgain: loop.example/g00688/impl.LcpAgain -/
def impl_LcpAgain.ms : List Mode := [.lend, .lend]
def impl_LcpAgain.as : List VSh := [.one (.b (.b (.b (.b (.sl false false 5))))), .one (.b (.b (.b (.b (.sl false false 127)))))]
def impl_LcpAgain.rs : RSh := ⟨[.one (.b (.b (.b (.b (.sl true true 3))))), .one (.b (.b (.b (.b (.bool)))))], [none, none]⟩
noncomputable def impl_LcpAgain.gs (δ : Type) : List (Nat × Callee (GT tab) δ) := [(104, calleeS tab impl_TextOk.ms impl_TextOk.as impl_TextOk.rs impl_TextOk.fn), (106, calleeS tab impl_deltas.ms impl_deltas.as impl_deltas.rs impl_deltas.fn), (107, calleeS tab impl_lcpRows.ms impl_lcpRows.as impl_lcpRows.rs impl_lcpRows.fn), (112, calleeS tab impl_CopyDo.ms impl_CopyDo.as impl_CopyDo.rs impl_CopyDo.fn), (113, calleeS tab impl_Undelta.ms impl_Undelta.as impl_Undelta.rs impl_Undelta.fn)]
theorem impl_LcpAgain.gok (δ : Type) : AllCon Try.prog tab (impl_LcpAgain.gs δ) := .cons impl_TextOk.con (.cons impl_deltas.con (.cons impl_lcpRows.con (.cons impl_CopyDo.con (.cons impl_Undelta.con (.nil)))))
noncomputable def impl_LcpAgain.c : Ctx (GT tab) (KT tab) (ResT tab impl_LcpAgain.rs) := { X := XT tab, ty := tyOf tys, inner := fun _ => true, keep := keepOf 0 impl_LcpAgain.ms, cuts := [], live := liveOf [], G := getG (impl_LcpAgain.gs _) }
noncomputable def impl_LcpAgain.b : Code := bodyOf Try.f56
noncomputable def impl_LcpAgain (x0 : List Int) (x1 : List (Int × Int × Int)) : Option ((List Int) × Bool) := callW impl_LcpAgain.c (fiOf (GT tab) Try.f56 impl_LcpAgain.ms) impl_LcpAgain.b (decRes tab impl_LcpAgain.rs) (encArgs tab impl_LcpAgain.as (x0, x1))
theorem impl_LcpAgain.fok : FnOk Try.prog 56 Try.f56 impl_LcpAgain.ms impl_LcpAgain.b := ⟨Try.func56, by kernel_rfl, by kernel_rfl⟩
noncomputable def impl_LcpAgain.fn : Args tab impl_LcpAgain.as → Option (ResT tab impl_LcpAgain.rs) := fun x => impl_LcpAgain x.1 x.2
theorem impl_LcpAgain.con {δ : Type} : Con Try.prog (KT tab) 56 (calleeS (β := δ) tab impl_LcpAgain.ms impl_LcpAgain.as impl_LcpAgain.rs impl_LcpAgain.fn) := con_shape (c := impl_LcpAgain.c) mixed tysOk (getG_con (impl_LcpAgain.gok _)) impl_LcpAgain.fok rfl rfl (fun _ => rfl)
theorem impl_LcpAgain.eq (x0 : List Int) (x1 : List (Int × Int × Int)) : impl_LcpAgain x0 x1 =
    (impl_TextOk x0).bind fun y1 =>
    bif !y1 then
      some (([] : List Int), false)
    else
      (impl_lcpRows x0).bind fun y2 =>
      (impl_deltas y2).bind fun y3 =>
      (impl_CopyDo y3 x1).bind fun y4 =>
      bif !y4.2 then
        some (([] : List Int), false)
      else
        (impl_Undelta y4.1).bind fun y5 =>
        some (y5.1, y5.2) := by kernel_rfl

end Go.Ev.W
